/-
  Regions that draw their order, whole.
-/
import Derived.Test.YtjknhnhcbadigaaDoorZFormatArchiveM7
import Derived.Orders
namespace Go.Proofs.YtjknhnhcbadigaaDoor.G
set_option linter.all false
open Go.RowKit L D
variable {ty : Tag → Nat}
/-- The quiet part of a region, in the text's order. -/
def runQ (Γ : Nat → TK) (E : Tag → Nat → Prop) (S : FuncId → List S1 → List S1 → Prop) (ren : List (Nat × Nat)) (cr : List (Nat × CR)) (ops : List Oper) : List Oper → St → List Prop → Option (List Prop × St)
  | [], st, acc => some (acc, st)
  | o :: r, ⟨n, sl, hp⟩, acc => match o.dst with
    | some d => match sl.any (fun e => e.2.mentions d), qcore Γ E S ren cr ops ⟨n, sl, hp⟩ o with
      | false, some ([], v, os) => runQ Γ E S ren cr ops r ⟨n, (d, v) :: sl, app1 os hp⟩ acc
      | false, some ([p], v, os) => runQ Γ E S ren cr ops r ⟨n, (d, v) :: sl, app1 os hp⟩ (p :: acc)
      | false, some ([p, q], v, os) => runQ Γ E S ren cr ops r ⟨n, (d, v) :: sl, app1 os hp⟩ (p :: q :: acc)
      | false, some (l, v, os) => runQ Γ E S ren cr ops r ⟨n, (d, v) :: sl, app1 os hp⟩ (l ++ acc)
      | _, _ => none
    | none => none
/-- What an operation has added. -/
structure TE where
  d : Nat
  v : SV
  os : Hp
def app (s : St) (e : TE) : St := ⟨s.n, (e.d, e.v) :: s.sl, e.os ++ s.hp⟩
theorem runQ_split {Γ : Nat → TK} {E : Tag → Nat → Prop} {S : FuncId → List S1 → List S1 → Prop} {ren : List (Nat × Nat)} {cr : List (Nat × CR)} {ops : List Oper} {o : Oper} {r : List Oper} {st : St} {acc vcs : List Prop} {st2 : St} (h : runQ Γ E S ren cr ops (o :: r) st acc = some (vcs, st2)) :
    ∃ vc e, o.dst = some e.d ∧ (st.sl.any fun x => x.2.mentions e.d) = false ∧ qcore Γ E S ren cr ops st o = some (vc, e.v, e.os) ∧ runQ Γ E S ren cr ops r (app st e) (vc ++ acc) = some (vcs, st2) := by
  obtain ⟨n, sl, hp⟩ := st
  simp only [runQ] at h
  split at h
  · rename_i d hd
    split at h
    · rename_i v os h1 h2; exact ⟨[], ⟨d, v, os⟩, hd, h1, h2, by simp only [app1_eq] at h; exact h⟩
    · rename_i p v os h1 h2; exact ⟨[p], ⟨d, v, os⟩, hd, h1, h2, by simp only [app1_eq] at h; exact h⟩
    · rename_i p q v os h1 h2; exact ⟨[p, q], ⟨d, v, os⟩, hd, h1, h2, by simp only [app1_eq] at h; exact h⟩
    · rename_i l v os _ _ _ h1 h2; exact ⟨_, ⟨d, v, os⟩, hd, h1, h2, by simp only [app1_eq] at h; exact h⟩
    · cases h
  · cases h
def nocond (sl : List (Nat × SV)) : Bool := sl.all fun e => match e.2 with | .cond _ _ => false | _ => true
/-- A region that draws: its state behind. -/
def regD (P : Program) (ty : Tag → Nat) (Γ : Nat → TK) (ren : List (Nat × Nat)) (cr : List (Nat × CR)) (ks hs : List Nat) (m : Nat) (ops : List Oper) : St → Option (List Prop × St)
  | ⟨n, sl0, hp0⟩ => match nocond sl0, runQ Γ (Elt P ty) (Sound ty P) ren cr ops (ops.take m) ⟨n, sl0, hp0⟩ [] with
    | true, some (vc1, s1) => match run P ty Γ ren cr ops (ops.drop m) s1 vc1 with
      | some (vc, st') => match keepS st'.sl ks, keepH st'.hp (autoH st'.sl st'.hp ks hs) with
        | some sl, some hp => match closedk sl hp, Nat.beq st'.n n with
          | true, true => some (vc, ⟨n, sl, hp⟩)
          | _, _ => none
        | _, _ => none
      | none => none
    | _, _ => none

/-! ### Edges -/
def edges (o : Oper) : List Nat := o.after.toList.filterMap fun e => if Region.binds .any e then some e.on else none
def cloStep (acc : List Nat) (o : Oper) : List Nat := acc ++ [(edges o).foldl (fun s j => s ||| 2 ^ j ||| acc.getD j 0) 0]
/-- For each operation the bits of those that must stand before it. -/
def clo (ops : List Oper) : List Nat := ops.foldl cloStep []
def tmpsOf (o : Oper) : List Nat := o.op.operands.toList.filterMap fun | .tmp t => some t | _ => none
def dstIs (o : Oper) (t : Nat) : Bool := match o.dst with | some d => Nat.beq d t | none => false
def idx {α : Type} : Nat → List α → List (Nat × α)
  | _, [] => []
  | i, x :: r => (i, x) :: idx (i + 1) r
/-- Nothing of an operation's operands is written beside it. -/
def usesok (A : List (Nat × Oper)) (cl : List Nat) (i : Nat) (o : Oper) : Bool :=
  (tmpsOf o).all fun t => A.all fun e => !(dstIs e.2 t) || Nat.beq e.1 i || (edges o).any (Nat.beq e.1) || (Nat.blt i e.1 && (cl.getD e.1 0).testBit i)
def guardok (m : Nat) (i : Nat) (o : Oper) : Bool := match o.guard with
  | none => true
  | some (j, _) => Nat.blt j i && Nat.blt j m && (edges o).any (Nat.beq j)
def dstok1 (A : List (Nat × Oper)) (i : Nat) (o : Oper) : Bool := match o.dst with
  | some d => A.all fun e => Nat.beq e.1 i || !(dstIs e.2 d)
  | none => false
/-- The order is of no account: for a region whose first m operations are quiet. -/
def chk (ops : List Oper) (m : Nat) : Bool :=
  let cl := clo ops
  let A := idx 0 (ops.take m)
  (Nat.ble m ops.length) &&
  ((idx 0 ops).all fun e => (edges e.2).all fun j => Nat.blt j e.1) &&
  (A.all fun e => usesok A cl e.1 e.2 && guardok m e.1 e.2 && dstok1 A e.1 e.2) &&
  ((idx 0 ops).all fun e => Nat.blt e.1 m || (List.range e.1).all fun j => (cl.getD e.1 0).testBit j)
end Go.Proofs.YtjknhnhcbadigaaDoor.G
namespace Go.Proofs.YtjknhnhcbadigaaDoor.G
set_option linter.all false
open Go.RowKit L D
variable {ty : Tag → Nat}
/-- Two states' objects: where both have a name, they have one object. -/
def Compat (hp hp' : Hp) : Prop := ∀ n o o', look hp n = some o → look hp' n = some o' → o = o'
section
variable {zb : Base} {st T : St} {a : Act} {w : World} {env : Env}
theorem imm_mono (c : Compat st.hp T.hp) {tg : Option Tag} {v x : V} {u : Value} (hr : RA w T.hp env v u) (h : imm st tg v = some x) : imm T tg v = some x := by
  cases v with
  | own n =>
    obtain ⟨⟨t, l, hl⟩, _⟩ := hr
    simp only [imm] at h ⊢
    split at h
    · rename_i t' l' hl'
      have := c n _ _ hl' hl
      simp only [Obj.arr.injEq] at this
      obtain ⟨rfl, hll⟩ := this
      rw [hl]
      simp only [← eq_of_heq hll]
      exact h
    · cases h
  | sl t l => exact h
  | vw n p t l => exact h
  | lit v =>
    have e : imm T tg (.lit v) = imm st tg (.lit v) := by
      cases v with
      | slice a n c => cases a <;> cases n <;> cases c <;> rfl
      | _ => rfl
    rw [e]; exact h
  | _ => simp [imm] at h
theorem imms_mono (c : Compat st.hp T.hp) : ∀ {vs : List V} {tg : List (Option Tag)} {xs : List V} {us : List Value}, All2 (RA w T.hp env) vs us → imms st tg vs = some xs → imms T tg vs = some xs
  | [], _, xs, us, _, h => h
  | v :: r, tg, xs, us, hr, h => by
    cases us with
    | nil => exact hr.elim
    | cons u us =>
      simp only [imms] at h ⊢
      split at h
      · rename_i x y h1 h2
        rw [imm_mono c hr.1 h1, imms_mono c hr.2 h2]
        exact h
      · cases h
theorem arg1_mono (c : Compat st.hp T.hp) {k : TK} {v x : S1} {u : Value} (hr : RS1 w T.hp env v u) (h : arg1 st k v = some x) : arg1 T k v = some x := by
  cases v with
  | a v =>
    simp only [arg1] at h ⊢
    split at h
    · rename_i y hy
      rw [imm_mono c hr hy]
      exact h
    · cases h
  | agg l =>
    obtain ⟨cs, _, hl⟩ := hr
    simp only [arg1] at h ⊢
    split at h
    · rename_i y hy
      rw [imms_mono c hl hy]
      exact h
    · cases h
theorem opv_mono {p : List (Nat × Bool)} {x : Operand} (hs : ∀ t, x = .tmp t → look st.sl t = look T.sl t) : opv st p x = opv T p x := by
  cases x with
  | tmp t => simp only [opv, hs t rfl]
  | _ => rfl
theorem argb_mono {b : Bool} (c : Compat st.hp T.hp) {k : TK} {v x : S1} {u : Value} (hr : RS1 w T.hp env v u) (h : argb b st k v = some x) : argb b T k v = some x := by
  unfold argb at h ⊢
  split at h
  · exact h
  · exact arg1_mono c hr h
theorem args_mono {b : Bool} {Γ : Nat → TK} (c : Compat st.hp T.hp) (g : Good ty zb T a.tmps w env) {p : List (Nat × Bool)} (hp : holds a.tmps p) : ∀ {xs : List Operand} {ts : List Nat} {as : List S1}, (∀ x, x ∈ xs → ∀ t, x = .tmp t → look st.sl t = look T.sl t) → args b Γ st p xs ts = some as → args b Γ T p xs ts = some as
  | [], _, as, _, h => h
  | x :: r, ts, as, hs, h => by
    simp only [args] at h ⊢
    rw [← opv_mono (st := st) (T := T) (hs x (by simp))]
    split at h
    · rename_i v hv
      split at h
      · rename_i y ys h1 h2
        have hr := opv_ok g hp (by rw [← opv_mono (hs x (by simp))]; exact hv)
        rw [argb_mono c hr h1, args_mono c g hp (fun z hz => hs z (List.mem_cons_of_mem _ hz)) h2]
        exact h
      · cases h
    · cases h
theorem lenOf_mono (c : Compat st.hp T.hp) {k : TK} {v : V} {u : Value} {n : Int} (hr : RA w T.hp env v u) (h : lenOf st k v = some n) : lenOf T k v = some n := by
  cases v with
  | own m =>
    obtain ⟨⟨t, l, hl⟩, _⟩ := hr
    simp only [lenOf] at h ⊢
    split at h
    · split at h
      · rename_i t' l' hl'
        have := c m _ _ hl' hl
        simp only [Obj.arr.injEq] at this
        obtain ⟨rfl, hll⟩ := this
        rw [hl]
        simp only [← eq_of_heq hll]
        exact h
      · cases h
    · cases h
  | sl t l => exact h
  | vw n p t l => exact h
  | lit v =>
    have e : lenOf T k (.lit v) = lenOf st k (.lit v) := by
      cases v with
      | slice a n c => cases a <;> cases n <;> cases c <;> rfl
      | _ => rfl
    rw [e]; exact h
  | _ => simp [lenOf] at h
theorem bytesOf_mono (c : Compat st.hp T.hp) {v : V} {u : Value} (hr : RA w T.hp env v u) {l : List UInt8} (h : bytesOf st v = some l) : bytesOf T v = some l := by
  cases v with
  | own n =>
    obtain ⟨⟨t, l2, hl2⟩, _⟩ := hr
    simp only [bytesOf] at h ⊢
    split at h
    · rename_i l3 hl3
      simp only [Option.some.injEq] at h
      subst h
      have := c n _ _ hl3 hl2
      simp only [Obj.arr.injEq] at this
      obtain ⟨rfl, hll⟩ := this
      rw [hl2]
      simp only [eq_of_heq hll]
    · cases h
  | sl t l =>
    have e : bytesOf T (.sl t l) = bytesOf st (.sl t l) := by cases t <;> rfl
    rw [e]; exact h
  | vw n p t l =>
    have e : bytesOf T (.vw n p t l) = bytesOf st (.vw n p t l) := by cases t <;> rfl
    rw [e]; exact h
  | lit v =>
    have e : bytesOf T (.lit v) = bytesOf st (.lit v) := by
      cases v with
      | slice a n c => cases a <;> cases n <;> cases c <;> rfl
      | _ => rfl
    rw [e]; exact h
  | _ => simp [bytesOf] at h
theorem qparts_mono {p : List (Nat × Bool)} {g : Tag} : ∀ {xs : List (Nat × Operand)} {i : Nat}, (∀ x, x ∈ xs → opv st p x.2 = opv T p x.2) → qparts st p g i xs = qparts T p g i xs
  | [], _, _ => rfl
  | (j, x) :: r, i, h => by
    simp only [qparts]
    rw [h (j, x) (by simp), qparts_mono (fun y hy => h y (List.mem_cons_of_mem _ hy))]
theorem bfill_mono {p : List (Nat × Bool)} {n : Nat} {fo : List Nat} : ∀ {xs : List (Nat × Operand)} {c : List V}, (∀ x, x ∈ xs → opv st p x.2 = opv T p x.2) → bfill st p n fo xs c = bfill T p n fo xs c
  | [], _, _ => rfl
  | (j, x) :: r, c, h => by
    simp only [bfill]
    rw [h (j, x) (by simp)]
    have : ∀ c', bfill st p n fo r c' = bfill T p n fo r c' := fun c' => bfill_mono (fun y hy => h y (List.mem_cons_of_mem _ hy))
    simp only [this]
theorem iopvs_mono {p : List (Nat × Bool)} : ∀ {xs : List Operand}, (∀ x, x ∈ xs → opv st p x = opv T p x) → iopvs st p xs = iopvs T p xs
  | [], _ => rfl
  | x :: r, h => by
    simp only [iopvs, iopv]
    rw [h x (by simp), iopvs_mono (fun y hy => h y (List.mem_cons_of_mem _ hy))]
theorem named_obj (c : Compat st.hp T.hp) {v : V} {u : Value} (hr : RA w T.hp env v u) {n : Nat} (hn : v.name = some n) {o : Obj} (h : look st.hp n = some o) : look T.hp n = some o := by
  have : ∃ o', look T.hp n = some o' := by
    cases v <;> simp only [V.name, Option.some.injEq, reduceCtorEq] at hn
    case own m => subst hn; obtain ⟨⟨t, l, hl⟩, _⟩ := hr; exact ⟨_, hl⟩
    case ptr m off => subst hn; obtain ⟨⟨c, hl⟩, _⟩ := hr; exact ⟨_, hl⟩
    case eptr m i off => subst hn; obtain ⟨t, l, hl, _⟩ := hr; exact ⟨_, hl⟩
    case vw m p t l => subst hn; obtain ⟨⟨t, l, hl⟩, _⟩ := hr; exact ⟨_, hl⟩
    case bsl m t l => subst hn; obtain ⟨⟨t, l, hl⟩, _⟩ := hr; exact ⟨_, hl⟩
    case fnp f m => subst hn; obtain ⟨⟨c, hl⟩, _⟩ := hr; exact ⟨_, hl⟩
    case vip m p t x off => subst hn; obtain ⟨⟨t, l, hl⟩, _⟩ := hr; exact ⟨_, hl⟩
  obtain ⟨o', h'⟩ := this
  rw [c n _ _ h h']; exact h'
theorem own1_mono (c : Compat st.hp T.hp) : ∀ {l d : List V} {n : Nat} {us : List Value}, All2 (RA w T.hp env) l us → own1 st.hp l = some (d, n) → own1 T.hp l = some (d, n)
  | [], _, _, _, _, h => by simp [own1] at h
  | v :: r, d, n, us, hr, h => by
    cases us with
    | nil => exact hr.elim
    | cons u us =>
      unfold own1 at h
      split at h
      · rename_i m r' he
        simp only [List.cons.injEq] at he
        obtain ⟨rfl, rfl⟩ := he
        split at h
        · rename_i t l hl hpl
          have := named_obj c hr.1 (n := m) rfl hl
          simp only [own1, this, hpl]
          exact h
        · cases h
      · cases h
      · rename_i x r' hns he
        simp only [List.cons.injEq] at he
        obtain ⟨rfl, rfl⟩ := he
        split at h
        · rename_i c' n' h'
          have := own1_mono c hr.2 h'
          unfold own1
          split
          · rename_i e; simp at e
          · rename_i e; simp only [List.cons.injEq, V.lit.injEq] at e; exact absurd e.1 (by rintro rfl; exact hns _ _ _ rfl)
          · rename_i e
            simp only [List.cons.injEq, V.lit.injEq] at e
            obtain ⟨rfl, rfl⟩ := e
            rw [this]; exact h
          · rename_i e1 e2 e3; exact absurd rfl (e3 _ _)
        · cases h
      · cases h
theorem quiet_mono {Γ : Nat → TK} {E : Tag → Nat → Prop} {S : FuncId → List S1 → List S1 → Prop} (c : Compat st.hp T.hp) (g : Good ty zb T a.tmps w env) {p : List (Nat × Bool)} (hp : holds a.tmps p) {cr : List (Nat × CR)} {d m : Nat} {op : Op} {out : Out}
    (hs : ∀ x, x ∈ op.operands.toList → ∀ t, x = .tmp t → look st.sl t = look T.sl t) (h : quiet Γ E S cr st p d m op = some out) : quiet Γ E S cr T p d m op = some out := by
  have ho : ∀ {q x}, x ∈ op.operands.toList → opv st q x = opv T q x := fun hx => opv_mono (hs _ hx)
  have hr : ∀ {x v}, x ∈ op.operands.toList → opv st p x = some v → RS1 w T.hp env v (a.eval x) := fun hx hv => opv_ok g hp (by rw [← ho hx]; exact hv)
  have rn : ∀ {x v n o}, x ∈ op.operands.toList → opv st p x = some (.a v) → v.name = some n → look st.hp n = some o → look T.hp n = some o := fun hx hv hn hl => named_obj c (hr hx hv) hn hl
  cases op with
  | move x =>
    have hm : mvt st x = mvt T x := by
      cases x with
      | tmp t => simp only [mvt]; rw [hs (.tmp t) (by simp [Op.operands]) t rfl]
      | _ => rfl
    simp only [quiet] at h ⊢; rw [← ho (by simp [Op.operands]), ← hm]; exact h
  | assign x =>
    have hm : mvt st x = mvt T x := by
      cases x with
      | tmp t => simp only [mvt]; rw [hs (.tmp t) (by simp [Op.operands]) t rfl]
      | _ => rfl
    simp only [quiet] at h ⊢; rw [← ho (by simp [Op.operands]), ← hm]; exact h
  | nilCheck x => simp only [quiet] at h ⊢; rw [← ho (by simp [Op.operands])]; exact h
  | makeSlice t x y => simp only [quiet] at h ⊢; rw [← ho (x := x) (by simp [Op.operands]), ← ho (x := y) (by simp [Op.operands])]; exact h
  | buildSlice t n xs =>
    simp only [quiet] at h ⊢
    have hq : ∀ g, qparts st p g 0 xs.toList = qparts T p g 0 xs.toList := fun g => qparts_mono fun x hx => ho (by simp only [Op.operands, List.mem_map]; exact ⟨x, hx, rfl⟩)
    simp only [← hq]
    split at h
    case h_2 => cases h
    rename_i gt e hk
    cases hkey : (look cr (d + 500000)).isSome with
    | false => simp only [hkey] at h ⊢; exact h
    | true =>
      simp only [hkey] at h ⊢
      split at h
      case h_2 => cases h
      rename_i x hlen hps
      split at h
      case h_2 => cases h
      rename_i s hx
      split at h
      case h_2 => cases h
      rename_i cc n1 hc
      have hmem : x ∈ (Op.buildSlice t n xs).operands.toList := by
        simp only [Op.operands, List.mem_map, Array.toList_map]
        exact ⟨(0, x), by rw [hps]; simp, rfl⟩
      have hrx := hr hmem hx
      have hown : own1 T.hp (cellsOf s) = some (cc, n1) := by
        cases s with
        | agg l => obtain ⟨cs, _, hl⟩ := hrx; exact own1_mono c hl hc
        | a v => exact own1_mono c (us := [a.eval x]) ⟨hrx, trivial⟩ hc
      simp only [← ho hmem, hx, hown]
      exact h
  | build t xs =>
    simp only [quiet] at h ⊢
    have hq : ∀ n fo z, bfill st p n fo xs.toList z = bfill T p n fo xs.toList z := fun n fo z => bfill_mono fun x hx => ho (by simp only [Op.operands, List.mem_map]; exact ⟨x, hx, rfl⟩)
    simp only [← hq]
    exact h
  | pick x y z =>
    cases x with
    | tmp t =>
      simp only [quiet] at h ⊢
      rw [← ho (x := .tmp t) (by simp [Op.operands]), ← ho (x := y) (by simp [Op.operands]), ← ho (x := z) (by simp [Op.operands])]
      exact h
    | _ => simp [quiet] at h
  | box e x => simp only [quiet] at h ⊢; rw [← ho (by simp [Op.operands])]; exact h
  | alloc t => exact h
  | load t x =>
    have hm : x ∈ (Op.load t x).operands.toList := by simp [Op.operands]
    simp only [quiet] at h ⊢
    rw [← ho hm]
    split at h
    · rename_i n off hx
      try rw [hx]
      try dsimp only
      split at h
      · rename_i c2 hl2
        rw [rn hm hx rfl hl2]
        exact h
      · cases h
    · rename_i hx
      try rw [hx]
      exact h
    · rename_i hx
      try rw [hx]
      exact h
    · rename_i n i off hx
      try rw [hx]
      try dsimp only
      split at h
      · rename_i c2 hl2
        rw [rn hm hx rfl hl2]
        exact h
      · cases h
    · cases h
  | binOp op t x y t' =>
    simp only [quiet] at h ⊢
    rw [← ho (x := x) (by simp [Op.operands]), ← ho (x := y) (by simp [Op.operands])]
    exact h
  | unOp op t x =>
    cases op with
    | not => simp only [quiet] at h ⊢; rw [← ho (by simp [Op.operands])]; exact h
    | neg => simp only [quiet] at h ⊢; rw [← ho (by simp [Op.operands])]; exact h
    | _ => simp [quiet] at h
  | convert s t x =>
    simp only [quiet] at h ⊢
    rw [← ho (x := x) (by simp [Op.operands])]
    split at h
    · rename_i ik n k1 k2 hx hk1 hk2
      try rw [hx, hk1, hk2]
      exact h
    · rename_i v g' e hx hk1 hk2
      try rw [hx, hk1, hk2]
      try dsimp only
      split at h
      · rename_i l hk3 hl
        rw [hk3, bytesOf_mono c (show RA w T.hp env v _ from hr (x := x) (by simp [Op.operands]) hx) hl]
        exact h
      · cases h
    · cases h
  | slice t x lo hi mx =>
    cases mx with
    | some _ => simp [quiet] at h
    | none =>
      have hb : ∀ (b : Option Operand), (∀ y, b = some y → y ∈ (Op.slice t x lo hi none).operands.toList) → ∀ z, bnd st p z b = bnd T p z b := by
        intro b hm z
        cases b with
        | none => rfl
        | some y => simp only [bnd]; rw [ho (hm y rfl)]
      have hm : x ∈ (Op.slice t x lo hi none).operands.toList := by simp [Op.operands]
      simp only [quiet] at h ⊢
      rw [← ho hm, ← hb lo (by rintro y rfl; simp [Op.operands])]
      simp only [← hb hi (by rintro y rfl; simp [Op.operands])]
      cases hkey : (look cr (d + 600000)).isSome with
      | true => simp only [hkey] at h ⊢; exact h
      | false =>
        simp only [hkey] at h ⊢
        split at h
        · split at h
          · rename_i hx hlo
            try rw [hx, hlo]
            exact h
          · rename_i hx hlo
            try rw [hx, hlo]
            exact h
          · rename_i hx hlo
            try rw [hx, hlo]
            try dsimp only
            split at h
            · rename_i hl2
              rw [rn hm hx rfl hl2]
              exact h
            · cases h
          · cases h
        · exact h
        · cases h
  | makeFunc fn first captured =>
    cases fn with
    | func f =>
      simp only [quiet] at h ⊢
      split at h
      · rename_i x hf hc
        try rw [hf, hc]
        try dsimp only
        have hm : x ∈ (Op.makeFunc (.func f) first captured).operands.toList := by simp only [Op.operands, Array.toList_append, hf, hc]; simp
        have e := ho (q := p) hm
        rw [← e]
        exact h
      · cases h
    | _ => simp [quiet] at h
  | fieldAddr t x f =>
    simp only [quiet] at h ⊢
    rw [← ho (x := x) (by simp [Op.operands])]
    exact h
  | indexAddr t x i =>
    have hm : x ∈ (Op.indexAddr t x i).operands.toList := by simp [Op.operands]
    simp only [quiet] at h ⊢
    rw [← ho hm, ← ho (x := i) (by simp [Op.operands])]
    split at h
    · split at h
      · rename_i hx hi
        try rw [hx, hi]
        exact h
      · rename_i hx hi
        try rw [hx, hi]
        try dsimp only
        split at h
        · rename_i hl2
          rw [rn hm hx rfl hl2]
          exact h
        · cases h
      · rename_i hx hi
        try rw [hx, hi]
        exact h
      · cases h
    · cases h
  | extract x i =>
    cases x with
    | tmp t => simp only [quiet] at h ⊢; rw [← hs (.tmp t) (by simp [Op.operands]) t rfl]; exact h
    | _ => simp [quiet] at h
  | call cl =>
    obtain ⟨callee, xs, ts⟩ := cl
    have hop : ∀ x, x ∈ xs.toList → x ∈ (Op.call ⟨callee, xs, ts⟩).operands.toList := by
      intro x hx
      simp only [Op.operands, Call.operands, Array.toList_append]
      exact List.mem_append_right _ hx
    cases callee with
    | value x =>
      cases x with
      | func f =>
        simp only [quiet] at h ⊢
        split at h
        · rename_i as c1 h1 h2
          rw [args_mono c g hp (fun x hx => hs x (hop x hx)) h1, h2]
          exact h
        · cases h
      | tmp y =>
        simp only [quiet] at h ⊢
        rw [← ho (x := .tmp y) (by simp [Op.operands, Call.operands])]
        split at h
        · rename_i v hv
          try rw [hv]
          try dsimp only
          split at h
          · rename_i f hf
            try rw [hf]
            try dsimp only
            split at h
            · rename_i as c1 h1 h2
              rw [args_mono c g hp (fun x hx => hs x (hop x hx)) h1, h2]
              exact h
            · cases h
          · cases h
        · cases h
      | _ => simp [quiet] at h
    | builtin b =>
      cases b with
      | len =>
        simp only [quiet] at h ⊢
        split at h
        · rename_i x t hxl htl
          have hm : x ∈ xs.toList := by rw [hxl]; simp
          try rw [hxl, htl]
          try dsimp only
          rw [← ho (hop x hm)]
          split at h
          · rename_i v hv
            try rw [hv]
            try dsimp only
            split at h
            · rename_i n hn
              rw [lenOf_mono c (show RA w T.hp env v _ from hr (hop x hm) hv) hn]
              exact h
            · cases h
          · cases h
        · cases h
      | max => simp only [quiet] at h ⊢; rw [← iopvs_mono (st := st) (T := T) (xs := xs.toList) (fun x hx => ho (hop x hx))]; exact h
      | min => simp only [quiet] at h ⊢; rw [← iopvs_mono (st := st) (T := T) (xs := xs.toList) (fun x hx => ho (hop x hx))]; exact h
      | _ => simp [quiet] at h
    | invoke _ _ => simp [quiet] at h
  | _ => simp [quiet] at h
theorem hyps_mono {p : List (Nat × Bool)} (hs : ∀ e, e ∈ p → look st.sl e.1 = look T.sl e.1) : hyps st p = hyps T p := by
  induction p with
  | nil => rfl
  | cons e r ih =>
    obtain ⟨d, x⟩ := e
    simp only [hyps]
    rw [hs (d, x) (by simp), ih fun e he => hs e (by simp [he])]
theorem qcore_mono {Γ : Nat → TK} {E : Tag → Nat → Prop} {S : FuncId → List S1 → List S1 → Prop} (c : Compat st.hp T.hp) (g : Good ty zb T a.tmps w env) (hn : T.n = st.n) {ren : List (Nat × Nat)} {cr : List (Nat × CR)} {ops : List Oper} {o : Oper} {p : List (Nat × Bool)} (hgp : guardp st ops o = some p) (hgp2 : guardp T ops o = some p) (hp : holds a.tmps p)
    (hs : ∀ x, x ∈ o.op.operands.toList → ∀ t, x = .tmp t → look st.sl t = look T.sl t) (hps : ∀ e, e ∈ p → look st.sl e.1 = look T.sl e.1) {vc : List Prop} {v : SV} {os : Hp} (hf : fresh T.hp os = true) (h : qcore Γ E S ren cr ops st o = some (vc, v, os)) :
    qcore Γ E S ren cr ops T o = some (vc, v, os) := by
  have hd : dstok T o.dst = dstok st o.dst := by unfold dstok; rw [hn]
  simp only [qcore] at h ⊢
  rw [hd, hgp2]
  rw [hgp] at h
  split at h
  · rename_i m e1 e2 e3
    simp only [Option.some.injEq] at e3
    subst e3
    try rw [e1, e2]
    try dsimp only
    split at h
    · rename_i vc1 v1 os1 hq
      rw [quiet_mono c g hp hs hq]
      try dsimp only
      split at h
      · rename_i h1 h2
        simp only [Option.some.injEq, Prod.mk.injEq] at h
        obtain ⟨rfl, rfl, rfl⟩ := h
        simp only [hf, h2]
      · cases h
    · cases h
  · rename_i m e p' e1 e2 e3
    simp only [Option.some.injEq] at e3
    subst e3
    try rw [e1, e2]
    try dsimp only
    split at h
    · rename_i h1
      try rw [h1]
      try dsimp only
      split at h
      · rename_i vc1 v1 hq
        rw [quiet_mono c g hp hs hq]
        try dsimp only
        rw [← hyps_mono hps]
        exact h
      · cases h
    · cases h
  · cases h
end
end Go.Proofs.YtjknhnhcbadigaaDoor.G
namespace Go.Proofs.YtjknhnhcbadigaaDoor.G
set_option linter.all false
open Go.RowKit L D
variable {ty : Tag → Nat}
/-- The state behind those of the first i operations that have run. -/
def mkD (inD : Nat → Bool) (tr : List TE) (s : St) : Nat → St
  | 0 => s
  | i + 1 => match inD i, tr[i]? with
    | true, some e => app (mkD inD tr s i) e
    | _, _ => mkD inD tr s i
abbrev pre (tr : List TE) (s : St) (i : Nat) : St := mkD (fun _ => true) tr s i
/-- What the text's order has made of the quiet operations. -/
structure Trace (Γ : Nat → TK) (E : Tag → Nat → Prop) (S : FuncId → List S1 → List S1 → Prop) (ren : List (Nat × Nat)) (cr : List (Nat × CR)) (ops : List Oper) (m : Nat) (s : St) (tr : List TE) (vcs : List Prop) : Prop where
  len : tr.length = m
  one : ∀ i, i < m → ∃ o e vc, ops[i]? = some o ∧ tr[i]? = some e ∧ o.dst = some e.d ∧ ((pre tr s i).sl.any fun x => x.2.mentions e.d) = false ∧ qcore Γ E S ren cr ops (pre tr s i) o = some (vc, e.v, e.os) ∧ ∀ q, q ∈ vc → q ∈ vcs
theorem runQ_acc {Γ : Nat → TK} {E : Tag → Nat → Prop} {S : FuncId → List S1 → List S1 → Prop} {ren : List (Nat × Nat)} {cr : List (Nat × CR)} {ops : List Oper} : ∀ {l : List Oper} {st st2 : St} {acc vcs : List Prop}, runQ Γ E S ren cr ops l st acc = some (vcs, st2) → ∀ q, q ∈ acc → q ∈ vcs
  | [], st, st2, acc, vcs, h, q, hq => by
    simp only [runQ, Option.some.injEq, Prod.mk.injEq] at h
    rw [← h.1]; exact hq
  | o :: r, st, st2, acc, vcs, h, q, hq => by
    obtain ⟨vc, e, _, _, _, h2⟩ := runQ_split h
    exact runQ_acc h2 q (List.mem_append_right _ hq)
theorem mkD_cons (inD : Nat → Bool) (e : TE) (tr : List TE) (s : St) (h : inD 0 = true) : ∀ i, mkD inD (e :: tr) s (i + 1) = mkD (fun j => inD (j + 1)) tr (app s e) i
  | 0 => by simp [mkD, h]
  | i + 1 => by
    rw [mkD, mkD_cons inD e tr s h i, mkD]
    simp only [List.getElem?_cons_succ]
theorem trace_of {Γ : Nat → TK} {E : Tag → Nat → Prop} {S : FuncId → List S1 → List S1 → Prop} {ren : List (Nat × Nat)} {cr : List (Nat × CR)} {ops : List Oper} : ∀ {l : List Oper} {k : Nat} {st st2 : St} {acc vcs : List Prop}, runQ Γ E S ren cr ops l st acc = some (vcs, st2) → (∀ i o, l[i]? = some o → ops[k + i]? = some o) →
    ∃ tr : List TE, tr.length = l.length ∧ st2 = pre tr st l.length ∧ ∀ i, i < l.length → ∃ o e vc, ops[k + i]? = some o ∧ tr[i]? = some e ∧ o.dst = some e.d ∧ ((pre tr st i).sl.any fun x => x.2.mentions e.d) = false ∧ qcore Γ E S ren cr ops (pre tr st i) o = some (vc, e.v, e.os) ∧ ∀ q, q ∈ vc → q ∈ vcs
  | [], k, st, st2, acc, vcs, h, _ => by
    simp only [runQ, Option.some.injEq, Prod.mk.injEq] at h
    exact ⟨[], rfl, h.2.symm, fun i hi => absurd hi (by simp)⟩
  | o :: r, k, st, st2, acc, vcs, h, hk => by
    obtain ⟨vc, e, h1, h2, h3, h4⟩ := runQ_split h
    obtain ⟨tr, q1, q2, q3⟩ := trace_of (k := k + 1) h4 (fun i o' ho => by
      have := hk (i + 1) o' (by simpa using ho)
      rw [show k + 1 + i = k + (i + 1) by omega]; exact this)
    refine ⟨e :: tr, by simp [q1], ?_, ?_⟩
    · rw [q2, List.length_cons]
      exact (mkD_cons (fun _ => true) e tr st rfl _).symm
    · intro i hi
      cases i with
      | zero => exact ⟨o, e, vc, hk 0 o rfl, rfl, h1, h2, h3, fun q hq => runQ_acc h4 q (List.mem_append_left _ hq)⟩
      | succ i =>
        obtain ⟨o', e', vc', p1, p2, p3, p4, p5, p6⟩ := q3 i (by simpa using hi)
        refine ⟨o', e', vc', by rw [show k + (i + 1) = k + 1 + i by omega]; exact p1, by simpa using p2, p3, ?_, ?_, p6⟩
        · rw [pre, mkD_cons (fun _ => true) e tr st rfl i]; exact p4
        · rw [pre, mkD_cons (fun _ => true) e tr st rfl i]; exact p5

section
variable {inD inE : Nat → Bool} {tr : List TE} {s : St}
theorem mkD_succ_in {i : Nat} {e : TE} (h : inD i = true) (he : tr[i]? = some e) : mkD inD tr s (i + 1) = app (mkD inD tr s i) e := by rw [mkD, h, he]
theorem mkD_succ_out {i : Nat} (h : inD i = false) : mkD inD tr s (i + 1) = mkD inD tr s i := by rw [mkD, h]
theorem mkD_n : ∀ i, (mkD inD tr s i).n = s.n
  | 0 => rfl
  | i + 1 => by
    rw [mkD]
    split
    · exact mkD_n i
    · exact mkD_n i
theorem mkD_slot : ∀ {i j : Nat} {e : TE}, j < i → inD j = true → tr[j]? = some e → (∀ j' e', j' < i → inD j' = true → tr[j']? = some e' → e'.d = e.d → j' = j) → look (mkD inD tr s i).sl e.d = some e.v
  | i + 1, j, e, hj, hin, he, hd => by
    by_cases hij : j = i
    · subst hij
      rw [mkD_succ_in hin he]; exact look_eq
    · have ih := mkD_slot (i := i) (j := j) (by omega) hin he (fun j' e' h1 h2 h3 h4 => hd j' e' (by omega) h2 h3 h4)
      rw [mkD]
      split
      · rename_i e' h1 h2
        have hne : e.d ≠ e'.d := fun hh => by
          have := hd i e' (by omega) h1 h2 hh.symm
          omega
        show look ((e'.d, e'.v) :: _) e.d = _
        rw [look_ne hne]; exact ih
      · exact ih
theorem mkD_base : ∀ {i : Nat} {t : Nat}, (∀ j e, j < i → inD j = true → tr[j]? = some e → e.d ≠ t) → look (mkD inD tr s i).sl t = look s.sl t
  | 0, _, _ => rfl
  | i + 1, t, h => by
    have ih := mkD_base (i := i) (t := t) fun j e h1 h2 h3 => h j e (by omega) h2 h3
    rw [mkD]
    split
    · rename_i e' h1 h2
      have hne : t ≠ e'.d := fun hh => h i e' (by omega) h1 h2 hh.symm
      show look ((e'.d, e'.v) :: _) t = _
      rw [look_ne hne]; exact ih
    · exact ih
theorem mkD_mem : ∀ {i : Nat} {x : Nat × SV}, x ∈ (mkD inD tr s i).sl → x ∈ s.sl ∨ ∃ j e, j < i ∧ inD j = true ∧ tr[j]? = some e ∧ x = (e.d, e.v)
  | 0, _, h => Or.inl h
  | i + 1, x, h => by
    rw [mkD] at h
    split at h
    · rename_i e' h1 h2
      rcases List.mem_cons.1 (show x ∈ (e'.d, e'.v) :: (mkD inD tr s i).sl from h) with rfl | h
      · exact Or.inr ⟨i, e', by omega, h1, h2, rfl⟩
      · rcases mkD_mem h with h | ⟨j, e, a, b⟩
        · exact Or.inl h
        · exact Or.inr ⟨j, e, by omega, b⟩
    · rcases mkD_mem h with h | ⟨j, e, a, b⟩
      · exact Or.inl h
      · exact Or.inr ⟨j, e, by omega, b⟩
/-- Every operation's objects are new where the text's order comes to it. -/
def FreshAll (tr : List TE) (s : St) (m : Nat) : Prop := ∀ i e, i < m → tr[i]? = some e → ∀ n o, look e.os n = some o → look (pre tr s i).hp n = none
theorem pre_hp_mono {m : Nat} (hf : FreshAll tr s m) : ∀ {j i : Nat}, i ≤ j → j ≤ m → ∀ {n o}, look (pre tr s i).hp n = some o → look (pre tr s j).hp n = some o
  | 0, i, hi, _, n, o, h => by
    have : i = 0 := by omega
    subst this; exact h
  | j + 1, i, hi, hm, n, o, h => by
    by_cases hij : i = j + 1
    · subst hij; exact h
    · have ih := pre_hp_mono hf (j := j) (i := i) (by omega) (by omega) h
      show look (mkD (fun _ => true) tr s (j + 1)).hp n = _
      rw [mkD]
      split
      · rename_i e' _ h2
        show look (e'.os ++ (pre tr s j).hp) n = _
        cases hq : look e'.os n with
        | none => rw [look_app_none hq]; exact ih
        | some o' =>
          have := hf j e' (by omega) h2 n o' hq
          rw [this] at ih; cases ih
      · exact ih
theorem mkD_hp_pre {m : Nat} (hf : FreshAll tr s m) : ∀ {i : Nat}, i ≤ m → ∀ {n o}, look (mkD inD tr s i).hp n = some o → look (pre tr s i).hp n = some o
  | 0, _, n, o, h => h
  | i + 1, hm, n, o, h => by
    rw [mkD] at h
    split at h
    · rename_i e' h1 h2
      have h : look (e'.os ++ (mkD inD tr s i).hp) n = some o := h
      rw [pre, mkD_succ_in rfl h2]
      show look (e'.os ++ (pre tr s i).hp) n = some o
      cases hq : look e'.os n with
      | none => rw [look_app_none hq] at h ⊢; exact mkD_hp_pre hf (by omega) h
      | some o' => rw [look_app_some hq] at h ⊢; exact h
    · exact pre_hp_mono hf (Nat.le_succ i) hm (mkD_hp_pre hf (by omega) h)
theorem mkD_hp_case : ∀ {i : Nat} {n : Nat} {o : Obj}, look (mkD inD tr s i).hp n = some o → look s.hp n = some o ∨ ∃ j e, j < i ∧ inD j = true ∧ tr[j]? = some e ∧ look e.os n = some o
  | 0, _, _, h => Or.inl h
  | i + 1, n, o, h => by
    rw [mkD] at h
    split at h
    · rename_i e' h1 h2
      have h : look (e'.os ++ (mkD inD tr s i).hp) n = some o := h
      cases hq : look e'.os n with
      | none =>
        rw [look_app_none hq] at h
        rcases mkD_hp_case h with h | ⟨j, e, a, b⟩
        · exact Or.inl h
        · exact Or.inr ⟨j, e, by omega, b⟩
      | some o' =>
        rw [look_app_some hq] at h
        exact Or.inr ⟨i, e', by omega, h1, h2, by rw [hq]; exact h⟩
    · rcases mkD_hp_case h with h | ⟨j, e, a, b⟩
      · exact Or.inl h
      · exact Or.inr ⟨j, e, by omega, b⟩
theorem mkD_hp_base {m : Nat} (hf : FreshAll tr s m) : ∀ {i : Nat}, i ≤ m → ∀ {n o}, look s.hp n = some o → look (mkD inD tr s i).hp n = some o
  | 0, _, n, o, h => h
  | i + 1, hm, n, o, h => by
    have ih := mkD_hp_base hf (i := i) (by omega) h
    rw [mkD]
    split
    · rename_i e' h1 h2
      show look (e'.os ++ (mkD inD tr s i).hp) n = some o
      cases hq : look e'.os n with
      | none => rw [look_app_none hq]; exact ih
      | some o' =>
        have h1 := hf i e' (by omega) h2 n o' hq
        have h3 := mkD_hp_pre hf (by omega) ih
        rw [h1] at h3; cases h3
    · exact ih
theorem mkD_hp_in {m : Nat} (hf : FreshAll tr s m) : ∀ {i : Nat}, i ≤ m → ∀ {j : Nat} {e : TE} {n : Nat} {o : Obj}, j < i → inD j = true → tr[j]? = some e → look e.os n = some o → look (mkD inD tr s i).hp n = some o
  | i + 1, hm, j, e, n, o, hj, hin, he, h => by
    by_cases hij : j = i
    · subst hij
      rw [mkD_succ_in hin he]
      exact look_app_some h
    · have ih := mkD_hp_in hf (i := i) (by omega) (j := j) (by omega) hin he h
      rw [mkD]
      split
      · rename_i e' h1 h2
        show look (e'.os ++ (mkD inD tr s i).hp) n = some o
        cases hq : look e'.os n with
        | none => rw [look_app_none hq]; exact ih
        | some o' =>
          have h1 := hf i e' (by omega) h2 n o' hq
          have h3 := mkD_hp_pre hf (by omega) ih
          rw [h1] at h3; cases h3
      · exact ih
end
theorem fresh_of {hp : Hp} : ∀ {os : Hp}, (∀ n o, look os n = some o → look hp n = none ∧ pin n = false) → fresh hp os = true
  | [], _ => rfl
  | (n, x) :: r, h => by
    simp only [fresh, Bool.and_eq_true]
    obtain ⟨h1, h2⟩ := h n x look_eq
    refine ⟨⟨by rw [h1], by rw [h2]; rfl⟩, fresh_of fun k o hk => ?_⟩
    by_cases hkn : k = n
    · subst hkn; exact h k x look_eq
    · exact h k o (by rw [look_ne hkn]; exact hk)
theorem Good.congr {zb : Base} {st st' : St} {tmps : Array Value} {w : World} {env : Env} (g : Good ty zb st tmps w env) (hs : ∀ s v, look st'.sl s = some v → look st.sl s = some v) (hh : ∀ n, look st'.hp n = look st.hp n) : Good ty zb st' tmps w env := by
  have s : Step (fun _ => True) (fun _ => True) w st.hp env w st'.hp env := by
    refine ⟨fun _ _ _ => rfl, ?_, ?_, ?_⟩
    · rintro b _ ⟨n, o, h1, h2⟩; exact ⟨n, o, by rw [← hh]; exact h1, h2⟩
    · intro n o _ h1
      exact ⟨o, by rw [hh]; exact h1, by cases o <;> simp [Obj.like], rfl⟩
    · intro n t l _ h1
      exact ⟨by rw [hh]; exact h1, rfl, fun _ _ => rfl⟩
  refine ⟨fun n o hl => ?_, fun n m o o' hne h1 h2 => g.dis n m o o' hne (by rw [← hh]; exact h1) (by rw [← hh]; exact h2), fun t v hl => RSV.step s (fun v _ => v.hangs_all) (g.slot t v (hs t v hl)), fun n o hl => g.dom n o (by rw [← hh]; exact hl), g.pins⟩
  exact (g.obj n o (by rw [← hh]; exact hl)).step s (fun _ _ v _ => v.hangs_all) (fun _ _ => rfl)
end Go.Proofs.YtjknhnhcbadigaaDoor.G
namespace Go.Proofs.YtjknhnhcbadigaaDoor.G
set_option linter.all false
open Go.RowKit L D
variable {ty : Tag → Nat}
/-! ### What the look at the edges gives -/
theorem idx_get {α : Type} : ∀ {l : List α} {k i : Nat} {x : α}, l[i]? = some x → (k + i, x) ∈ idx k l
  | y :: r, k, 0, x, h => by simp at h; simp [idx, h]
  | y :: r, k, i + 1, x, h => by
    have := idx_get (l := r) (k := k + 1) (i := i) (by simpa using h)
    rw [idx]; right
    rw [show k + (i + 1) = k + 1 + i by omega]; exact this
structure Chk (ops : List Oper) (m : Nat) : Prop where
  le : m ≤ ops.length
  back : ∀ i o, ops[i]? = some o → ∀ j, j ∈ edges o → j < i
  uses : ∀ i o, i < m → ops[i]? = some o → ∀ t, t ∈ tmpsOf o → ∀ k o', k < m → ops[k]? = some o' → o'.dst = some t → k = i ∨ k ∈ edges o ∨ (i < k ∧ ((clo ops).getD k 0).testBit i = true)
  guard : ∀ i o j x, i < m → ops[i]? = some o → o.guard = some (j, x) → j < i ∧ j < m ∧ j ∈ edges o
  dist : ∀ i o k o' d, i < m → k < m → ops[i]? = some o → ops[k]? = some o' → o.dst = some d → o'.dst = some d → k = i
  tail : ∀ i o, m ≤ i → ops[i]? = some o → ∀ j, j < i → ((clo ops).getD i 0).testBit j = true
theorem chk_ok {ops : List Oper} {m : Nat} (h : chk ops m = true) : Chk ops m := by
  simp only [chk, Bool.and_eq_true, List.all_eq_true, Bool.or_eq_true] at h
  obtain ⟨⟨⟨h1, h2⟩, h3⟩, h4⟩ := h
  have hA : ∀ {i o}, i < m → ops[i]? = some o → (i, o) ∈ idx 0 (ops.take m) := by
    intro i o hi ho
    have := idx_get (l := ops.take m) (k := 0) (i := i) (x := o) (by rw [List.getElem?_take, if_pos hi]; exact ho)
    simpa using this
  have hall : ∀ {i o}, ops[i]? = some o → (i, o) ∈ idx 0 ops := by
    intro i o ho
    simpa using idx_get (l := ops) (k := 0) ho
  refine ⟨Nat.le_of_ble_eq_true h1, fun i o ho j hj => ?_, fun i o hi ho t ht k o' hk ho' hd => ?_, fun i o j x hi ho hg => ?_, fun i o k o' d hi hk ho ho' hd hd' => ?_, fun i o hi ho j hj => ?_⟩
  · have := h2 _ (hall ho) j hj
    exact Nat.le_of_ble_eq_true this
  · have hu := (h3 _ (hA hi ho)).1.1
    simp only [usesok, List.all_eq_true, Bool.or_eq_true, Bool.not_eq_true', List.any_eq_true, Bool.and_eq_true] at hu
    have hdi : dstIs o' t = true := by simp [dstIs, hd]
    rcases hu t ht _ (hA hk ho') with ((q | q) | q) | q
    · rw [hdi] at q; cases q
    · exact Or.inl (Nat.eq_of_beq_eq_true q)
    · obtain ⟨y, hy, q⟩ := q
      have hky : k = y := Nat.eq_of_beq_eq_true q
      exact Or.inr (Or.inl (by rw [hky]; exact hy))
    · exact Or.inr (Or.inr ⟨Nat.le_of_ble_eq_true q.1, q.2⟩)
  · have hgd := (h3 _ (hA hi ho)).1.2
    simp only [guardok, hg, Bool.and_eq_true, List.any_eq_true] at hgd
    obtain ⟨⟨q1, q2⟩, y, hy, q3⟩ := hgd
    have := Nat.eq_of_beq_eq_true q3
    exact ⟨Nat.le_of_ble_eq_true q1, Nat.le_of_ble_eq_true q2, by rw [this]; exact hy⟩
  · have hds := (h3 _ (hA hi ho)).2
    simp only [dstok1, hd, List.all_eq_true, Bool.or_eq_true, Bool.not_eq_true'] at hds
    rcases hds _ (hA hk ho') with q | q
    · exact Nat.eq_of_beq_eq_true q
    · simp [dstIs, hd'] at q
  · rcases h4 _ (hall ho) with q | q
    · have := Nat.le_of_ble_eq_true q
      simp only at this
      omega
    · exact q j (List.mem_range.2 hj)
theorem clo_get : ∀ (l : List Oper) (acc : List Nat), (∀ j, j < acc.length → (l.foldl cloStep acc).getD j 0 = acc.getD j 0) ∧
    ∀ i o, l[i]? = some o → (∀ j, j ∈ edges o → j < acc.length + i) → (l.foldl cloStep acc).getD (acc.length + i) 0 = (edges o).foldl (fun s j => s ||| 2 ^ j ||| (l.foldl cloStep acc).getD j 0) 0
  | [], acc => ⟨fun _ _ => rfl, fun i o h => by simp at h⟩
  | o :: r, acc => by
    obtain ⟨h1, h2⟩ := clo_get r (cloStep acc o)
    have hl : (cloStep acc o).length = acc.length + 1 := by simp [cloStep]
    have ha : ∀ j, j < acc.length → ((o :: r).foldl cloStep acc).getD j 0 = acc.getD j 0 := by
      intro j hj
      rw [List.foldl_cons, h1 j (by omega)]
      simp only [cloStep, List.getD_eq_getElem?_getD]
      rw [List.getElem?_append_left hj]
    refine ⟨ha, fun i o' ho hj => ?_⟩
    cases i with
    | zero =>
      simp at ho
      subst ho
      rw [Nat.add_zero, List.foldl_cons, h1 _ (by omega)]
      have : (cloStep acc o).getD acc.length 0 = (edges o).foldl (fun s j => s ||| 2 ^ j ||| acc.getD j 0) 0 := by
        simp [cloStep, List.getD_eq_getElem?_getD]
      rw [this]
      have hcong : ∀ (es : List Nat) (s0 : Nat), (∀ j, j ∈ es → j < acc.length) → es.foldl (fun s j => s ||| 2 ^ j ||| acc.getD j 0) s0 = es.foldl (fun s j => s ||| 2 ^ j ||| (r.foldl cloStep (cloStep acc o)).getD j 0) s0 := by
        intro es
        induction es with
        | nil => intros; rfl
        | cons j es ih =>
          intro s0 hh
          rw [List.foldl_cons, List.foldl_cons, ih _ fun k hk => hh k (by simp [hk])]
          have := ha j (hh j (by simp))
          rw [List.foldl_cons] at this
          rw [this]
      exact hcong _ _ fun j hjj => by simpa using hj j hjj
    | succ i =>
      have := h2 i o' (by simpa using ho) (fun j hjj => by rw [hl]; have := hj j hjj; omega)
      rw [hl, show acc.length + 1 + i = acc.length + (i + 1) by omega] at this
      rw [List.foldl_cons]; exact this
theorem bits_foldl (g : Nat → Nat) (k : Nat) : ∀ (es : List Nat) (s0 : Nat), (es.foldl (fun s j => s ||| 2 ^ j ||| g j) s0).testBit k = true → s0.testBit k = true ∨ ∃ j, j ∈ es ∧ (k = j ∨ (g j).testBit k = true)
  | [], s0, h => Or.inl h
  | j :: es, s0, h => by
    rcases bits_foldl g k es _ h with h | ⟨i, hi, h⟩
    · rw [Nat.testBit_or, Nat.testBit_or, Nat.testBit_two_pow] at h
      simp only [Bool.or_eq_true, decide_eq_true_eq] at h
      rcases h with (h | h) | h
      · exact Or.inl h
      · exact Or.inr ⟨j, by simp, Or.inl h.symm⟩
      · exact Or.inr ⟨j, by simp, Or.inr h⟩
    · exact Or.inr ⟨i, by simp [hi], h⟩
theorem clo_ok {ops : List Oper} (hb : ∀ i o, ops[i]? = some o → ∀ j, j ∈ edges o → j < i) {D : Nat → Prop} (hD : ∀ i o, D i → ops[i]? = some o → ∀ j, j ∈ edges o → D j) : ∀ (i : Nat) (o : Oper), ops[i]? = some o → (∀ j, j ∈ edges o → D j) → ∀ k, ((clo ops).getD i 0).testBit k = true → D k := by
  intro i
  induction i using Nat.strongRecOn with
  | _ i ih =>
    intro o ho he k hk
    have := (clo_get ops []).2 i o ho (fun j hj => by simpa using hb i o ho j hj)
    simp only [List.length_nil, Nat.zero_add] at this
    have hc : (clo ops).getD i 0 = (edges o).foldl (fun s j => s ||| 2 ^ j ||| (clo ops).getD j 0) 0 := this
    rw [hc] at hk
    rcases bits_foldl _ k _ _ hk with h | ⟨j, hj, h⟩
    · simp at h
    · rcases h with rfl | h
      · exact he k hj
      · have hji := hb i o ho j hj
        have hlen : j < ops.length := by have := (List.getElem?_eq_some_iff.1 ho).1; omega
        exact ih j hji ops[j] (List.getElem?_eq_getElem hlen) (hD j _ (he j hj) (List.getElem?_eq_getElem hlen)) k h

section
variable {P : Program} {Γ : Nat → TK} {ren : List (Nat × Nat)} {cr : List (Nat × CR)} {ops : List Oper} {m : Nat} {s : St} {tr : List TE} {vcs : List Prop}
theorem qcore_path {E : Tag → Nat → Prop} {S : FuncId → List S1 → List S1 → Prop} {st : St} {o : Oper} {vc : List Prop} {v : SV} {os : Hp} (h : qcore Γ E S ren cr ops st o = some (vc, v, os)) :
    ∃ p, guardp st ops o = some p ∧ (p = [] → ∀ q x, v ≠ .cond q x) ∧ (p ≠ [] → (∃ x, v = .cond p x) ∧ os = [] ∧ ∀ d, o.dst = some d → ∀ e, e ∈ p → e.1 ≠ d) ∧ (∀ n x, look os n = some x → look st.hp n = none ∧ pin n = false) := by
  unfold qcore at h
  split at h
  · rename_i nm _ _ hg
    split at h
    · rename_i vc1 v1 os1 hq
      split at h
      · rename_i hf _
        simp only [Option.some.injEq, Prod.mk.injEq] at h
        obtain ⟨_, rfl, rfl⟩ := h
        refine ⟨[], hg, fun _ q x => ?_, fun hh => absurd rfl hh, fun n x hl => ⟨fresh_spec hf n x hl, fresh_pin hf n x hl⟩⟩
        rintro rfl
        unfold quiet mvt at hq
        repeat' split at hq
        all_goals first
          | (cases hq; done)
          | (simp only [out1, Option.some.injEq, Out.mk.injEq] at hq; cases hq.2.1; done)
          | (simp only [Option.some.injEq, Out.mk.injEq] at hq; cases hq.2.1; done)
          | (simp only [Option.some.injEq] at hq; unfold outs at hq; (repeat' split at hq) <;> (simp only [Out.mk.injEq] at hq; cases hq.2.1))
      · cases h
    · cases h
  · rename_i nm e p _ _ hg
    split at h
    · rename_i hany
      split at h
      · rename_i vc1 v1 hq
        simp only [Option.some.injEq, Prod.mk.injEq] at h
        obtain ⟨_, rfl, rfl⟩ := h
        refine ⟨e :: p, hg, (fun hh => by cases hh), fun _ => ⟨⟨_, rfl⟩, rfl, fun d hd x hx hxd => ?_⟩, fun n x hl => by simp [look] at hl⟩
        rw [List.any_eq_false] at hany
        exact hany x hx (by rw [hd, hxd]; simp)
      · cases h
    · cases h
  · cases h
theorem Trace.fresh {E : Tag → Nat → Prop} {S : FuncId → List S1 → List S1 → Prop} (T : Trace Γ E S ren cr ops m s tr vcs) : FreshAll tr s m := by
  intro i e hi he n x hl
  obtain ⟨o, e', vc, _, he', _, _, hq, _⟩ := T.one i hi
  rw [he] at he'
  simp only [Option.some.injEq] at he'
  subst he'
  obtain ⟨p, _, _, _, hf⟩ := qcore_path hq
  exact (hf n x hl).1
theorem Trace.path {E : Tag → Nat → Prop} {S : FuncId → List S1 → List S1 → Prop} (T : Trace Γ E S ren cr ops m s tr vcs) (K : Chk ops m) : ∀ (i : Nat), i < m → ∀ o p, ops[i]? = some o → guardp (pre tr s i) ops o = some p → ∀ e, e ∈ p →
    ∃ k o', k < i ∧ ops[k]? = some o' ∧ o'.dst = some e.1 ∧ ∀ D : Nat → Prop, (∀ i o, D i → ops[i]? = some o → ∀ j, j ∈ edges o → D j) → (∀ j, j ∈ edges o → D j) → D k := by
  intro i
  induction i using Nat.strongRecOn with
  | _ i ih =>
    intro hi o p ho hg e he
    unfold guardp at hg
    split at hg
    · simp at hg; subst hg; simp at he
    · rename_i j x hgd
      obtain ⟨hji, hjm, hje⟩ := K.guard i o j x hi ho hgd
      obtain ⟨q, ej, vcj, hq, hej, hdj, _, hqc, _⟩ := T.one j hjm
      rw [hq] at hg
      dsimp only at hg
      rw [hdj] at hg
      dsimp only at hg
      have hsl : look (pre tr s i).sl ej.d = some ej.v := by
        refine mkD_slot hji rfl hej fun j' e' h1 _ h3 h4 => ?_
        obtain ⟨q', e2, _, hq', he2, hd2, _⟩ := T.one j' (by omega)
        rw [h3] at he2
        simp only [Option.some.injEq] at he2
        subst he2
        exact K.dist j q j' q' ej.d hjm (by omega) hq hq' hdj (by rw [hd2, h4])
      rw [hsl] at hg
      obtain ⟨pj, hgj, hp0, hp1, _⟩ := qcore_path hqc
      have base : ∃ k o', k < i ∧ ops[k]? = some o' ∧ o'.dst = some ej.d ∧ ∀ D : Nat → Prop, (∀ i o, D i → ops[i]? = some o → ∀ j, j ∈ edges o → D j) → (∀ j, j ∈ edges o → D j) → D k :=
        ⟨j, q, hji, hq, hdj, fun D _ hE => hE j hje⟩
      split at hg
      · simp only [Option.some.injEq] at hg
        subst hg
        simp only [List.mem_singleton] at he
        subst he
        exact base
      · rename_i p' b hv
        simp only [Option.some.injEq] at hv
        simp only [Option.some.injEq] at hg
        subst hg
        rcases List.mem_cons.1 he with rfl | he
        · exact base
        · have hpj : pj = p' := by
            by_cases hnil : pj = []
            · exact absurd hv (hp0 hnil _ _)
            · obtain ⟨x', hx'⟩ := (hp1 hnil).1
              rw [hx'] at hv
              simp only [SV.cond.injEq] at hv
              exact hv.1
          subst hpj
          obtain ⟨k, o', h1, h2, h3, h4⟩ := ih j hji hjm q pj hq hgj e he
          exact ⟨k, o', by omega, h2, h3, fun D hD hE => h4 D hD (hD j q (hE j hje) hq)⟩
      · cases hg
/-- One of the quiet operations runs. -/
theorem draw_step (C : ∀ t, TKok P t (Γ t)) (T : Trace Γ (Elt P ty) (Sound ty P) ren cr ops m s tr vcs) (K : Chk ops m) (hv : ∀ q, q ∈ vcs → q) (hnc : nocond s.sl = true) {zb : Base} {Q : Exit → Act → World → Prop} {D : Nat → Bool} (hDm : ∀ i, D i = true → i < m) (hDc : ∀ i o, D i = true → ops[i]? = some o → ∀ j, j ∈ edges o → D j = true)
    {i : Nat} (hi : i < m) (hDi : D i = false) {o : Oper} (ho : ops[i]? = some o) (hE : ∀ j, j ∈ edges o → D j = true) {a : Act} {w : World} (iv : Inv ty zb (mkD D tr s m) a w) :
    Runs P ops.toArray o a w (fun a' w' => Inv ty zb (mkD (fun j => D j || j == i) tr s m) a' w') Q := by
  obtain ⟨o', e, vc, ho', he, hd, hnm, hq, hvc⟩ := T.one i hi
  rw [ho] at ho'
  simp only [Option.some.injEq] at ho'
  subst ho'
  have hfr := T.fresh
  have hdist : ∀ {j e'}, j < m → tr[j]? = some e' → ∃ q, ops[j]? = some q ∧ q.dst = some e'.d := by
    intro j e' hj he'
    obtain ⟨q, e2, _, hq', he2, hd2, _⟩ := T.one j hj
    rw [he'] at he2
    simp only [Option.some.injEq] at he2
    subst he2
    exact ⟨q, hq', hd2⟩
  have huniq : ∀ {j j' : Nat} {e1 e2 : TE}, j < m → j' < m → tr[j]? = some e1 → tr[j']? = some e2 → e2.d = e1.d → j' = j := by
    intro j j' e1 e2 h1 h2 h3 h4 h5
    obtain ⟨q1, p1, p2⟩ := hdist h1 h3
    obtain ⟨q2, p3, p4⟩ := hdist h2 h4
    exact K.dist j q1 j' q2 e1.d h1 h2 p1 p3 p2 (by rw [p4, h5])
  -- where both states agree
  have agree : ∀ t, (∀ k o', k < m → ops[k]? = some o' → o'.dst = some t → k = i ∨ (k < i ∧ D k = true) ∨ (i < k ∧ D k = false)) → look (pre tr s i).sl t = look (mkD D tr s m).sl t := by
    intro t ht
    by_cases hex : ∃ k e', k < i ∧ D k = true ∧ tr[k]? = some e' ∧ e'.d = t
    · obtain ⟨k, e', hk, hDk, he', rfl⟩ := hex
      rw [mkD_slot hk rfl he' fun j' e2 h1 _ h3 h4 => huniq (by omega) (by omega) he' h3 h4, mkD_slot (by omega) hDk he' fun j' e2 h1 _ h3 h4 => huniq (by omega) h1 he' h3 h4]
    · rw [mkD_base (fun k e' hk _ he' hdt => by
          obtain ⟨q, h1, h2⟩ := hdist (by omega) he'
          rcases ht k q (by omega) h1 (by rw [h2, hdt]) with h | h | h
          · omega
          · exact hex ⟨k, e', hk, h.2, he', hdt⟩
          · omega),
        mkD_base (fun k e' hk hDk he' hdt => by
          obtain ⟨q, h1, h2⟩ := hdist hk he'
          rcases ht k q hk h1 (by rw [h2, hdt]) with h | h | h
          · subst h; rw [hDi] at hDk; cases hDk
          · exact hex ⟨k, e', h.1, h.2, he', hdt⟩
          · rw [h.2] at hDk; cases hDk)]
  obtain ⟨p, hgp, hp0, hp1, hpin⟩ := qcore_path hq
  have hpath : ∀ x, x ∈ p → ∃ k o', k < i ∧ ops[k]? = some o' ∧ o'.dst = some x.1 ∧ D k = true := by
    intro x hx
    obtain ⟨k, o', h1, h2, h3, h4⟩ := T.path K i hi o p ho hgp x hx
    exact ⟨k, o', h1, h2, h3, h4 (fun j => D j = true) hDc hE⟩
  have hpagree : ∀ x, x ∈ p → look (pre tr s i).sl x.1 = look (mkD D tr s m).sl x.1 := by
    intro x hx
    obtain ⟨k, o', h1, h2, h3, h4⟩ := hpath x hx
    refine agree x.1 fun k' o2 hk' ho2 hd2 => ?_
    have : k' = k := K.dist k o' k' o2 x.1 (by omega) hk' h2 ho2 h3 hd2
    subst this
    exact Or.inr (Or.inl ⟨h1, h4⟩)
  have hgp2 : guardp (mkD D tr s m) ops o = some p := by
    rw [← hgp]
    unfold guardp
    split
    · rfl
    · rename_i j x hgd
      split
      · rename_i q hqq
        split
        · rename_i d hdq
          have hmem : ∃ y, (d, y) ∈ p := by
            unfold guardp at hgp
            rw [hgd] at hgp
            dsimp only at hgp
            rw [hqq] at hgp
            dsimp only at hgp
            rw [hdq] at hgp
            dsimp only at hgp
            split at hgp
            · simp only [Option.some.injEq] at hgp; exact ⟨x, by rw [← hgp]; simp⟩
            · simp only [Option.some.injEq] at hgp; exact ⟨x, by rw [← hgp]; simp⟩
            · cases hgp
          obtain ⟨y, hy⟩ := hmem
          rw [← hpagree (d, y) hy]
        · rfl
      · rfl
  have hfresh : fresh (mkD D tr s m).hp e.os = true := by
    refine fresh_of fun n x hl => ?_
    cases hq2 : look (mkD D tr s m).hp n with
    | none => exact ⟨rfl, (hpin n x hl).2⟩
    | some y =>
      exfalso
      have hpi := hfr i e hi he n x hl
      rcases mkD_hp_case hq2 with h | ⟨j, e', hj, hDj, he', h⟩
      · have := mkD_hp_base (inD := fun _ => true) hfr (i := i) (by omega) h
        rw [show mkD (fun _ => true) tr s i = pre tr s i from rfl, hpi] at this
        cases this
      · have hji : j ≠ i := by rintro rfl; rw [hDi] at hDj; cases hDj
        by_cases hlt : j < i
        · have := mkD_hp_in (inD := fun _ => true) hfr (i := i) (by omega) hlt rfl he' h
          rw [show mkD (fun _ => true) tr s i = pre tr s i from rfl, hpi] at this
          cases this
        · have h2 := hfr j e' hj he' n y h
          have := mkD_hp_in (inD := fun _ => true) hfr (i := j) (by omega) (j := i) (by omega) rfl he hl
          rw [show mkD (fun _ => true) tr s j = pre tr s j from rfl, h2] at this
          cases this
  have hnom : ((mkD D tr s m).sl.any fun x => x.2.mentions e.d) = false := by
    rw [List.any_eq_false]
    intro x hx hm
    rcases mkD_mem hx with h | ⟨j, e', hj, hDj, he', rfl⟩
    · simp only [nocond, List.all_eq_true] at hnc
      have := hnc x h
      cases hx2 : x.2 with
      | cond q y => simp [hx2] at this
      | one y => simp [hx2, SV.mentions] at hm
      | tup y => simp [hx2, SV.mentions] at hm
    · obtain ⟨q, e2, vc2, hqq, he2, hd2, _, hqc, _⟩ := T.one j hj
      rw [he'] at he2
      simp only [Option.some.injEq] at he2
      subst he2
      obtain ⟨pj, hgj, hj0, hj1, _⟩ := qcore_path hqc
      by_cases hnil : pj = []
      · cases hx2 : e'.v with
        | cond q y => exact hj0 hnil _ _ hx2
        | one y => simp [hx2, SV.mentions] at hm
        | tup y => simp [hx2, SV.mentions] at hm
      · obtain ⟨y, hy⟩ := (hj1 hnil).1
        simp only [hy, SV.mentions, List.any_eq_true] at hm
        obtain ⟨z, hz, hzd⟩ := hm
        have hzd := Nat.eq_of_beq_eq_true hzd
        obtain ⟨k, o2, k1, k2, k3, k4⟩ := T.path K j hj q pj hqq hgj z hz
        have hDk := k4 (fun j => D j = true) hDc (hDc j q hDj hqq)
        have : k = i := K.dist i o k o2 e.d hi (by omega) ho k2 hd (by rw [k3, hzd])
        subst this
        rw [hDi] at hDk; cases hDk
  -- the state behind
  have hdm : e.v.mentions e.d = false := by
    by_cases hnil : p = []
    · cases hx2 : e.v with
      | cond q y => exact absurd hx2 (hp0 hnil _ _)
      | one y => rfl
      | tup y => rfl
    · obtain ⟨⟨y, hy⟩, _, hne⟩ := hp1 hnil
      rw [hy]
      simp only [SV.mentions]
      rw [List.any_eq_false]
      intro z hz hb
      exact hne e.d hd z hz (Nat.eq_of_beq_eq_true hb)
  have behind : ∀ a' w', Inv ty zb (app (mkD D tr s m) e) a' w' → Inv ty zb (mkD (fun j => D j || j == i) tr s m) a' w' := by
    intro a' w' iv'
    obtain ⟨env, g⟩ := iv'.good
    refine ⟨by rw [iv'.size, mkD_n]; show (mkD D tr s m).n = s.n; exact mkD_n m, iv'.defers, iv'.kept, iv'.amb, env, g.congr ?_ ?_⟩
    · intro t v hl
      show look ((e.d, e.v) :: (mkD D tr s m).sl) t = some v
      by_cases ht : t = e.d
      · subst ht
        rw [mkD_slot hi (by simp) he fun j' e2 h1 _ h3 h4 => huniq hi h1 he h3 h4] at hl
        rw [look_eq]; exact hl
      · rw [look_ne ht]
        by_cases hex : ∃ k e', k < m ∧ D k = true ∧ tr[k]? = some e' ∧ e'.d = t
        · obtain ⟨k, e', hk, hDk, he', rfl⟩ := hex
          rw [mkD_slot hk (by simp [hDk]) he' fun j' e2 h1 _ h3 h4 => huniq hk h1 he' h3 h4] at hl
          rw [mkD_slot hk hDk he' fun j' e2 h1 _ h3 h4 => huniq hk h1 he' h3 h4]
          exact hl
        · rw [mkD_base fun k e' hk hDk he' hdt => by
            simp only [Bool.or_eq_true, beq_iff_eq] at hDk
            rcases hDk with h | rfl
            · exact hex ⟨k, e', hk, h, he', hdt⟩
            · rw [he] at he'
              simp only [Option.some.injEq] at he'
              exact ht (by rw [he', hdt])] at hl
          rw [mkD_base fun k e' hk hDk he' hdt => hex ⟨k, e', hk, hDk, he', hdt⟩]
          exact hl
    · intro n
      show look (mkD (fun j => D j || j == i) tr s m).hp n = look (e.os ++ (mkD D tr s m).hp) n
      cases hl : look e.os n with
      | some x =>
        rw [look_app_some hl]
        exact mkD_hp_in hfr (Nat.le_refl _) hi (by simp) he hl
      | none =>
        rw [look_app_none hl]
        cases hx : look (mkD (fun j => D j || j == i) tr s m).hp n with
        | some y =>
          rcases mkD_hp_case hx with h | ⟨j, e', hj, hDj, he', h⟩
          · exact (mkD_hp_base hfr (Nat.le_refl _) h).symm
          · have hji : j ≠ i := by
              rintro rfl
              rw [he] at he'
              simp only [Option.some.injEq] at he'
              subst he'
              rw [hl] at h; cases h
            have hDj : D j = true := by
              simp only [Bool.or_eq_true, beq_iff_eq] at hDj
              exact hDj.resolve_right hji
            exact (mkD_hp_in hfr (Nat.le_refl _) hj hDj he' h).symm
        | none =>
          cases hy : look (mkD D tr s m).hp n with
          | none => rfl
          | some y =>
            rcases mkD_hp_case hy with h | ⟨j, e', hj, hDj, he', h⟩
            · rw [mkD_hp_base hfr (Nat.le_refl _) h] at hx; cases hx
            · rw [mkD_hp_in hfr (Nat.le_refl _) hj (by simp [hDj]) he' h] at hx; cases hx
  have hput : St.put ⟨(mkD D tr s m).n, (mkD D tr s m).sl, e.os ++ (mkD D tr s m).hp⟩ o.dst e.v = app (mkD D tr s m) e := by
    rw [hd]
    simp only [St.put, hnom]
    rfl
  by_cases hw : Region.wanted o (yielded ops.toArray a.tmps) = true
  · have hh : holds a.tmps p := by
      obtain ⟨env, g⟩ := iv.good
      unfold guardp at hgp2
      split at hgp2
      · simp at hgp2; subst hgp2; intro y hy; simp at hy
      · rename_i j x hgd
        split at hgp2
        · rename_i q hqq
          split at hgp2
          · rename_i d hdq
            have hwd := (wanted_iff (ops := ops.toArray) hgd (by simpa using hqq) hdq a.tmps).1 hw
            split at hgp2
            · simp only [Option.some.injEq] at hgp2
              subst hgp2
              intro y hy
              simp at hy
              subst hy
              exact hwd
            · rename_i p' b hl
              simp only [Option.some.injEq] at hgp2
              subst hgp2
              intro y hy
              rcases List.mem_cons.1 hy with rfl | hy
              · exact hwd
              · exact (cond_bool g hl hwd).1 y hy
            · cases hgp2
          · cases hgp2
        · cases hgp2
    obtain ⟨env, g⟩ := iv.good
    have hcompat : Compat (pre tr s i).hp (mkD D tr s m).hp := by
      intro n x y h1 h2
      have h3 := pre_hp_mono hfr (Nat.le_of_lt hi) (Nat.le_refl m) h1
      have h4 := mkD_hp_pre hfr (Nat.le_refl m) h2
      rw [h3] at h4
      simpa using h4
    have hmono := qcore_mono hcompat g (by rw [mkD_n, mkD_n]) hgp hgp2 hh (fun x hx t hxt => agree t fun k o2 hk ho2 hd2 => by
        have ht : t ∈ tmpsOf o := by
          simp only [tmpsOf, List.mem_filterMap]
          exact ⟨x, hx, by rw [hxt]⟩
        rcases K.uses i o hi ho t ht k o2 hk ho2 hd2 with h | h | h
        · exact Or.inl h
        · exact Or.inr (Or.inl ⟨K.back i o ho k h, hE k h⟩)
        · refine Or.inr (Or.inr ⟨h.1, ?_⟩)
          cases hDk : D k with
          | false => rfl
          | true =>
            have := clo_ok (D := fun j => D j = true) K.back hDc k o2 ho2 (hDc k o2 hDk ho2) i h.2
            rw [hDi] at this; cases this) hpagree hfresh hq
    have := qcore_ok (Q := Q) C hmono iv (fun q hq => hv q (hvc q hq))
    rw [hput] at this
    exact this.mono behind
  · unfold Runs
    rw [if_neg hw]
    have hnil : p ≠ [] := by
      rintro rfl
      unfold guardp at hgp
      split at hgp
      · rename_i hgd; exact hw (by simp [Region.wanted, hgd])
      · repeat' split at hgp
        all_goals simp at hgp
    obtain ⟨⟨y, hy⟩, hos, _⟩ := hp1 hnil
    have hnh : ¬ holds a.tmps p := by
      intro hh
      unfold guardp at hgp
      split at hgp
      · rename_i hgd; exact hw (by simp [Region.wanted, hgd])
      · rename_i j x hgd
        split at hgp
        · rename_i q hqq
          split at hgp
          · rename_i d hdq
            have hdx : (d, x) ∈ p := by
              split at hgp
              · simp only [Option.some.injEq] at hgp; rw [← hgp]; simp
              · simp only [Option.some.injEq] at hgp; rw [← hgp]; simp
              · cases hgp
            exact hw ((wanted_iff (ops := ops.toArray) hgd (by simpa using hqq) hdq a.tmps).2 (hh _ hdx))
          · cases hgp
        · cases hgp
    apply behind
    obtain ⟨env, g⟩ := iv.good
    have hlt : e.d < a.tmps.size := by
      unfold qcore at hq
      have : dstok (pre tr s i) o.dst = true := by
        cases hdk : dstok (pre tr s i) o.dst with
        | true => rfl
        | false => rw [hdk] at hq; simp at hq
      rw [hd] at this
      rw [iv.size, mkD_n]
      have := Nat.le_of_ble_eq_true this
      rw [show (pre tr s i).n = s.n from mkD_n i] at this
      exact this
    have hgp3 := g.put (d := e.d) hlt (v := e.v) (u := undef) (by rw [hy]; exact ⟨fun hh => absurd hh hnh, fun _ => rfl⟩) hdm
    refine ⟨by rw [put_size]; exact iv.size, by rw [put_defers]; exact iv.defers, iv.kept, iv.amb, env, ?_⟩
    rw [hd]
    have happ : (mkD D tr s m).put (some e.d) e.v = app (mkD D tr s m) e := by
      simp only [St.put, hnom, app, hos]
      rfl
    rw [happ] at hgp3
    exact hgp3
end
end Go.Proofs.YtjknhnhcbadigaaDoor.G
namespace Go.Proofs.YtjknhnhcbadigaaDoor.G
set_option linter.all false
open Go.RowKit L D
variable {ty : Tag → Nat}
theorem ready_iff {ops : List Oper} {listed : Array Bool} (hl : listed.size = ops.length) {i : Nat} : i ∈ Region.ready .any ops.toArray listed ↔ ∃ o, ops[i]? = some o ∧ listed.getD i false = false ∧ ∀ j, j ∈ edges o → listed.getD j false = true := by
  unfold Region.ready
  rw [List.mem_filter, List.mem_range]
  simp only [List.size_toArray, List.getElem?_toArray, Bool.and_eq_true, Bool.not_eq_true']
  constructor
  · rintro ⟨hi, h1, h2⟩
    refine ⟨ops[i], List.getElem?_eq_getElem hi, ?_, ?_⟩
    · have : listed[i]? = some listed[i] := by simp [hl, hi]
      rw [Array.getD_eq_getD_getElem?, this] at h1 ⊢
      exact h1
    · intro j hj
      simp only [edges, List.mem_filterMap, Array.mem_toList_iff] at hj
      obtain ⟨e, he, hj⟩ := hj
      split at hj
      · rename_i hb
        simp only [Option.some.injEq] at hj
        subst hj
        rw [List.getElem?_eq_getElem hi] at h2
        simp only [Option.map_some, Option.getD_some] at h2
        have := Array.all_eq_true_iff_forall_mem.1 h2 e he
        simpa [hb] using this
      · cases hj
  · rintro ⟨o, ho, h1, h2⟩
    have hi := (List.getElem?_eq_some_iff.1 ho).1
    refine ⟨hi, ?_, ?_⟩
    · have : listed[i]? = some listed[i] := by simp [hl, hi]
      rw [Array.getD_eq_getD_getElem?, this] at h1 ⊢
      exact h1
    · rw [ho]
      simp only [Option.map_some, Option.getD_some]
      rw [Array.all_eq_true_iff_forall_mem]
      intro e he
      cases hb : Region.binds .any e with
      | false => simp
      | true =>
        have := h2 e.on (by
          simp only [edges, List.mem_filterMap, Array.mem_toList_iff]
          exact ⟨e, he, by simp [hb]⟩)
        simp [this]
theorem set_getD {listed : Array Bool} {i j : Nat} (hi : i < listed.size) : (listed.setIfInBounds i true).getD j false = (listed.getD j false || j == i) := by
  rw [Array.getD_eq_getD_getElem?, Array.getD_eq_getD_getElem?]
  by_cases hij : i = j
  · subst hij
    rw [Array.getElem?_setIfInBounds_self_of_lt hi]; simp
  · rw [Array.getElem?_setIfInBounds_ne hij]
    simp [show ¬ j = i from fun h => hij h.symm]
/-- How many are not yet listed. -/
def cnt (n : Nat) (D : Nat → Bool) : Nat := ((List.range n).filter fun i => !D i).length
theorem filter_lt {p q : Nat → Bool} : ∀ {l : List Nat}, (∀ x, x ∈ l → q x = true → p x = true) → (∃ x, x ∈ l ∧ p x = true ∧ q x = false) → (l.filter q).length < (l.filter p).length
  | y :: r, h, ⟨x, hx, hp, hq⟩ => by
    have le : ∀ {l : List Nat}, (∀ x, x ∈ l → q x = true → p x = true) → (l.filter q).length ≤ (l.filter p).length := by
      intro l
      induction l with
      | nil => intro _; simp
      | cons z l ih =>
        intro hh
        have := ih fun x hx => hh x (by simp [hx])
        cases hz : q z with
        | true => rw [List.filter_cons_of_pos hz, List.filter_cons_of_pos (hh z (by simp) hz)]; simp; exact this
        | false =>
          rw [List.filter_cons_of_neg (by simp [hz])]
          cases hz2 : p z with
          | true => rw [List.filter_cons_of_pos hz2]; simp; omega
          | false => rw [List.filter_cons_of_neg (by simp [hz2])]; exact this
    rcases List.mem_cons.1 hx with rfl | hx
    · rw [List.filter_cons_of_neg (by simp [hq]), List.filter_cons_of_pos hp]
      have := le (l := r) fun x hx => h x (by simp [hx])
      simp; omega
    · have ih := filter_lt (l := r) (fun x hx => h x (by simp [hx])) ⟨x, hx, hp, hq⟩
      cases hy : q y with
      | true => rw [List.filter_cons_of_pos hy, List.filter_cons_of_pos (h y (by simp) hy)]; simp; exact ih
      | false =>
        rw [List.filter_cons_of_neg (by simp [hy])]
        cases hy2 : p y with
        | true => rw [List.filter_cons_of_pos hy2]; simp; omega
        | false => rw [List.filter_cons_of_neg (by simp [hy2])]; exact ih
theorem cnt_set {n i : Nat} {D : Nat → Bool} (hi : i < n) (hD : D i = false) : cnt n (fun j => D j || j == i) < cnt n D := by
  refine filter_lt ?_ ⟨i, List.mem_range.2 hi, by simp [hD], by simp⟩
  intro x _ h
  simp only [Bool.not_eq_true', Bool.or_eq_false_iff] at h
  simp [h.1]
theorem cnt_zero {n : Nat} {D : Nat → Bool} (h : cnt n D = 0) : ∀ i, i < n → D i = true := by
  intro i hi
  have := List.eq_nil_of_length_eq_zero h
  cases hd : D i with
  | true => rfl
  | false =>
    have : i ∈ (List.range n).filter fun i => !D i := List.mem_filter.2 ⟨List.mem_range.2 hi, by simp [hd]⟩
    simp_all
section
variable {P : Program} {Γ : Nat → TK} {ren : List (Nat × Nat)} {cr : List (Nat × CR)} {ops : List Oper} {m : Nat} {s : St} {tr : List TE} {zb : Base} {Q : Exit → Act → World → Prop}
theorem tail_any (X : Ctx P ty Γ) (K : Chk ops m) {vcs : List Prop} {st2 : St} (hv : ∀ q, q ∈ vcs → q) (hQ : ∀ a w, Inv ty zb st2 a w → Q .normal a w) : ∀ (fuel k : Nat) (st : St) (acc : List Prop) (listed : Array Bool) (a : Act) (w : World), m ≤ k → k ≤ ops.length → ops.length - k ≤ fuel → listed.size = ops.length →
    (∀ i, listed.getD i false = true ↔ i < k) → run P ty Γ ren cr ops (ops.drop k) st acc = some (vcs, st2) → Inv ty zb st a w → wpAny P .any ops.toArray Q fuel listed a w := by
  have fin : ∀ {k st acc a w}, ops.length ≤ k → run P ty Γ ren cr ops (ops.drop k) st acc = some (vcs, st2) → Inv ty zb st a w → Q .normal a w := by
    intro k st acc a w hk hr iv
    rw [List.drop_eq_nil_of_le hk] at hr
    simp only [run, Option.some.injEq, Prod.mk.injEq] at hr
    exact hQ a w (hr.2 ▸ iv)
  have rdy : ∀ {k : Nat} {listed : Array Bool}, k < ops.length → listed.size = ops.length → (∀ i, listed.getD i false = true ↔ i < k) → k ∈ Region.ready .any ops.toArray listed := by
    intro k listed hk hl hL
    rw [ready_iff hl]
    refine ⟨ops[k], List.getElem?_eq_getElem hk, ?_, fun j hj => (hL j).2 (K.back k _ (List.getElem?_eq_getElem hk) j hj)⟩
    cases h : listed.getD k false with
    | false => rfl
    | true => have := (hL k).1 h; omega
  intro fuel
  induction fuel with
  | zero =>
    intro k st acc listed a w hmk hkn hf hl hL hr iv
    refine ⟨?_, fin (by omega) hr iv⟩
    apply List.eq_nil_iff_forall_not_mem.2
    intro i hi
    obtain ⟨o, ho, h1, _⟩ := (ready_iff hl).1 hi
    have := (List.getElem?_eq_some_iff.1 ho).1
    rw [(hL i).2 (by omega)] at h1
    cases h1
  | succ fuel ih =>
    intro k st acc listed a w hmk hkn hf hl hL hr iv
    refine ⟨fun hnil => ?_, fun i hi => ?_⟩
    · by_cases hk : k < ops.length
      · have := rdy hk hl hL
        rw [hnil] at this
        simp at this
      · exact fin (by omega) hr iv
    · obtain ⟨o, ho, h1, h2⟩ := (ready_iff hl).1 hi
      have hin := (List.getElem?_eq_some_iff.1 ho).1
      have hki : k ≤ i := by
        rcases Nat.lt_or_ge i k with h | h
        · rw [(hL i).2 h] at h1; cases h1
        · exact h
      have hik : i = k := by
        rcases Nat.lt_or_ge k i with h | h
        · exfalso
          have hc : ∀ i o, listed.getD i false = true → ops[i]? = some o → ∀ j, j ∈ edges o → listed.getD j false = true := fun i o hi ho j hj => (hL j).2 (by have := K.back i o ho j hj; have := (hL i).1 hi; omega)
          have := clo_ok (D := fun j => listed.getD j false = true) K.back hc i o ho h2 k (K.tail i o (by omega) ho k h)
          have := (hL k).1 this
          omega
        · omega
      subst hik
      have hdrop : ops.drop i = o :: ops.drop (i + 1) := by
        rw [List.drop_eq_getElem_cons hin]
        congr 1
        have := List.getElem?_eq_getElem hin
        rw [ho] at this
        simpa using this.symm
      rw [hdrop] at hr
      obtain ⟨vc, st1, hs, hr2⟩ := run_split hr
      have hstep := step_ok (Q := Q) X.kind X.one hs iv (fun q hq => hv q (run_acc hr2 q (List.mem_append_left _ hq)))
      unfold wpOp
      rw [List.getElem?_toArray, ho]
      dsimp only
      have := hstep.mono fun a' w' iv' => ih (i + 1) st1 _ (listed.setIfInBounds i true) a' w' (by omega) (by omega) (by omega) (by simpa using hl)
        (fun j => by
          rw [set_getD (by omega)]
          simp only [Bool.or_eq_true, beq_iff_eq, hL]
          omega) hr2 iv'
      exact this
theorem head_any (X : Ctx P ty Γ) (K : Chk ops m) {vc1 vcs : List Prop} {st2 : St} (T : Trace Γ (Elt P ty) (Sound ty P) ren cr ops m s tr vcs) (hnc : nocond s.sl = true) (hv : ∀ q, q ∈ vcs → q) (hQ : ∀ a w, Inv ty zb st2 a w → Q .normal a w)
    (hr : run P ty Γ ren cr ops (ops.drop m) (pre tr s m) vc1 = some (vcs, st2)) : ∀ (fuel : Nat) (listed : Array Bool) (a : Act) (w : World), cnt ops.length (fun i => listed.getD i false) ≤ fuel → listed.size = ops.length → (∀ i, listed.getD i false = true → i < m) →
    (∀ i o, listed.getD i false = true → ops[i]? = some o → ∀ j, j ∈ edges o → listed.getD j false = true) → Inv ty zb (mkD (fun i => listed.getD i false) tr s m) a w → wpAny P .any ops.toArray Q fuel listed a w := by
  have all : ∀ {listed : Array Bool} {fuel : Nat} {a : Act} {w : World}, listed.size = ops.length → (∀ i, listed.getD i false = true → i < m) → (∀ i, i < m → listed.getD i false = true) → cnt ops.length (fun i => listed.getD i false) ≤ fuel → Inv ty zb (mkD (fun i => listed.getD i false) tr s m) a w → wpAny P .any ops.toArray Q fuel listed a w := by
    intro listed fuel a w hl h1 h2 hf iv
    have heq : ∀ i, i ≤ m → mkD (fun i => listed.getD i false) tr s i = pre tr s i := by
      intro i
      induction i with
      | zero => intro _; rfl
      | succ i ih =>
        intro hi
        rw [mkD, pre, mkD, ih (by omega), h2 i (by omega)]
    rw [heq m (Nat.le_refl _)] at iv
    refine tail_any X K hv hQ fuel m _ vc1 listed a w (Nat.le_refl _) K.le ?_ hl (fun i => ⟨h1 i, h2 i⟩) hr iv
    refine Nat.le_trans ?_ hf
    unfold cnt
    have hsub : (List.range ops.length).filter (fun i => !listed.getD i false) = (List.range ops.length).filter fun i => decide (m ≤ i) := by
      apply List.filter_congr
      intro i _
      by_cases h : m ≤ i
      · cases hh : listed.getD i false with
        | true => have := h1 i hh; omega
        | false => simp [h]
      · simp [h2 i (by omega), h]
    rw [hsub]
    have : ∀ n, m ≤ n → ((List.range n).filter fun i => decide (m ≤ i)).length = n - m := by
      intro n hn
      induction n with
      | zero => simp
      | succ n ih =>
        rw [List.range_succ, List.filter_append]
        by_cases h : m ≤ n
        · simp [ih h, h]; omega
        · have : (List.range n).filter (fun i => decide (m ≤ i)) = [] := by
            apply List.filter_eq_nil_iff.2
            intro i hi
            have := List.mem_range.1 hi
            simp; omega
          simp [this, h]; omega
    rw [this _ K.le]
    exact Nat.le_refl _
  intro fuel
  induction fuel with
  | zero =>
    intro listed a w hf hl h1 h2 iv
    have hz := cnt_zero (by omega : cnt ops.length (fun i => listed.getD i false) = 0)
    exact all hl h1 (fun i hi => hz i (by have := K.le; omega)) hf iv
  | succ fuel ih =>
    intro listed a w hf hl h1 h2 iv
    by_cases hall : ∀ i, i < m → listed.getD i false = true
    · exact all hl h1 hall hf iv
    · have hex : ∃ i, i < m ∧ listed.getD i false = false ∧ ∀ j, j < i → listed.getD j false = true := by
        have : ∃ i, i < m ∧ listed.getD i false = false := by
          apply Classical.byContradiction
          intro hno
          apply hall
          intro i hi
          cases h : listed.getD i false with
          | true => rfl
          | false => exact absurd ⟨i, hi, h⟩ hno
        obtain ⟨i, hi, h⟩ := this
        induction i using Nat.strongRecOn with
        | _ i ihi =>
          by_cases hlow : ∀ j, j < i → listed.getD j false = true
          · exact ⟨i, hi, h, hlow⟩
          · have : ∃ j, j < i ∧ listed.getD j false = false := by
              apply Classical.byContradiction
              intro hno
              apply hlow
              intro j hj
              cases hh : listed.getD j false with
              | true => rfl
              | false => exact absurd ⟨j, hj, hh⟩ hno
            obtain ⟨j, hj, hjf⟩ := this
            exact ihi j hj (by omega) hjf
      have hml := K.le
      refine ⟨fun hnil => ?_, fun i hi => ?_⟩
      · obtain ⟨i, hi, hif, hlow⟩ := hex
        have hin : i < ops.length := by omega
        have : i ∈ Region.ready .any ops.toArray listed := (ready_iff hl).2 ⟨ops[i], List.getElem?_eq_getElem hin, hif, fun j hj => hlow j (K.back i _ (List.getElem?_eq_getElem hin) j hj)⟩
        rw [hnil] at this
        simp at this
      · obtain ⟨o, ho, hif, hE⟩ := (ready_iff hl).1 hi
        have hin := (List.getElem?_eq_some_iff.1 ho).1
        have him : i < m := by
          rcases Nat.lt_or_ge i m with h | h
          · exact h
          · exfalso
            obtain ⟨j, hj, hjf, _⟩ := hex
            have := clo_ok (D := fun j => listed.getD j false = true) K.back h2 i o ho hE j (K.tail i o h ho j (by omega))
            rw [hjf] at this; cases this
        unfold wpOp
        rw [List.getElem?_toArray, ho]
        dsimp only
        have hstep := draw_step (Q := Q) X.kind T K hv hnc (D := fun i => listed.getD i false) h1 h2 him hif ho hE iv
        have hset : ∀ j, (listed.setIfInBounds i true).getD j false = (listed.getD j false || j == i) := fun j => set_getD (by omega)
        have hfun : (fun j => (listed.setIfInBounds i true).getD j false) = fun j => listed.getD j false || j == i := funext hset
        have := hstep.mono fun a' w' iv' => ih (listed.setIfInBounds i true) a' w'
          (by rw [hfun]; have := cnt_set (D := fun i => listed.getD i false) hin hif; omega) (by simpa using hl)
          (fun j hj => by
            rw [hset, Bool.or_eq_true, beq_iff_eq] at hj
            rcases hj with hj | rfl
            · exact h1 j hj
            · exact him)
          (fun j o' hj ho' x hx => by
            rw [hset] at hj ⊢
            rw [Bool.or_eq_true, beq_iff_eq] at hj
            rw [Bool.or_eq_true]
            rcases hj with hj | rfl
            · exact Or.inl (h2 j o' hj ho' x hx)
            · rw [ho] at ho'
              simp only [Option.some.injEq] at ho'
              subst ho'
              exact Or.inl (hE x hx))
          (by rw [hfun]; exact iv')
        exact this
end
section
variable {P : Program} {Γ : Nat → TK} {zb : Base} {Q : Post} {st : St}
theorem W.draw (X : Ctx P ty Γ) (ren : List (Nat × Nat)) (cr : List (Nat × CR)) (ks hs : List Nat) (m : Nat) {id : Nat} {ops : List Oper} {vc : List Prop} {st' : St} (hm : P.follows .mixedOrders = true) (hc : chk ops m = true) (h : regD P ty Γ ren cr ks hs m ops st = some (vc, st')) (hv : AllP vc) (k : Q .normal st') :
    W P ty zb (.region id ops.toArray true) Q st := by
  intro a w iv
  obtain ⟨n, sl0, hp0⟩ := st
  have K := chk_ok hc
  simp only [regD] at h
  split at h
  · rename_i vc1 s1 hnc hq
    split at h
    · rename_i vc2 s2 hr
      split at h
      · rename_i sl hp h1 h2
        split at h
        · rename_i hcl hn
          simp only [Option.some.injEq, Prod.mk.injEq] at h
          obtain ⟨rfl, rfl⟩ := h
          obtain ⟨tr, t1, t2, t3⟩ := trace_of (k := 0) hq (fun i o ho => by
            rw [List.getElem?_take] at ho
            split at ho
            · simpa using ho
            · cases ho)
          have hlen : (ops.take m).length = m := by rw [List.length_take]; have := K.le; omega
          rw [hlen] at t1 t2 t3
          subst t2
          have T : Trace Γ (Elt P ty) (Sound ty P) ren cr ops m ⟨n, sl0, hp0⟩ tr vc2 := ⟨t1, fun i hi => by
            obtain ⟨o, e, vc, p1, p2, p3, p4, p5, p6⟩ := t3 i hi
            exact ⟨o, e, vc, by simpa using p1, p2, p3, p4, p5, fun q hq => run_acc hr q (p6 q hq)⟩⟩
          refine wp_region_any hm ?_
          have hz : ∀ i, (Array.replicate ops.toArray.size false).getD i false = false := by
            intro i
            rw [Array.getD_eq_getD_getElem?, Array.getElem?_replicate]
            split <;> rfl
          refine head_any (Q := Lift ty zb Q) X K T hnc hv.out (fun a w iv' => ⟨_, iv'.weaken (Nat.eq_of_beq_eq_true hn).symm (keepS_look h1) (keepH_look h2) hcl, k⟩) hr _ _ a _ ?_ (by simp) (fun i hi => by rw [hz] at hi; cases hi) (fun i o hi => by rw [hz] at hi; cases hi) ?_
          · unfold cnt
            refine Nat.le_trans (List.length_filter_le _ _) ?_
            simp
          · have hD : (fun i => (Array.replicate ops.toArray.size false).getD i false) = fun _ => false := funext hz
            rw [hD]
            have hmk : ∀ i, mkD (fun _ => false) tr ⟨n, sl0, hp0⟩ i = ⟨n, sl0, hp0⟩ := by
              intro i
              induction i with
              | zero => rfl
              | succ i ih => rw [mkD_succ_out rfl, ih]
            rw [hmk]
            obtain ⟨env, g⟩ := iv.good
            have hdr : Below w.heap.size w w.drew := (Below.refl _ _).drew
            refine ⟨iv.size, iv.defers, iv.kept.trans (kept_below hdr iv.kept.size), iv.amb, env, ?_⟩
            have := g.grow (os := []) (w' := w.drew) (env' := env) iv.kept.size rfl (News.none hdr)
            exact this
        · cases h
      · cases h
    · cases h
  · cases h
end
end Go.Proofs.YtjknhnhcbadigaaDoor.G
