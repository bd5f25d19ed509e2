/-
  Regions that draw their order: quiet operations in any order, then the rest in the text's order.
-/
import Derived.Test.YthlflnplnajjiaaG13
import Derived.Orders
namespace Go.Proofs.Ythlflnplnajjiaa.G
set_option linter.all false
open Go.RowKit L D
variable {ty : Tag → Nat}
/-- The quiet part of a region, in the text's order. -/
def runQ (Γ : Nat → TK) (E : Tag → Nat → Prop) (S : FuncId → List S1 → List S1 → Prop) (ren : List (Nat × Nat)) (cr : List (Nat × CR)) (ops : List Oper) : List Oper → St → List Prop → Option (List Prop × St)
  | [], st, acc => some (acc, st)
  | o :: r, ⟨n, sl, hp⟩, acc => match o.dst with
    | some d => match sl.any (fun e => e.2.mentions d), qcore Γ E S ren cr ops ⟨n, sl, hp⟩ o with
      | false, some ([], v, os) => runQ Γ E S ren cr ops r ⟨n, (d, v) :: sl, app1 os hp⟩ acc
      | false, some ([p], v, os) => runQ Γ E S ren cr ops r ⟨n, (d, v) :: sl, app1 os hp⟩ (p :: acc)
      | false, some ([p, q], v, os) => runQ Γ E S ren cr ops r ⟨n, (d, v) :: sl, app1 os hp⟩ (p :: q :: acc)
      | false, some (l, v, os) => runQ Γ E S ren cr ops r ⟨n, (d, v) :: sl, app1 os hp⟩ (l ++ acc)
      | _, _ => none
    | none => none
/-- What an operation has added. -/
structure TE where
  d : Nat
  v : SV
  os : Hp
def app (s : St) (e : TE) : St := ⟨s.n, (e.d, e.v) :: s.sl, e.os ++ s.hp⟩
theorem runQ_split {Γ : Nat → TK} {E : Tag → Nat → Prop} {S : FuncId → List S1 → List S1 → Prop} {ren : List (Nat × Nat)} {cr : List (Nat × CR)} {ops : List Oper} {o : Oper} {r : List Oper} {st : St} {acc vcs : List Prop} {st2 : St} (h : runQ Γ E S ren cr ops (o :: r) st acc = some (vcs, st2)) :
    ∃ vc e, o.dst = some e.d ∧ (st.sl.any fun x => x.2.mentions e.d) = false ∧ qcore Γ E S ren cr ops st o = some (vc, e.v, e.os) ∧ runQ Γ E S ren cr ops r (app st e) (vc ++ acc) = some (vcs, st2) := by
  obtain ⟨n, sl, hp⟩ := st
  simp only [runQ] at h
  split at h
  · rename_i d hd
    split at h
    · rename_i v os h1 h2; exact ⟨[], ⟨d, v, os⟩, hd, h1, h2, by simp only [app1_eq] at h; exact h⟩
    · rename_i p v os h1 h2; exact ⟨[p], ⟨d, v, os⟩, hd, h1, h2, by simp only [app1_eq] at h; exact h⟩
    · rename_i p q v os h1 h2; exact ⟨[p, q], ⟨d, v, os⟩, hd, h1, h2, by simp only [app1_eq] at h; exact h⟩
    · rename_i l v os _ _ _ h1 h2; exact ⟨_, ⟨d, v, os⟩, hd, h1, h2, by simp only [app1_eq] at h; exact h⟩
    · cases h
  · cases h
def nocond (sl : List (Nat × SV)) : Bool := sl.all fun e => match e.2 with | .cond _ _ => false | _ => true
/-- A region that draws: its state behind. -/
def regD (P : Program) (ty : Tag → Nat) (Γ : Nat → TK) (ren : List (Nat × Nat)) (cr : List (Nat × CR)) (ks hs : List Nat) (m : Nat) (ops : List Oper) : St → Option (List Prop × St)
  | ⟨n, sl0, hp0⟩ => match nocond sl0, runQ Γ (Elt P ty) (Sound ty P) ren cr ops (ops.take m) ⟨n, sl0, hp0⟩ [] with
    | true, some (vc1, s1) => match run P ty Γ ren cr ops (ops.drop m) s1 vc1 with
      | some (vc, st') => match keepS st'.sl ks, keepH st'.hp (autoH st'.sl st'.hp ks hs) with
        | some sl, some hp => match closedk sl hp, Nat.beq st'.n n with
          | true, true => some (vc, ⟨n, sl, hp⟩)
          | _, _ => none
        | _, _ => none
      | none => none
    | _, _ => none

/-! ### Edges -/
def edges (o : Oper) : List Nat := o.after.toList.filterMap fun e => if Region.binds .any e then some e.on else none
def cloStep (acc : List Nat) (o : Oper) : List Nat := acc ++ [(edges o).foldl (fun s j => s ||| 2 ^ j ||| acc.getD j 0) 0]
/-- For each operation the bits of those that must stand before it. -/
def clo (ops : List Oper) : List Nat := ops.foldl cloStep []
def tmpsOf (o : Oper) : List Nat := o.op.operands.toList.filterMap fun | .tmp t => some t | _ => none
def dstIs (o : Oper) (t : Nat) : Bool := match o.dst with | some d => Nat.beq d t | none => false
def idx {α : Type} : Nat → List α → List (Nat × α)
  | _, [] => []
  | i, x :: r => (i, x) :: idx (i + 1) r
/-- Nothing of an operation's operands is written beside it. -/
def usesok (A : List (Nat × Oper)) (cl : List Nat) (i : Nat) (o : Oper) : Bool :=
  (tmpsOf o).all fun t => A.all fun e => !(dstIs e.2 t) || Nat.beq e.1 i || (edges o).any (Nat.beq e.1) || (Nat.blt i e.1 && (cl.getD e.1 0).testBit i)
def guardok (m : Nat) (i : Nat) (o : Oper) : Bool := match o.guard with
  | none => true
  | some (j, _) => Nat.blt j i && Nat.blt j m && (edges o).any (Nat.beq j)
def dstok1 (A : List (Nat × Oper)) (i : Nat) (o : Oper) : Bool := match o.dst with
  | some d => A.all fun e => Nat.beq e.1 i || !(dstIs e.2 d)
  | none => false
/-- The order is of no account: for a region whose first m operations are quiet. -/
def chk (ops : List Oper) (m : Nat) : Bool :=
  let cl := clo ops
  let A := idx 0 (ops.take m)
  (Nat.ble m ops.length) &&
  ((idx 0 ops).all fun e => (edges e.2).all fun j => Nat.blt j e.1) &&
  (A.all fun e => usesok A cl e.1 e.2 && guardok m e.1 e.2 && dstok1 A e.1 e.2) &&
  ((idx 0 ops).all fun e => Nat.blt e.1 m || (List.range e.1).all fun j => (cl.getD e.1 0).testBit j)
end Go.Proofs.Ythlflnplnajjiaa.G
