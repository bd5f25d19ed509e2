/-
  What the symbolic machine's states say of the model's worlds, and what keeps it.
-/
import Derived.Test.YtjknhnhcbadigaaDoorZFormatArchiveM3
import Derived.Lib.ItoaNum
namespace Go.Proofs.YtjknhnhcbadigaaDoor.G
set_option linter.all false
open Go.RowKit L D
def Amb0 (b : Nat) : Prop := b = 0
def Amb (w : World) : Prop := ∃ e k, w.heap[0]? = some (.cells (Lib.pow10Tab.map fun z => Value.int .u64 z).toArray e k)
theorem Amb.keep {w w' : World} (h : Amb w) (hk : ∀ b, Amb0 b → b < w.heap.size → w'.heap[b]? = w.heap[b]?) : Amb w' := by
  obtain ⟨e, k, h⟩ := h
  exact ⟨e, k, by rw [hk _ rfl (Array.getElem?_eq_some_iff.1 h).1]; exact h⟩
theorem Amb.lt {w : World} (h : Amb w) {b : Nat} (hb : Amb0 b) : b < w.heap.size := by
  obtain ⟨e, k, h⟩ := h
  have : b = 0 := hb
  rw [this]; exact (Array.getElem?_eq_some_iff.1 h).1
end Go.Proofs.YtjknhnhcbadigaaDoor.G
namespace Go.Proofs.YtjknhnhcbadigaaDoor.G
set_option linter.all false
open Go.RowKit L D
/-- A cell's value, or a struct's cells. -/
inductive S1 where
  | a (v : V)
  | agg (l : List V)
/-- What a slot holds. 'cond p x': x where the slots of p hold those bools, else nothing. -/
inductive SV where
  | one (x : S1)
  | tup (l : List S1)
  | cond (p : List (Nat × Bool)) (x : S1)
/-- What the call owns: a variable in memory, a slice. -/
inductive Obj where
  | box (c : List V)
  | arr (t : Tag) (l : List (T t))
structure St where
  n : Nat
  sl : List (Nat × SV)
  hp : List (Nat × Obj)
/-- Kinds of types. 'sl t e': a slice with elements of kind t, of type e. 'st': a struct: its zero cells, the kinds of its slices' elements, its fields' places. -/
inductive TK where
  | int (k : IntKind)
  | bool
  | str
  | sl (t : Tag) (e : Nat)
  | st (z : List Value) (tg : List (Option Tag)) (fo : List Nat)
  | other
abbrev nilv : Value := .slice none 0 0
/-- Names from 1000 on are lent to the call: they are never given away. -/
def pin (n : Nat) : Bool := Nat.ble 1000 n
/-- Names of slices that may be written, but to which nothing may be appended. -/
def soft (n : Nat) : Bool := Nat.ble 900 n
def V.unvw : V → V
  | .vw _ _ t l => .sl t l
  | v => v
def V.isvw : V → Bool
  | .vw _ _ _ _ => true
  | _ => false
def look {α : Type} : List (Nat × α) → Nat → Option α
  | [], _ => none
  | (j, x) :: r, i => match Nat.beq i j with | true => some x | false => look r i
def subp (q p : List (Nat × Bool)) : Bool := q.all fun e => p.any fun f => Nat.beq e.1 f.1 && e.2 == f.2
def SV.mentions (d : Nat) : SV → Bool
  | .cond p _ => p.any fun e => Nat.beq e.1 d
  | _ => false
def SV.drops (d : Nat) (v : SV) : SV := match v.mentions d with | true => .one (.a .any) | false => v
/-- A slot is written. -/
def St.put (st : St) (d : Option Nat) (v : SV) : St :=
  match d with
  | some d => match st.sl.any fun e => e.2.mentions d with
    | false => ⟨st.n, (d, v) :: st.sl, st.hp⟩
    | true => ⟨st.n, (d, v) :: st.sl.map fun e => (e.1, e.2.drops d), st.hp⟩
  | none => st
/-- An operand's value where the path p holds. -/
def opv (st : St) (p : List (Nat × Bool)) : Operand → Option S1
  | .tmp t => match look st.sl t with
    | some (.one x) => some x
    | some (.cond q x) => match subp q p with | true => some x | false => none
    | _ => none
  | .const v => match v.oneCell' with | true => some (.a (.lit v)) | false => none
  | .func f => some (.a (.lit (.func (.func f) #[] #[])))
  | .global _ => none
/-- Integers: what must hold, and the result. -/
def bop (op : BinOp) (k : IntKind) (x y : Int) : Option (List Prop × Value) :=
  match op with
  | .add => some ([], .int k (k.wrap (x + y)))
  | .sub => some ([], .int k (k.wrap (x - y)))
  | .mul => some ([], .int k (k.wrap (x * y)))
  | .quo => some ([y ≠ 0], .int k (k.wrap (x.tdiv y)))
  | .rem => some ([y ≠ 0], .int k (x.tmod y))
  | .eql => some ([], .bool (x == y))
  | .neq => some ([], .bool (x != y))
  | .lss => some ([], .bool (decide (x < y)))
  | .leq => some ([], .bool (decide (x ≤ y)))
  | .gtr => some ([], .bool (decide (x > y)))
  | .geq => some ([], .bool (decide (x ≥ y)))
  | .and => some ([], .int k (k.wrap (BitVec.ofInt k.bits x &&& BitVec.ofInt k.bits y).toNat))
  | .or => some ([], .int k (k.wrap (BitVec.ofInt k.bits x ||| BitVec.ofInt k.bits y).toNat))
  | .xor => some ([], .int k (k.wrap (BitVec.ofInt k.bits x ^^^ BitVec.ofInt k.bits y).toNat))
  | _ => none
/-- Integers, of kinds that shifts mix. -/
def ibop (op : BinOp) (k k' : IntKind) (x y : Int) : Option (List Prop × Value) :=
  match op with
  | .shl => some ([0 ≤ y], .int k (k.wrap (x * 2 ^ (min y.toNat k.bits))))
  | .shr => some ([0 ≤ y], .int k (x.fdiv (2 ^ (min y.toNat k.bits))))
  | op => match decEq k k' with | isTrue _ => bop op k x y | isFalse _ => none
/-- Strings. -/
def sbop (op : BinOp) (x y : ByteArray) : Option (List Prop × Value) :=
  match op with
  | .eql => some ([], .bool (x.toList == y.toList))
  | .neq => some ([], .bool !(x.toList == y.toList))
  | .add => some ([((x.size + y.size : Nat) : Int) ≤ IntKind.i64.max], .string (x ++ y))
  | _ => none
/-- Bytes as a string. -/
def str8 (l : List UInt8) : ByteArray := ⟨l.toArray⟩
def bytesOf (st : St) : V → Option (List UInt8)
  | .sl .u8 l => some l
  | .own n => match look st.hp n with | some (.arr .u8 l) => some l | _ => none
  | .vw _ _ .u8 l => some l
  | .lit (.slice none 0 0) => some []
  | _ => none
/-- A slice's elements. -/
def lenOf (st : St) (k : TK) : V → Option Int
  | .sl _ l => match k with | .sl _ _ => some (l.length : Int) | _ => none
  | .own n => match k with
    | .sl _ _ => match look st.hp n with | some (.arr _ l) => some (l.length : Int) | _ => none
    | _ => none
  | .vw _ _ _ l => match k with | .sl _ _ => some (l.length : Int) | _ => none
  | .lit (.slice none 0 0) => match k with | .sl _ _ => some 0 | _ => none
  | .lit (.string s) => match k with | .str => some (s.size : Int) | _ => none
  | _ => none
/-- A cell as it is handed over: immutable. -/
def imm (st : St) (tg : Option Tag) : V → Option V
  | .sl t l => some (.sl t l)
  | .own n => match look st.hp n with | some (.arr t l) => some (.sl t l) | _ => none
  | .vw _ _ t l => some (.sl t l)
  | .lit (.slice none 0 0) => match tg with | some t => some (.sl t []) | none => none
  | .lit (.slice _ _ _) => none
  | .lit v => some (.lit v)
  | _ => none
def imms (st : St) : List (Option Tag) → List V → Option (List V)
  | _, [] => some []
  | tg, v :: r => match imm st (match tg with | t :: _ => t | [] => none) v, imms st (match tg with | _ :: ts => ts | [] => []) r with
    | some x, some y => some (x :: y)
    | _, _ => none
/-- An argument as it is handed over. -/
def arg1 (st : St) (k : TK) : S1 → Option S1
  | .a v => match imm st (match k with | .sl t _ => some t | _ => none) v with | some x => some (.a x) | none => none
  | .agg l => match imms st (match k with | .st _ tg _ => tg | _ => []) l with | some x => some (.agg x) | none => none
def isnl : S1 → Bool
  | .a (.lit (.slice none 0 0)) => true
  | _ => false
/-- b: a nil slice is handed over as nil. -/
def argb (b : Bool) (st : St) (k : TK) (v : S1) : Option S1 := match b && isnl v with | true => some v | false => arg1 st k v
def args (b : Bool) (Γ : Nat → TK) (st : St) (p : List (Nat × Bool)) : List Operand → List Nat → Option (List S1)
  | [], _ => some []
  | x :: r, t => match opv st p x with
    | some v => match argb b st (match t with | t :: _ => Γ t | [] => .other) v, args b Γ st p r (match t with | _ :: ts => ts | [] => []) with
      | some y, some ys => some (y :: ys)
      | _, _ => none
    | none => none
/-- A call's result: its cells; own: its slices become the caller's own. -/
structure CR where
  own : Bool
  rs : List S1
/-- Result cells become objects of the caller: names from m on. -/
def adopt (m : Nat) : List V → List V × List (Nat × Obj)
  | [] => ([], [])
  | .sl t l :: r => match adopt (m + 1) r with | (vs, os) => (.own m :: vs, (m, .arr t l) :: os)
  | .vw _ _ t l :: r => match adopt (m + 1) r with | (vs, os) => (.own (m + 900) :: vs, (m + 900, .arr t l) :: os)
  | v :: r => match adopt (m + 1) r with | (vs, os) => (v :: vs, os)
def adopt1 (m : Nat) : S1 → S1 × List (Nat × Obj)
  | .a v => match adopt m [v] with | ([v'], os) => (.a v', os) | _ => (.a .any, [])
  | .agg l => match adopt m l with | (l', os) => (.agg l', os)
def adopts (m : Nat) : List S1 → List S1 × List (Nat × Obj)
  | [] => ([], [])
  | x :: r => match adopt1 m x, adopts (m + 20) r with | (x', os), (r', os') => (x' :: r', os ++ os')
/-- No name twice. -/
def nodupk : List (Nat × Obj) → Bool
  | [] => true
  | (n, _) :: r => (match look r n with | none => true | some _ => false) && nodupk r
/-- Names that are new. -/
def fresh (hp : List (Nat × Obj)) : List (Nat × Obj) → Bool
  | [] => true
  | (n, _) :: r => ((match look hp n with | none => true | some _ => false) && !pin n) && fresh hp r
/-- The outcome of an operation that turns nothing: what must hold, its value, new objects. -/
structure Out where
  vc : List Prop
  v : SV
  o : List (Nat × Obj)
def S1.novw : S1 → Bool
  | .a v => !v.isvw
  | .agg l => l.all fun v => !v.isvw
def S1.unvw : S1 → S1
  | .a v => .a v.unvw
  | .agg l => .agg (l.map V.unvw)
def outs (m : Nat) (c : CR) (vc : List Prop) : Out :=
  match c.own with
  | true => match adopts m c.rs with
    | ([x], os) => ⟨vc, .one x, os⟩
    | (l, os) => ⟨vc, .tup l, os⟩
  | false => match c.rs with
    | [x] => match x.novw with
      | true => ⟨vc, .one x, []⟩
      | false => ⟨vc, .one x.unvw, []⟩
    | l => match l.all S1.novw with
      | true => ⟨vc, .tup l, []⟩
      | false => ⟨vc, .tup (l.map S1.unvw), []⟩
/-- The cells of a struct from a place on. -/
def sub (c : List V) (off k : Nat) : Option (List V) := match Nat.ble (off + k) c.length with | true => some ((c.drop off).take k) | false => none
def elt : List V → Nat → Option V
  | [], _ => none
  | v :: _, 0 => some v
  | _ :: r, n + 1 => elt r n
def offs : List Nat → Nat → Option Nat
  | [], _ => none
  | v :: _, 0 => some v
  | _ :: r, n + 1 => offs r n
/-- A function's value, that holds nothing. -/
def fnOf : S1 → Option FuncId
  | .a (.lit (.func (.func f) ⟨[]⟩ ⟨[]⟩)) => some f
  | _ => none
/-- A bound of a slice expression. -/
def bnd (st : St) (p : List (Nat × Bool)) (z : Int) : Option Operand → Option Int
  | none => some z
  | some x => match opv st p x with | some (.a (.lit (.int _ i))) => some i | _ => none
/-- A cell of an object's element, as it is read: slices are views. -/
def bor (n : Nat) (p : Option (Nat × Nat)) : V → V
  | .sl t l => .vw n p t l
  | .lit v => .lit v
  | _ => .any
/-- The cells of an object's element from a place on. -/
def bors (n i : Nat) : Nat → List V → List V
  | _, [] => []
  | o, v :: r => bor n (some (i, o)) v :: bors n i (o + 1) r
def borN (n : Nat) : List V → List V
  | [] => []
  | v :: r => bor n none v :: borN n r
/-- An integer operand. -/
def iopv (st : St) (p : List (Nat × Bool)) (x : Operand) : Option (IntKind × Int) := match opv st p x with | some (.a (.lit (.int k i))) => some (k, i) | _ => none
def iopvs (st : St) (p : List (Nat × Bool)) : List Operand → Option (List (IntKind × Int))
  | [] => some []
  | x :: r => match iopv st p x, iopvs st p r with | some y, some ys => some (y :: ys) | _, _ => none
def maxi (x y : Int) : Int := if y > x then y else x
def mini (x y : Int) : Int := if y < x then y else x
def foldi (f : Int → Int → Int) (k : IntKind) : Int → List (IntKind × Int) → Option Int
  | x, [] => some x
  | x, (k', y) :: r => match decEq k k' with | isTrue _ => foldi f k (f x y) r | isFalse _ => none
/-- Cells that hold no memory. -/
def plain : List V → Bool
  | [] => true
  | .lit (.slice _ _ _) :: _ => false
  | .lit _ :: r => plain r
  | _ => false
def cellsOf : S1 → List V
  | .a v => [v]
  | .agg l => l
/-- One slice of the call's own among literal cells. -/
def own1 (hp : List (Nat × Obj)) : List V → Option (List V × Nat)
  | .own n :: r => match look hp n, plain r with
    | some (.arr t l), true => some (.sl t l :: r, n)
    | _, _ => none
  | .lit (.slice _ _ _) :: _ => none
  | .lit v :: r => match own1 hp r with | some (c, n) => some (.lit v :: c, n) | none => none
  | _ => none
/-- The elements of a slice that is written out, none of them with memory. -/
def qparts (st : St) (p : List (Nat × Bool)) (g : Tag) : Nat → List (Nat × Operand) → Option (List Prop × List (T g))
  | _, [] => some ([], [])
  | i, (j, x) :: r => match Nat.beq i j, opv st p x with
    | true, some s => match plain (cellsOf s), enc g (cellsOf s), qparts st p g (i + 1) r with
      | true, some (vc, y), some (vcs, ys) => some (vc ++ vcs, y :: ys)
      | _, _, _ => none
    | _, _ => none
/-- A field's size. -/
def fsz (n : Nat) (fo : List Nat) (j : Nat) : Option Nat := match offs fo j, offs fo (j + 1) with
  | some a, some b => some (b - a)
  | some a, none => some (n - a)
  | _, _ => none
def noany : List V → Bool
  | [] => true
  | .any :: _ => false
  | _ :: r => noany r
/-- Some of a list's places, written. -/
def spl (c : List V) (off : Nat) (vs : List V) : Option (List V) := match Nat.ble (off + vs.length) c.length with
  | true => some (c.take off ++ (vs ++ c.drop (off + vs.length)))
  | false => none
/-- A struct's cells out of its parts. -/
def bfill (st : St) (p : List (Nat × Bool)) (n : Nat) (fo : List Nat) : List (Nat × Operand) → List V → Option (List V)
  | [], c => some c
  | (j, x) :: r, c => match offs fo j, fsz n fo j, opv st p x with
    | some o, some k, some s => match noany (cellsOf s) && Nat.beq (cellsOf s).length k, spl c o (cellsOf s) with
      | true, some c' => bfill st p n fo r c'
      | _, _ => none
    | _, _, _ => none
/-- The place of a view's element. -/
def vpos : Option (Nat × Nat) → Nat → Option (Nat × Nat × Nat)
  | some (a, b), j => some (a, b, j)
  | none, _ => none
def out1 (x : S1) : Option Out := some ⟨[], .one x, []⟩
/-- A tuple, handed on. -/
def mvt (st : St) : Operand → Option Out
  | .tmp t => match look st.sl t with | some (.tup l) => some ⟨[], .tup l, []⟩ | _ => none
  | _ => none
/-- What an operation that turns nothing does. S: what it means that a call of f with those arguments gives those results. -/
def quiet (Γ : Nat → TK) (E : Tag → Nat → Prop) (S : FuncId → List S1 → List S1 → Prop) (cr : List (Nat × CR)) (st : St) (p : List (Nat × Bool)) (d m : Nat) : Op → Option Out
  | .move x | .assign x => match opv st p x with | some v => out1 v | none => mvt st x
  | .pick (.tmp c) x y => match opv st p (.tmp c), opv st ((c, true) :: p) x, opv st ((c, false) :: p) y with
    | some (.a (.lit (.bool t))), some (.a (.lit (.bool u))), some (.a (.lit (.bool v))) => out1 (.a (.lit (.bool (if t then u else v))))
    | _, _, _ => none
  | .box _ x => match opv st p x with
    | some (.agg l) => some ⟨[], .one (.a (.ptr m 0)), [(m, .box l)]⟩
    | some (.a .any) => none
    | some (.a v) => some ⟨[], .one (.a (.ptr m 0)), [(m, .box [v])]⟩
    | none => none
  | .alloc t => match Γ t with
    | .st z _ _ => some ⟨[], .one (.a (.ptr m 0)), [(m, .box (z.map .lit))]⟩
    | _ => none
  | .load t x => match opv st p x with
    | some (.a (.ptr n off)) => match look st.hp n with
      | some (.box c) => match Γ t with
        | .st z _ _ => match sub c off z.length with | some l => out1 (.agg l) | none => none
        | .other => none
        | _ => match elt c off with | some v => out1 (.a v) | none => none
      | _ => none
    | some (.a (.ip g y off)) => match Γ t with
        | .st z _ _ => match sub (dec g y) off z.length with | some l => out1 (.agg l) | none => none
        | .other => none
        | _ => match elt (dec g y) off with | some v => out1 (.a v) | none => none
    | some (.a (.vip n _ g y off)) => match Γ t with
        | .st z _ _ => match sub (dec g y) off z.length with | some l => out1 (.agg (borN n l)) | none => none
        | .other => none
        | _ => match elt (dec g y) off with | some v => out1 (.a (bor n none v)) | none => none
    | some (.a (.eptr n i off)) => match look st.hp n with
      | some (.arr g l) => match Γ t with
        | .st z _ _ => match sub (dec g (l.getD i (dfl g))) off z.length with | some c => some ⟨[i < l.length], .one (.agg (bors n i off c)), []⟩ | none => none
        | .other => none
        | _ => match elt (dec g (l.getD i (dfl g))) off with | some v => some ⟨[i < l.length], .one (.a (bor n (some (i, off)) v)), []⟩ | none => none
      | _ => none
    | _ => none
  | .binOp op t x y _ => match opv st p x, opv st p y with
    | some (.a (.lit (.int k a))), some (.a (.lit (.int k' b))) => match ibop op k k' a b with | some (vc, v) => some ⟨vc, .one (.a (.lit v)), []⟩ | none => none
    | some (.a (.lit (.string a))), some (.a (.lit (.string b))) => match sbop op a b with | some (vc, v) => some ⟨vc, .one (.a (.lit v)), []⟩ | none => none
    | some (.a (.lit (.bool a))), some (.a (.lit (.bool b))) => match Γ t, op with
      | .bool, .eql => out1 (.a (.lit (.bool (a == b))))
      | .bool, .neq => out1 (.a (.lit (.bool (a != b))))
      | _, _ => none
    | _, _ => none
  | .unOp .not _ x => match opv st p x with
    | some (.a (.lit (.bool t))) => out1 (.a (.lit (.bool (!t))))
    | _ => none
  | .unOp .neg _ x => match opv st p x with
    | some (.a (.lit (.int k n))) => out1 (.a (.lit (.int k (k.wrap (0 - n)))))
    | _ => none
  | .convert s t x => match opv st p x, Γ s, Γ t with
    | some (.a (.lit (.int _ n))), .int _, .int k => out1 (.a (.lit (.int k (k.wrap n))))
    | some (.a v), .sl _ e, .str => match Γ e, bytesOf st v with
      | .int .u8, some l => out1 (.a (.lit (.string (str8 l))))
      | _, _ => none
    | _, _, _ => none
  | .makeFunc (.func f) first captured => match first.toList, captured.toList with
    | [], [x] => match opv st p x with
      | some (.a (.ptr n 0)) => out1 (.a (.fnp f n))
      | _ => none
    | _, _ => none
  | .slice t x lo hi none => match Γ t with
    | .sl g _ => match (look cr (d + 600000)).isSome with
      | true => match opv st p x, bnd st p 0 lo, hi with
        | some (.a (.vw _ _ _ l)), some lo, none => some ⟨[lo = (l.length : Int)], .one (.a (.sl g [])), []⟩
        | some (.a (.husk k)), some lo, none => some ⟨[lo = (k : Int)], .one (.a (.sl g [])), []⟩
        | _, _, _ => none
      | false => match opv st p x, bnd st p 0 lo with
        | some (.a (.sl t' l)), some lo => match bnd st p l.length hi with
          | some hi => match Nat.beq (kk g) (kk t') with
            | true => some ⟨[0 ≤ lo ∧ lo ≤ hi ∧ hi ≤ (l.length : Int)], .one (.a (.sl t' ((l.take hi.toNat).drop lo.toNat))), []⟩
            | false => none
          | none => none
        | some (.a (.vw n _ t' l)), some lo => match bnd st p l.length hi with
          | some hi => match Nat.beq (kk g) (kk t') with
            | true => some ⟨[0 ≤ lo ∧ lo ≤ hi ∧ hi ≤ (l.length : Int)], .one (.a (.vw n none t' ((l.take hi.toNat).drop lo.toNat))), []⟩
            | false => none
          | none => none
        | some (.a (.own n)), some lo => match look st.hp n with
          | some (.arr t' l) => match bnd st p l.length hi with
            | some hi => match Nat.beq (kk g) (kk t') with
              | true => some ⟨[0 ≤ lo ∧ lo ≤ hi ∧ hi ≤ (l.length : Int)], .one (.a (.vw n none t' ((l.take hi.toNat).drop lo.toNat))), []⟩
              | false => none
            | none => none
          | _ => none
        | _, _ => none
    | .str => match opv st p x, bnd st p 0 lo with
      | some (.a (.lit (.string s))), some lo => match bnd st p s.size hi with
        | some hi => some ⟨[0 ≤ lo ∧ lo ≤ hi ∧ hi ≤ (s.size : Int)], .one (.a (.lit (.string (s.extract lo.toNat hi.toNat)))), []⟩
        | none => none
      | _, _ => none
    | _ => none
  | .fieldAddr t x f => match Γ t with
    | .st _ _ fo => match offs fo f with
      | some k => match opv st p x with
        | some (.a (.ptr n off)) => out1 (.a (.ptr n (off + k)))
        | some (.a (.ip t x off)) => out1 (.a (.ip t x (off + k)))
        | some (.a (.eptr n i off)) => out1 (.a (.eptr n i (off + k)))
        | some (.a (.vip n q t x off)) => out1 (.a (.vip n q t x (off + k)))
        | _ => none
      | none => none
    | _ => none
  | .indexAddr ty x i => match Γ ty with
    | .sl g _ => match opv st p x, opv st p i with
      | some (.a (.sl t l)), some (.a (.lit (.int _ i))) => match Nat.beq (kk g) (kk t) with
        | true => some ⟨[0 ≤ i ∧ i < (l.length : Int)], .one (.a (.ip t (l.getD i.toNat (dfl t)) 0)), []⟩
        | false => none
      | some (.a (.own n)), some (.a (.lit (.int _ i))) => match look st.hp n with
        | some (.arr t l) => match Nat.beq (kk g) (kk t) with
          | true => some ⟨[0 ≤ i ∧ i < (l.length : Int)], .one (.a (.eptr n i.toNat 0)), []⟩
          | false => none
        | _ => none
      | some (.a (.vw n q t l)), some (.a (.lit (.int _ i))) => match Nat.beq (kk g) (kk t) with
        | true => some ⟨[0 ≤ i ∧ i < (l.length : Int)], .one (.a (.vip n (vpos q i.toNat) t (l.getD i.toNat (dfl t)) 0)), []⟩
        | false => none
      | _, _ => none
    | _ => none
  | .makeSlice ty x y => match Γ ty with
    | .sl g e => match opv st p x, opv st p y with
      | some (.a (.lit (.int _ a))), some (.a (.lit (.int _ b))) => some ⟨[E g e, a = b, 0 ≤ a, a.toNat * byt g ≤ 140737488355328 ∧ a.toNat ≤ maxLen], .one (.a (.own m)), [(m, .arr g (List.replicate a.toNat (dfl g)))]⟩
      | _, _ => none
    | _ => none
  | .buildSlice ty len parts => match Γ ty with
    | .sl g e => match (look cr (d + 500000)).isSome with
      | true => match Nat.beq len 1, parts.toList with
        | true, [(0, x)] => match opv st p x with
          | some s => match own1 st.hp (cellsOf s) with
            | some (c, n) => match enc g c, Nat.ble (kk g) 16777216 with
              | some (vc, y), true => some ⟨E g e :: vc, .one (.a (.bsl n g [y])), []⟩
              | _, _ => none
            | none => none
          | none => none
        | _, _ => none
      | false => match Nat.beq parts.toList.length len, Nat.ble (len * kk g) 16777216, qparts st p g 0 parts.toList with
        | true, true, some (vc, xs) => some ⟨E g e :: vc, .one (.a (.own m)), [(m, .arr g xs)]⟩
        | _, _, _ => none
    | _ => none
  | .build ty parts => match Γ ty with
    | .st z _ fo => match bfill st p z.length fo parts.toList (z.map .lit) with
      | some c => out1 (.agg c)
      | none => none
    | _ => none
  | .nilCheck x => match opv st p x with
    | some (.a (.ptr n off)) => out1 (.a (.ptr n off))
    | some (.a (.eptr n i off)) => out1 (.a (.eptr n i off))
    | _ => none
  | .call ⟨.builtin .max, xs, _⟩ => match iopvs st p xs.toList with
    | some ((k, x) :: r) => match foldi maxi k x r with | some y => out1 (.a (.lit (.int k y))) | none => none
    | _ => none
  | .call ⟨.builtin .min, xs, _⟩ => match iopvs st p xs.toList with
    | some ((k, x) :: r) => match foldi mini k x r with | some y => out1 (.a (.lit (.int k y))) | none => none
    | _ => none
  | .extract (.tmp t) i => match look st.sl t with
    | some (.tup l) => match l[i]? with | some x => out1 x | none => none
    | _ => none
  | .call ⟨.builtin .len, xs, ts⟩ => match xs.toList, ts.toList with
    | [x], [t] => match opv st p x with
      | some (.a v) => match lenOf st (Γ t) v with | some n => out1 (.a (.lit (.int .i64 n))) | none => none
      | _ => none
    | _, _ => none
  | .call ⟨.value (.func f), xs, ts⟩ => match args (look cr (d + 300000)).isSome Γ st p xs.toList ts.toList, look cr d with
    | some as, some c => some (outs m c [S f as c.rs])
    | _, _ => none
  | .call ⟨.value (.tmp x), xs, ts⟩ => match opv st p (.tmp x) with
    | some v => match fnOf v with
      | some f => match args (look cr (d + 300000)).isSome Γ st p xs.toList ts.toList, look cr d with
        | some as, some c => some (outs m c [S f as c.rs])
        | _, _ => none
      | none => none
    | none => none
  | _ => none
/-- The bools that a path asks for. -/
def hyps (st : St) : List (Nat × Bool) → List Prop
  | [] => []
  | (d, x) :: r => match look st.sl d with
    | some (.one (.a (.lit (.bool b)))) => (b = x) :: hyps st r
    | some (.cond _ (.a (.lit (.bool b)))) => (b = x) :: hyps st r
    | _ => hyps st r
def imps : List Prop → Prop → Prop
  | [], q => q
  | h :: r, q => h → imps r q
/-- Under which path an operation runs. -/
def guardp (st : St) (ops : List Oper) (o : Oper) : Option (List (Nat × Bool)) :=
  match o.guard with
  | none => some []
  | some (j, x) => match ops[j]? with
    | some q => match q.dst with
      | some d => match look st.sl d with
        | some (.one (.a (.lit (.bool _)))) => some [(d, x)]
        | some (.cond p (.a (.lit (.bool _)))) => some ((d, x) :: p)
        | _ => none
      | none => none
    | none => none
def dstok (st : St) : Option Nat → Bool
  | some d => Nat.blt d st.n
  | none => true
/-- The name of what an operation makes. -/
def nmOf (ren : List (Nat × Nat)) : Option Nat → Option Nat
  | some d => match look ren d with | some m => some m | none => some d
  | none => some 99999
/-- An operation that turns nothing: what must hold, the slot's value, new objects. -/
def qcore (Γ : Nat → TK) (E : Tag → Nat → Prop) (S : FuncId → List S1 → List S1 → Prop) (ren : List (Nat × Nat)) (cr : List (Nat × CR)) (ops : List Oper) (st : St) (o : Oper) : Option (List Prop × SV × List (Nat × Obj)) :=
  match dstok st o.dst, nmOf ren o.dst, guardp st ops o with
  | true, some m, some [] => match quiet Γ E S cr st [] (o.dst.getD 0) m o.op with
    | some ⟨vc, v, os⟩ => match fresh st.hp os, nodupk os with
      | true, true => some (vc, v, os)
      | _, _ => none
    | none => none
  | true, some m, some (e :: p) => match (e :: p).any (fun e => o.dst == some e.1) with
    | false => match quiet Γ E S cr st (e :: p) (o.dst.getD 0) m o.op with
      | some ⟨vc, .one v, []⟩ => some (vc.map (imps (hyps st (e :: p))), .cond (e :: p) v, [])
      | _ => none
    | true => none
  | _, _, _ => none
/-- An operation that turns nothing, run. -/
def qstep (Γ : Nat → TK) (E : Tag → Nat → Prop) (S : FuncId → List S1 → List S1 → Prop) (ren : List (Nat × Nat)) (cr : List (Nat × CR)) (ops : List Oper) (st : St) (o : Oper) : Option (List Prop × St) :=
  match qcore Γ E S ren cr ops st o with
  | some (vc, v, os) => some (vc, St.put ⟨st.n, st.sl, os ++ st.hp⟩ o.dst v)
  | none => none
end Go.Proofs.YtjknhnhcbadigaaDoor.G
namespace Go.Proofs.YtjknhnhcbadigaaDoor.G
set_option linter.all false
open Go.RowKit L D
/-- An object's own value, and its blocks. -/
structure CO where
  v : Value
  fp : List Nat
abbrev Env := Nat → CO
abbrev Hp := List (Nat × Obj)
/-- A block is owned by an object. -/
def Ow (hp : Hp) (env : Env) (b : Nat) : Prop := ∃ n o, look hp n = some o ∧ b ∈ (env n).fp
/-- A view of an object's cell. -/
def RV (w : World) (hp : Hp) (env : Env) (n : Nat) (p : Option (Nat × Nat)) (t : Tag) (l : List (T t)) (u : Value) : Prop :=
  (∃ t l, look hp n = some (.arr t l)) ∧ (∃ fp, Sl (kk t) (rd t) w u l fp ∧ fp.Nodup ∧ ∀ b, b ∈ fp → b ∈ (env n).fp) ∧
      ∀ i off, p = some (i, off) → ∃ t0 l0 b o len cap, look hp n = some (.arr t0 l0) ∧ i < l0.length ∧ elt (dec t0 (l0.getD i (dfl t0))) off = some (.sl t l) ∧ (env n).v = .slice (some ⟨b, o, none⟩) len cap ∧ b ∈ (env n).fp ∧ w.cell? ⟨b, o + i * kk t0 + off, none⟩ = some u
def RA (w : World) (hp : Hp) (env : Env) : V → Value → Prop
  | .any, _ => True
  | .lit v, u => u = v ∧ v.oneCell' = true
  | .sl t l, u => ∃ fp, Sl (kk t) (rd t) w u l fp ∧ ∀ b, b ∈ fp → ¬ Ow hp env b
  | .own n, u => (∃ t l, look hp n = some (.arr t l)) ∧ u = (env n).v
  | .ptr n off, u => (∃ c, look hp n = some (.box c)) ∧ ∃ b, (env n).v = .pointer (some ⟨b, 0, none⟩) ∧ u = .pointer (some ⟨b, off, none⟩)
  | .eptr n i off, u => ∃ t l, look hp n = some (.arr t l) ∧ ∃ b o len cap, (env n).v = .slice (some ⟨b, o, none⟩) len cap ∧ u = .pointer (some ⟨b, o + i * kk t + off, none⟩)
  | .vw n p t l, u => RV w hp env n p t l u
  | .bsl n t l, u => (∃ t l, look hp n = some (.arr t l)) ∧ ∃ b fp, Sl (kk t) (rd t) w u l (b :: fp) ∧ ¬ Ow hp env b ∧ fp.Nodup ∧ ∀ c, c ∈ fp → c ∈ (env n).fp
  | .vip n p t x off, u => (∃ t l, look hp n = some (.arr t l)) ∧ ∃ b o cs fp, u = .pointer (some ⟨b, o + off, none⟩) ∧ b ∈ (env n).fp ∧ w.rangeAt b o cs ∧ rd t w cs x fp ∧ fp.Nodup ∧ (∀ c, c ∈ fp → c ∈ (env n).fp) ∧
      ∀ i o2 j, p = some (i, o2, j) → ∃ l u0 b0 off0 len cap, RV w hp env n (some (i, o2)) t l u0 ∧ j < l.length ∧ x = l.getD j (dfl t) ∧ u0 = .slice (some ⟨b0, off0, none⟩) len cap ∧ u = .pointer (some ⟨b0, off0 + j * kk t + off, none⟩)
  | .fnp f n, u => (∃ c, look hp n = some (.box c)) ∧ ∃ b, (env n).v = .pointer (some ⟨b, 0, none⟩) ∧ u = .func (.func f) #[] #[.pointer (some ⟨b, 0, none⟩)]
  | .husk k, u => ∃ oa cap, u = .slice oa k cap ∧ k ≤ cap ∧ cap ≤ maxLen ∧ (oa = none → cap = 0)
  | .ip t x off, u => ∃ b o cs fp, u = .pointer (some ⟨b, o + off, none⟩) ∧ b < w.heap.size ∧ w.rangeAt b o cs ∧ rd t w cs x fp ∧ ¬ Ow hp env b ∧ ∀ c, c ∈ fp → ¬ Ow hp env c
def All2 {α β : Type} (R : α → β → Prop) : List α → List β → Prop
  | [], [] => True
  | a :: as, b :: bs => R a b ∧ All2 R as bs
  | _, _ => False
theorem All2.mono {α β : Type} {R R' : α → β → Prop} : ∀ {as : List α} {bs : List β}, (∀ a b, a ∈ as → R a b → R' a b) → All2 R as bs → All2 R' as bs
  | [], [], _, _ => trivial
  | a :: as, b :: bs, h, ⟨h1, h2⟩ => ⟨h a b (by simp) h1, All2.mono (fun a b ha => h a b (List.mem_cons_of_mem _ ha)) h2⟩
  | [], _ :: _, _, h => h.elim
  | _ :: _, [], _, h => h.elim
theorem All2.len {α β : Type} {R : α → β → Prop} : ∀ {as : List α} {bs : List β}, All2 R as bs → bs.length = as.length
  | [], [], _ => rfl
  | _ :: _, _ :: _, ⟨_, h⟩ => by simp [All2.len h]
  | [], _ :: _, h => h.elim
  | _ :: _, [], h => h.elim
theorem All2.app {α β : Type} {R : α → β → Prop} : ∀ {as as' : List α} {bs bs' : List β}, All2 R as bs → All2 R as' bs' → All2 R (as ++ as') (bs ++ bs')
  | [], _, [], _, _, h => h
  | _ :: _, _, _ :: _, _, ⟨h1, h2⟩, h => ⟨h1, All2.app h2 h⟩
  | [], _, _ :: _, _, h, _ => h.elim
  | _ :: _, _, [], _, h, _ => h.elim
theorem All2.drop {α β : Type} {R : α → β → Prop} : ∀ {as : List α} {bs : List β} (n : Nat), All2 R as bs → All2 R (as.drop n) (bs.drop n)
  | _, _, 0, h => h
  | [], [], _ + 1, _ => trivial
  | _ :: _, _ :: _, n + 1, ⟨_, h⟩ => All2.drop n h
  | [], _ :: _, _, h => h.elim
  | _ :: _, [], _, h => h.elim
theorem All2.take {α β : Type} {R : α → β → Prop} : ∀ {as : List α} {bs : List β} (n : Nat), All2 R as bs → All2 R (as.take n) (bs.take n)
  | _, _, 0, _ => by simp [All2]
  | [], [], _ + 1, _ => trivial
  | _ :: _, _ :: _, n + 1, ⟨h1, h⟩ => ⟨h1, All2.take n h⟩
  | [], _ :: _, _, h => h.elim
  | _ :: _, [], _, h => h.elim
theorem All2.at {α β : Type} {R : α → β → Prop} : ∀ {as : List α} {bs : List β} {i : Nat} {x : α}, All2 R as bs → as[i]? = some x → ∃ y, bs[i]? = some y ∧ R x y
  | a :: as, b :: bs, 0, x, ⟨h1, _⟩, hx => ⟨b, rfl, by simp at hx; rw [← hx]; exact h1⟩
  | a :: as, b :: bs, i + 1, x, ⟨_, h⟩, hx => by
    obtain ⟨y, hy, hr⟩ := All2.at (i := i) h (by simpa using hx)
    exact ⟨y, by simpa using hy, hr⟩
  | [], _, _, _, _, hx => by simp at hx
  | _ :: _, [], _, _, h, _ => h.elim
def RS1 (w : World) (hp : Hp) (env : Env) : S1 → Value → Prop
  | .a v, u => RA w hp env v u
  | .agg l, u => ∃ cs, u = .agg cs.toArray ∧ All2 (RA w hp env) l cs
/-- The slots of a path hold the path's bools. -/
def holds (tmps : Array Value) (p : List (Nat × Bool)) : Prop := ∀ e, e ∈ p → tmps[e.1]? = some (.bool e.2)
def RSV (w : World) (hp : Hp) (env : Env) (tmps : Array Value) : SV → Value → Prop
  | .one x, u => RS1 w hp env x u
  | .tup l, u => ∃ us, u = .tuple us.toArray ∧ All2 (RS1 w hp env) l us
  | .cond p x, u => (holds tmps p → RS1 w hp env x u) ∧ (¬ holds tmps p → u = undef)
variable (ty : Tag → Nat)
/-- Where a call began: its world, the blocks that were lent to it, the lent objects. -/
structure Base where
  w : World
  L : List Nat
  pv : Nat → CO
def RArr (w : World) (n : Nat) (t : Tag) (l : List (T t)) (co : CO) : Prop :=
  match soft n with
  | true => Sl (kk t) (rd t) w co.v l co.fp ∧ Own 0 w co.fp
  | false => Bld (kk t) (rd t) 0 (ty t) w co.v l co.fp
def RO (w : World) (hp : Hp) (env : Env) (n : Nat) : Obj → CO → Prop
  | .box c, co => ∃ b cs e, co = ⟨.pointer (some ⟨b, 0, none⟩), [b]⟩ ∧ w.heap[b]? = some (.cells (Array.mk cs) e (0, 0)) ∧ All2 (RA w hp env) c cs
  | .arr t l, co => RArr ty w n t l co
structure Good (zb : Base) (st : St) (tmps : Array Value) (w : World) (env : Env) : Prop where
  obj : ∀ n o, look st.hp n = some o → RO ty w st.hp env n o (env n)
  dis : ∀ n m o o', n ≠ m → look st.hp n = some o → look st.hp m = some o' → ∀ b, b ∈ (env n).fp → b ∉ (env m).fp
  slot : ∀ s v, look st.sl s = some v → RSV w st.hp env tmps v (tmps.getD s undef)
  dom : ∀ n o, look st.hp n = some o → ∀ b, b ∈ (env n).fp → b ∈ zb.L ∨ zb.w.heap.size ≤ b
  pins : ∀ n, pin n = true → (env n).v = (zb.pv n).v ∧ ∀ b, b ∈ (env n).fp → b ∈ (zb.pv n).fp
/-- Nothing is written but what was lent, and what is new; a block keeps its shape. -/
structure Kept (zb : Base) (w w' : World) : Prop where
  os : w'.os = w.os
  tape : w'.tape = w.tape
  output : w'.output = w.output
  size : w.heap.size ≤ w'.heap.size
  block : ∀ b, b < zb.w.heap.size → b ∉ zb.L → w'.heap[b]? = w.heap[b]?
  shape : ∀ (b : Nat) (c : Array Value) (e : TypeId), w.heap[b]? = some (Go.Obj.cells c e (0, 0)) → ∃ c' : Array Value, w'.heap[b]? = some (Go.Obj.cells c' e (0, 0)) ∧ c'.size = c.size
theorem Kept.refl (zb : Base) (w : World) : Kept zb w w := ⟨rfl, rfl, rfl, Nat.le_refl _, fun _ _ _ => rfl, fun _ c _ h => ⟨c, h, rfl⟩⟩
theorem Kept.trans {zb : Base} {a b c : World} (h : Kept zb a b) (k : Kept zb b c) : Kept zb a c :=
  ⟨k.os.trans h.os, k.tape.trans h.tape, k.output.trans h.output, Nat.le_trans h.size k.size, fun i hi hn => (k.block i hi hn).trans (h.block i hi hn), fun i x e hx => by
    obtain ⟨c1, h1, h2⟩ := h.shape i x e hx
    obtain ⟨c2, h3, h4⟩ := k.shape i c1 e h1
    exact ⟨c2, h3, h4.trans h2⟩⟩
theorem kept_below {zb : Base} {w w' : World} (h : Below w.heap.size w w') (hz : zb.w.heap.size ≤ w.heap.size) : Kept zb w w' :=
  ⟨h.os, h.tape, h.output, h.size, fun b hb _ => h.block b (Nat.lt_of_lt_of_le hb hz), fun b c e hc => ⟨c, by rw [h.block b (sizeB hc)]; exact hc, rfl⟩⟩
/-- What the surroundings say: at the start, and beside what was lent. -/
def AmbZ (zb : Base) : Prop := Amb zb.w ∧ ∀ b, Amb0 b → b ∉ zb.L
theorem AmbZ.now {zb : Base} {w : World} (h : AmbZ zb) (k : Kept zb zb.w w) : Amb w := h.1.keep fun b hb hlt => k.block b hlt (h.2 b hb)
theorem AmbZ.free {zb : Base} (h : AmbZ zb) {b : Nat} (hb : b ∈ zb.L ∨ zb.w.heap.size ≤ b) : ¬ Amb0 b := fun h0 => by
  rcases hb with hb | hb
  · exact h.2 b h0 hb
  · have := h.1.lt h0; omega
structure Inv (zb : Base) (st : St) (a : Act) (w : World) : Prop where
  size : a.tmps.size = st.n
  defers : a.defers = []
  kept : Kept zb zb.w w
  amb : AmbZ zb
  good : ∃ env, Good ty zb st a.tmps w env

variable {ty}
theorem RO.own {w : World} {hp : Hp} {env : Env} {n : Nat} {t : Tag} {l : List (T t)} {co : CO} (h : RO ty w hp env n (.arr t l) co) : Own 0 w co.fp := by
  replace h : RArr ty w n t l co := h
  unfold RArr at h
  split at h
  · exact h.2
  · exact Bld.own h
theorem RO.sl {w : World} {hp : Hp} {env : Env} {n : Nat} {t : Tag} {l : List (T t)} {co : CO} (h : RO ty w hp env n (.arr t l) co) : Sl (kk t) (rd t) w co.v l co.fp := by
  replace h : RArr ty w n t l co := h
  unfold RArr at h
  split at h
  · exact h.1
  · exact Bld.sl h
theorem RO.bld {w : World} {hp : Hp} {env : Env} {n : Nat} {t : Tag} {l : List (T t)} {co : CO} (hn : soft n = false) (h : RO ty w hp env n (.arr t l) co) : Bld (kk t) (rd t) 0 (ty t) w co.v l co.fp := by
  replace h : RArr ty w n t l co := h
  unfold RArr at h
  rw [hn] at h
  exact h
theorem RO.ofBld {w : World} {hp : Hp} {env : Env} {n : Nat} {t : Tag} {l : List (T t)} {co : CO} (h : Bld (kk t) (rd t) 0 (ty t) w co.v l co.fp) : RO ty w hp env n (.arr t l) co := by
  show RArr ty w n t l co
  unfold RArr
  split
  · exact ⟨Bld.sl h, Bld.own h⟩
  · exact h
theorem RO.ofSoft {w : World} {hp : Hp} {env : Env} {n : Nat} {t : Tag} {l : List (T t)} {co : CO} (hn : soft n = true) (h : Sl (kk t) (rd t) w co.v l co.fp) (ho : Own 0 w co.fp) : RO ty w hp env n (.arr t l) co := by
  show RArr ty w n t l co
  unfold RArr
  rw [hn]
  exact ⟨h, ho⟩
theorem soft_add (m : Nat) : soft (m + 900) = true := by
  unfold soft
  exact Nat.ble_eq_true_of_le (Nat.le_add_left 900 m)
theorem pin_soft {n : Nat} (h : pin n = true) : soft n = true := by
  unfold pin at h; unfold soft
  exact Nat.ble_eq_true_of_le (Nat.le_trans (by decide) (Nat.le_of_ble_eq_true h))
theorem soft_pin {n : Nat} (h : soft n = false) : pin n = false := by
  cases hp : pin n with
  | false => rfl
  | true => rw [pin_soft hp] at h; cases h
theorem RO.agree {w w' : World} {hp hp' : Hp} {env env' : Env} {n : Nat} {t : Tag} {l : List (T t)} {co : CO} (h : RO ty w hp env n (.arr t l) co) (hk : ∀ b, b ∈ co.fp → w'.heap[b]? = w.heap[b]?) : RO ty w' hp' env' n (.arr t l) co := by
  replace h : RArr ty w n t l co := h
  show RArr ty w' n t l co
  unfold RArr at h ⊢
  split at h
  · exact ⟨Sl.agree (fine t) h.1 hk, h.2.agree hk⟩
  · exact Bld.agree (fine t) h hk
theorem RO.blk {w : World} {hp : Hp} {env : Env} {n : Nat} {o : Obj} {co : CO} (h : RO ty w hp env n o co) : ∀ b, b ∈ co.fp → b < w.heap.size := by
  cases o with
  | box c =>
    obtain ⟨b, cs, e, rfl, hh, _⟩ := h
    intro x hx
    simp at hx
    subst hx
    exact sizeB hh
  | arr t l => exact fun b hb => (RO.own h).lt b hb
theorem Good.ow {zb : Base} {st : St} {tmps : Array Value} {w : World} {env : Env} (h : Good ty zb st tmps w env) {b : Nat} (hb : Ow st.hp env b) : (b ∈ zb.L ∨ zb.w.heap.size ≤ b) ∧ b < w.heap.size := by
  obtain ⟨n, o, h1, h2⟩ := hb
  exact ⟨h.dom n o h1 b h2, (h.obj n o h1).blk b h2⟩

/-- A name that a value mentions. -/
def V.name : V → Option Nat
  | .own n | .ptr n _ | .eptr n _ _ | .vw n _ _ _ | .vip n _ _ _ _ | .bsl n _ _ | .fnp _ n => some n
  | _ => none
/-- The object into whose memory a value looks. -/
def V.view : V → Option Nat
  | .vw n _ _ _ | .vip n _ _ _ _ | .bsl n _ _ => some n
  | _ => none
/-- What a value hangs on is of K; into what it looks is of V. -/
def V.hangs (K KV : Nat → Prop) (v : V) : Prop := (∀ n, v.name = some n → K n) ∧ ∀ n, v.view = some n → KV n
theorem V.view_name {v : V} {n : Nat} (h : v.view = some n) : v.name = some n := by
  cases v <;> simp_all [V.view, V.name]
theorem V.hangs_all (v : V) : v.hangs (fun _ => True) (fun _ => True) := ⟨fun _ _ => trivial, fun _ _ => trivial⟩
/-- The same kind of object. -/
def Obj.like : Obj → Obj → Prop
  | .box _, .box _ => True
  | .arr t _, .arr t' _ => t = t'
  | _, _ => False
/-- From one state of memory and objects to a later one: what is not owned is as it was; nothing old has become owned; the names of K stay what they are; the objects of KV are as they were. -/
structure Step (K KV : Nat → Prop) (w : World) (hp : Hp) (env : Env) (w' : World) (hp' : Hp) (env' : Env) : Prop where
  keep : ∀ b, b < w.heap.size → ¬ Ow hp env b → w'.heap[b]? = w.heap[b]?
  own : ∀ b, b < w.heap.size → Ow hp' env' b → Ow hp env b
  name : ∀ n o, K n → look hp n = some o → ∃ o', look hp' n = some o' ∧ o.like o' ∧ (env' n).v = (env n).v
  view : ∀ n t l, KV n → look hp n = some (.arr t l) → look hp' n = some (.arr t l) ∧ env' n = env n ∧ ∀ b, b ∈ (env n).fp → w'.heap[b]? = w.heap[b]?
section
variable {K KV : Nat → Prop} {w w' : World} {hp hp' : Hp} {env env' : Env}
theorem RA.step (s : Step K KV w hp env w' hp' env') {v : V} {u : Value} (hv : v.hangs K KV) (h : RA w hp env v u) : RA w' hp' env' v u := by
  obtain ⟨hv, hw⟩ := hv
  cases v with
  | any => trivial
  | lit v => exact h
  | sl t l =>
    obtain ⟨fp, h1, h2⟩ := h
    have hlt := Sl.lt (fine t) h1
    exact ⟨fp, Sl.agree (fine t) h1 (fun b hb => s.keep b (hlt b hb) (h2 b hb)), fun b hb hw => h2 b hb (s.own b (hlt b hb) hw)⟩
  | own n =>
    obtain ⟨⟨t, l, hl⟩, hu⟩ := h
    obtain ⟨o', h1, h2, h3⟩ := s.name n _ (hv n rfl) hl
    cases o' with
    | box c => exact h2.elim
    | arr t' l' => exact ⟨⟨t', l', h1⟩, by rw [hu, h3]⟩
  | ptr n off =>
    obtain ⟨⟨c, hl⟩, b, hb, hu⟩ := h
    obtain ⟨o', h1, h2, h3⟩ := s.name n _ (hv n rfl) hl
    cases o' with
    | box c' => exact ⟨⟨c', h1⟩, b, by rw [h3, hb], hu⟩
    | arr t' l' => exact h2.elim
  | husk k => exact h
  | fnp f n =>
    obtain ⟨⟨c, hl⟩, b, hb, hu⟩ := h
    obtain ⟨o', h1, h2, h3⟩ := s.name n _ (hv n rfl) hl
    cases o' with
    | box c' => exact ⟨⟨c', h1⟩, b, by rw [h3, hb], hu⟩
    | arr t' l' => exact h2.elim
  | eptr n i off =>
    obtain ⟨t, l, hl, b, o, len, cap, hb, hu⟩ := h
    obtain ⟨o', h1, h2, h3⟩ := s.name n _ (hv n rfl) hl
    cases o' with
    | box c' => exact h2.elim
    | arr t' l' =>
      have : t = t' := h2
      subst this
      exact ⟨t, l', h1, b, o, len, cap, by rw [h3, hb], hu⟩
  | ip t x off =>
    obtain ⟨b, o, cs, fp, hu, hb, hr, hE, h1, h2⟩ := h
    have hlt := (fine t).lt hE
    have hkb := s.keep b hb h1
    refine ⟨b, o, cs, fp, hu, ?_, fun j v hv => ?_, (fine t).agree hE (fun c hc => s.keep c (hlt c hc) (h2 c hc)), fun hw => h1 (s.own b hb hw), fun c hc hw => h2 c hc (s.own c (hlt c hc) hw)⟩
    · have h3 : w.heap[b]? = some w.heap[b] := by simp [hb]
      rw [h3] at hkb
      exact (Array.getElem?_eq_some_iff.1 hkb).1
    · rw [World.cell?_of_block (w := w) (a := ⟨b, _, none⟩) hkb]; exact hr j v hv
  | vw n p t l =>
    have vwk : ∀ {p : Option (Nat × Nat)} {l : List (T t)} {u : Value}, RV w hp env n p t l u → RV w' hp' env' n p t l u := by
      rintro p l u ⟨⟨tA, lA, hl⟩, ⟨fp, h1, hnd, h2⟩, h3⟩
      obtain ⟨q1, q2, q3⟩ := s.view n _ _ (hw n rfl) hl
      refine ⟨⟨tA, lA, q1⟩, ⟨fp, Sl.agree (fine t) h1 (fun b hb => q3 b (h2 b hb)), hnd, fun b hb => by rw [q2]; exact h2 b hb⟩, fun i off hp => ?_⟩
      obtain ⟨t0, l0, b, o, len, cap, k1, k2, k3, k4, k5, k6⟩ := h3 i off hp
      rw [hl] at k1
      refine ⟨t0, l0, b, o, len, cap, by rw [q1]; exact k1, k2, k3, by rw [q2]; exact k4, by rw [q2]; exact k5, ?_⟩
      rw [World.cell?_of_block (w := w) (a := ⟨b, _, none⟩) (q3 b k5)]; exact k6
    exact vwk h
  | bsl n t l =>
    obtain ⟨⟨tA, lA, hl⟩, b, fp, h1, hb, hnd, h2⟩ := h
    obtain ⟨q1, q2, q3⟩ := s.view n _ _ (hw n rfl) hl
    have hlt := Sl.lt (fine t) h1
    have hbl := hlt b (by simp)
    refine ⟨⟨tA, lA, q1⟩, b, fp, Sl.agree (fine t) h1 (fun c hc => ?_), fun hw => hb (s.own b hbl hw), hnd, fun c hc => by rw [q2]; exact h2 c hc⟩
    rcases List.mem_cons.1 hc with rfl | hc
    · exact s.keep _ hbl hb
    · exact q3 c (h2 c hc)
  | vip n p t x off =>
    have vwk : ∀ {p : Option (Nat × Nat)} {l : List (T t)} {u : Value}, RV w hp env n p t l u → RV w' hp' env' n p t l u := by
      rintro p l u ⟨⟨tA, lA, hl⟩, ⟨fp, h1, hnd, h2⟩, h3⟩
      obtain ⟨q1, q2, q3⟩ := s.view n _ _ (hw n rfl) hl
      refine ⟨⟨tA, lA, q1⟩, ⟨fp, Sl.agree (fine t) h1 (fun b hb => q3 b (h2 b hb)), hnd, fun b hb => by rw [q2]; exact h2 b hb⟩, fun i off hp => ?_⟩
      obtain ⟨t0, l0, b, o, len, cap, k1, k2, k3, k4, k5, k6⟩ := h3 i off hp
      rw [hl] at k1
      refine ⟨t0, l0, b, o, len, cap, by rw [q1]; exact k1, k2, k3, by rw [q2]; exact k4, by rw [q2]; exact k5, ?_⟩
      rw [World.cell?_of_block (w := w) (a := ⟨b, _, none⟩) (q3 b k5)]; exact k6
    obtain ⟨⟨tA, lA, hl⟩, b, o, cs, fp, hu, hb, hr, hE, hnd, h2, h3⟩ := h
    obtain ⟨q1, q2, q3⟩ := s.view n _ _ (hw n rfl) hl
    refine ⟨⟨tA, lA, q1⟩, b, o, cs, fp, hu, by rw [q2]; exact hb, fun j v hv => ?_, (fine t).agree hE (fun c hc => q3 c (h2 c hc)), hnd, fun c hc => by rw [q2]; exact h2 c hc, fun i o2 j hp => ?_⟩
    · rw [World.cell?_of_block (w := w) (a := ⟨b, _, none⟩) (q3 b hb)]; exact hr j v hv
    · obtain ⟨l, u0, b0, off0, len, cap, k1, k2⟩ := h3 i o2 j hp
      exact ⟨l, u0, b0, off0, len, cap, vwk k1, k2⟩
end
def S1.vs : S1 → List V
  | .a v => [v]
  | .agg l => l
def SV.vs : SV → List V
  | .one x => x.vs
  | .tup l => l.flatMap S1.vs
  | .cond _ x => x.vs
section
variable {K KV : Nat → Prop} {w w' : World} {hp hp' : Hp} {env env' : Env}
theorem RS1.step (s : Step K KV w hp env w' hp' env') {x : S1} {u : Value} (hv : ∀ v, v ∈ x.vs → v.hangs K KV) (h : RS1 w hp env x u) : RS1 w' hp' env' x u := by
  cases x with
  | a v => exact RA.step s (hv v (by simp [S1.vs])) h
  | agg l =>
    obtain ⟨cs, hu, hl⟩ := h
    exact ⟨cs, hu, hl.mono fun a b ha hr => RA.step s (hv a ha) hr⟩
theorem RSV.step (s : Step K KV w hp env w' hp' env') {tmps : Array Value} {x : SV} {u : Value} (hv : ∀ v, v ∈ x.vs → v.hangs K KV) (h : RSV w hp env tmps x u) : RSV w' hp' env' tmps x u := by
  cases x with
  | one x => exact RS1.step s hv h
  | tup l =>
    obtain ⟨us, hu, hl⟩ := h
    exact ⟨us, hu, hl.mono fun a b ha hr => RS1.step s (fun v hn => hv v (by simp only [SV.vs, List.mem_flatMap]; exact ⟨a, ha, hn⟩)) hr⟩
  | cond p x => exact ⟨fun hh => RS1.step s hv (h.1 hh), h.2⟩
theorem RO.step (s : Step K KV w hp env w' hp' env') {n : Nat} {o : Obj} {co : CO} (hv : ∀ c, o = .box c → ∀ v, v ∈ c → v.hangs K KV)
    (hk : ∀ b, b ∈ co.fp → w'.heap[b]? = w.heap[b]?) (h : RO ty w hp env n o co) : RO ty w' hp' env' n o co := by
  cases o with
  | box c =>
    obtain ⟨b, cs, e, rfl, hh, hc⟩ := h
    exact ⟨b, cs, e, rfl, by rw [hk b (by simp)]; exact hh, hc.mono fun a u ha hr => RA.step s (hv c rfl a ha) hr⟩
  | arr t l => exact RO.agree h hk
end

theorem look_app_none {α : Type} : ∀ {os : List (Nat × α)} {l : List (Nat × α)} {n : Nat}, look os n = none → look (os ++ l) n = look l n
  | [], _, _, _ => rfl
  | (j, x) :: r, l, n, h => by
    simp only [look, List.cons_append] at h ⊢
    split at h
    · cases h
    · exact look_app_none h
theorem look_app_some {α : Type} : ∀ {os : List (Nat × α)} {l : List (Nat × α)} {n : Nat} {x : α}, look os n = some x → look (os ++ l) n = some x
  | (j, y) :: r, l, n, x, h => by
    simp only [look, List.cons_append] at h ⊢
    split at h
    · exact h
    · exact look_app_some h
theorem look_mem {α : Type} : ∀ {os : List (Nat × α)} {n : Nat} {x : α}, look os n = some x → (n, x) ∈ os
  | (j, y) :: r, n, x, h => by
    simp only [look] at h
    split at h
    · rename_i hb
      have : n = j := Nat.eq_of_beq_eq_true hb
      simp at h
      simp [h, this]
    · exact List.mem_cons_of_mem _ (look_mem h)
theorem fresh_spec {hp : Hp} : ∀ {os : Hp}, fresh hp os = true → ∀ n o, look os n = some o → look hp n = none
  | (j, y) :: r, h, n, o, hl => by
    simp only [fresh, Bool.and_eq_true] at h
    simp only [look] at hl
    split at hl
    · rename_i hb
      have : n = j := Nat.eq_of_beq_eq_true hb
      subst this
      cases hq : look hp n with
      | none => rfl
      | some z => simp [hq] at h
    · exact fresh_spec h.2 n o hl

theorem fresh_pin {hp : Hp} : ∀ {os : Hp}, fresh hp os = true → ∀ n o, look os n = some o → pin n = false
  | (j, y) :: r, h, n, o, hl => by
    simp only [fresh, Bool.and_eq_true] at h
    simp only [look] at hl
    split at hl
    · rename_i hb
      have : n = j := Nat.eq_of_beq_eq_true hb
      subst this
      simpa using h.1.2
    · exact fresh_pin h.2 n o hl
/-- New objects in a grown world. -/
structure News (w w' : World) (hp : Hp) (os : Hp) (env env' : Env) : Prop where
  below : Below w.heap.size w w'
  old : ∀ n, look os n = none → env' n = env n
  obj : ∀ n o, look os n = some o → RO ty w' (os ++ hp) env' n o (env' n) ∧ ∀ b, b ∈ (env' n).fp → w.heap.size ≤ b
  dis : ∀ n m o o', n ≠ m → look os n = some o → look os m = some o' → ∀ b, b ∈ (env' n).fp → b ∉ (env' m).fp
theorem News.none {w w' : World} {hp : Hp} {env : Env} (h : Below w.heap.size w w') : News (ty := ty) w w' hp [] env env :=
  ⟨h, fun _ _ => rfl, fun _ _ h => by simp [look] at h, fun _ _ _ _ _ h => by simp [look] at h⟩
/-- The step from a state to one with new objects. -/
theorem News.step {zb : Base} {st : St} {tmps : Array Value} {w w' : World} {os : Hp} {env env' : Env} (g : Good ty zb st tmps w env) (hf : fresh st.hp os = true) (h : News (ty := ty) w w' st.hp os env env') :
    Step (fun _ => True) (fun _ => True) w st.hp env w' (os ++ st.hp) env' where
  keep := fun b hb _ => h.below.block b hb
  own := by
    rintro b hb ⟨n, o, h1, h2⟩
    cases hn : look os n with
    | none =>
      rw [look_app_none hn] at h1
      rw [h.old n hn] at h2
      exact ⟨n, o, h1, h2⟩
    | some o' =>
      have := (h.obj n o' hn).2 b h2
      omega
  name := by
    intro n o _ h1
    have hn : look os n = .none := by
      cases hn : look os n with
      | none => rfl
      | some o' => rw [fresh_spec hf n o' hn] at h1; cases h1
    refine ⟨o, by rw [look_app_none hn]; exact h1, ?_, by rw [h.old n hn]⟩
    cases o <;> simp [Obj.like]
  view := by
    intro n t l _ h1
    have hn : look os n = .none := by
      cases hn : look os n with
      | none => rfl
      | some o' => rw [fresh_spec hf n o' hn] at h1; cases h1
    exact ⟨by rw [look_app_none hn]; exact h1, h.old n hn, fun b hb => h.below.block b ((g.obj n _ h1).blk b hb)⟩
theorem Good.grow {zb : Base} {st : St} {tmps : Array Value} {w w' : World} {os : Hp} {env env' : Env} (hB : zb.w.heap.size ≤ w.heap.size) (g : Good ty zb st tmps w env) (hf : fresh st.hp os = true) (h : News (ty := ty) w w' st.hp os env env') :
    Good ty zb ⟨st.n, st.sl, os ++ st.hp⟩ tmps w' env' := by
  have s := h.step g hf
  refine ⟨fun n o hl => ?_, fun n m o o' hne h1 h2 b hb hb' => ?_, fun t v hl => RSV.step s (fun v _ => v.hangs_all) (g.slot t v hl), fun n o hl b hb => ?_, fun n hn => ?_⟩
  · cases hn : look os n with
    | some o' =>
      rw [look_app_some hn] at hl
      simp only [Option.some.injEq] at hl
      subst hl
      exact (h.obj n _ hn).1
    | none =>
      rw [look_app_none hn] at hl
      rw [h.old n hn]
      have hro := g.obj n o hl
      exact hro.step s (fun _ _ v _ => v.hangs_all) (fun b hb => h.below.block b (hro.blk b hb))
  · cases hn : look os n with
    | some x =>
      cases hm : look os m with
      | some y => exact h.dis n m x y hne hn hm b hb hb'
      | none =>
        rw [look_app_none hm] at h2
        rw [h.old m hm] at hb'
        have h3 := (h.obj n x hn).2 b hb
        have h4 := (g.obj m o' h2).blk b hb'
        omega
    | none =>
      rw [look_app_none hn] at h1
      rw [h.old n hn] at hb
      cases hm : look os m with
      | some y =>
        have h3 := (h.obj m y hm).2 b hb'
        have h4 := (g.obj n o h1).blk b hb
        omega
      | none =>
        rw [look_app_none hm] at h2
        rw [h.old m hm] at hb'
        exact g.dis n m o o' hne h1 h2 b hb hb'
  · cases hn : look os n with
    | some x => exact Or.inr (Nat.le_trans hB ((h.obj n x hn).2 b hb))
    | none =>
      rw [look_app_none hn] at hl
      rw [h.old n hn] at hb
      exact g.dom n o hl b hb
  · cases hq : look os n with
    | none => rw [h.old n hq]; exact g.pins n hn
    | some x => have := fresh_pin hf n x hq; rw [hn] at this; cases this
end Go.Proofs.YtjknhnhcbadigaaDoor.G
