/-
  A symbolic machine on data: what operations do, said on values and on objects that the call owns. Definitions alone; no program in sight.
-/
import Derived.Test.YthlflnplnajjiaaU2
namespace Go.Proofs.Ythlflnplnajjiaa.G
set_option linter.all false
open Go.RowKit L D
/-- A cell's value, or a struct's cells. -/
inductive S1 where
  | a (v : V)
  | agg (l : List V)
/-- What a slot holds. 'cond p x': x where the slots of p hold those bools, else nothing. -/
inductive SV where
  | one (x : S1)
  | tup (l : List S1)
  | cond (p : List (Nat × Bool)) (x : S1)
/-- What the call owns: a variable in memory, a slice. -/
inductive Obj where
  | box (c : List V)
  | arr (t : Tag) (l : List (T t))
structure St where
  n : Nat
  sl : List (Nat × SV)
  hp : List (Nat × Obj)
/-- Kinds of types. 'sl t e': a slice with elements of kind t, of type e. 'st': a struct: its zero cells, the kinds of its slices' elements, its fields' places. -/
inductive TK where
  | int (k : IntKind)
  | bool
  | str
  | sl (t : Tag) (e : Nat)
  | st (z : List Value) (tg : List (Option Tag)) (fo : List Nat)
  | other
abbrev nilv : Value := .slice none 0 0
/-- Names from 1000 on are lent to the call: they are never given away. -/
def pin (n : Nat) : Bool := Nat.ble 1000 n
def look {α : Type} : List (Nat × α) → Nat → Option α
  | [], _ => none
  | (j, x) :: r, i => match Nat.beq i j with | true => some x | false => look r i
def subp (q p : List (Nat × Bool)) : Bool := q.all fun e => p.any fun f => Nat.beq e.1 f.1 && e.2 == f.2
def SV.mentions (d : Nat) : SV → Bool
  | .cond p _ => p.any fun e => Nat.beq e.1 d
  | _ => false
def SV.drops (d : Nat) (v : SV) : SV := match v.mentions d with | true => .one (.a .any) | false => v
/-- A slot is written. -/
def St.put (st : St) (d : Option Nat) (v : SV) : St :=
  match d with
  | some d => match st.sl.any fun e => e.2.mentions d with
    | false => ⟨st.n, (d, v) :: st.sl, st.hp⟩
    | true => ⟨st.n, (d, v) :: st.sl.map fun e => (e.1, e.2.drops d), st.hp⟩
  | none => st
/-- An operand's value where the path p holds. -/
def opv (st : St) (p : List (Nat × Bool)) : Operand → Option S1
  | .tmp t => match look st.sl t with
    | some (.one x) => some x
    | some (.cond q x) => match subp q p with | true => some x | false => none
    | _ => none
  | .const v => match v.oneCell' with | true => some (.a (.lit v)) | false => none
  | .func f => some (.a (.lit (.func (.func f) #[] #[])))
  | .global _ => none
/-- Integers: what must hold, and the result. -/
def bop (op : BinOp) (k : IntKind) (x y : Int) : Option (List Prop × Value) :=
  match op with
  | .add => some ([], .int k (k.wrap (x + y)))
  | .sub => some ([], .int k (k.wrap (x - y)))
  | .mul => some ([], .int k (k.wrap (x * y)))
  | .quo => some ([y ≠ 0], .int k (k.wrap (x.tdiv y)))
  | .rem => some ([y ≠ 0], .int k (x.tmod y))
  | .eql => some ([], .bool (x == y))
  | .neq => some ([], .bool (x != y))
  | .lss => some ([], .bool (decide (x < y)))
  | .leq => some ([], .bool (decide (x ≤ y)))
  | .gtr => some ([], .bool (decide (x > y)))
  | .geq => some ([], .bool (decide (x ≥ y)))
  | .and => some ([], .int k (k.wrap (BitVec.ofInt k.bits x &&& BitVec.ofInt k.bits y).toNat))
  | .or => some ([], .int k (k.wrap (BitVec.ofInt k.bits x ||| BitVec.ofInt k.bits y).toNat))
  | .xor => some ([], .int k (k.wrap (BitVec.ofInt k.bits x ^^^ BitVec.ofInt k.bits y).toNat))
  | _ => none
/-- Integers, of kinds that shifts mix. -/
def ibop (op : BinOp) (k k' : IntKind) (x y : Int) : Option (List Prop × Value) :=
  match op with
  | .shl => some ([0 ≤ y], .int k (k.wrap (x * 2 ^ (min y.toNat k.bits))))
  | .shr => some ([0 ≤ y], .int k (x.fdiv (2 ^ (min y.toNat k.bits))))
  | op => match decEq k k' with | isTrue _ => bop op k x y | isFalse _ => none
/-- Strings. -/
def sbop (op : BinOp) (x y : ByteArray) : Option (List Prop × Value) :=
  match op with
  | .eql => some ([], .bool (x.toList == y.toList))
  | .neq => some ([], .bool !(x.toList == y.toList))
  | .add => some ([((x.size + y.size : Nat) : Int) ≤ IntKind.i64.max], .string (x ++ y))
  | _ => none
/-- Bytes as a string. -/
def str8 (l : List UInt8) : ByteArray := ⟨l.toArray⟩
def bytesOf (st : St) : V → Option (List UInt8)
  | .sl .u8 l => some l
  | .own n => match look st.hp n with | some (.arr .u8 l) => some l | _ => none
  | .vw _ _ .u8 l => some l
  | .lit (.slice none 0 0) => some []
  | _ => none
/-- A slice's elements. -/
def lenOf (st : St) (k : TK) : V → Option Int
  | .sl _ l => match k with | .sl _ _ => some (l.length : Int) | _ => none
  | .own n => match k with
    | .sl _ _ => match look st.hp n with | some (.arr _ l) => some (l.length : Int) | _ => none
    | _ => none
  | .vw _ _ _ l => match k with | .sl _ _ => some (l.length : Int) | _ => none
  | .lit (.slice none 0 0) => match k with | .sl _ _ => some 0 | _ => none
  | .lit (.string s) => match k with | .str => some (s.size : Int) | _ => none
  | _ => none
/-- A cell as it is handed over: immutable. -/
def imm (st : St) (tg : Option Tag) : V → Option V
  | .sl t l => some (.sl t l)
  | .own n => match look st.hp n with | some (.arr t l) => some (.sl t l) | _ => none
  | .vw _ _ t l => some (.sl t l)
  | .lit (.slice none 0 0) => match tg with | some t => some (.sl t []) | none => none
  | .lit (.slice _ _ _) => none
  | .lit v => some (.lit v)
  | _ => none
def imms (st : St) : List (Option Tag) → List V → Option (List V)
  | _, [] => some []
  | tg, v :: r => match imm st (match tg with | t :: _ => t | [] => none) v, imms st (match tg with | _ :: ts => ts | [] => []) r with
    | some x, some y => some (x :: y)
    | _, _ => none
/-- An argument as it is handed over. -/
def arg1 (st : St) (k : TK) : S1 → Option S1
  | .a v => match imm st (match k with | .sl t _ => some t | _ => none) v with | some x => some (.a x) | none => none
  | .agg l => match imms st (match k with | .st _ tg _ => tg | _ => []) l with | some x => some (.agg x) | none => none
def args (Γ : Nat → TK) (st : St) (p : List (Nat × Bool)) : List Operand → List Nat → Option (List S1)
  | [], _ => some []
  | x :: r, t => match opv st p x with
    | some v => match arg1 st (match t with | t :: _ => Γ t | [] => .other) v, args Γ st p r (match t with | _ :: ts => ts | [] => []) with
      | some y, some ys => some (y :: ys)
      | _, _ => none
    | none => none
/-- A call's result: its cells; own: its slices become the caller's own. -/
structure CR where
  own : Bool
  rs : List S1
/-- Result cells become objects of the caller: names from m on. -/
def adopt (m : Nat) : List V → List V × List (Nat × Obj)
  | [] => ([], [])
  | .sl t l :: r => match adopt (m + 1) r with | (vs, os) => (.own m :: vs, (m, .arr t l) :: os)
  | v :: r => match adopt (m + 1) r with | (vs, os) => (v :: vs, os)
def adopt1 (m : Nat) : S1 → S1 × List (Nat × Obj)
  | .a v => match adopt m [v] with | ([v'], os) => (.a v', os) | _ => (.a .any, [])
  | .agg l => match adopt m l with | (l', os) => (.agg l', os)
def adopts (m : Nat) : List S1 → List S1 × List (Nat × Obj)
  | [] => ([], [])
  | x :: r => match adopt1 m x, adopts (m + 20) r with | (x', os), (r', os') => (x' :: r', os ++ os')
/-- No name twice. -/
def nodupk : List (Nat × Obj) → Bool
  | [] => true
  | (n, _) :: r => (match look r n with | none => true | some _ => false) && nodupk r
/-- Names that are new. -/
def fresh (hp : List (Nat × Obj)) : List (Nat × Obj) → Bool
  | [] => true
  | (n, _) :: r => ((match look hp n with | none => true | some _ => false) && !pin n) && fresh hp r
/-- The outcome of an operation that turns nothing: what must hold, its value, new objects. -/
structure Out where
  vc : List Prop
  v : SV
  o : List (Nat × Obj)
def outs (m : Nat) (c : CR) (vc : List Prop) : Out :=
  match c.own with
  | true => match adopts m c.rs with
    | ([x], os) => ⟨vc, .one x, os⟩
    | (l, os) => ⟨vc, .tup l, os⟩
  | false => match c.rs with
    | [x] => ⟨vc, .one x, []⟩
    | l => ⟨vc, .tup l, []⟩
/-- The cells of a struct from a place on. -/
def sub (c : List V) (off k : Nat) : Option (List V) := match Nat.ble (off + k) c.length with | true => some ((c.drop off).take k) | false => none
def elt : List V → Nat → Option V
  | [], _ => none
  | v :: _, 0 => some v
  | _ :: r, n + 1 => elt r n
def offs : List Nat → Nat → Option Nat
  | [], _ => none
  | v :: _, 0 => some v
  | _ :: r, n + 1 => offs r n
/-- A function's value, that holds nothing. -/
def fnOf : S1 → Option FuncId
  | .a (.lit (.func (.func f) ⟨[]⟩ ⟨[]⟩)) => some f
  | _ => none
/-- A bound of a slice expression. -/
def bnd (st : St) (p : List (Nat × Bool)) (z : Int) : Option Operand → Option Int
  | none => some z
  | some x => match opv st p x with | some (.a (.lit (.int _ i))) => some i | _ => none
/-- A cell of an object's element, as it is read: slices are views. -/
def bor (n : Nat) (p : Option (Nat × Nat)) : V → V
  | .sl t l => .vw n p t l
  | .lit v => .lit v
  | _ => .any
/-- The cells of an object's element from a place on. -/
def bors (n i : Nat) : Nat → List V → List V
  | _, [] => []
  | o, v :: r => bor n (some (i, o)) v :: bors n i (o + 1) r
def borN (n : Nat) : List V → List V
  | [] => []
  | v :: r => bor n none v :: borN n r
/-- An integer operand. -/
def iopv (st : St) (p : List (Nat × Bool)) (x : Operand) : Option (IntKind × Int) := match opv st p x with | some (.a (.lit (.int k i))) => some (k, i) | _ => none
def iopvs (st : St) (p : List (Nat × Bool)) : List Operand → Option (List (IntKind × Int))
  | [] => some []
  | x :: r => match iopv st p x, iopvs st p r with | some y, some ys => some (y :: ys) | _, _ => none
def maxi (x y : Int) : Int := if y > x then y else x
def mini (x y : Int) : Int := if y < x then y else x
def foldi (f : Int → Int → Int) (k : IntKind) : Int → List (IntKind × Int) → Option Int
  | x, [] => some x
  | x, (k', y) :: r => match decEq k k' with | isTrue _ => foldi f k (f x y) r | isFalse _ => none
/-- Cells that hold no memory. -/
def plain : List V → Bool
  | [] => true
  | .lit (.slice _ _ _) :: _ => false
  | .lit _ :: r => plain r
  | _ => false
def cellsOf : S1 → List V
  | .a v => [v]
  | .agg l => l
/-- The elements of a slice that is written out, none of them with memory. -/
def qparts (st : St) (p : List (Nat × Bool)) (g : Tag) : Nat → List (Nat × Operand) → Option (List Prop × List (T g))
  | _, [] => some ([], [])
  | i, (j, x) :: r => match Nat.beq i j, opv st p x with
    | true, some s => match plain (cellsOf s), enc g (cellsOf s), qparts st p g (i + 1) r with
      | true, some (vc, y), some (vcs, ys) => some (vc ++ vcs, y :: ys)
      | _, _, _ => none
    | _, _ => none
/-- A field's size. -/
def fsz (n : Nat) (fo : List Nat) (j : Nat) : Option Nat := match offs fo j, offs fo (j + 1) with
  | some a, some b => some (b - a)
  | some a, none => some (n - a)
  | _, _ => none
def noany : List V → Bool
  | [] => true
  | .any :: _ => false
  | _ :: r => noany r
/-- Some of a list's places, written. -/
def spl (c : List V) (off : Nat) (vs : List V) : Option (List V) := match Nat.ble (off + vs.length) c.length with
  | true => some (c.take off ++ (vs ++ c.drop (off + vs.length)))
  | false => none
/-- A struct's cells out of its parts. -/
def bfill (st : St) (p : List (Nat × Bool)) (n : Nat) (fo : List Nat) : List (Nat × Operand) → List V → Option (List V)
  | [], c => some c
  | (j, x) :: r, c => match offs fo j, fsz n fo j, opv st p x with
    | some o, some k, some s => match noany (cellsOf s) && Nat.beq (cellsOf s).length k, spl c o (cellsOf s) with
      | true, some c' => bfill st p n fo r c'
      | _, _ => none
    | _, _, _ => none
def out1 (x : S1) : Option Out := some ⟨[], .one x, []⟩
/-- What an operation that turns nothing does. S: what it means that a call of f with those arguments gives those results. -/
def quiet (Γ : Nat → TK) (E : Tag → Nat → Prop) (S : FuncId → List S1 → List S1 → Prop) (cr : List (Nat × CR)) (st : St) (p : List (Nat × Bool)) (d m : Nat) : Op → Option Out
  | .move x | .assign x => match opv st p x with | some v => out1 v | none => none
  | .pick (.tmp c) x y => match opv st p (.tmp c), opv st ((c, true) :: p) x, opv st ((c, false) :: p) y with
    | some (.a (.lit (.bool t))), some (.a (.lit (.bool u))), some (.a (.lit (.bool v))) => out1 (.a (.lit (.bool (if t then u else v))))
    | _, _, _ => none
  | .box _ x => match opv st p x with
    | some (.agg l) => some ⟨[], .one (.a (.ptr m 0)), [(m, .box l)]⟩
    | some (.a .any) => none
    | some (.a v) => some ⟨[], .one (.a (.ptr m 0)), [(m, .box [v])]⟩
    | none => none
  | .alloc t => match Γ t with
    | .st z _ _ => some ⟨[], .one (.a (.ptr m 0)), [(m, .box (z.map .lit))]⟩
    | _ => none
  | .load t x => match opv st p x with
    | some (.a (.ptr n off)) => match look st.hp n with
      | some (.box c) => match Γ t with
        | .st z _ _ => match sub c off z.length with | some l => out1 (.agg l) | none => none
        | .other => none
        | _ => match elt c off with | some v => out1 (.a v) | none => none
      | _ => none
    | some (.a (.ip g y off)) => match Γ t with
        | .st z _ _ => match sub (dec g y) off z.length with | some l => out1 (.agg l) | none => none
        | .other => none
        | _ => match elt (dec g y) off with | some v => out1 (.a v) | none => none
    | some (.a (.vip n g y off)) => match Γ t with
        | .st z _ _ => match sub (dec g y) off z.length with | some l => out1 (.agg (borN n l)) | none => none
        | .other => none
        | _ => match elt (dec g y) off with | some v => out1 (.a (bor n none v)) | none => none
    | some (.a (.eptr n i off)) => match look st.hp n with
      | some (.arr g l) => match Γ t with
        | .st z _ _ => match sub (dec g (l.getD i (dfl g))) off z.length with | some c => some ⟨[i < l.length], .one (.agg (bors n i off c)), []⟩ | none => none
        | .other => none
        | _ => match elt (dec g (l.getD i (dfl g))) off with | some v => some ⟨[i < l.length], .one (.a (bor n (some (i, off)) v)), []⟩ | none => none
      | _ => none
    | _ => none
  | .binOp op _ x y _ => match opv st p x, opv st p y with
    | some (.a (.lit (.int k a))), some (.a (.lit (.int k' b))) => match ibop op k k' a b with | some (vc, v) => some ⟨vc, .one (.a (.lit v)), []⟩ | none => none
    | some (.a (.lit (.string a))), some (.a (.lit (.string b))) => match sbop op a b with | some (vc, v) => some ⟨vc, .one (.a (.lit v)), []⟩ | none => none
    | _, _ => none
  | .unOp .not _ x => match opv st p x with
    | some (.a (.lit (.bool t))) => out1 (.a (.lit (.bool (!t))))
    | _ => none
  | .convert s t x => match opv st p x, Γ s, Γ t with
    | some (.a (.lit (.int _ n))), .int _, .int k => out1 (.a (.lit (.int k (k.wrap n))))
    | some (.a v), .sl _ e, .str => match Γ e, bytesOf st v with
      | .int .u8, some l => out1 (.a (.lit (.string (str8 l))))
      | _, _ => none
    | _, _, _ => none
  | .slice t x lo hi none => match Γ t with
    | .sl g _ => match opv st p x, bnd st p 0 lo with
      | some (.a (.sl t' l)), some lo => match bnd st p l.length hi with
        | some hi => match Nat.beq (kk g) (kk t') with
          | true => some ⟨[0 ≤ lo ∧ lo ≤ hi ∧ hi ≤ (l.length : Int)], .one (.a (.sl t' ((l.take hi.toNat).drop lo.toNat))), []⟩
          | false => none
        | none => none
      | some (.a (.vw n _ t' l)), some lo => match bnd st p l.length hi with
        | some hi => match Nat.beq (kk g) (kk t') with
          | true => some ⟨[0 ≤ lo ∧ lo ≤ hi ∧ hi ≤ (l.length : Int)], .one (.a (.vw n none t' ((l.take hi.toNat).drop lo.toNat))), []⟩
          | false => none
        | none => none
      | some (.a (.own n)), some lo => match look st.hp n with
        | some (.arr t' l) => match bnd st p l.length hi with
          | some hi => match Nat.beq (kk g) (kk t') with
            | true => some ⟨[0 ≤ lo ∧ lo ≤ hi ∧ hi ≤ (l.length : Int)], .one (.a (.vw n none t' ((l.take hi.toNat).drop lo.toNat))), []⟩
            | false => none
          | none => none
        | _ => none
      | _, _ => none
    | .str => match opv st p x, bnd st p 0 lo with
      | some (.a (.lit (.string s))), some lo => match bnd st p s.size hi with
        | some hi => some ⟨[0 ≤ lo ∧ lo ≤ hi ∧ hi ≤ (s.size : Int)], .one (.a (.lit (.string (s.extract lo.toNat hi.toNat)))), []⟩
        | none => none
      | _, _ => none
    | _ => none
  | .fieldAddr t x f => match Γ t with
    | .st _ _ fo => match offs fo f with
      | some k => match opv st p x with
        | some (.a (.ptr n off)) => out1 (.a (.ptr n (off + k)))
        | some (.a (.ip t x off)) => out1 (.a (.ip t x (off + k)))
        | some (.a (.eptr n i off)) => out1 (.a (.eptr n i (off + k)))
        | some (.a (.vip n t x off)) => out1 (.a (.vip n t x (off + k)))
        | _ => none
      | none => none
    | _ => none
  | .indexAddr ty x i => match Γ ty with
    | .sl g _ => match opv st p x, opv st p i with
      | some (.a (.sl t l)), some (.a (.lit (.int _ i))) => match Nat.beq (kk g) (kk t) with
        | true => some ⟨[0 ≤ i ∧ i < (l.length : Int)], .one (.a (.ip t (l.getD i.toNat (dfl t)) 0)), []⟩
        | false => none
      | some (.a (.own n)), some (.a (.lit (.int _ i))) => match look st.hp n with
        | some (.arr t l) => match Nat.beq (kk g) (kk t) with
          | true => some ⟨[0 ≤ i ∧ i < (l.length : Int)], .one (.a (.eptr n i.toNat 0)), []⟩
          | false => none
        | _ => none
      | some (.a (.vw n _ t l)), some (.a (.lit (.int _ i))) => match Nat.beq (kk g) (kk t) with
        | true => some ⟨[0 ≤ i ∧ i < (l.length : Int)], .one (.a (.vip n t (l.getD i.toNat (dfl t)) 0)), []⟩
        | false => none
      | _, _ => none
    | _ => none
  | .makeSlice ty x y => match Γ ty with
    | .sl g e => match opv st p x, opv st p y with
      | some (.a (.lit (.int _ a))), some (.a (.lit (.int _ b))) => some ⟨[E g e, a = b, 0 ≤ a, a.toNat * byt g ≤ 140737488355328 ∧ a.toNat ≤ maxLen], .one (.a (.own m)), [(m, .arr g (List.replicate a.toNat (dfl g)))]⟩
      | _, _ => none
    | _ => none
  | .buildSlice ty len parts => match Γ ty with
    | .sl g e => match Nat.beq parts.toList.length len, Nat.ble (len * kk g) 16777216, qparts st p g 0 parts.toList with
      | true, true, some (vc, xs) => some ⟨E g e :: vc, .one (.a (.own m)), [(m, .arr g xs)]⟩
      | _, _, _ => none
    | _ => none
  | .build ty parts => match Γ ty with
    | .st z _ fo => match bfill st p z.length fo parts.toList (z.map .lit) with
      | some c => out1 (.agg c)
      | none => none
    | _ => none
  | .nilCheck x => match opv st p x with
    | some (.a (.ptr n off)) => out1 (.a (.ptr n off))
    | some (.a (.eptr n i off)) => out1 (.a (.eptr n i off))
    | _ => none
  | .call ⟨.builtin .max, xs, _⟩ => match iopvs st p xs.toList with
    | some ((k, x) :: r) => match foldi maxi k x r with | some y => out1 (.a (.lit (.int k y))) | none => none
    | _ => none
  | .call ⟨.builtin .min, xs, _⟩ => match iopvs st p xs.toList with
    | some ((k, x) :: r) => match foldi mini k x r with | some y => out1 (.a (.lit (.int k y))) | none => none
    | _ => none
  | .extract (.tmp t) i => match look st.sl t with
    | some (.tup l) => match l[i]? with | some x => out1 x | none => none
    | _ => none
  | .call ⟨.builtin .len, xs, ts⟩ => match xs.toList, ts.toList with
    | [x], [t] => match opv st p x with
      | some (.a v) => match lenOf st (Γ t) v with | some n => out1 (.a (.lit (.int .i64 n))) | none => none
      | _ => none
    | _, _ => none
  | .call ⟨.value (.func f), xs, ts⟩ => match args Γ st p xs.toList ts.toList, look cr d with
    | some as, some c => some (outs m c [S f as c.rs])
    | _, _ => none
  | .call ⟨.value (.tmp x), xs, ts⟩ => match opv st p (.tmp x) with
    | some v => match fnOf v with
      | some f => match args Γ st p xs.toList ts.toList, look cr d with
        | some as, some c => some (outs m c [S f as c.rs])
        | _, _ => none
      | none => none
    | none => none
  | _ => none
/-- The bools that a path asks for. -/
def hyps (st : St) : List (Nat × Bool) → List Prop
  | [] => []
  | (d, x) :: r => match look st.sl d with
    | some (.one (.a (.lit (.bool b)))) => (b = x) :: hyps st r
    | some (.cond _ (.a (.lit (.bool b)))) => (b = x) :: hyps st r
    | _ => hyps st r
def imps : List Prop → Prop → Prop
  | [], q => q
  | h :: r, q => h → imps r q
/-- Under which path an operation runs. -/
def guardp (st : St) (ops : List Oper) (o : Oper) : Option (List (Nat × Bool)) :=
  match o.guard with
  | none => some []
  | some (j, x) => match ops[j]? with
    | some q => match q.dst with
      | some d => match look st.sl d with
        | some (.one (.a (.lit (.bool _)))) => some [(d, x)]
        | some (.cond p (.a (.lit (.bool _)))) => some ((d, x) :: p)
        | _ => none
      | none => none
    | none => none
def dstok (st : St) : Option Nat → Bool
  | some d => Nat.blt d st.n
  | none => true
/-- The name of what an operation makes. -/
def nmOf (ren : List (Nat × Nat)) : Option Nat → Option Nat
  | some d => match look ren d with | some m => some m | none => some d
  | none => some 99999
/-- An operation that turns nothing: what must hold, the slot's value, new objects. -/
def qcore (Γ : Nat → TK) (E : Tag → Nat → Prop) (S : FuncId → List S1 → List S1 → Prop) (ren : List (Nat × Nat)) (cr : List (Nat × CR)) (ops : List Oper) (st : St) (o : Oper) : Option (List Prop × SV × List (Nat × Obj)) :=
  match dstok st o.dst, nmOf ren o.dst, guardp st ops o with
  | true, some m, some [] => match quiet Γ E S cr st [] (o.dst.getD 0) m o.op with
    | some ⟨vc, v, os⟩ => match fresh st.hp os, nodupk os with
      | true, true => some (vc, v, os)
      | _, _ => none
    | none => none
  | true, some m, some (e :: p) => match (e :: p).any (fun e => o.dst == some e.1) with
    | false => match quiet Γ E S cr st (e :: p) (o.dst.getD 0) m o.op with
      | some ⟨vc, .one v, []⟩ => some (vc.map (imps (hyps st (e :: p))), .cond (e :: p) v, [])
      | _ => none
    | true => none
  | _, _, _ => none
/-- An operation that turns nothing, run. -/
def qstep (Γ : Nat → TK) (E : Tag → Nat → Prop) (S : FuncId → List S1 → List S1 → Prop) (ren : List (Nat × Nat)) (cr : List (Nat × CR)) (ops : List Oper) (st : St) (o : Oper) : Option (List Prop × St) :=
  match qcore Γ E S ren cr ops st o with
  | some (vc, v, os) => some (vc, St.put ⟨st.n, st.sl, os ++ st.hp⟩ o.dst v)
  | none => none
end Go.Proofs.Ythlflnplnajjiaa.G
