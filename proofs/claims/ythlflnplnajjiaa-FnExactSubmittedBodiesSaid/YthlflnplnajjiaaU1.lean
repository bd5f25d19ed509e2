/-
  The universe of the program's data: a tag for each kind of slice element, its Lean type, its reading, its cells.
-/
import Derived.Test.YthlflnplnajjiaaL5
namespace Go.Proofs.Ythlflnplnajjiaa.G
set_option linter.all false
open Go.RowKit L D
/-- Kinds of data that are elements of slices, or structs. -/
inductive Tag where
  | int | u8 | str | sl (t : Tag) | DB | RShare | Srv | ARound | Arc | Cli | Dev | Wld | Ev | Trf | Rcp | Plain | SAns
  deriving DecidableEq
@[reducible] def T : Tag → Type
  | .int => Int
  | .u8 => UInt8
  | .str => List UInt8
  | .sl t => List (T t)
  | .DB => DB
  | .RShare => RShare
  | .Srv => Srv
  | .ARound => ARound
  | .Arc => Arc
  | .Cli => Cli
  | .Dev => Dev
  | .Wld => Wld
  | .Ev => Ev
  | .Trf => Trf
  | .Rcp => Rcp
  | .Plain => Plain
  | .SAns => SAns
def kk : Tag → Nat
  | .int => 1
  | .u8 => 1
  | .str => 1
  | .sl _ => 1
  | .DB => 1
  | .RShare => 2
  | .Srv => 5
  | .ARound => 2
  | .Arc => 2
  | .Cli => 8
  | .Dev => 16
  | .Wld => 10
  | .Ev => 4
  | .Trf => 3
  | .Rcp => 5
  | .Plain => 2
  | .SAns => 5
def rd : (t : Tag) → ER (T t)
  | .int => EInt
  | .u8 => EU8
  | .str => EStr
  | .sl t => ESl (kk t) (rd t)
  | .DB => EDB
  | .RShare => ERShare
  | .Srv => ESrv
  | .ARound => EARound
  | .Arc => EArc
  | .Cli => ECli
  | .Dev => EDev
  | .Wld => EWld
  | .Ev => EEv
  | .Trf => ETrf
  | .Rcp => ERcp
  | .Plain => EPlain
  | .SAns => ESAns
theorem fine : (t : Tag) → Fine (kk t) (rd t)
  | .int => good_int
  | .u8 => good_u8
  | .str => good_str
  | .sl t => good_sl (fine t)
  | .DB => good_DB
  | .RShare => good_RShare
  | .Srv => good_Srv
  | .ARound => good_ARound
  | .Arc => good_Arc
  | .Cli => good_Cli
  | .Dev => good_Dev
  | .Wld => good_Wld
  | .Ev => good_Ev
  | .Trf => good_Trf
  | .Rcp => good_Rcp
  | .Plain => good_Plain
  | .SAns => good_SAns
theorem kk_pos : (t : Tag) → 0 < kk t
  | .int => by decide
  | .u8 => by decide
  | .str => by decide
  | .sl _ => Nat.one_pos
  | .DB => by decide
  | .RShare => by decide
  | .Srv => by decide
  | .ARound => by decide
  | .Arc => by decide
  | .Cli => by decide
  | .Dev => by decide
  | .Wld => by decide
  | .Ev => by decide
  | .Trf => by decide
  | .Rcp => by decide
  | .Plain => by decide
  | .SAns => by decide
def dfl : (t : Tag) → T t
  | .int => (0 : Int)
  | .u8 => (0 : UInt8)
  | .str => ([] : List UInt8)
  | .sl t => ([] : List (T t))
  | .DB => (default : DB)
  | .RShare => (default : RShare)
  | .Srv => (default : Srv)
  | .ARound => (default : ARound)
  | .Arc => (default : Arc)
  | .Cli => (default : Cli)
  | .Dev => (default : Dev)
  | .Wld => (default : Wld)
  | .Ev => (default : Ev)
  | .Trf => (default : Trf)
  | .Rcp => (default : Rcp)
  | .Plain => (default : Plain)
  | .SAns => (default : SAns)
/-- What a cell holds, symbolically. -/
inductive V where
  | any
  | lit (v : Value)
  | sl (t : Tag) (l : List (T t))
  | own (n : Nat)
  | ptr (n off : Nat)
  | eptr (n i off : Nat)
  | ip (t : Tag) (x : T t) (off : Nat)
  | vw (n : Nat) (p : Option (Nat × Nat)) (t : Tag) (l : List (T t))
  | vip (n : Nat) (t : Tag) (x : T t) (off : Nat)
/-- An immutable cell's reading. -/
def RI (w : World) : V → Value → List Nat → Prop
  | .lit v, u, fp => u = v ∧ v.oneCell' = true ∧ fp = []
  | .sl t l, u, fp => Sl (kk t) (rd t) w u l fp
  | _, _, _ => False
def RIs (w : World) : List V → List Value → List Nat → Prop
  | [], [], fp => fp = []
  | V :: Vs, u :: us, fp => ∃ f g, RI w V u f ∧ RIs w Vs us g ∧ fp = f ++ g
  | _, _, _ => False
theorem RIs.nil {w : World} : RIs w [] [] [] := rfl
theorem RIs.lit {w : World} {v : Value} {Vs : List V} {us : List Value} {g : List Nat} (hv : v.oneCell' = true) (h : RIs w Vs us g) : RIs w (.lit v :: Vs) (v :: us) g := ⟨[], g, ⟨rfl, hv, rfl⟩, h, rfl⟩
theorem RIs.sl {w : World} {u : Value} {t : Tag} {l : List (T t)} {f g : List Nat} {Vs : List V} {us : List Value} (k : Sl (kk t) (rd t) w u l f) (h : RIs w Vs us g) : RIs w (.sl t l :: Vs) (u :: us) (f ++ g) := ⟨f, g, k, h, rfl⟩
theorem RIs.app {w : World} : ∀ {Vs Us : List V} {vs us : List Value} {f g : List Nat}, RIs w Vs vs f → RIs w Us us g → RIs w (Vs ++ Us) (vs ++ us) (f ++ g)
  | [], _, [], _, _, _, h, k => by rw [show _ = _ from h]; exact k
  | _ :: _, _, _ :: _, _, _, _, ⟨f1, f2, h1, h2, e⟩, k => ⟨f1, f2 ++ _, h1, RIs.app h2 k, by rw [e, List.append_assoc]⟩
  | [], _, _ :: _, _, _, _, h, _ => h.elim
  | _ :: _, _, [], _, _, _, h, _ => h.elim
theorem RIs.len {w : World} : ∀ {Vs : List V} {us : List Value} {fp : List Nat}, RIs w Vs us fp → us.length = Vs.length
  | [], [], _, _ => rfl
  | _ :: _, _ :: _, _, ⟨_, _, _, h, _⟩ => by simp [RIs.len h]
  | [], _ :: _, _, h => h.elim
  | _ :: _, [], _, h => h.elim
def dec_DB (x : DB) : List V := [.sl (.sl .u8) x.rows]
def dec_RShare (x : RShare) : List V := [.lit (.int .i64 x.client)] ++ dec_DB x.share
def dec_Srv (x : Srv) : List V := [.lit (.int .i64 x.id), .lit (.int .i64 x.rows), .lit (.int .i64 x.round), .sl .RShare x.received, .lit (.int .i64 x.behavior)]
def dec_ARound (x : ARound) : List V := [.lit (.int .i64 x.round)] ++ dec_DB x.db
def dec_Arc (x : Arc) : List V := [.lit (.int .i64 x.rows), .sl .ARound x.rounds]
def dec_Cli (x : Cli) : List V := [.lit (.int .i64 x.id), .lit (.int .i64 x.friend), .lit (.int .i64 x.key), .lit (.int .i64 x.seed), .sl (.sl .u8) x.submitted, .lit (.int .i64 x.sent), .sl (.sl .u8) x.inbox, .lit (.int .i64 x.next)]
def dec_Dev (x : Dev) : List V := dec_Cli x.live ++ dec_Cli x.saved
def dec_Wld (x : Wld) : List V := [.lit (.int .i64 x.rows), .sl .Srv x.servers, .sl .Dev x.devices] ++ dec_Arc x.archive ++ [.lit (.int .i64 x.master), .lit (.int .i64 x.seed), .lit (.int .i64 x.round), .sl .int x.replaced, .lit (.int .i64 x.cancelled)]
def dec_Ev (x : Ev) : List V := [.lit (.int .i64 x.kind), .lit (.int .i64 x.node), .lit (.int .i64 x.value), .sl .u8 x.body]
def dec_Trf (x : Trf) : List V := [.lit (.int .i64 x.fr), .lit (.int .i64 x.to), .lit (.int .i64 x.bytes)]
def dec_Rcp (x : Rcp) : List V := [.lit (.int .i64 x.server), .lit (.int .i64 x.client), .lit (.int .i64 x.round), .lit (.int .i64 x.digest), .lit (.int .i64 x.mac)]
def dec_Plain (x : Plain) : List V := [.lit (.int .i64 x.kind), .sl .u8 x.body]
def dec_SAns (x : SAns) : List V := [.lit (.int .i64 x.server), .lit (.int .i64 x.round), .sl .int x.selection, .sl .u8 x.data, .lit (.int .i64 x.mac)]
/-- The cells of a datum. -/
def dec : (t : Tag) → T t → List V
  | .int, n => [.lit (.int .i64 n)]
  | .u8, n => [.lit (.int .u8 n.toNat)]
  | .str, s => [.lit (.string ⟨s.toArray⟩)]
  | .sl t, l => [.sl t l]
  | .DB, x => dec_DB x
  | .RShare, x => dec_RShare x
  | .Srv, x => dec_Srv x
  | .ARound, x => dec_ARound x
  | .Arc, x => dec_Arc x
  | .Cli, x => dec_Cli x
  | .Dev, x => dec_Dev x
  | .Wld, x => dec_Wld x
  | .Ev, x => dec_Ev x
  | .Trf, x => dec_Trf x
  | .Rcp, x => dec_Rcp x
  | .Plain, x => dec_Plain x
  | .SAns, x => dec_SAns x
theorem reads_DB {w : World} {cs : List Value} {x : DB} {fp : List Nat} : EDB w cs x fp → RIs w (dec_DB x) cs fp := by
  rintro ⟨v0, f0, rfl, h0, rfl⟩
  have h := (RIs.sl (t := (.sl .u8)) h0 RIs.nil)
  simpa [dec_DB] using h
theorem reads_RShare {w : World} {cs : List Value} {x : RShare} {fp : List Nat} : ERShare w cs x fp → RIs w (dec_RShare x) cs fp := by
  rintro ⟨v0, f0, rfl, h0, rfl⟩
  have h := (RIs.app (RIs.lit (w := w) (v := .int .i64 x.client) rfl RIs.nil) (reads_DB h0))
  simpa [dec_RShare] using h
theorem reads_Srv {w : World} {cs : List Value} {x : Srv} {fp : List Nat} : ESrv w cs x fp → RIs w (dec_Srv x) cs fp := by
  rintro ⟨v0, f0, rfl, h0, rfl⟩
  have h := (RIs.lit (w := w) (v := .int .i64 x.id) rfl (RIs.lit (w := w) (v := .int .i64 x.rows) rfl (RIs.lit (w := w) (v := .int .i64 x.round) rfl (RIs.sl (t := .RShare) h0 (RIs.lit (w := w) (v := .int .i64 x.behavior) rfl RIs.nil)))))
  simpa [dec_Srv] using h
theorem reads_ARound {w : World} {cs : List Value} {x : ARound} {fp : List Nat} : EARound w cs x fp → RIs w (dec_ARound x) cs fp := by
  rintro ⟨v0, f0, rfl, h0, rfl⟩
  have h := (RIs.app (RIs.lit (w := w) (v := .int .i64 x.round) rfl RIs.nil) (reads_DB h0))
  simpa [dec_ARound] using h
theorem reads_Arc {w : World} {cs : List Value} {x : Arc} {fp : List Nat} : EArc w cs x fp → RIs w (dec_Arc x) cs fp := by
  rintro ⟨v0, f0, rfl, h0, rfl⟩
  have h := (RIs.lit (w := w) (v := .int .i64 x.rows) rfl (RIs.sl (t := .ARound) h0 RIs.nil))
  simpa [dec_Arc] using h
theorem reads_Cli {w : World} {cs : List Value} {x : Cli} {fp : List Nat} : ECli w cs x fp → RIs w (dec_Cli x) cs fp := by
  rintro ⟨v0, v1, f0, f1, rfl, h0, h1, rfl⟩
  have h := (RIs.lit (w := w) (v := .int .i64 x.id) rfl (RIs.lit (w := w) (v := .int .i64 x.friend) rfl (RIs.lit (w := w) (v := .int .i64 x.key) rfl (RIs.lit (w := w) (v := .int .i64 x.seed) rfl (RIs.sl (t := (.sl .u8)) h0 (RIs.lit (w := w) (v := .int .i64 x.sent) rfl (RIs.sl (t := (.sl .u8)) h1 (RIs.lit (w := w) (v := .int .i64 x.next) rfl RIs.nil))))))))
  simpa [dec_Cli] using h
theorem reads_Dev {w : World} {cs : List Value} {x : Dev} {fp : List Nat} : EDev w cs x fp → RIs w (dec_Dev x) cs fp := by
  rintro ⟨v0, v1, f0, f1, rfl, h0, h1, rfl⟩
  have h := (RIs.app (reads_Cli h0) (reads_Cli h1))
  simpa [dec_Dev] using h
theorem reads_Wld {w : World} {cs : List Value} {x : Wld} {fp : List Nat} : EWld w cs x fp → RIs w (dec_Wld x) cs fp := by
  rintro ⟨v0, v1, v2, v3, f0, f1, f2, f3, rfl, h0, h1, h2, h3, rfl⟩
  have h := (RIs.app (RIs.app (RIs.lit (w := w) (v := .int .i64 x.rows) rfl (RIs.sl (t := .Srv) h0 (RIs.sl (t := .Dev) h1 RIs.nil))) (reads_Arc h2)) (RIs.lit (w := w) (v := .int .i64 x.master) rfl (RIs.lit (w := w) (v := .int .i64 x.seed) rfl (RIs.lit (w := w) (v := .int .i64 x.round) rfl (RIs.sl (t := .int) h3 (RIs.lit (w := w) (v := .int .i64 x.cancelled) rfl RIs.nil))))))
  simpa [dec_Wld] using h
theorem reads_Ev {w : World} {cs : List Value} {x : Ev} {fp : List Nat} : EEv w cs x fp → RIs w (dec_Ev x) cs fp := by
  rintro ⟨v0, f0, rfl, h0, rfl⟩
  have h := (RIs.lit (w := w) (v := .int .i64 x.kind) rfl (RIs.lit (w := w) (v := .int .i64 x.node) rfl (RIs.lit (w := w) (v := .int .i64 x.value) rfl (RIs.sl (t := .u8) h0 RIs.nil))))
  simpa [dec_Ev] using h
theorem reads_Trf {w : World} {cs : List Value} {x : Trf} {fp : List Nat} : ETrf w cs x fp → RIs w (dec_Trf x) cs fp := by
  rintro ⟨rfl, rfl⟩
  have h := (RIs.lit (w := w) (v := .int .i64 x.fr) rfl (RIs.lit (w := w) (v := .int .i64 x.to) rfl (RIs.lit (w := w) (v := .int .i64 x.bytes) rfl RIs.nil)))
  simpa [dec_Trf] using h
theorem reads_Rcp {w : World} {cs : List Value} {x : Rcp} {fp : List Nat} : ERcp w cs x fp → RIs w (dec_Rcp x) cs fp := by
  rintro ⟨rfl, rfl⟩
  have h := (RIs.lit (w := w) (v := .int .i64 x.server) rfl (RIs.lit (w := w) (v := .int .i64 x.client) rfl (RIs.lit (w := w) (v := .int .i64 x.round) rfl (RIs.lit (w := w) (v := .int .i64 x.digest) rfl (RIs.lit (w := w) (v := .int .i64 x.mac) rfl RIs.nil)))))
  simpa [dec_Rcp] using h
theorem reads_Plain {w : World} {cs : List Value} {x : Plain} {fp : List Nat} : EPlain w cs x fp → RIs w (dec_Plain x) cs fp := by
  rintro ⟨v0, f0, rfl, h0, rfl⟩
  have h := (RIs.lit (w := w) (v := .int .i64 x.kind) rfl (RIs.sl (t := .u8) h0 RIs.nil))
  simpa [dec_Plain] using h
theorem reads_SAns {w : World} {cs : List Value} {x : SAns} {fp : List Nat} : ESAns w cs x fp → RIs w (dec_SAns x) cs fp := by
  rintro ⟨v0, v1, f0, f1, rfl, h0, h1, rfl⟩
  have h := (RIs.lit (w := w) (v := .int .i64 x.server) rfl (RIs.lit (w := w) (v := .int .i64 x.round) rfl (RIs.sl (t := .int) h0 (RIs.sl (t := .u8) h1 (RIs.lit (w := w) (v := .int .i64 x.mac) rfl RIs.nil)))))
  simpa [dec_SAns] using h
theorem reads {w : World} : (t : Tag) → {cs : List Value} → {x : T t} → {fp : List Nat} → rd t w cs x fp → RIs w (dec t x) cs fp
  | .int, _, _, _, ⟨rfl, rfl⟩ => RIs.lit (v := .int .i64 _) rfl RIs.nil
  | .u8, _, _, _, ⟨rfl, rfl⟩ => RIs.lit (v := .int .u8 _) rfl RIs.nil
  | .str, _, _, _, ⟨rfl, _, rfl⟩ => RIs.lit (v := .string _) rfl RIs.nil
  | .sl t, _, _, _, ⟨v, rfl, h⟩ => by have := RIs.sl (t := t) h (RIs.nil); rwa [List.append_nil] at this
  | .DB, _, _, _, h => reads_DB h
  | .RShare, _, _, _, h => reads_RShare h
  | .Srv, _, _, _, h => reads_Srv h
  | .ARound, _, _, _, h => reads_ARound h
  | .Arc, _, _, _, h => reads_Arc h
  | .Cli, _, _, _, h => reads_Cli h
  | .Dev, _, _, _, h => reads_Dev h
  | .Wld, _, _, _, h => reads_Wld h
  | .Ev, _, _, _, h => reads_Ev h
  | .Trf, _, _, _, h => reads_Trf h
  | .Rcp, _, _, _, h => reads_Rcp h
  | .Plain, _, _, _, h => reads_Plain h
  | .SAns, _, _, _, h => reads_SAns h
end Go.Proofs.Ythlflnplnajjiaa.G
