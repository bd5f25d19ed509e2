/-
  Slices that the call has made, written again: an element replaced; an element's own memory written by a call.
-/
import Derived.Test.YthjedjndamejmaaGreatZGuiltyServersM2
import Derived.ProofKit
import Derived.OpenShut
namespace Go.Proofs.YthjedjndamejmaaGreat.L
set_option linter.all false
open Go.RowKit Go.ChangeShapes Go.WideShapes Go.ChangeAt D

theorem i64_of_wf {n : Int} (h : (Lit.int .i64 n).wf = true) : I64 n := by
  have := bounds_i64 h
  unfold I64; omega

section
variable {H : Type} (enc : TypeId × Value → H) (P : Program) (w : World) (spare : Nat → Bool) (held : Bool)
/-- Whatever is read as a value of type t reads as a datum of this library, and the datum meets W. -/
def Opens {α : Type} (t : TypeId) (E : ER α) (W : α → Prop) : Prop :=
  ∀ fuel cs y, DataW.trod enc P w 0 spare held fuel t cs = some y → ∃ x fp, E w cs x fp ∧ W x

variable {enc P w spare held}
theorem opens_int {t : TypeId} (ht : P.underlying t = some (.int .i64)) : Opens enc P w spare held t EInt I64 := by
  intro fuel cs y h
  obtain ⟨n, rfl, _, hw⟩ := DataW.trod_int ht h
  exact ⟨n, [], ⟨rfl, rfl⟩, i64_of_wf hw⟩
theorem opens_u8 {t : TypeId} (ht : P.underlying t = some (.int .u8)) : Opens enc P w spare held t EU8 (fun _ => True) := by
  intro fuel cs y h
  obtain ⟨n, rfl, _, hw⟩ := DataW.trod_int ht h
  have hb := bounds_u8 hw
  refine ⟨UInt8.ofNat n.toNat, [], ⟨?_, rfl⟩, trivial⟩
  have : ((UInt8.ofNat n.toNat).toNat : Int) = n := by
    rw [UInt8.toNat_ofNat']; omega
  rw [this]

theorem opens_sl {α : Type} [Inhabited α] {k : Nat} {E : ER α} {W : α → Prop} {t e : TypeId} (ht : P.underlying t = some (.slice e)) (hk : P.cellsOf e = k) (hpos : 0 < k) (ho : Opens enc P w spare held e E W) :
    Opens enc P w spare held t (ESl k E) (fun l => ∀ x, x ∈ l → W x) := by
  intro fuel cs y h
  rcases Go.Deep.open_slice ht h with ⟨rfl, _⟩ | ⟨a, len, cap, m, n, D, Pl, rfl, _, hl, hm, hmm, _, hx⟩
  · exact ⟨[], [], ⟨_, rfl, none, 0, rfl, Nat.le_refl _, Nat.zero_le _, Or.inl ⟨rfl, rfl, fun _ => rfl⟩⟩, by simp⟩
  rw [hk] at hx
  have hlm : len ≤ m := by rw [hmm]; split <;> omega
  by_cases h0 : len = 0
  · subst h0
    exact ⟨[], [], ⟨_, rfl, some a, cap, rfl, hl, hm, Or.inl ⟨rfl, rfl, by simp⟩⟩, by simp⟩
  -- the head's address bears no spot
  have hsp : a.spot = none := by
    obtain ⟨cs', hc, _⟩ := hx 0 (by omega)
    obtain ⟨_, h1, h2⟩ := World.cells?_some hc
    have h3 := h2 0 (by omega)
    have ha : ((a.add (0 * k)).add 0) = a := by simp [Addr.add]
    rw [ha] at h3
    have hlen : 0 < cs'.length := by omega
    rw [List.getElem?_eq_getElem hlen] at h3
    simp only [World.cell?] at h3
    split at h3
    · split at h3
      · cases h3
      · rename_i hs; simpa using hs
    · cases h3
  obtain ⟨b, off, rfl⟩ : ∃ b off, a = ⟨b, off, none⟩ := ⟨a.block, a.off, by cases a; simp_all⟩
  have hel : ∀ i, i < len → ∃ q : α × List Nat, (∃ cs', w.rangeAt b (off + i * k) cs' ∧ E w cs' q.1 q.2) ∧ W q.1 := by
    intro i hi
    obtain ⟨cs', hc, htr⟩ := hx i (by omega)
    obtain ⟨x, fp, hE, hW⟩ := ho _ _ _ htr
    obtain ⟨_, h1, h2⟩ := World.cells?_some hc
    refine ⟨(x, fp), ⟨cs', fun j v hv => ?_, hE⟩, hW⟩
    have hj := (List.getElem?_eq_some_iff.1 hv).1
    have := h2 j (by omega)
    rw [Addr.add_mid, Addr.add_mid, hv] at this
    exact this
  obtain ⟨f, hf⟩ := Go.Deep.choose_lt hel
  refine ⟨(List.range len).map fun i => (f i).1, b :: ((List.range len).map fun i => (f i).2).flatten, ⟨_, rfl, some ⟨b, off, none⟩, cap, by simp, by simpa using hl, hm, Or.inr ⟨b, off, (List.range len).map fun i => (f i).2, rfl, ?_, rfl, by simp, ?_⟩⟩, ?_⟩
  · obtain ⟨cs', hc, _⟩ := hx 0 (by omega)
    have := World.cells?_block hc (by omega)
    rw [Addr.add_mid] at this
    exact this
  · intro i x fp hx hfp
    have hi : i < len := by have := (List.getElem?_eq_some_iff.1 hx).1; simpa using this
    simp [hi] at hx hfp
    subst hx; subst hfp
    exact (hf i hi).1
  · intro x hx
    simp only [List.mem_map, List.mem_range] at hx
    obtain ⟨i, hi, rfl⟩ := hx
    exact (hf i hi).2
end
end Go.Proofs.YthjedjndamejmaaGreat.L
namespace Go.Proofs.YthjedjndamejmaaGreat.G
set_option linter.all false
open Go.RowKit L D
/-- Kinds of data that are elements of slices, or structs. -/
inductive Tag where
  | int | u8 | str | sl (t : Tag) | DB | RShare | Srv | ARound | Arc | Cli | Dev | Wld | Ev | Trf | Rcp | Plain | SAns
  deriving DecidableEq
@[reducible] def T : Tag → Type
  | .int => Int
  | .u8 => UInt8
  | .str => List UInt8
  | .sl t => List (T t)
  | .DB => DB
  | .RShare => RShare
  | .Srv => Srv
  | .ARound => ARound
  | .Arc => Arc
  | .Cli => Cli
  | .Dev => Dev
  | .Wld => Wld
  | .Ev => Ev
  | .Trf => Trf
  | .Rcp => Rcp
  | .Plain => Plain
  | .SAns => SAns
def kk : Tag → Nat
  | .int => 1
  | .u8 => 1
  | .str => 1
  | .sl _ => 1
  | .DB => 1
  | .RShare => 2
  | .Srv => 5
  | .ARound => 2
  | .Arc => 2
  | .Cli => 8
  | .Dev => 16
  | .Wld => 10
  | .Ev => 4
  | .Trf => 3
  | .Rcp => 5
  | .Plain => 2
  | .SAns => 5
def rd : (t : Tag) → ER (T t)
  | .int => EInt
  | .u8 => EU8
  | .str => EStr
  | .sl t => ESl (kk t) (rd t)
  | .DB => EDB
  | .RShare => ERShare
  | .Srv => ESrv
  | .ARound => EARound
  | .Arc => EArc
  | .Cli => ECli
  | .Dev => EDev
  | .Wld => EWld
  | .Ev => EEv
  | .Trf => ETrf
  | .Rcp => ERcp
  | .Plain => EPlain
  | .SAns => ESAns
theorem fine : (t : Tag) → Fine (kk t) (rd t)
  | .int => good_int
  | .u8 => good_u8
  | .str => good_str
  | .sl t => good_sl (fine t)
  | .DB => good_DB
  | .RShare => good_RShare
  | .Srv => good_Srv
  | .ARound => good_ARound
  | .Arc => good_Arc
  | .Cli => good_Cli
  | .Dev => good_Dev
  | .Wld => good_Wld
  | .Ev => good_Ev
  | .Trf => good_Trf
  | .Rcp => good_Rcp
  | .Plain => good_Plain
  | .SAns => good_SAns
theorem kk_pos : (t : Tag) → 0 < kk t
  | .int => by decide
  | .u8 => by decide
  | .str => by decide
  | .sl _ => Nat.one_pos
  | .DB => by decide
  | .RShare => by decide
  | .Srv => by decide
  | .ARound => by decide
  | .Arc => by decide
  | .Cli => by decide
  | .Dev => by decide
  | .Wld => by decide
  | .Ev => by decide
  | .Trf => by decide
  | .Rcp => by decide
  | .Plain => by decide
  | .SAns => by decide
def dfl : (t : Tag) → T t
  | .int => (0 : Int)
  | .u8 => (0 : UInt8)
  | .str => ([] : List UInt8)
  | .sl t => ([] : List (T t))
  | .DB => (default : DB)
  | .RShare => (default : RShare)
  | .Srv => (default : Srv)
  | .ARound => (default : ARound)
  | .Arc => (default : Arc)
  | .Cli => (default : Cli)
  | .Dev => (default : Dev)
  | .Wld => (default : Wld)
  | .Ev => (default : Ev)
  | .Trf => (default : Trf)
  | .Rcp => (default : Rcp)
  | .Plain => (default : Plain)
  | .SAns => (default : SAns)
/-- What a cell holds, symbolically. -/
inductive V where
  | any
  | lit (v : Value)
  | sl (t : Tag) (l : List (T t))
  | own (n : Nat)
  | ptr (n off : Nat)
  | eptr (n i off : Nat)
  | ip (t : Tag) (x : T t) (off : Nat)
  | vw (n : Nat) (p : Option (Nat × Nat)) (t : Tag) (l : List (T t))
  | vip (n : Nat) (p : Option (Nat × Nat × Nat)) (t : Tag) (x : T t) (off : Nat)
  | bsl (n : Nat) (t : Tag) (l : List (T t))
  | fnp (f : FuncId) (n : Nat)
  | husk (k : Nat)
/-- An immutable cell's reading. -/
def RI (w : World) : V → Value → List Nat → Prop
  | .lit v, u, fp => u = v ∧ v.oneCell' = true ∧ fp = []
  | .sl t l, u, fp => Sl (kk t) (rd t) w u l fp
  | _, _, _ => False
def RIs (w : World) : List V → List Value → List Nat → Prop
  | [], [], fp => fp = []
  | V :: Vs, u :: us, fp => ∃ f g, RI w V u f ∧ RIs w Vs us g ∧ fp = f ++ g
  | _, _, _ => False
theorem RIs.nil {w : World} : RIs w [] [] [] := rfl
theorem RIs.lit {w : World} {v : Value} {Vs : List V} {us : List Value} {g : List Nat} (hv : v.oneCell' = true) (h : RIs w Vs us g) : RIs w (.lit v :: Vs) (v :: us) g := ⟨[], g, ⟨rfl, hv, rfl⟩, h, rfl⟩
theorem RIs.sl {w : World} {u : Value} {t : Tag} {l : List (T t)} {f g : List Nat} {Vs : List V} {us : List Value} (k : Sl (kk t) (rd t) w u l f) (h : RIs w Vs us g) : RIs w (.sl t l :: Vs) (u :: us) (f ++ g) := ⟨f, g, k, h, rfl⟩
theorem RIs.app {w : World} : ∀ {Vs Us : List V} {vs us : List Value} {f g : List Nat}, RIs w Vs vs f → RIs w Us us g → RIs w (Vs ++ Us) (vs ++ us) (f ++ g)
  | [], _, [], _, _, _, h, k => by rw [show _ = _ from h]; exact k
  | _ :: _, _, _ :: _, _, _, _, ⟨f1, f2, h1, h2, e⟩, k => ⟨f1, f2 ++ _, h1, RIs.app h2 k, by rw [e, List.append_assoc]⟩
  | [], _, _ :: _, _, _, _, h, _ => h.elim
  | _ :: _, _, [], _, _, _, h, _ => h.elim
theorem RIs.len {w : World} : ∀ {Vs : List V} {us : List Value} {fp : List Nat}, RIs w Vs us fp → us.length = Vs.length
  | [], [], _, _ => rfl
  | _ :: _, _ :: _, _, ⟨_, _, _, h, _⟩ => by simp [RIs.len h]
  | [], _ :: _, _, h => h.elim
  | _ :: _, [], _, h => h.elim
def dec_DB (x : DB) : List V := [.sl (.sl .u8) x.rows]
def dec_RShare (x : RShare) : List V := [.lit (.int .i64 x.client)] ++ dec_DB x.share
def dec_Srv (x : Srv) : List V := [.lit (.int .i64 x.id), .lit (.int .i64 x.rows), .lit (.int .i64 x.round), .sl .RShare x.received, .lit (.int .i64 x.behavior)]
def dec_ARound (x : ARound) : List V := [.lit (.int .i64 x.round)] ++ dec_DB x.db
def dec_Arc (x : Arc) : List V := [.lit (.int .i64 x.rows), .sl .ARound x.rounds]
def dec_Cli (x : Cli) : List V := [.lit (.int .i64 x.id), .lit (.int .i64 x.friend), .lit (.int .i64 x.key), .lit (.int .i64 x.seed), .sl (.sl .u8) x.submitted, .lit (.int .i64 x.sent), .sl (.sl .u8) x.inbox, .lit (.int .i64 x.next)]
def dec_Dev (x : Dev) : List V := dec_Cli x.live ++ dec_Cli x.saved
def dec_Wld (x : Wld) : List V := [.lit (.int .i64 x.rows), .sl .Srv x.servers, .sl .Dev x.devices] ++ dec_Arc x.archive ++ [.lit (.int .i64 x.master), .lit (.int .i64 x.seed), .lit (.int .i64 x.round), .sl .int x.replaced, .lit (.int .i64 x.cancelled)]
def dec_Ev (x : Ev) : List V := [.lit (.int .i64 x.kind), .lit (.int .i64 x.node), .lit (.int .i64 x.value), .sl .u8 x.body]
def dec_Trf (x : Trf) : List V := [.lit (.int .i64 x.fr), .lit (.int .i64 x.to), .lit (.int .i64 x.bytes)]
def dec_Rcp (x : Rcp) : List V := [.lit (.int .i64 x.server), .lit (.int .i64 x.client), .lit (.int .i64 x.round), .lit (.int .i64 x.digest), .lit (.int .i64 x.mac)]
def dec_Plain (x : Plain) : List V := [.lit (.int .i64 x.kind), .sl .u8 x.body]
def dec_SAns (x : SAns) : List V := [.lit (.int .i64 x.server), .lit (.int .i64 x.round), .sl .int x.selection, .sl .u8 x.data, .lit (.int .i64 x.mac)]
/-- The cells of a datum. -/
def dec : (t : Tag) → T t → List V
  | .int, n => [.lit (.int .i64 n)]
  | .u8, n => [.lit (.int .u8 n.toNat)]
  | .str, s => [.lit (.string ⟨s.toArray⟩)]
  | .sl t, l => [.sl t l]
  | .DB, x => dec_DB x
  | .RShare, x => dec_RShare x
  | .Srv, x => dec_Srv x
  | .ARound, x => dec_ARound x
  | .Arc, x => dec_Arc x
  | .Cli, x => dec_Cli x
  | .Dev, x => dec_Dev x
  | .Wld, x => dec_Wld x
  | .Ev, x => dec_Ev x
  | .Trf, x => dec_Trf x
  | .Rcp, x => dec_Rcp x
  | .Plain, x => dec_Plain x
  | .SAns, x => dec_SAns x
theorem reads_DB {w : World} {cs : List Value} {x : DB} {fp : List Nat} : EDB w cs x fp → RIs w (dec_DB x) cs fp := by
  rintro ⟨v0, f0, rfl, h0, rfl⟩
  have h := (RIs.sl (t := (.sl .u8)) h0 RIs.nil)
  simpa [dec_DB] using h
theorem reads_RShare {w : World} {cs : List Value} {x : RShare} {fp : List Nat} : ERShare w cs x fp → RIs w (dec_RShare x) cs fp := by
  rintro ⟨v0, f0, rfl, h0, rfl⟩
  have h := (RIs.app (RIs.lit (w := w) (v := .int .i64 x.client) rfl RIs.nil) (reads_DB h0))
  simpa [dec_RShare] using h
theorem reads_Srv {w : World} {cs : List Value} {x : Srv} {fp : List Nat} : ESrv w cs x fp → RIs w (dec_Srv x) cs fp := by
  rintro ⟨v0, f0, rfl, h0, rfl⟩
  have h := (RIs.lit (w := w) (v := .int .i64 x.id) rfl (RIs.lit (w := w) (v := .int .i64 x.rows) rfl (RIs.lit (w := w) (v := .int .i64 x.round) rfl (RIs.sl (t := .RShare) h0 (RIs.lit (w := w) (v := .int .i64 x.behavior) rfl RIs.nil)))))
  simpa [dec_Srv] using h
theorem reads_ARound {w : World} {cs : List Value} {x : ARound} {fp : List Nat} : EARound w cs x fp → RIs w (dec_ARound x) cs fp := by
  rintro ⟨v0, f0, rfl, h0, rfl⟩
  have h := (RIs.app (RIs.lit (w := w) (v := .int .i64 x.round) rfl RIs.nil) (reads_DB h0))
  simpa [dec_ARound] using h
theorem reads_Arc {w : World} {cs : List Value} {x : Arc} {fp : List Nat} : EArc w cs x fp → RIs w (dec_Arc x) cs fp := by
  rintro ⟨v0, f0, rfl, h0, rfl⟩
  have h := (RIs.lit (w := w) (v := .int .i64 x.rows) rfl (RIs.sl (t := .ARound) h0 RIs.nil))
  simpa [dec_Arc] using h
theorem reads_Cli {w : World} {cs : List Value} {x : Cli} {fp : List Nat} : ECli w cs x fp → RIs w (dec_Cli x) cs fp := by
  rintro ⟨v0, v1, f0, f1, rfl, h0, h1, rfl⟩
  have h := (RIs.lit (w := w) (v := .int .i64 x.id) rfl (RIs.lit (w := w) (v := .int .i64 x.friend) rfl (RIs.lit (w := w) (v := .int .i64 x.key) rfl (RIs.lit (w := w) (v := .int .i64 x.seed) rfl (RIs.sl (t := (.sl .u8)) h0 (RIs.lit (w := w) (v := .int .i64 x.sent) rfl (RIs.sl (t := (.sl .u8)) h1 (RIs.lit (w := w) (v := .int .i64 x.next) rfl RIs.nil))))))))
  simpa [dec_Cli] using h
theorem reads_Dev {w : World} {cs : List Value} {x : Dev} {fp : List Nat} : EDev w cs x fp → RIs w (dec_Dev x) cs fp := by
  rintro ⟨v0, v1, f0, f1, rfl, h0, h1, rfl⟩
  have h := (RIs.app (reads_Cli h0) (reads_Cli h1))
  simpa [dec_Dev] using h
theorem reads_Wld {w : World} {cs : List Value} {x : Wld} {fp : List Nat} : EWld w cs x fp → RIs w (dec_Wld x) cs fp := by
  rintro ⟨v0, v1, v2, v3, f0, f1, f2, f3, rfl, h0, h1, h2, h3, rfl⟩
  have h := (RIs.app (RIs.app (RIs.lit (w := w) (v := .int .i64 x.rows) rfl (RIs.sl (t := .Srv) h0 (RIs.sl (t := .Dev) h1 RIs.nil))) (reads_Arc h2)) (RIs.lit (w := w) (v := .int .i64 x.master) rfl (RIs.lit (w := w) (v := .int .i64 x.seed) rfl (RIs.lit (w := w) (v := .int .i64 x.round) rfl (RIs.sl (t := .int) h3 (RIs.lit (w := w) (v := .int .i64 x.cancelled) rfl RIs.nil))))))
  simpa [dec_Wld] using h
theorem reads_Ev {w : World} {cs : List Value} {x : Ev} {fp : List Nat} : EEv w cs x fp → RIs w (dec_Ev x) cs fp := by
  rintro ⟨v0, f0, rfl, h0, rfl⟩
  have h := (RIs.lit (w := w) (v := .int .i64 x.kind) rfl (RIs.lit (w := w) (v := .int .i64 x.node) rfl (RIs.lit (w := w) (v := .int .i64 x.value) rfl (RIs.sl (t := .u8) h0 RIs.nil))))
  simpa [dec_Ev] using h
theorem reads_Trf {w : World} {cs : List Value} {x : Trf} {fp : List Nat} : ETrf w cs x fp → RIs w (dec_Trf x) cs fp := by
  rintro ⟨rfl, rfl⟩
  have h := (RIs.lit (w := w) (v := .int .i64 x.fr) rfl (RIs.lit (w := w) (v := .int .i64 x.to) rfl (RIs.lit (w := w) (v := .int .i64 x.bytes) rfl RIs.nil)))
  simpa [dec_Trf] using h
theorem reads_Rcp {w : World} {cs : List Value} {x : Rcp} {fp : List Nat} : ERcp w cs x fp → RIs w (dec_Rcp x) cs fp := by
  rintro ⟨rfl, rfl⟩
  have h := (RIs.lit (w := w) (v := .int .i64 x.server) rfl (RIs.lit (w := w) (v := .int .i64 x.client) rfl (RIs.lit (w := w) (v := .int .i64 x.round) rfl (RIs.lit (w := w) (v := .int .i64 x.digest) rfl (RIs.lit (w := w) (v := .int .i64 x.mac) rfl RIs.nil)))))
  simpa [dec_Rcp] using h
theorem reads_Plain {w : World} {cs : List Value} {x : Plain} {fp : List Nat} : EPlain w cs x fp → RIs w (dec_Plain x) cs fp := by
  rintro ⟨v0, f0, rfl, h0, rfl⟩
  have h := (RIs.lit (w := w) (v := .int .i64 x.kind) rfl (RIs.sl (t := .u8) h0 RIs.nil))
  simpa [dec_Plain] using h
theorem reads_SAns {w : World} {cs : List Value} {x : SAns} {fp : List Nat} : ESAns w cs x fp → RIs w (dec_SAns x) cs fp := by
  rintro ⟨v0, v1, f0, f1, rfl, h0, h1, rfl⟩
  have h := (RIs.lit (w := w) (v := .int .i64 x.server) rfl (RIs.lit (w := w) (v := .int .i64 x.round) rfl (RIs.sl (t := .int) h0 (RIs.sl (t := .u8) h1 (RIs.lit (w := w) (v := .int .i64 x.mac) rfl RIs.nil)))))
  simpa [dec_SAns] using h
theorem reads {w : World} : (t : Tag) → {cs : List Value} → {x : T t} → {fp : List Nat} → rd t w cs x fp → RIs w (dec t x) cs fp
  | .int, _, _, _, ⟨rfl, rfl⟩ => RIs.lit (v := .int .i64 _) rfl RIs.nil
  | .u8, _, _, _, ⟨rfl, rfl⟩ => RIs.lit (v := .int .u8 _) rfl RIs.nil
  | .str, _, _, _, ⟨rfl, _, rfl⟩ => RIs.lit (v := .string _) rfl RIs.nil
  | .sl t, _, _, _, ⟨v, rfl, h⟩ => by have := RIs.sl (t := t) h (RIs.nil); rwa [List.append_nil] at this
  | .DB, _, _, _, h => reads_DB h
  | .RShare, _, _, _, h => reads_RShare h
  | .Srv, _, _, _, h => reads_Srv h
  | .ARound, _, _, _, h => reads_ARound h
  | .Arc, _, _, _, h => reads_Arc h
  | .Cli, _, _, _, h => reads_Cli h
  | .Dev, _, _, _, h => reads_Dev h
  | .Wld, _, _, _, h => reads_Wld h
  | .Ev, _, _, _, h => reads_Ev h
  | .Trf, _, _, _, h => reads_Trf h
  | .Rcp, _, _, _, h => reads_Rcp h
  | .Plain, _, _, _, h => reads_Plain h
  | .SAns, _, _, _, h => reads_SAns h
end Go.Proofs.YthjedjndamejmaaGreat.G
namespace Go.Proofs.YthjedjndamejmaaGreat.G
set_option linter.all false
open Go.RowKit L D
def castL : (t t' : Tag) → List (T t') → Option (List (T t))
  | .int, .int, l => some l
  | .u8, .u8, l => some l
  | .str, .str, l => some l
  | .sl .int, .sl .int, l => some l
  | .sl .u8, .sl .u8, l => some l
  | .sl .str, .sl .str, l => some l
  | .sl (.sl .u8), .sl (.sl .u8), l => some l
  | .sl (.sl .int), .sl (.sl .int), l => some l
  | .DB, .DB, l => some l
  | .RShare, .RShare, l => some l
  | .Srv, .Srv, l => some l
  | .ARound, .ARound, l => some l
  | .Arc, .Arc, l => some l
  | .Cli, .Cli, l => some l
  | .Dev, .Dev, l => some l
  | .Wld, .Wld, l => some l
  | .Ev, .Ev, l => some l
  | .Trf, .Trf, l => some l
  | .Rcp, .Rcp, l => some l
  | .Plain, .Plain, l => some l
  | .SAns, .SAns, l => some l
  | _, _, _ => none
theorem castL_ok {t t' : Tag} {l : List (T t')} {l2 : List (T t)} (h : castL t t' l = some l2) : ∃ e : t' = t, l2 = e ▸ l := by
  unfold castL at h
  split at h <;> first
    | (simp only [Option.some.injEq] at h; exact ⟨rfl, h.symm⟩)
    | cases h
def gi : V → Option Int
  | .lit (.int .i64 n) => some n
  | _ => none
def gs (t : Tag) : V → Option (List (T t))
  | .sl t' l => castL t t' l
  | .lit (.slice none 0 0) => some []
  | _ => none
theorem gi_ok {w : World} {v : V} {u : Value} {f : List Nat} {n : Int} (h : gi v = some n) (hr : RI w v u f) : u = .int .i64 n ∧ f = [] := by
  unfold gi at h
  split at h
  · simp only [Option.some.injEq] at h
    subst h
    exact ⟨hr.1, hr.2.2⟩
  · cases h
theorem gs_ok {w : World} {t : Tag} {v : V} {u : Value} {f : List Nat} {l : List (T t)} (h : gs t v = some l) (hr : RI w v u f) : Sl (kk t) (rd t) w u l f := by
  unfold gs at h
  split at h
  · rename_i t' l'
    obtain ⟨he, rfl⟩ := castL_ok h
    subst he
    exact hr
  · simp only [Option.some.injEq] at h
    subst h
    obtain ⟨rfl, _, rfl⟩ := hr
    exact ⟨none, 0, rfl, Nat.le_refl _, Nat.zero_le _, Or.inl ⟨rfl, rfl, fun _ => rfl⟩⟩
  · cases h
def enc_DB : List V → Option DB
  | [a0] => match gs (.sl .u8) a0 with
    | some x0 => some ⟨x0⟩
    | _ => none
  | _ => none
theorem enc_DB_ok {w : World} {c : List V} {us : List Value} {fp : List Nat} {x : DB} (h : enc_DB c = some x) (hr : RIs w c us fp) : EDB w us x fp := by
  unfold enc_DB at h
  split at h
  · rename_i a0
    split at h
    · rename_i x0 e0
      simp only [Option.some.injEq] at h
      subst h
      match us, hr with
      | [u0], ⟨f0, g0, r0, h9, q0⟩ =>
        have h9 : g0 = [] := h9
        have z0 := gs_ok e0 r0
        refine ⟨u0, f0, ?_, z0, ?_⟩
        · rfl
        · simp [q0, h9]
    · cases h
  · cases h
def enc_RShare : List V → Option RShare
  | [a0, a1] => match gi a0, enc_DB [a1] with
    | some x0, some x1 => some ⟨x0, x1⟩
    | _, _ => none
  | _ => none
theorem enc_RShare_ok {w : World} {c : List V} {us : List Value} {fp : List Nat} {x : RShare} (h : enc_RShare c = some x) (hr : RIs w c us fp) : ERShare w us x fp := by
  unfold enc_RShare at h
  split at h
  · rename_i a0 a1
    split at h
    · rename_i x0 x1 e0 e1
      simp only [Option.some.injEq] at h
      subst h
      match us, hr with
      | [u0, u1], ⟨f0, g0, r0, ⟨f1, g1, r1, h9, q1⟩, q0⟩ =>
        have h9 : g1 = [] := h9
        obtain ⟨z0, y0⟩ := gi_ok e0 r0
        have z1 := enc_DB_ok (w := w) (us := [u1]) (fp := (f1 ++ [])) e1 ⟨f1, _, r1, rfl, rfl⟩
        refine ⟨[u1], (f1 ++ []), ?_, z1, ?_⟩
        · simp [z0]
        · simp [q0, q1, h9, y0]
    · cases h
  · cases h
def enc_Srv : List V → Option Srv
  | [a0, a1, a2, a3, a4] => match gi a0, gi a1, gi a2, gs .RShare a3, gi a4 with
    | some x0, some x1, some x2, some x3, some x4 => some ⟨x0, x1, x2, x3, x4⟩
    | _, _, _, _, _ => none
  | _ => none
theorem enc_Srv_ok {w : World} {c : List V} {us : List Value} {fp : List Nat} {x : Srv} (h : enc_Srv c = some x) (hr : RIs w c us fp) : ESrv w us x fp := by
  unfold enc_Srv at h
  split at h
  · rename_i a0 a1 a2 a3 a4
    split at h
    · rename_i x0 x1 x2 x3 x4 e0 e1 e2 e3 e4
      simp only [Option.some.injEq] at h
      subst h
      match us, hr with
      | [u0, u1, u2, u3, u4], ⟨f0, g0, r0, ⟨f1, g1, r1, ⟨f2, g2, r2, ⟨f3, g3, r3, ⟨f4, g4, r4, h9, q4⟩, q3⟩, q2⟩, q1⟩, q0⟩ =>
        have h9 : g4 = [] := h9
        obtain ⟨z0, y0⟩ := gi_ok e0 r0
        obtain ⟨z1, y1⟩ := gi_ok e1 r1
        obtain ⟨z2, y2⟩ := gi_ok e2 r2
        have z3 := gs_ok e3 r3
        obtain ⟨z4, y4⟩ := gi_ok e4 r4
        refine ⟨u3, f3, ?_, z3, ?_⟩
        · simp [z0, z1, z2, z4]
        · simp [q0, q1, q2, q3, q4, h9, y0, y1, y2, y4]
    · cases h
  · cases h
def enc_ARound : List V → Option ARound
  | [a0, a1] => match gi a0, enc_DB [a1] with
    | some x0, some x1 => some ⟨x0, x1⟩
    | _, _ => none
  | _ => none
theorem enc_ARound_ok {w : World} {c : List V} {us : List Value} {fp : List Nat} {x : ARound} (h : enc_ARound c = some x) (hr : RIs w c us fp) : EARound w us x fp := by
  unfold enc_ARound at h
  split at h
  · rename_i a0 a1
    split at h
    · rename_i x0 x1 e0 e1
      simp only [Option.some.injEq] at h
      subst h
      match us, hr with
      | [u0, u1], ⟨f0, g0, r0, ⟨f1, g1, r1, h9, q1⟩, q0⟩ =>
        have h9 : g1 = [] := h9
        obtain ⟨z0, y0⟩ := gi_ok e0 r0
        have z1 := enc_DB_ok (w := w) (us := [u1]) (fp := (f1 ++ [])) e1 ⟨f1, _, r1, rfl, rfl⟩
        refine ⟨[u1], (f1 ++ []), ?_, z1, ?_⟩
        · simp [z0]
        · simp [q0, q1, h9, y0]
    · cases h
  · cases h
def enc_Arc : List V → Option Arc
  | [a0, a1] => match gi a0, gs .ARound a1 with
    | some x0, some x1 => some ⟨x0, x1⟩
    | _, _ => none
  | _ => none
theorem enc_Arc_ok {w : World} {c : List V} {us : List Value} {fp : List Nat} {x : Arc} (h : enc_Arc c = some x) (hr : RIs w c us fp) : EArc w us x fp := by
  unfold enc_Arc at h
  split at h
  · rename_i a0 a1
    split at h
    · rename_i x0 x1 e0 e1
      simp only [Option.some.injEq] at h
      subst h
      match us, hr with
      | [u0, u1], ⟨f0, g0, r0, ⟨f1, g1, r1, h9, q1⟩, q0⟩ =>
        have h9 : g1 = [] := h9
        obtain ⟨z0, y0⟩ := gi_ok e0 r0
        have z1 := gs_ok e1 r1
        refine ⟨u1, f1, ?_, z1, ?_⟩
        · simp [z0]
        · simp [q0, q1, h9, y0]
    · cases h
  · cases h
def enc_Cli : List V → Option Cli
  | [a0, a1, a2, a3, a4, a5, a6, a7] => match gi a0, gi a1, gi a2, gi a3, gs (.sl .u8) a4, gi a5, gs (.sl .u8) a6, gi a7 with
    | some x0, some x1, some x2, some x3, some x4, some x5, some x6, some x7 => some ⟨x0, x1, x2, x3, x4, x5, x6, x7⟩
    | _, _, _, _, _, _, _, _ => none
  | _ => none
theorem enc_Cli_ok {w : World} {c : List V} {us : List Value} {fp : List Nat} {x : Cli} (h : enc_Cli c = some x) (hr : RIs w c us fp) : ECli w us x fp := by
  unfold enc_Cli at h
  split at h
  · rename_i a0 a1 a2 a3 a4 a5 a6 a7
    split at h
    · rename_i x0 x1 x2 x3 x4 x5 x6 x7 e0 e1 e2 e3 e4 e5 e6 e7
      simp only [Option.some.injEq] at h
      subst h
      match us, hr with
      | [u0, u1, u2, u3, u4, u5, u6, u7], ⟨f0, g0, r0, ⟨f1, g1, r1, ⟨f2, g2, r2, ⟨f3, g3, r3, ⟨f4, g4, r4, ⟨f5, g5, r5, ⟨f6, g6, r6, ⟨f7, g7, r7, h9, q7⟩, q6⟩, q5⟩, q4⟩, q3⟩, q2⟩, q1⟩, q0⟩ =>
        have h9 : g7 = [] := h9
        obtain ⟨z0, y0⟩ := gi_ok e0 r0
        obtain ⟨z1, y1⟩ := gi_ok e1 r1
        obtain ⟨z2, y2⟩ := gi_ok e2 r2
        obtain ⟨z3, y3⟩ := gi_ok e3 r3
        have z4 := gs_ok e4 r4
        obtain ⟨z5, y5⟩ := gi_ok e5 r5
        have z6 := gs_ok e6 r6
        obtain ⟨z7, y7⟩ := gi_ok e7 r7
        refine ⟨u4, u6, f4, f6, ?_, z4, z6, ?_⟩
        · simp [z0, z1, z2, z3, z5, z7]
        · simp [q0, q1, q2, q3, q4, q5, q6, q7, h9, y0, y1, y2, y3, y5, y7]
    · cases h
  · cases h
def enc_Dev : List V → Option Dev
  | [a0, a1, a2, a3, a4, a5, a6, a7, a8, a9, a10, a11, a12, a13, a14, a15] => match enc_Cli [a0, a1, a2, a3, a4, a5, a6, a7], enc_Cli [a8, a9, a10, a11, a12, a13, a14, a15] with
    | some x0, some x8 => some ⟨x0, x8⟩
    | _, _ => none
  | _ => none
theorem enc_Dev_ok {w : World} {c : List V} {us : List Value} {fp : List Nat} {x : Dev} (h : enc_Dev c = some x) (hr : RIs w c us fp) : EDev w us x fp := by
  unfold enc_Dev at h
  split at h
  · rename_i a0 a1 a2 a3 a4 a5 a6 a7 a8 a9 a10 a11 a12 a13 a14 a15
    split at h
    · rename_i x0 x8 e0 e1
      simp only [Option.some.injEq] at h
      subst h
      match us, hr with
      | [u0, u1, u2, u3, u4, u5, u6, u7, u8, u9, u10, u11, u12, u13, u14, u15], ⟨f0, g0, r0, ⟨f1, g1, r1, ⟨f2, g2, r2, ⟨f3, g3, r3, ⟨f4, g4, r4, ⟨f5, g5, r5, ⟨f6, g6, r6, ⟨f7, g7, r7, ⟨f8, g8, r8, ⟨f9, g9, r9, ⟨f10, g10, r10, ⟨f11, g11, r11, ⟨f12, g12, r12, ⟨f13, g13, r13, ⟨f14, g14, r14, ⟨f15, g15, r15, h9, q15⟩, q14⟩, q13⟩, q12⟩, q11⟩, q10⟩, q9⟩, q8⟩, q7⟩, q6⟩, q5⟩, q4⟩, q3⟩, q2⟩, q1⟩, q0⟩ =>
        have h9 : g15 = [] := h9
        have z0 := enc_Cli_ok (w := w) (us := [u0, u1, u2, u3, u4, u5, u6, u7]) (fp := (f0 ++ (f1 ++ (f2 ++ (f3 ++ (f4 ++ (f5 ++ (f6 ++ (f7 ++ []))))))))) e0 ⟨f0, _, r0, ⟨f1, _, r1, ⟨f2, _, r2, ⟨f3, _, r3, ⟨f4, _, r4, ⟨f5, _, r5, ⟨f6, _, r6, ⟨f7, _, r7, rfl, rfl⟩, rfl⟩, rfl⟩, rfl⟩, rfl⟩, rfl⟩, rfl⟩, rfl⟩
        have z8 := enc_Cli_ok (w := w) (us := [u8, u9, u10, u11, u12, u13, u14, u15]) (fp := (f8 ++ (f9 ++ (f10 ++ (f11 ++ (f12 ++ (f13 ++ (f14 ++ (f15 ++ []))))))))) e1 ⟨f8, _, r8, ⟨f9, _, r9, ⟨f10, _, r10, ⟨f11, _, r11, ⟨f12, _, r12, ⟨f13, _, r13, ⟨f14, _, r14, ⟨f15, _, r15, rfl, rfl⟩, rfl⟩, rfl⟩, rfl⟩, rfl⟩, rfl⟩, rfl⟩, rfl⟩
        refine ⟨[u0, u1, u2, u3, u4, u5, u6, u7], [u8, u9, u10, u11, u12, u13, u14, u15], (f0 ++ (f1 ++ (f2 ++ (f3 ++ (f4 ++ (f5 ++ (f6 ++ (f7 ++ [])))))))), (f8 ++ (f9 ++ (f10 ++ (f11 ++ (f12 ++ (f13 ++ (f14 ++ (f15 ++ [])))))))), ?_, z0, z8, ?_⟩
        · rfl
        · simp [q0, q1, q2, q3, q4, q5, q6, q7, q8, q9, q10, q11, q12, q13, q14, q15, h9]
    · cases h
  · cases h
def enc_Wld : List V → Option Wld
  | [a0, a1, a2, a3, a4, a5, a6, a7, a8, a9] => match gi a0, gs .Srv a1, gs .Dev a2, enc_Arc [a3, a4], gi a5, gi a6, gi a7, gs .int a8, gi a9 with
    | some x0, some x1, some x2, some x3, some x5, some x6, some x7, some x8, some x9 => some ⟨x0, x1, x2, x3, x5, x6, x7, x8, x9⟩
    | _, _, _, _, _, _, _, _, _ => none
  | _ => none
theorem enc_Wld_ok {w : World} {c : List V} {us : List Value} {fp : List Nat} {x : Wld} (h : enc_Wld c = some x) (hr : RIs w c us fp) : EWld w us x fp := by
  unfold enc_Wld at h
  split at h
  · rename_i a0 a1 a2 a3 a4 a5 a6 a7 a8 a9
    split at h
    · rename_i x0 x1 x2 x3 x5 x6 x7 x8 x9 e0 e1 e2 e3 e4 e5 e6 e7 e8
      simp only [Option.some.injEq] at h
      subst h
      match us, hr with
      | [u0, u1, u2, u3, u4, u5, u6, u7, u8, u9], ⟨f0, g0, r0, ⟨f1, g1, r1, ⟨f2, g2, r2, ⟨f3, g3, r3, ⟨f4, g4, r4, ⟨f5, g5, r5, ⟨f6, g6, r6, ⟨f7, g7, r7, ⟨f8, g8, r8, ⟨f9, g9, r9, h9, q9⟩, q8⟩, q7⟩, q6⟩, q5⟩, q4⟩, q3⟩, q2⟩, q1⟩, q0⟩ =>
        have h9 : g9 = [] := h9
        obtain ⟨z0, y0⟩ := gi_ok e0 r0
        have z1 := gs_ok e1 r1
        have z2 := gs_ok e2 r2
        have z3 := enc_Arc_ok (w := w) (us := [u3, u4]) (fp := (f3 ++ (f4 ++ []))) e3 ⟨f3, _, r3, ⟨f4, _, r4, rfl, rfl⟩, rfl⟩
        obtain ⟨z5, y5⟩ := gi_ok e4 r5
        obtain ⟨z6, y6⟩ := gi_ok e5 r6
        obtain ⟨z7, y7⟩ := gi_ok e6 r7
        have z8 := gs_ok e7 r8
        obtain ⟨z9, y9⟩ := gi_ok e8 r9
        refine ⟨u1, u2, [u3, u4], u8, f1, f2, (f3 ++ (f4 ++ [])), f8, ?_, z1, z2, z3, z8, ?_⟩
        · simp [z0, z5, z6, z7, z9]
        · simp [q0, q1, q2, q3, q4, q5, q6, q7, q8, q9, h9, y0, y5, y6, y7, y9]
    · cases h
  · cases h
def enc_Ev : List V → Option Ev
  | [a0, a1, a2, a3] => match gi a0, gi a1, gi a2, gs .u8 a3 with
    | some x0, some x1, some x2, some x3 => some ⟨x0, x1, x2, x3⟩
    | _, _, _, _ => none
  | _ => none
theorem enc_Ev_ok {w : World} {c : List V} {us : List Value} {fp : List Nat} {x : Ev} (h : enc_Ev c = some x) (hr : RIs w c us fp) : EEv w us x fp := by
  unfold enc_Ev at h
  split at h
  · rename_i a0 a1 a2 a3
    split at h
    · rename_i x0 x1 x2 x3 e0 e1 e2 e3
      simp only [Option.some.injEq] at h
      subst h
      match us, hr with
      | [u0, u1, u2, u3], ⟨f0, g0, r0, ⟨f1, g1, r1, ⟨f2, g2, r2, ⟨f3, g3, r3, h9, q3⟩, q2⟩, q1⟩, q0⟩ =>
        have h9 : g3 = [] := h9
        obtain ⟨z0, y0⟩ := gi_ok e0 r0
        obtain ⟨z1, y1⟩ := gi_ok e1 r1
        obtain ⟨z2, y2⟩ := gi_ok e2 r2
        have z3 := gs_ok e3 r3
        refine ⟨u3, f3, ?_, z3, ?_⟩
        · simp [z0, z1, z2]
        · simp [q0, q1, q2, q3, h9, y0, y1, y2]
    · cases h
  · cases h
def enc_Trf : List V → Option Trf
  | [a0, a1, a2] => match gi a0, gi a1, gi a2 with
    | some x0, some x1, some x2 => some ⟨x0, x1, x2⟩
    | _, _, _ => none
  | _ => none
theorem enc_Trf_ok {w : World} {c : List V} {us : List Value} {fp : List Nat} {x : Trf} (h : enc_Trf c = some x) (hr : RIs w c us fp) : ETrf w us x fp := by
  unfold enc_Trf at h
  split at h
  · rename_i a0 a1 a2
    split at h
    · rename_i x0 x1 x2 e0 e1 e2
      simp only [Option.some.injEq] at h
      subst h
      match us, hr with
      | [u0, u1, u2], ⟨f0, g0, r0, ⟨f1, g1, r1, ⟨f2, g2, r2, h9, q2⟩, q1⟩, q0⟩ =>
        have h9 : g2 = [] := h9
        obtain ⟨z0, y0⟩ := gi_ok e0 r0
        obtain ⟨z1, y1⟩ := gi_ok e1 r1
        obtain ⟨z2, y2⟩ := gi_ok e2 r2
        refine ⟨?_, ?_⟩
        · simp [z0, z1, z2]
        · simp [q0, q1, q2, h9, y0, y1, y2]
    · cases h
  · cases h
def enc_Rcp : List V → Option Rcp
  | [a0, a1, a2, a3, a4] => match gi a0, gi a1, gi a2, gi a3, gi a4 with
    | some x0, some x1, some x2, some x3, some x4 => some ⟨x0, x1, x2, x3, x4⟩
    | _, _, _, _, _ => none
  | _ => none
theorem enc_Rcp_ok {w : World} {c : List V} {us : List Value} {fp : List Nat} {x : Rcp} (h : enc_Rcp c = some x) (hr : RIs w c us fp) : ERcp w us x fp := by
  unfold enc_Rcp at h
  split at h
  · rename_i a0 a1 a2 a3 a4
    split at h
    · rename_i x0 x1 x2 x3 x4 e0 e1 e2 e3 e4
      simp only [Option.some.injEq] at h
      subst h
      match us, hr with
      | [u0, u1, u2, u3, u4], ⟨f0, g0, r0, ⟨f1, g1, r1, ⟨f2, g2, r2, ⟨f3, g3, r3, ⟨f4, g4, r4, h9, q4⟩, q3⟩, q2⟩, q1⟩, q0⟩ =>
        have h9 : g4 = [] := h9
        obtain ⟨z0, y0⟩ := gi_ok e0 r0
        obtain ⟨z1, y1⟩ := gi_ok e1 r1
        obtain ⟨z2, y2⟩ := gi_ok e2 r2
        obtain ⟨z3, y3⟩ := gi_ok e3 r3
        obtain ⟨z4, y4⟩ := gi_ok e4 r4
        refine ⟨?_, ?_⟩
        · simp [z0, z1, z2, z3, z4]
        · simp [q0, q1, q2, q3, q4, h9, y0, y1, y2, y3, y4]
    · cases h
  · cases h
def enc_Plain : List V → Option Plain
  | [a0, a1] => match gi a0, gs .u8 a1 with
    | some x0, some x1 => some ⟨x0, x1⟩
    | _, _ => none
  | _ => none
theorem enc_Plain_ok {w : World} {c : List V} {us : List Value} {fp : List Nat} {x : Plain} (h : enc_Plain c = some x) (hr : RIs w c us fp) : EPlain w us x fp := by
  unfold enc_Plain at h
  split at h
  · rename_i a0 a1
    split at h
    · rename_i x0 x1 e0 e1
      simp only [Option.some.injEq] at h
      subst h
      match us, hr with
      | [u0, u1], ⟨f0, g0, r0, ⟨f1, g1, r1, h9, q1⟩, q0⟩ =>
        have h9 : g1 = [] := h9
        obtain ⟨z0, y0⟩ := gi_ok e0 r0
        have z1 := gs_ok e1 r1
        refine ⟨u1, f1, ?_, z1, ?_⟩
        · simp [z0]
        · simp [q0, q1, h9, y0]
    · cases h
  · cases h
def enc_SAns : List V → Option SAns
  | [a0, a1, a2, a3, a4] => match gi a0, gi a1, gs .int a2, gs .u8 a3, gi a4 with
    | some x0, some x1, some x2, some x3, some x4 => some ⟨x0, x1, x2, x3, x4⟩
    | _, _, _, _, _ => none
  | _ => none
theorem enc_SAns_ok {w : World} {c : List V} {us : List Value} {fp : List Nat} {x : SAns} (h : enc_SAns c = some x) (hr : RIs w c us fp) : ESAns w us x fp := by
  unfold enc_SAns at h
  split at h
  · rename_i a0 a1 a2 a3 a4
    split at h
    · rename_i x0 x1 x2 x3 x4 e0 e1 e2 e3 e4
      simp only [Option.some.injEq] at h
      subst h
      match us, hr with
      | [u0, u1, u2, u3, u4], ⟨f0, g0, r0, ⟨f1, g1, r1, ⟨f2, g2, r2, ⟨f3, g3, r3, ⟨f4, g4, r4, h9, q4⟩, q3⟩, q2⟩, q1⟩, q0⟩ =>
        have h9 : g4 = [] := h9
        obtain ⟨z0, y0⟩ := gi_ok e0 r0
        obtain ⟨z1, y1⟩ := gi_ok e1 r1
        have z2 := gs_ok e2 r2
        have z3 := gs_ok e3 r3
        obtain ⟨z4, y4⟩ := gi_ok e4 r4
        refine ⟨u2, u3, f2, f3, ?_, z2, z3, ?_⟩
        · simp [z0, z1, z4]
        · simp [q0, q1, q2, q3, q4, h9, y0, y1, y4]
    · cases h
  · cases h
/-- An element out of its cells; what must hold for it. -/
def enc_int : List V → Option (List Prop × Int)
  | [v] => match gi v with | some n => some ([], n) | none => none
  | _ => none
def enc_u8 : List V → Option (List Prop × UInt8)
  | [.lit (.int .u8 n)] => some ([0 ≤ n ∧ n < 256], UInt8.ofNat n.toNat)
  | _ => none
def enc_str : List V → Option (List Prop × List UInt8)
  | [.lit (.string s)] => some ([s.size ≤ maxLen], s.data.toList)
  | _ => none
def enc_sl (t : Tag) : List V → Option (List Prop × List (T t))
  | [v] => match gs t v with | some l => some ([], l) | none => none
  | _ => none
def encS {α : Type} : Option α → Option (List Prop × α)
  | some x => some ([], x)
  | none => none
theorem encS_some {α : Type} {o : Option α} {vc : List Prop} {x : α} (h : encS o = some (vc, x)) : o = some x := by
  cases o with
  | none => cases h
  | some y => simp only [encS, Option.some.injEq, Prod.mk.injEq] at h; rw [h.2]
def enc : (t : Tag) → List V → Option (List Prop × T t)
  | .int, c => enc_int c
  | .u8, c => enc_u8 c
  | .str, c => enc_str c
  | .sl t, c => enc_sl t c
  | .DB, c => encS (enc_DB c)
  | .RShare, c => encS (enc_RShare c)
  | .Srv, c => encS (enc_Srv c)
  | .ARound, c => encS (enc_ARound c)
  | .Arc, c => encS (enc_Arc c)
  | .Cli, c => encS (enc_Cli c)
  | .Dev, c => encS (enc_Dev c)
  | .Wld, c => encS (enc_Wld c)
  | .Ev, c => encS (enc_Ev c)
  | .Trf, c => encS (enc_Trf c)
  | .Rcp, c => encS (enc_Rcp c)
  | .Plain, c => encS (enc_Plain c)
  | .SAns, c => encS (enc_SAns c)
theorem enc_ok {w : World} : (t : Tag) → {c : List V} → {us : List Value} → {fp : List Nat} → {vc : List Prop} → {x : T t} → enc t c = some (vc, x) → (∀ q, q ∈ vc → q) → RIs w c us fp → rd t w us x fp
  | .int, c, us, fp, vc, x, h, hv, hr => by
    have h : enc_int c = some (vc, x) := h
    unfold enc_int at h
    split at h <;> first | (cases h; done) | skip
    · split at h
      · rename_i v _ n e
        simp only [Option.some.injEq, Prod.mk.injEq] at h
        obtain ⟨rfl, rfl⟩ := h
        match us, hr with
        | [u], ⟨f, g, r, h9, q⟩ =>
          obtain ⟨z, y⟩ := gi_ok e r
          have h9 : g = [] := h9
          exact ⟨by rw [z], by simp [q, y, h9]⟩
      · cases h
  | .u8, c, us, fp, vc, x, h, hv, hr => by
    have h : enc_u8 c = some (vc, x) := h
    unfold enc_u8 at h
    split at h <;> first | (cases h; done) | skip
    · rename_i n _
      simp only [Option.some.injEq, Prod.mk.injEq] at h
      obtain ⟨rfl, rfl⟩ := h
      obtain ⟨h0, h1⟩ := hv _ (List.mem_singleton.2 rfl)
      match us, hr with
      | [u], ⟨f, g, r, h9, q⟩ =>
        have h9 : g = [] := h9
        obtain ⟨rfl, _, rfl⟩ := r
        refine ⟨?_, by simp [q, h9]⟩
        have : ((UInt8.ofNat n.toNat).toNat : Int) = n := by rw [UInt8.toNat_ofNat']; omega
        rw [this]
  | .str, c, us, fp, vc, x, h, hv, hr => by
    have h : enc_str c = some (vc, x) := h
    unfold enc_str at h
    split at h <;> first | (cases h; done) | skip
    · rename_i s _
      simp only [Option.some.injEq, Prod.mk.injEq] at h
      obtain ⟨rfl, rfl⟩ := h
      have h0 := hv _ (List.mem_singleton.2 rfl)
      match us, hr with
      | [u], ⟨f, g, r, h9, q⟩ =>
        have h9 : g = [] := h9
        obtain ⟨rfl, _, rfl⟩ := r
        exact ⟨rfl, h0, by simp [q, h9]⟩
  | .sl t, c, us, fp, vc, x, h, hv, hr => by
    have h : enc_sl t c = some (vc, x) := h
    unfold enc_sl at h
    split at h <;> first | (cases h; done) | skip
    · split at h
      · rename_i v _ l e
        simp only [Option.some.injEq, Prod.mk.injEq] at h
        obtain ⟨rfl, rfl⟩ := h
        match us, hr with
        | [u], ⟨f, g, r, h9, q⟩ =>
          have h9 : g = [] := h9
          refine ⟨u, rfl, ?_⟩
          have := gs_ok e r
          rw [q, h9, List.append_nil]; exact this
      · cases h
  | .DB, c, us, fp, vc, x, h, hv, hr => by
    exact enc_DB_ok (encS_some (show encS (enc_DB c) = _ from h)) hr
  | .RShare, c, us, fp, vc, x, h, hv, hr => by
    exact enc_RShare_ok (encS_some (show encS (enc_RShare c) = _ from h)) hr
  | .Srv, c, us, fp, vc, x, h, hv, hr => by
    exact enc_Srv_ok (encS_some (show encS (enc_Srv c) = _ from h)) hr
  | .ARound, c, us, fp, vc, x, h, hv, hr => by
    exact enc_ARound_ok (encS_some (show encS (enc_ARound c) = _ from h)) hr
  | .Arc, c, us, fp, vc, x, h, hv, hr => by
    exact enc_Arc_ok (encS_some (show encS (enc_Arc c) = _ from h)) hr
  | .Cli, c, us, fp, vc, x, h, hv, hr => by
    exact enc_Cli_ok (encS_some (show encS (enc_Cli c) = _ from h)) hr
  | .Dev, c, us, fp, vc, x, h, hv, hr => by
    exact enc_Dev_ok (encS_some (show encS (enc_Dev c) = _ from h)) hr
  | .Wld, c, us, fp, vc, x, h, hv, hr => by
    exact enc_Wld_ok (encS_some (show encS (enc_Wld c) = _ from h)) hr
  | .Ev, c, us, fp, vc, x, h, hv, hr => by
    exact enc_Ev_ok (encS_some (show encS (enc_Ev c) = _ from h)) hr
  | .Trf, c, us, fp, vc, x, h, hv, hr => by
    exact enc_Trf_ok (encS_some (show encS (enc_Trf c) = _ from h)) hr
  | .Rcp, c, us, fp, vc, x, h, hv, hr => by
    exact enc_Rcp_ok (encS_some (show encS (enc_Rcp c) = _ from h)) hr
  | .Plain, c, us, fp, vc, x, h, hv, hr => by
    exact enc_Plain_ok (encS_some (show encS (enc_Plain c) = _ from h)) hr
  | .SAns, c, us, fp, vc, x, h, hv, hr => by
    exact enc_SAns_ok (encS_some (show encS (enc_SAns c) = _ from h)) hr
/-- Zero values of elements, their bytes; whose readings pass no block. -/
def zval : Tag → Value
  | .int => .int .i64 0
  | .u8 => .int .u8 0
  | .str => .string ⟨#[]⟩
  | .sl _ => .slice none 0 0
  | .DB => .agg #[.slice none 0 0]
  | .RShare => .agg #[.int .i64 0, .slice none 0 0]
  | .Srv => .agg #[.int .i64 0, .int .i64 0, .int .i64 0, .slice none 0 0, .int .i64 0]
  | .ARound => .agg #[.int .i64 0, .slice none 0 0]
  | .Arc => .agg #[.int .i64 0, .slice none 0 0]
  | .Cli => .agg #[.int .i64 0, .int .i64 0, .int .i64 0, .int .i64 0, .slice none 0 0, .int .i64 0, .slice none 0 0, .int .i64 0]
  | .Dev => .agg #[.int .i64 0, .int .i64 0, .int .i64 0, .int .i64 0, .slice none 0 0, .int .i64 0, .slice none 0 0, .int .i64 0, .int .i64 0, .int .i64 0, .int .i64 0, .int .i64 0, .slice none 0 0, .int .i64 0, .slice none 0 0, .int .i64 0]
  | .Wld => .agg #[.int .i64 0, .slice none 0 0, .slice none 0 0, .int .i64 0, .slice none 0 0, .int .i64 0, .int .i64 0, .int .i64 0, .slice none 0 0, .int .i64 0]
  | .Ev => .agg #[.int .i64 0, .int .i64 0, .int .i64 0, .slice none 0 0]
  | .Trf => .agg #[.int .i64 0, .int .i64 0, .int .i64 0]
  | .Rcp => .agg #[.int .i64 0, .int .i64 0, .int .i64 0, .int .i64 0, .int .i64 0]
  | .Plain => .agg #[.int .i64 0, .slice none 0 0]
  | .SAns => .agg #[.int .i64 0, .int .i64 0, .slice none 0 0, .slice none 0 0, .int .i64 0]
def byt : Tag → Nat
  | .int => 8
  | .u8 => 1
  | .str => 16
  | .sl _ => 24
  | .DB => 24
  | .RShare => 32
  | .Srv => 56
  | .ARound => 32
  | .Arc => 32
  | .Cli => 96
  | .Dev => 192
  | .Wld => 144
  | .Ev => 48
  | .Trf => 24
  | .Rcp => 40
  | .Plain => 32
  | .SAns => 72
theorem zval_cells : (t : Tag) → (zval t).cells.size = kk t
  | .int => rfl
  | .u8 => rfl
  | .str => rfl
  | .sl _ => rfl
  | .DB => rfl
  | .RShare => rfl
  | .Srv => rfl
  | .ARound => rfl
  | .Arc => rfl
  | .Cli => rfl
  | .Dev => rfl
  | .Wld => rfl
  | .Ev => rfl
  | .Trf => rfl
  | .Rcp => rfl
  | .Plain => rfl
  | .SAns => rfl
def flat : Tag → Bool
  | .int => true
  | .u8 => true
  | .str => true
  | .sl _ => false
  | .DB => false
  | .RShare => false
  | .Srv => false
  | .ARound => false
  | .Arc => false
  | .Cli => false
  | .Dev => false
  | .Wld => false
  | .Ev => false
  | .Trf => true
  | .Rcp => true
  | .Plain => false
  | .SAns => false
theorem flat_ok {w : World} (t : Tag) {cs : List Value} {x : T t} {fp : List Nat} (hf : flat t = true) (h : rd t w cs x fp) : fp = [] := by
  cases t with
  | int => exact (show EInt w cs x fp from h).2
  | u8 => exact (show EU8 w cs x fp from h).2
  | str => exact (show EStr w cs x fp from h).2.2
  | sl _ => cases hf
  | DB => cases hf
  | RShare => cases hf
  | Srv => cases hf
  | ARound => cases hf
  | Arc => cases hf
  | Cli => cases hf
  | Dev => cases hf
  | Wld => cases hf
  | Ev => cases hf
  | Trf => exact (show ETrf w cs x fp from h).2
  | Rcp => exact (show ERcp w cs x fp from h).2
  | Plain => cases hf
  | SAns => cases hf
theorem RIs.lits {w : World} : ∀ {z : List Value}, (∀ v, v ∈ z → v.oneCell' = true) → RIs w (z.map V.lit) z []
  | [], _ => rfl
  | v :: r, h => ⟨[], [], ⟨rfl, h v (by simp), rfl⟩, RIs.lits fun u hu => h u (by simp [hu]), rfl⟩
/-- Zero values read as the default. -/
theorem zero_ok {w : World} : (t : Tag) → rd t w (zval t).cells.toList (dfl t) []
  | .int => ⟨rfl, rfl⟩
  | .u8 => ⟨rfl, rfl⟩
  | .str => ⟨rfl, by decide, rfl⟩
  | .sl _ => ⟨_, rfl, none, 0, rfl, Nat.le_refl _, Nat.zero_le _, Or.inl ⟨rfl, rfl, fun _ => rfl⟩⟩
  | .DB => enc_DB_ok (c := (zval .DB).cells.toList.map V.lit) rfl (RIs.lits (by simp [zval, Value.cells, Value.oneCell']))
  | .RShare => enc_RShare_ok (c := (zval .RShare).cells.toList.map V.lit) rfl (RIs.lits (by simp [zval, Value.cells, Value.oneCell']))
  | .Srv => enc_Srv_ok (c := (zval .Srv).cells.toList.map V.lit) rfl (RIs.lits (by simp [zval, Value.cells, Value.oneCell']))
  | .ARound => enc_ARound_ok (c := (zval .ARound).cells.toList.map V.lit) rfl (RIs.lits (by simp [zval, Value.cells, Value.oneCell']))
  | .Arc => enc_Arc_ok (c := (zval .Arc).cells.toList.map V.lit) rfl (RIs.lits (by simp [zval, Value.cells, Value.oneCell']))
  | .Cli => enc_Cli_ok (c := (zval .Cli).cells.toList.map V.lit) rfl (RIs.lits (by simp [zval, Value.cells, Value.oneCell']))
  | .Dev => enc_Dev_ok (c := (zval .Dev).cells.toList.map V.lit) rfl (RIs.lits (by simp [zval, Value.cells, Value.oneCell']))
  | .Wld => enc_Wld_ok (c := (zval .Wld).cells.toList.map V.lit) rfl (RIs.lits (by simp [zval, Value.cells, Value.oneCell']))
  | .Ev => enc_Ev_ok (c := (zval .Ev).cells.toList.map V.lit) rfl (RIs.lits (by simp [zval, Value.cells, Value.oneCell']))
  | .Trf => enc_Trf_ok (c := (zval .Trf).cells.toList.map V.lit) rfl (RIs.lits (by simp [zval, Value.cells, Value.oneCell']))
  | .Rcp => enc_Rcp_ok (c := (zval .Rcp).cells.toList.map V.lit) rfl (RIs.lits (by simp [zval, Value.cells, Value.oneCell']))
  | .Plain => enc_Plain_ok (c := (zval .Plain).cells.toList.map V.lit) rfl (RIs.lits (by simp [zval, Value.cells, Value.oneCell']))
  | .SAns => enc_SAns_ok (c := (zval .SAns).cells.toList.map V.lit) rfl (RIs.lits (by simp [zval, Value.cells, Value.oneCell']))
end Go.Proofs.YthjedjndamejmaaGreat.G
namespace Go.Proofs.YthjedjndamejmaaGreat.G
set_option linter.all false
open Go.RowKit L D
def Amb0 (_ : Nat) : Prop := False
def Amb (_ : World) : Prop := True
theorem Amb.keep {w w' : World} (_ : Amb w) (_ : ∀ b, Amb0 b → b < w.heap.size → w'.heap[b]? = w.heap[b]?) : Amb w' := trivial
theorem Amb.lt {w : World} (_ : Amb w) {b : Nat} (hb : Amb0 b) : b < w.heap.size := hb.elim
end Go.Proofs.YthjedjndamejmaaGreat.G
namespace Go.Proofs.YthjedjndamejmaaGreat.G
set_option linter.all false
open Go.RowKit L D
/-- A cell's value, or a struct's cells. -/
inductive S1 where
  | a (v : V)
  | agg (l : List V)
/-- What a slot holds. 'cond p x': x where the slots of p hold those bools, else nothing. -/
inductive SV where
  | one (x : S1)
  | tup (l : List S1)
  | cond (p : List (Nat × Bool)) (x : S1)
/-- What the call owns: a variable in memory, a slice. -/
inductive Obj where
  | box (c : List V)
  | arr (t : Tag) (l : List (T t))
structure St where
  n : Nat
  sl : List (Nat × SV)
  hp : List (Nat × Obj)
/-- Kinds of types. 'sl t e': a slice with elements of kind t, of type e. 'st': a struct: its zero cells, the kinds of its slices' elements, its fields' places. -/
inductive TK where
  | int (k : IntKind)
  | bool
  | str
  | sl (t : Tag) (e : Nat)
  | st (z : List Value) (tg : List (Option Tag)) (fo : List Nat)
  | other
abbrev nilv : Value := .slice none 0 0
/-- Names from 1000 on are lent to the call: they are never given away. -/
def pin (n : Nat) : Bool := Nat.ble 1000 n
/-- Names of slices that may be written, but to which nothing may be appended. -/
def soft (n : Nat) : Bool := Nat.ble 900 n
def V.unvw : V → V
  | .vw _ _ t l => .sl t l
  | v => v
def V.isvw : V → Bool
  | .vw _ _ _ _ => true
  | _ => false
def look {α : Type} : List (Nat × α) → Nat → Option α
  | [], _ => none
  | (j, x) :: r, i => match Nat.beq i j with | true => some x | false => look r i
def subp (q p : List (Nat × Bool)) : Bool := q.all fun e => p.any fun f => Nat.beq e.1 f.1 && e.2 == f.2
def SV.mentions (d : Nat) : SV → Bool
  | .cond p _ => p.any fun e => Nat.beq e.1 d
  | _ => false
def SV.drops (d : Nat) (v : SV) : SV := match v.mentions d with | true => .one (.a .any) | false => v
/-- A slot is written. -/
def St.put (st : St) (d : Option Nat) (v : SV) : St :=
  match d with
  | some d => match st.sl.any fun e => e.2.mentions d with
    | false => ⟨st.n, (d, v) :: st.sl, st.hp⟩
    | true => ⟨st.n, (d, v) :: st.sl.map fun e => (e.1, e.2.drops d), st.hp⟩
  | none => st
/-- An operand's value where the path p holds. -/
def opv (st : St) (p : List (Nat × Bool)) : Operand → Option S1
  | .tmp t => match look st.sl t with
    | some (.one x) => some x
    | some (.cond q x) => match subp q p with | true => some x | false => none
    | _ => none
  | .const v => match v.oneCell' with | true => some (.a (.lit v)) | false => none
  | .func f => some (.a (.lit (.func (.func f) #[] #[])))
  | .global _ => none
/-- Integers: what must hold, and the result. -/
def bop (op : BinOp) (k : IntKind) (x y : Int) : Option (List Prop × Value) :=
  match op with
  | .add => some ([], .int k (k.wrap (x + y)))
  | .sub => some ([], .int k (k.wrap (x - y)))
  | .mul => some ([], .int k (k.wrap (x * y)))
  | .quo => some ([y ≠ 0], .int k (k.wrap (x.tdiv y)))
  | .rem => some ([y ≠ 0], .int k (x.tmod y))
  | .eql => some ([], .bool (x == y))
  | .neq => some ([], .bool (x != y))
  | .lss => some ([], .bool (decide (x < y)))
  | .leq => some ([], .bool (decide (x ≤ y)))
  | .gtr => some ([], .bool (decide (x > y)))
  | .geq => some ([], .bool (decide (x ≥ y)))
  | .and => some ([], .int k (k.wrap (BitVec.ofInt k.bits x &&& BitVec.ofInt k.bits y).toNat))
  | .or => some ([], .int k (k.wrap (BitVec.ofInt k.bits x ||| BitVec.ofInt k.bits y).toNat))
  | .xor => some ([], .int k (k.wrap (BitVec.ofInt k.bits x ^^^ BitVec.ofInt k.bits y).toNat))
  | _ => none
/-- Integers, of kinds that shifts mix. -/
def ibop (op : BinOp) (k k' : IntKind) (x y : Int) : Option (List Prop × Value) :=
  match op with
  | .shl => some ([0 ≤ y], .int k (k.wrap (x * 2 ^ (min y.toNat k.bits))))
  | .shr => some ([0 ≤ y], .int k (x.fdiv (2 ^ (min y.toNat k.bits))))
  | op => match decEq k k' with | isTrue _ => bop op k x y | isFalse _ => none
/-- Strings. -/
def sbop (op : BinOp) (x y : ByteArray) : Option (List Prop × Value) :=
  match op with
  | .eql => some ([], .bool (x.toList == y.toList))
  | .neq => some ([], .bool !(x.toList == y.toList))
  | .add => some ([((x.size + y.size : Nat) : Int) ≤ IntKind.i64.max], .string (x ++ y))
  | _ => none
/-- Bytes as a string. -/
def str8 (l : List UInt8) : ByteArray := ⟨l.toArray⟩
def bytesOf (st : St) : V → Option (List UInt8)
  | .sl .u8 l => some l
  | .own n => match look st.hp n with | some (.arr .u8 l) => some l | _ => none
  | .vw _ _ .u8 l => some l
  | .lit (.slice none 0 0) => some []
  | _ => none
/-- A slice's elements. -/
def lenOf (st : St) (k : TK) : V → Option Int
  | .sl _ l => match k with | .sl _ _ => some (l.length : Int) | _ => none
  | .own n => match k with
    | .sl _ _ => match look st.hp n with | some (.arr _ l) => some (l.length : Int) | _ => none
    | _ => none
  | .vw _ _ _ l => match k with | .sl _ _ => some (l.length : Int) | _ => none
  | .lit (.slice none 0 0) => match k with | .sl _ _ => some 0 | _ => none
  | .lit (.string s) => match k with | .str => some (s.size : Int) | _ => none
  | _ => none
/-- A cell as it is handed over: immutable. -/
def imm (st : St) (tg : Option Tag) : V → Option V
  | .sl t l => some (.sl t l)
  | .own n => match look st.hp n with | some (.arr t l) => some (.sl t l) | _ => none
  | .vw _ _ t l => some (.sl t l)
  | .lit (.slice none 0 0) => match tg with | some t => some (.sl t []) | none => none
  | .lit (.slice _ _ _) => none
  | .lit v => some (.lit v)
  | _ => none
def imms (st : St) : List (Option Tag) → List V → Option (List V)
  | _, [] => some []
  | tg, v :: r => match imm st (match tg with | t :: _ => t | [] => none) v, imms st (match tg with | _ :: ts => ts | [] => []) r with
    | some x, some y => some (x :: y)
    | _, _ => none
/-- An argument as it is handed over. -/
def arg1 (st : St) (k : TK) : S1 → Option S1
  | .a v => match imm st (match k with | .sl t _ => some t | _ => none) v with | some x => some (.a x) | none => none
  | .agg l => match imms st (match k with | .st _ tg _ => tg | _ => []) l with | some x => some (.agg x) | none => none
def isnl : S1 → Bool
  | .a (.lit (.slice none 0 0)) => true
  | _ => false
/-- b: a nil slice is handed over as nil. -/
def argb (b : Bool) (st : St) (k : TK) (v : S1) : Option S1 := match b && isnl v with | true => some v | false => arg1 st k v
def args (b : Bool) (Γ : Nat → TK) (st : St) (p : List (Nat × Bool)) : List Operand → List Nat → Option (List S1)
  | [], _ => some []
  | x :: r, t => match opv st p x with
    | some v => match argb b st (match t with | t :: _ => Γ t | [] => .other) v, args b Γ st p r (match t with | _ :: ts => ts | [] => []) with
      | some y, some ys => some (y :: ys)
      | _, _ => none
    | none => none
/-- A call's result: its cells; own: its slices become the caller's own. -/
structure CR where
  own : Bool
  rs : List S1
/-- Result cells become objects of the caller: names from m on. -/
def adopt (m : Nat) : List V → List V × List (Nat × Obj)
  | [] => ([], [])
  | .sl t l :: r => match adopt (m + 1) r with | (vs, os) => (.own m :: vs, (m, .arr t l) :: os)
  | .vw _ _ t l :: r => match adopt (m + 1) r with | (vs, os) => (.own (m + 900) :: vs, (m + 900, .arr t l) :: os)
  | v :: r => match adopt (m + 1) r with | (vs, os) => (v :: vs, os)
def adopt1 (m : Nat) : S1 → S1 × List (Nat × Obj)
  | .a v => match adopt m [v] with | ([v'], os) => (.a v', os) | _ => (.a .any, [])
  | .agg l => match adopt m l with | (l', os) => (.agg l', os)
def adopts (m : Nat) : List S1 → List S1 × List (Nat × Obj)
  | [] => ([], [])
  | x :: r => match adopt1 m x, adopts (m + 20) r with | (x', os), (r', os') => (x' :: r', os ++ os')
/-- No name twice. -/
def nodupk : List (Nat × Obj) → Bool
  | [] => true
  | (n, _) :: r => (match look r n with | none => true | some _ => false) && nodupk r
/-- Names that are new. -/
def fresh (hp : List (Nat × Obj)) : List (Nat × Obj) → Bool
  | [] => true
  | (n, _) :: r => ((match look hp n with | none => true | some _ => false) && !pin n) && fresh hp r
/-- The outcome of an operation that turns nothing: what must hold, its value, new objects. -/
structure Out where
  vc : List Prop
  v : SV
  o : List (Nat × Obj)
def S1.novw : S1 → Bool
  | .a v => !v.isvw
  | .agg l => l.all fun v => !v.isvw
def S1.unvw : S1 → S1
  | .a v => .a v.unvw
  | .agg l => .agg (l.map V.unvw)
def outs (m : Nat) (c : CR) (vc : List Prop) : Out :=
  match c.own with
  | true => match adopts m c.rs with
    | ([x], os) => ⟨vc, .one x, os⟩
    | (l, os) => ⟨vc, .tup l, os⟩
  | false => match c.rs with
    | [x] => match x.novw with
      | true => ⟨vc, .one x, []⟩
      | false => ⟨vc, .one x.unvw, []⟩
    | l => match l.all S1.novw with
      | true => ⟨vc, .tup l, []⟩
      | false => ⟨vc, .tup (l.map S1.unvw), []⟩
/-- The cells of a struct from a place on. -/
def sub (c : List V) (off k : Nat) : Option (List V) := match Nat.ble (off + k) c.length with | true => some ((c.drop off).take k) | false => none
def elt : List V → Nat → Option V
  | [], _ => none
  | v :: _, 0 => some v
  | _ :: r, n + 1 => elt r n
def offs : List Nat → Nat → Option Nat
  | [], _ => none
  | v :: _, 0 => some v
  | _ :: r, n + 1 => offs r n
/-- A function's value, that holds nothing. -/
def fnOf : S1 → Option FuncId
  | .a (.lit (.func (.func f) ⟨[]⟩ ⟨[]⟩)) => some f
  | _ => none
/-- A bound of a slice expression. -/
def bnd (st : St) (p : List (Nat × Bool)) (z : Int) : Option Operand → Option Int
  | none => some z
  | some x => match opv st p x with | some (.a (.lit (.int _ i))) => some i | _ => none
/-- A cell of an object's element, as it is read: slices are views. -/
def bor (n : Nat) (p : Option (Nat × Nat)) : V → V
  | .sl t l => .vw n p t l
  | .lit v => .lit v
  | _ => .any
/-- The cells of an object's element from a place on. -/
def bors (n i : Nat) : Nat → List V → List V
  | _, [] => []
  | o, v :: r => bor n (some (i, o)) v :: bors n i (o + 1) r
def borN (n : Nat) : List V → List V
  | [] => []
  | v :: r => bor n none v :: borN n r
/-- An integer operand. -/
def iopv (st : St) (p : List (Nat × Bool)) (x : Operand) : Option (IntKind × Int) := match opv st p x with | some (.a (.lit (.int k i))) => some (k, i) | _ => none
def iopvs (st : St) (p : List (Nat × Bool)) : List Operand → Option (List (IntKind × Int))
  | [] => some []
  | x :: r => match iopv st p x, iopvs st p r with | some y, some ys => some (y :: ys) | _, _ => none
def maxi (x y : Int) : Int := if y > x then y else x
def mini (x y : Int) : Int := if y < x then y else x
def foldi (f : Int → Int → Int) (k : IntKind) : Int → List (IntKind × Int) → Option Int
  | x, [] => some x
  | x, (k', y) :: r => match decEq k k' with | isTrue _ => foldi f k (f x y) r | isFalse _ => none
/-- Cells that hold no memory. -/
def plain : List V → Bool
  | [] => true
  | .lit (.slice _ _ _) :: _ => false
  | .lit _ :: r => plain r
  | _ => false
def cellsOf : S1 → List V
  | .a v => [v]
  | .agg l => l
/-- One slice of the call's own among literal cells. -/
def own1 (hp : List (Nat × Obj)) : List V → Option (List V × Nat)
  | .own n :: r => match look hp n, plain r with
    | some (.arr t l), true => some (.sl t l :: r, n)
    | _, _ => none
  | .lit (.slice _ _ _) :: _ => none
  | .lit v :: r => match own1 hp r with | some (c, n) => some (.lit v :: c, n) | none => none
  | _ => none
/-- The elements of a slice that is written out, none of them with memory. -/
def qparts (st : St) (p : List (Nat × Bool)) (g : Tag) : Nat → List (Nat × Operand) → Option (List Prop × List (T g))
  | _, [] => some ([], [])
  | i, (j, x) :: r => match Nat.beq i j, opv st p x with
    | true, some s => match plain (cellsOf s), enc g (cellsOf s), qparts st p g (i + 1) r with
      | true, some (vc, y), some (vcs, ys) => some (vc ++ vcs, y :: ys)
      | _, _, _ => none
    | _, _ => none
/-- A field's size. -/
def fsz (n : Nat) (fo : List Nat) (j : Nat) : Option Nat := match offs fo j, offs fo (j + 1) with
  | some a, some b => some (b - a)
  | some a, none => some (n - a)
  | _, _ => none
def noany : List V → Bool
  | [] => true
  | .any :: _ => false
  | _ :: r => noany r
/-- Some of a list's places, written. -/
def spl (c : List V) (off : Nat) (vs : List V) : Option (List V) := match Nat.ble (off + vs.length) c.length with
  | true => some (c.take off ++ (vs ++ c.drop (off + vs.length)))
  | false => none
/-- A struct's cells out of its parts. -/
def bfill (st : St) (p : List (Nat × Bool)) (n : Nat) (fo : List Nat) : List (Nat × Operand) → List V → Option (List V)
  | [], c => some c
  | (j, x) :: r, c => match offs fo j, fsz n fo j, opv st p x with
    | some o, some k, some s => match noany (cellsOf s) && Nat.beq (cellsOf s).length k, spl c o (cellsOf s) with
      | true, some c' => bfill st p n fo r c'
      | _, _ => none
    | _, _, _ => none
/-- The place of a view's element. -/
def vpos : Option (Nat × Nat) → Nat → Option (Nat × Nat × Nat)
  | some (a, b), j => some (a, b, j)
  | none, _ => none
def out1 (x : S1) : Option Out := some ⟨[], .one x, []⟩
/-- A tuple, handed on. -/
def mvt (st : St) : Operand → Option Out
  | .tmp t => match look st.sl t with | some (.tup l) => some ⟨[], .tup l, []⟩ | _ => none
  | _ => none
/-- What an operation that turns nothing does. S: what it means that a call of f with those arguments gives those results. -/
def quiet (Γ : Nat → TK) (E : Tag → Nat → Prop) (S : FuncId → List S1 → List S1 → Prop) (cr : List (Nat × CR)) (st : St) (p : List (Nat × Bool)) (d m : Nat) : Op → Option Out
  | .move x | .assign x => match opv st p x with | some v => out1 v | none => mvt st x
  | .pick (.tmp c) x y => match opv st p (.tmp c), opv st ((c, true) :: p) x, opv st ((c, false) :: p) y with
    | some (.a (.lit (.bool t))), some (.a (.lit (.bool u))), some (.a (.lit (.bool v))) => out1 (.a (.lit (.bool (if t then u else v))))
    | _, _, _ => none
  | .box _ x => match opv st p x with
    | some (.agg l) => some ⟨[], .one (.a (.ptr m 0)), [(m, .box l)]⟩
    | some (.a .any) => none
    | some (.a v) => some ⟨[], .one (.a (.ptr m 0)), [(m, .box [v])]⟩
    | none => none
  | .alloc t => match Γ t with
    | .st z _ _ => some ⟨[], .one (.a (.ptr m 0)), [(m, .box (z.map .lit))]⟩
    | _ => none
  | .load t x => match opv st p x with
    | some (.a (.ptr n off)) => match look st.hp n with
      | some (.box c) => match Γ t with
        | .st z _ _ => match sub c off z.length with | some l => out1 (.agg l) | none => none
        | .other => none
        | _ => match elt c off with | some v => out1 (.a v) | none => none
      | _ => none
    | some (.a (.ip g y off)) => match Γ t with
        | .st z _ _ => match sub (dec g y) off z.length with | some l => out1 (.agg l) | none => none
        | .other => none
        | _ => match elt (dec g y) off with | some v => out1 (.a v) | none => none
    | some (.a (.vip n _ g y off)) => match Γ t with
        | .st z _ _ => match sub (dec g y) off z.length with | some l => out1 (.agg (borN n l)) | none => none
        | .other => none
        | _ => match elt (dec g y) off with | some v => out1 (.a (bor n none v)) | none => none
    | some (.a (.eptr n i off)) => match look st.hp n with
      | some (.arr g l) => match Γ t with
        | .st z _ _ => match sub (dec g (l.getD i (dfl g))) off z.length with | some c => some ⟨[i < l.length], .one (.agg (bors n i off c)), []⟩ | none => none
        | .other => none
        | _ => match elt (dec g (l.getD i (dfl g))) off with | some v => some ⟨[i < l.length], .one (.a (bor n (some (i, off)) v)), []⟩ | none => none
      | _ => none
    | _ => none
  | .binOp op t x y _ => match opv st p x, opv st p y with
    | some (.a (.lit (.int k a))), some (.a (.lit (.int k' b))) => match ibop op k k' a b with | some (vc, v) => some ⟨vc, .one (.a (.lit v)), []⟩ | none => none
    | some (.a (.lit (.string a))), some (.a (.lit (.string b))) => match sbop op a b with | some (vc, v) => some ⟨vc, .one (.a (.lit v)), []⟩ | none => none
    | some (.a (.lit (.bool a))), some (.a (.lit (.bool b))) => match Γ t, op with
      | .bool, .eql => out1 (.a (.lit (.bool (a == b))))
      | .bool, .neq => out1 (.a (.lit (.bool (a != b))))
      | _, _ => none
    | _, _ => none
  | .unOp .not _ x => match opv st p x with
    | some (.a (.lit (.bool t))) => out1 (.a (.lit (.bool (!t))))
    | _ => none
  | .unOp .neg _ x => match opv st p x with
    | some (.a (.lit (.int k n))) => out1 (.a (.lit (.int k (k.wrap (0 - n)))))
    | _ => none
  | .convert s t x => match opv st p x, Γ s, Γ t with
    | some (.a (.lit (.int _ n))), .int _, .int k => out1 (.a (.lit (.int k (k.wrap n))))
    | some (.a v), .sl _ e, .str => match Γ e, bytesOf st v with
      | .int .u8, some l => out1 (.a (.lit (.string (str8 l))))
      | _, _ => none
    | _, _, _ => none
  | .makeFunc (.func f) first captured => match first.toList, captured.toList with
    | [], [x] => match opv st p x with
      | some (.a (.ptr n 0)) => out1 (.a (.fnp f n))
      | _ => none
    | _, _ => none
  | .slice t x lo hi none => match Γ t with
    | .sl g _ => match (look cr (d + 600000)).isSome with
      | true => match opv st p x, bnd st p 0 lo, hi with
        | some (.a (.vw _ _ _ l)), some lo, none => some ⟨[lo = (l.length : Int)], .one (.a (.sl g [])), []⟩
        | some (.a (.husk k)), some lo, none => some ⟨[lo = (k : Int)], .one (.a (.sl g [])), []⟩
        | _, _, _ => none
      | false => match opv st p x, bnd st p 0 lo with
        | some (.a (.sl t' l)), some lo => match bnd st p l.length hi with
          | some hi => match Nat.beq (kk g) (kk t') with
            | true => some ⟨[0 ≤ lo ∧ lo ≤ hi ∧ hi ≤ (l.length : Int)], .one (.a (.sl t' ((l.take hi.toNat).drop lo.toNat))), []⟩
            | false => none
          | none => none
        | some (.a (.vw n _ t' l)), some lo => match bnd st p l.length hi with
          | some hi => match Nat.beq (kk g) (kk t') with
            | true => some ⟨[0 ≤ lo ∧ lo ≤ hi ∧ hi ≤ (l.length : Int)], .one (.a (.vw n none t' ((l.take hi.toNat).drop lo.toNat))), []⟩
            | false => none
          | none => none
        | some (.a (.own n)), some lo => match look st.hp n with
          | some (.arr t' l) => match bnd st p l.length hi with
            | some hi => match Nat.beq (kk g) (kk t') with
              | true => some ⟨[0 ≤ lo ∧ lo ≤ hi ∧ hi ≤ (l.length : Int)], .one (.a (.vw n none t' ((l.take hi.toNat).drop lo.toNat))), []⟩
              | false => none
            | none => none
          | _ => none
        | _, _ => none
    | .str => match opv st p x, bnd st p 0 lo with
      | some (.a (.lit (.string s))), some lo => match bnd st p s.size hi with
        | some hi => some ⟨[0 ≤ lo ∧ lo ≤ hi ∧ hi ≤ (s.size : Int)], .one (.a (.lit (.string (s.extract lo.toNat hi.toNat)))), []⟩
        | none => none
      | _, _ => none
    | _ => none
  | .fieldAddr t x f => match Γ t with
    | .st _ _ fo => match offs fo f with
      | some k => match opv st p x with
        | some (.a (.ptr n off)) => out1 (.a (.ptr n (off + k)))
        | some (.a (.ip t x off)) => out1 (.a (.ip t x (off + k)))
        | some (.a (.eptr n i off)) => out1 (.a (.eptr n i (off + k)))
        | some (.a (.vip n q t x off)) => out1 (.a (.vip n q t x (off + k)))
        | _ => none
      | none => none
    | _ => none
  | .indexAddr ty x i => match Γ ty with
    | .sl g _ => match opv st p x, opv st p i with
      | some (.a (.sl t l)), some (.a (.lit (.int _ i))) => match Nat.beq (kk g) (kk t) with
        | true => some ⟨[0 ≤ i ∧ i < (l.length : Int)], .one (.a (.ip t (l.getD i.toNat (dfl t)) 0)), []⟩
        | false => none
      | some (.a (.own n)), some (.a (.lit (.int _ i))) => match look st.hp n with
        | some (.arr t l) => match Nat.beq (kk g) (kk t) with
          | true => some ⟨[0 ≤ i ∧ i < (l.length : Int)], .one (.a (.eptr n i.toNat 0)), []⟩
          | false => none
        | _ => none
      | some (.a (.vw n q t l)), some (.a (.lit (.int _ i))) => match Nat.beq (kk g) (kk t) with
        | true => some ⟨[0 ≤ i ∧ i < (l.length : Int)], .one (.a (.vip n (vpos q i.toNat) t (l.getD i.toNat (dfl t)) 0)), []⟩
        | false => none
      | _, _ => none
    | _ => none
  | .makeSlice ty x y => match Γ ty with
    | .sl g e => match opv st p x, opv st p y with
      | some (.a (.lit (.int _ a))), some (.a (.lit (.int _ b))) => some ⟨[E g e, a = b, 0 ≤ a, a.toNat * byt g ≤ 140737488355328 ∧ a.toNat ≤ maxLen], .one (.a (.own m)), [(m, .arr g (List.replicate a.toNat (dfl g)))]⟩
      | _, _ => none
    | _ => none
  | .buildSlice ty len parts => match Γ ty with
    | .sl g e => match (look cr (d + 500000)).isSome with
      | true => match Nat.beq len 1, parts.toList with
        | true, [(0, x)] => match opv st p x with
          | some s => match own1 st.hp (cellsOf s) with
            | some (c, n) => match enc g c, Nat.ble (kk g) 16777216 with
              | some (vc, y), true => some ⟨E g e :: vc, .one (.a (.bsl n g [y])), []⟩
              | _, _ => none
            | none => none
          | none => none
        | _, _ => none
      | false => match Nat.beq parts.toList.length len, Nat.ble (len * kk g) 16777216, qparts st p g 0 parts.toList with
        | true, true, some (vc, xs) => some ⟨E g e :: vc, .one (.a (.own m)), [(m, .arr g xs)]⟩
        | _, _, _ => none
    | _ => none
  | .build ty parts => match Γ ty with
    | .st z _ fo => match bfill st p z.length fo parts.toList (z.map .lit) with
      | some c => out1 (.agg c)
      | none => none
    | _ => none
  | .nilCheck x => match opv st p x with
    | some (.a (.ptr n off)) => out1 (.a (.ptr n off))
    | some (.a (.eptr n i off)) => out1 (.a (.eptr n i off))
    | _ => none
  | .call ⟨.builtin .max, xs, _⟩ => match iopvs st p xs.toList with
    | some ((k, x) :: r) => match foldi maxi k x r with | some y => out1 (.a (.lit (.int k y))) | none => none
    | _ => none
  | .call ⟨.builtin .min, xs, _⟩ => match iopvs st p xs.toList with
    | some ((k, x) :: r) => match foldi mini k x r with | some y => out1 (.a (.lit (.int k y))) | none => none
    | _ => none
  | .extract (.tmp t) i => match look st.sl t with
    | some (.tup l) => match l[i]? with | some x => out1 x | none => none
    | _ => none
  | .call ⟨.builtin .len, xs, ts⟩ => match xs.toList, ts.toList with
    | [x], [t] => match opv st p x with
      | some (.a v) => match lenOf st (Γ t) v with | some n => out1 (.a (.lit (.int .i64 n))) | none => none
      | _ => none
    | _, _ => none
  | .call ⟨.value (.func f), xs, ts⟩ => match args (look cr (d + 300000)).isSome Γ st p xs.toList ts.toList, look cr d with
    | some as, some c => some (outs m c [S f as c.rs])
    | _, _ => none
  | .call ⟨.value (.tmp x), xs, ts⟩ => match opv st p (.tmp x) with
    | some v => match fnOf v with
      | some f => match args (look cr (d + 300000)).isSome Γ st p xs.toList ts.toList, look cr d with
        | some as, some c => some (outs m c [S f as c.rs])
        | _, _ => none
      | none => none
    | none => none
  | _ => none
/-- The bools that a path asks for. -/
def hyps (st : St) : List (Nat × Bool) → List Prop
  | [] => []
  | (d, x) :: r => match look st.sl d with
    | some (.one (.a (.lit (.bool b)))) => (b = x) :: hyps st r
    | some (.cond _ (.a (.lit (.bool b)))) => (b = x) :: hyps st r
    | _ => hyps st r
def imps : List Prop → Prop → Prop
  | [], q => q
  | h :: r, q => h → imps r q
/-- Under which path an operation runs. -/
def guardp (st : St) (ops : List Oper) (o : Oper) : Option (List (Nat × Bool)) :=
  match o.guard with
  | none => some []
  | some (j, x) => match ops[j]? with
    | some q => match q.dst with
      | some d => match look st.sl d with
        | some (.one (.a (.lit (.bool _)))) => some [(d, x)]
        | some (.cond p (.a (.lit (.bool _)))) => some ((d, x) :: p)
        | _ => none
      | none => none
    | none => none
def dstok (st : St) : Option Nat → Bool
  | some d => Nat.blt d st.n
  | none => true
/-- The name of what an operation makes. -/
def nmOf (ren : List (Nat × Nat)) : Option Nat → Option Nat
  | some d => match look ren d with | some m => some m | none => some d
  | none => some 99999
/-- An operation that turns nothing: what must hold, the slot's value, new objects. -/
def qcore (Γ : Nat → TK) (E : Tag → Nat → Prop) (S : FuncId → List S1 → List S1 → Prop) (ren : List (Nat × Nat)) (cr : List (Nat × CR)) (ops : List Oper) (st : St) (o : Oper) : Option (List Prop × SV × List (Nat × Obj)) :=
  match dstok st o.dst, nmOf ren o.dst, guardp st ops o with
  | true, some m, some [] => match quiet Γ E S cr st [] (o.dst.getD 0) m o.op with
    | some ⟨vc, v, os⟩ => match fresh st.hp os, nodupk os with
      | true, true => some (vc, v, os)
      | _, _ => none
    | none => none
  | true, some m, some (e :: p) => match (e :: p).any (fun e => o.dst == some e.1) with
    | false => match quiet Γ E S cr st (e :: p) (o.dst.getD 0) m o.op with
      | some ⟨vc, .one v, []⟩ => some (vc.map (imps (hyps st (e :: p))), .cond (e :: p) v, [])
      | _ => none
    | true => none
  | _, _, _ => none
/-- An operation that turns nothing, run. -/
def qstep (Γ : Nat → TK) (E : Tag → Nat → Prop) (S : FuncId → List S1 → List S1 → Prop) (ren : List (Nat × Nat)) (cr : List (Nat × CR)) (ops : List Oper) (st : St) (o : Oper) : Option (List Prop × St) :=
  match qcore Γ E S ren cr ops st o with
  | some (vc, v, os) => some (vc, St.put ⟨st.n, st.sl, os ++ st.hp⟩ o.dst v)
  | none => none
end Go.Proofs.YthjedjndamejmaaGreat.G
namespace Go.Proofs.YthjedjndamejmaaGreat.G
set_option linter.all false
open Go.RowKit L D
/-- An object's own value, and its blocks. -/
structure CO where
  v : Value
  fp : List Nat
abbrev Env := Nat → CO
abbrev Hp := List (Nat × Obj)
/-- A block is owned by an object. -/
def Ow (hp : Hp) (env : Env) (b : Nat) : Prop := ∃ n o, look hp n = some o ∧ b ∈ (env n).fp
/-- A view of an object's cell. -/
def RV (w : World) (hp : Hp) (env : Env) (n : Nat) (p : Option (Nat × Nat)) (t : Tag) (l : List (T t)) (u : Value) : Prop :=
  (∃ t l, look hp n = some (.arr t l)) ∧ (∃ fp, Sl (kk t) (rd t) w u l fp ∧ fp.Nodup ∧ ∀ b, b ∈ fp → b ∈ (env n).fp) ∧
      ∀ i off, p = some (i, off) → ∃ t0 l0 b o len cap, look hp n = some (.arr t0 l0) ∧ i < l0.length ∧ elt (dec t0 (l0.getD i (dfl t0))) off = some (.sl t l) ∧ (env n).v = .slice (some ⟨b, o, none⟩) len cap ∧ b ∈ (env n).fp ∧ w.cell? ⟨b, o + i * kk t0 + off, none⟩ = some u
def RA (w : World) (hp : Hp) (env : Env) : V → Value → Prop
  | .any, _ => True
  | .lit v, u => u = v ∧ v.oneCell' = true
  | .sl t l, u => ∃ fp, Sl (kk t) (rd t) w u l fp ∧ ∀ b, b ∈ fp → ¬ Ow hp env b
  | .own n, u => (∃ t l, look hp n = some (.arr t l)) ∧ u = (env n).v
  | .ptr n off, u => (∃ c, look hp n = some (.box c)) ∧ ∃ b, (env n).v = .pointer (some ⟨b, 0, none⟩) ∧ u = .pointer (some ⟨b, off, none⟩)
  | .eptr n i off, u => ∃ t l, look hp n = some (.arr t l) ∧ ∃ b o len cap, (env n).v = .slice (some ⟨b, o, none⟩) len cap ∧ u = .pointer (some ⟨b, o + i * kk t + off, none⟩)
  | .vw n p t l, u => RV w hp env n p t l u
  | .bsl n t l, u => (∃ t l, look hp n = some (.arr t l)) ∧ ∃ b fp, Sl (kk t) (rd t) w u l (b :: fp) ∧ ¬ Ow hp env b ∧ fp.Nodup ∧ ∀ c, c ∈ fp → c ∈ (env n).fp
  | .vip n p t x off, u => (∃ t l, look hp n = some (.arr t l)) ∧ ∃ b o cs fp, u = .pointer (some ⟨b, o + off, none⟩) ∧ b ∈ (env n).fp ∧ w.rangeAt b o cs ∧ rd t w cs x fp ∧ fp.Nodup ∧ (∀ c, c ∈ fp → c ∈ (env n).fp) ∧
      ∀ i o2 j, p = some (i, o2, j) → ∃ l u0 b0 off0 len cap, RV w hp env n (some (i, o2)) t l u0 ∧ j < l.length ∧ x = l.getD j (dfl t) ∧ u0 = .slice (some ⟨b0, off0, none⟩) len cap ∧ u = .pointer (some ⟨b0, off0 + j * kk t + off, none⟩)
  | .fnp f n, u => (∃ c, look hp n = some (.box c)) ∧ ∃ b, (env n).v = .pointer (some ⟨b, 0, none⟩) ∧ u = .func (.func f) #[] #[.pointer (some ⟨b, 0, none⟩)]
  | .husk k, u => ∃ oa cap, u = .slice oa k cap ∧ k ≤ cap ∧ cap ≤ maxLen ∧ (oa = none → cap = 0)
  | .ip t x off, u => ∃ b o cs fp, u = .pointer (some ⟨b, o + off, none⟩) ∧ b < w.heap.size ∧ w.rangeAt b o cs ∧ rd t w cs x fp ∧ ¬ Ow hp env b ∧ ∀ c, c ∈ fp → ¬ Ow hp env c
def All2 {α β : Type} (R : α → β → Prop) : List α → List β → Prop
  | [], [] => True
  | a :: as, b :: bs => R a b ∧ All2 R as bs
  | _, _ => False
theorem All2.mono {α β : Type} {R R' : α → β → Prop} : ∀ {as : List α} {bs : List β}, (∀ a b, a ∈ as → R a b → R' a b) → All2 R as bs → All2 R' as bs
  | [], [], _, _ => trivial
  | a :: as, b :: bs, h, ⟨h1, h2⟩ => ⟨h a b (by simp) h1, All2.mono (fun a b ha => h a b (List.mem_cons_of_mem _ ha)) h2⟩
  | [], _ :: _, _, h => h.elim
  | _ :: _, [], _, h => h.elim
theorem All2.len {α β : Type} {R : α → β → Prop} : ∀ {as : List α} {bs : List β}, All2 R as bs → bs.length = as.length
  | [], [], _ => rfl
  | _ :: _, _ :: _, ⟨_, h⟩ => by simp [All2.len h]
  | [], _ :: _, h => h.elim
  | _ :: _, [], h => h.elim
theorem All2.app {α β : Type} {R : α → β → Prop} : ∀ {as as' : List α} {bs bs' : List β}, All2 R as bs → All2 R as' bs' → All2 R (as ++ as') (bs ++ bs')
  | [], _, [], _, _, h => h
  | _ :: _, _, _ :: _, _, ⟨h1, h2⟩, h => ⟨h1, All2.app h2 h⟩
  | [], _, _ :: _, _, h, _ => h.elim
  | _ :: _, _, [], _, h, _ => h.elim
theorem All2.drop {α β : Type} {R : α → β → Prop} : ∀ {as : List α} {bs : List β} (n : Nat), All2 R as bs → All2 R (as.drop n) (bs.drop n)
  | _, _, 0, h => h
  | [], [], _ + 1, _ => trivial
  | _ :: _, _ :: _, n + 1, ⟨_, h⟩ => All2.drop n h
  | [], _ :: _, _, h => h.elim
  | _ :: _, [], _, h => h.elim
theorem All2.take {α β : Type} {R : α → β → Prop} : ∀ {as : List α} {bs : List β} (n : Nat), All2 R as bs → All2 R (as.take n) (bs.take n)
  | _, _, 0, _ => by simp [All2]
  | [], [], _ + 1, _ => trivial
  | _ :: _, _ :: _, n + 1, ⟨h1, h⟩ => ⟨h1, All2.take n h⟩
  | [], _ :: _, _, h => h.elim
  | _ :: _, [], _, h => h.elim
theorem All2.at {α β : Type} {R : α → β → Prop} : ∀ {as : List α} {bs : List β} {i : Nat} {x : α}, All2 R as bs → as[i]? = some x → ∃ y, bs[i]? = some y ∧ R x y
  | a :: as, b :: bs, 0, x, ⟨h1, _⟩, hx => ⟨b, rfl, by simp at hx; rw [← hx]; exact h1⟩
  | a :: as, b :: bs, i + 1, x, ⟨_, h⟩, hx => by
    obtain ⟨y, hy, hr⟩ := All2.at (i := i) h (by simpa using hx)
    exact ⟨y, by simpa using hy, hr⟩
  | [], _, _, _, _, hx => by simp at hx
  | _ :: _, [], _, _, h, _ => h.elim
def RS1 (w : World) (hp : Hp) (env : Env) : S1 → Value → Prop
  | .a v, u => RA w hp env v u
  | .agg l, u => ∃ cs, u = .agg cs.toArray ∧ All2 (RA w hp env) l cs
/-- The slots of a path hold the path's bools. -/
def holds (tmps : Array Value) (p : List (Nat × Bool)) : Prop := ∀ e, e ∈ p → tmps[e.1]? = some (.bool e.2)
def RSV (w : World) (hp : Hp) (env : Env) (tmps : Array Value) : SV → Value → Prop
  | .one x, u => RS1 w hp env x u
  | .tup l, u => ∃ us, u = .tuple us.toArray ∧ All2 (RS1 w hp env) l us
  | .cond p x, u => (holds tmps p → RS1 w hp env x u) ∧ (¬ holds tmps p → u = undef)
variable (ty : Tag → Nat)
/-- Where a call began: its world, the blocks that were lent to it, the lent objects. -/
structure Base where
  w : World
  L : List Nat
  pv : Nat → CO
def RArr (w : World) (n : Nat) (t : Tag) (l : List (T t)) (co : CO) : Prop :=
  match soft n with
  | true => Sl (kk t) (rd t) w co.v l co.fp ∧ Own 0 w co.fp
  | false => Bld (kk t) (rd t) 0 (ty t) w co.v l co.fp
def RO (w : World) (hp : Hp) (env : Env) (n : Nat) : Obj → CO → Prop
  | .box c, co => ∃ b cs e, co = ⟨.pointer (some ⟨b, 0, none⟩), [b]⟩ ∧ w.heap[b]? = some (.cells (Array.mk cs) e (0, 0)) ∧ All2 (RA w hp env) c cs
  | .arr t l, co => RArr ty w n t l co
structure Good (zb : Base) (st : St) (tmps : Array Value) (w : World) (env : Env) : Prop where
  obj : ∀ n o, look st.hp n = some o → RO ty w st.hp env n o (env n)
  dis : ∀ n m o o', n ≠ m → look st.hp n = some o → look st.hp m = some o' → ∀ b, b ∈ (env n).fp → b ∉ (env m).fp
  slot : ∀ s v, look st.sl s = some v → RSV w st.hp env tmps v (tmps.getD s undef)
  dom : ∀ n o, look st.hp n = some o → ∀ b, b ∈ (env n).fp → b ∈ zb.L ∨ zb.w.heap.size ≤ b
  pins : ∀ n, pin n = true → (env n).v = (zb.pv n).v ∧ ∀ b, b ∈ (env n).fp → b ∈ (zb.pv n).fp
/-- Nothing is written but what was lent, and what is new; a block keeps its shape. -/
structure Kept (zb : Base) (w w' : World) : Prop where
  os : w'.os = w.os
  tape : w'.tape = w.tape
  output : w'.output = w.output
  size : w.heap.size ≤ w'.heap.size
  block : ∀ b, b < zb.w.heap.size → b ∉ zb.L → w'.heap[b]? = w.heap[b]?
  shape : ∀ (b : Nat) (c : Array Value) (e : TypeId), w.heap[b]? = some (Go.Obj.cells c e (0, 0)) → ∃ c' : Array Value, w'.heap[b]? = some (Go.Obj.cells c' e (0, 0)) ∧ c'.size = c.size
theorem Kept.refl (zb : Base) (w : World) : Kept zb w w := ⟨rfl, rfl, rfl, Nat.le_refl _, fun _ _ _ => rfl, fun _ c _ h => ⟨c, h, rfl⟩⟩
theorem Kept.trans {zb : Base} {a b c : World} (h : Kept zb a b) (k : Kept zb b c) : Kept zb a c :=
  ⟨k.os.trans h.os, k.tape.trans h.tape, k.output.trans h.output, Nat.le_trans h.size k.size, fun i hi hn => (k.block i hi hn).trans (h.block i hi hn), fun i x e hx => by
    obtain ⟨c1, h1, h2⟩ := h.shape i x e hx
    obtain ⟨c2, h3, h4⟩ := k.shape i c1 e h1
    exact ⟨c2, h3, h4.trans h2⟩⟩
theorem kept_below {zb : Base} {w w' : World} (h : Below w.heap.size w w') (hz : zb.w.heap.size ≤ w.heap.size) : Kept zb w w' :=
  ⟨h.os, h.tape, h.output, h.size, fun b hb _ => h.block b (Nat.lt_of_lt_of_le hb hz), fun b c e hc => ⟨c, by rw [h.block b (sizeB hc)]; exact hc, rfl⟩⟩
/-- What the surroundings say: at the start, and beside what was lent. -/
def AmbZ (zb : Base) : Prop := Amb zb.w ∧ ∀ b, Amb0 b → b ∉ zb.L
theorem AmbZ.now {zb : Base} {w : World} (h : AmbZ zb) (k : Kept zb zb.w w) : Amb w := h.1.keep fun b hb hlt => k.block b hlt (h.2 b hb)
theorem AmbZ.free {zb : Base} (h : AmbZ zb) {b : Nat} (hb : b ∈ zb.L ∨ zb.w.heap.size ≤ b) : ¬ Amb0 b := fun h0 => by
  rcases hb with hb | hb
  · exact h.2 b h0 hb
  · have := h.1.lt h0; omega
structure Inv (zb : Base) (st : St) (a : Act) (w : World) : Prop where
  size : a.tmps.size = st.n
  defers : a.defers = []
  kept : Kept zb zb.w w
  amb : AmbZ zb
  good : ∃ env, Good ty zb st a.tmps w env

variable {ty}
theorem RO.own {w : World} {hp : Hp} {env : Env} {n : Nat} {t : Tag} {l : List (T t)} {co : CO} (h : RO ty w hp env n (.arr t l) co) : Own 0 w co.fp := by
  replace h : RArr ty w n t l co := h
  unfold RArr at h
  split at h
  · exact h.2
  · exact Bld.own h
theorem RO.sl {w : World} {hp : Hp} {env : Env} {n : Nat} {t : Tag} {l : List (T t)} {co : CO} (h : RO ty w hp env n (.arr t l) co) : Sl (kk t) (rd t) w co.v l co.fp := by
  replace h : RArr ty w n t l co := h
  unfold RArr at h
  split at h
  · exact h.1
  · exact Bld.sl h
theorem RO.bld {w : World} {hp : Hp} {env : Env} {n : Nat} {t : Tag} {l : List (T t)} {co : CO} (hn : soft n = false) (h : RO ty w hp env n (.arr t l) co) : Bld (kk t) (rd t) 0 (ty t) w co.v l co.fp := by
  replace h : RArr ty w n t l co := h
  unfold RArr at h
  rw [hn] at h
  exact h
theorem RO.ofBld {w : World} {hp : Hp} {env : Env} {n : Nat} {t : Tag} {l : List (T t)} {co : CO} (h : Bld (kk t) (rd t) 0 (ty t) w co.v l co.fp) : RO ty w hp env n (.arr t l) co := by
  show RArr ty w n t l co
  unfold RArr
  split
  · exact ⟨Bld.sl h, Bld.own h⟩
  · exact h
theorem RO.ofSoft {w : World} {hp : Hp} {env : Env} {n : Nat} {t : Tag} {l : List (T t)} {co : CO} (hn : soft n = true) (h : Sl (kk t) (rd t) w co.v l co.fp) (ho : Own 0 w co.fp) : RO ty w hp env n (.arr t l) co := by
  show RArr ty w n t l co
  unfold RArr
  rw [hn]
  exact ⟨h, ho⟩
theorem soft_add (m : Nat) : soft (m + 900) = true := by
  unfold soft
  exact Nat.ble_eq_true_of_le (Nat.le_add_left 900 m)
theorem pin_soft {n : Nat} (h : pin n = true) : soft n = true := by
  unfold pin at h; unfold soft
  exact Nat.ble_eq_true_of_le (Nat.le_trans (by decide) (Nat.le_of_ble_eq_true h))
theorem soft_pin {n : Nat} (h : soft n = false) : pin n = false := by
  cases hp : pin n with
  | false => rfl
  | true => rw [pin_soft hp] at h; cases h
theorem RO.agree {w w' : World} {hp hp' : Hp} {env env' : Env} {n : Nat} {t : Tag} {l : List (T t)} {co : CO} (h : RO ty w hp env n (.arr t l) co) (hk : ∀ b, b ∈ co.fp → w'.heap[b]? = w.heap[b]?) : RO ty w' hp' env' n (.arr t l) co := by
  replace h : RArr ty w n t l co := h
  show RArr ty w' n t l co
  unfold RArr at h ⊢
  split at h
  · exact ⟨Sl.agree (fine t) h.1 hk, h.2.agree hk⟩
  · exact Bld.agree (fine t) h hk
theorem RO.blk {w : World} {hp : Hp} {env : Env} {n : Nat} {o : Obj} {co : CO} (h : RO ty w hp env n o co) : ∀ b, b ∈ co.fp → b < w.heap.size := by
  cases o with
  | box c =>
    obtain ⟨b, cs, e, rfl, hh, _⟩ := h
    intro x hx
    simp at hx
    subst hx
    exact sizeB hh
  | arr t l => exact fun b hb => (RO.own h).lt b hb
theorem Good.ow {zb : Base} {st : St} {tmps : Array Value} {w : World} {env : Env} (h : Good ty zb st tmps w env) {b : Nat} (hb : Ow st.hp env b) : (b ∈ zb.L ∨ zb.w.heap.size ≤ b) ∧ b < w.heap.size := by
  obtain ⟨n, o, h1, h2⟩ := hb
  exact ⟨h.dom n o h1 b h2, (h.obj n o h1).blk b h2⟩

/-- A name that a value mentions. -/
def V.name : V → Option Nat
  | .own n | .ptr n _ | .eptr n _ _ | .vw n _ _ _ | .vip n _ _ _ _ | .bsl n _ _ | .fnp _ n => some n
  | _ => none
/-- The object into whose memory a value looks. -/
def V.view : V → Option Nat
  | .vw n _ _ _ | .vip n _ _ _ _ | .bsl n _ _ => some n
  | _ => none
/-- What a value hangs on is of K; into what it looks is of V. -/
def V.hangs (K KV : Nat → Prop) (v : V) : Prop := (∀ n, v.name = some n → K n) ∧ ∀ n, v.view = some n → KV n
theorem V.view_name {v : V} {n : Nat} (h : v.view = some n) : v.name = some n := by
  cases v <;> simp_all [V.view, V.name]
theorem V.hangs_all (v : V) : v.hangs (fun _ => True) (fun _ => True) := ⟨fun _ _ => trivial, fun _ _ => trivial⟩
/-- The same kind of object. -/
def Obj.like : Obj → Obj → Prop
  | .box _, .box _ => True
  | .arr t _, .arr t' _ => t = t'
  | _, _ => False
/-- From one state of memory and objects to a later one: what is not owned is as it was; nothing old has become owned; the names of K stay what they are; the objects of KV are as they were. -/
structure Step (K KV : Nat → Prop) (w : World) (hp : Hp) (env : Env) (w' : World) (hp' : Hp) (env' : Env) : Prop where
  keep : ∀ b, b < w.heap.size → ¬ Ow hp env b → w'.heap[b]? = w.heap[b]?
  own : ∀ b, b < w.heap.size → Ow hp' env' b → Ow hp env b
  name : ∀ n o, K n → look hp n = some o → ∃ o', look hp' n = some o' ∧ o.like o' ∧ (env' n).v = (env n).v
  view : ∀ n t l, KV n → look hp n = some (.arr t l) → look hp' n = some (.arr t l) ∧ env' n = env n ∧ ∀ b, b ∈ (env n).fp → w'.heap[b]? = w.heap[b]?
section
variable {K KV : Nat → Prop} {w w' : World} {hp hp' : Hp} {env env' : Env}
theorem RA.step (s : Step K KV w hp env w' hp' env') {v : V} {u : Value} (hv : v.hangs K KV) (h : RA w hp env v u) : RA w' hp' env' v u := by
  obtain ⟨hv, hw⟩ := hv
  cases v with
  | any => trivial
  | lit v => exact h
  | sl t l =>
    obtain ⟨fp, h1, h2⟩ := h
    have hlt := Sl.lt (fine t) h1
    exact ⟨fp, Sl.agree (fine t) h1 (fun b hb => s.keep b (hlt b hb) (h2 b hb)), fun b hb hw => h2 b hb (s.own b (hlt b hb) hw)⟩
  | own n =>
    obtain ⟨⟨t, l, hl⟩, hu⟩ := h
    obtain ⟨o', h1, h2, h3⟩ := s.name n _ (hv n rfl) hl
    cases o' with
    | box c => exact h2.elim
    | arr t' l' => exact ⟨⟨t', l', h1⟩, by rw [hu, h3]⟩
  | ptr n off =>
    obtain ⟨⟨c, hl⟩, b, hb, hu⟩ := h
    obtain ⟨o', h1, h2, h3⟩ := s.name n _ (hv n rfl) hl
    cases o' with
    | box c' => exact ⟨⟨c', h1⟩, b, by rw [h3, hb], hu⟩
    | arr t' l' => exact h2.elim
  | husk k => exact h
  | fnp f n =>
    obtain ⟨⟨c, hl⟩, b, hb, hu⟩ := h
    obtain ⟨o', h1, h2, h3⟩ := s.name n _ (hv n rfl) hl
    cases o' with
    | box c' => exact ⟨⟨c', h1⟩, b, by rw [h3, hb], hu⟩
    | arr t' l' => exact h2.elim
  | eptr n i off =>
    obtain ⟨t, l, hl, b, o, len, cap, hb, hu⟩ := h
    obtain ⟨o', h1, h2, h3⟩ := s.name n _ (hv n rfl) hl
    cases o' with
    | box c' => exact h2.elim
    | arr t' l' =>
      have : t = t' := h2
      subst this
      exact ⟨t, l', h1, b, o, len, cap, by rw [h3, hb], hu⟩
  | ip t x off =>
    obtain ⟨b, o, cs, fp, hu, hb, hr, hE, h1, h2⟩ := h
    have hlt := (fine t).lt hE
    have hkb := s.keep b hb h1
    refine ⟨b, o, cs, fp, hu, ?_, fun j v hv => ?_, (fine t).agree hE (fun c hc => s.keep c (hlt c hc) (h2 c hc)), fun hw => h1 (s.own b hb hw), fun c hc hw => h2 c hc (s.own c (hlt c hc) hw)⟩
    · have h3 : w.heap[b]? = some w.heap[b] := by simp [hb]
      rw [h3] at hkb
      exact (Array.getElem?_eq_some_iff.1 hkb).1
    · rw [World.cell?_of_block (w := w) (a := ⟨b, _, none⟩) hkb]; exact hr j v hv
  | vw n p t l =>
    have vwk : ∀ {p : Option (Nat × Nat)} {l : List (T t)} {u : Value}, RV w hp env n p t l u → RV w' hp' env' n p t l u := by
      rintro p l u ⟨⟨tA, lA, hl⟩, ⟨fp, h1, hnd, h2⟩, h3⟩
      obtain ⟨q1, q2, q3⟩ := s.view n _ _ (hw n rfl) hl
      refine ⟨⟨tA, lA, q1⟩, ⟨fp, Sl.agree (fine t) h1 (fun b hb => q3 b (h2 b hb)), hnd, fun b hb => by rw [q2]; exact h2 b hb⟩, fun i off hp => ?_⟩
      obtain ⟨t0, l0, b, o, len, cap, k1, k2, k3, k4, k5, k6⟩ := h3 i off hp
      rw [hl] at k1
      refine ⟨t0, l0, b, o, len, cap, by rw [q1]; exact k1, k2, k3, by rw [q2]; exact k4, by rw [q2]; exact k5, ?_⟩
      rw [World.cell?_of_block (w := w) (a := ⟨b, _, none⟩) (q3 b k5)]; exact k6
    exact vwk h
  | bsl n t l =>
    obtain ⟨⟨tA, lA, hl⟩, b, fp, h1, hb, hnd, h2⟩ := h
    obtain ⟨q1, q2, q3⟩ := s.view n _ _ (hw n rfl) hl
    have hlt := Sl.lt (fine t) h1
    have hbl := hlt b (by simp)
    refine ⟨⟨tA, lA, q1⟩, b, fp, Sl.agree (fine t) h1 (fun c hc => ?_), fun hw => hb (s.own b hbl hw), hnd, fun c hc => by rw [q2]; exact h2 c hc⟩
    rcases List.mem_cons.1 hc with rfl | hc
    · exact s.keep _ hbl hb
    · exact q3 c (h2 c hc)
  | vip n p t x off =>
    have vwk : ∀ {p : Option (Nat × Nat)} {l : List (T t)} {u : Value}, RV w hp env n p t l u → RV w' hp' env' n p t l u := by
      rintro p l u ⟨⟨tA, lA, hl⟩, ⟨fp, h1, hnd, h2⟩, h3⟩
      obtain ⟨q1, q2, q3⟩ := s.view n _ _ (hw n rfl) hl
      refine ⟨⟨tA, lA, q1⟩, ⟨fp, Sl.agree (fine t) h1 (fun b hb => q3 b (h2 b hb)), hnd, fun b hb => by rw [q2]; exact h2 b hb⟩, fun i off hp => ?_⟩
      obtain ⟨t0, l0, b, o, len, cap, k1, k2, k3, k4, k5, k6⟩ := h3 i off hp
      rw [hl] at k1
      refine ⟨t0, l0, b, o, len, cap, by rw [q1]; exact k1, k2, k3, by rw [q2]; exact k4, by rw [q2]; exact k5, ?_⟩
      rw [World.cell?_of_block (w := w) (a := ⟨b, _, none⟩) (q3 b k5)]; exact k6
    obtain ⟨⟨tA, lA, hl⟩, b, o, cs, fp, hu, hb, hr, hE, hnd, h2, h3⟩ := h
    obtain ⟨q1, q2, q3⟩ := s.view n _ _ (hw n rfl) hl
    refine ⟨⟨tA, lA, q1⟩, b, o, cs, fp, hu, by rw [q2]; exact hb, fun j v hv => ?_, (fine t).agree hE (fun c hc => q3 c (h2 c hc)), hnd, fun c hc => by rw [q2]; exact h2 c hc, fun i o2 j hp => ?_⟩
    · rw [World.cell?_of_block (w := w) (a := ⟨b, _, none⟩) (q3 b hb)]; exact hr j v hv
    · obtain ⟨l, u0, b0, off0, len, cap, k1, k2⟩ := h3 i o2 j hp
      exact ⟨l, u0, b0, off0, len, cap, vwk k1, k2⟩
end
def S1.vs : S1 → List V
  | .a v => [v]
  | .agg l => l
def SV.vs : SV → List V
  | .one x => x.vs
  | .tup l => l.flatMap S1.vs
  | .cond _ x => x.vs
section
variable {K KV : Nat → Prop} {w w' : World} {hp hp' : Hp} {env env' : Env}
theorem RS1.step (s : Step K KV w hp env w' hp' env') {x : S1} {u : Value} (hv : ∀ v, v ∈ x.vs → v.hangs K KV) (h : RS1 w hp env x u) : RS1 w' hp' env' x u := by
  cases x with
  | a v => exact RA.step s (hv v (by simp [S1.vs])) h
  | agg l =>
    obtain ⟨cs, hu, hl⟩ := h
    exact ⟨cs, hu, hl.mono fun a b ha hr => RA.step s (hv a ha) hr⟩
theorem RSV.step (s : Step K KV w hp env w' hp' env') {tmps : Array Value} {x : SV} {u : Value} (hv : ∀ v, v ∈ x.vs → v.hangs K KV) (h : RSV w hp env tmps x u) : RSV w' hp' env' tmps x u := by
  cases x with
  | one x => exact RS1.step s hv h
  | tup l =>
    obtain ⟨us, hu, hl⟩ := h
    exact ⟨us, hu, hl.mono fun a b ha hr => RS1.step s (fun v hn => hv v (by simp only [SV.vs, List.mem_flatMap]; exact ⟨a, ha, hn⟩)) hr⟩
  | cond p x => exact ⟨fun hh => RS1.step s hv (h.1 hh), h.2⟩
theorem RO.step (s : Step K KV w hp env w' hp' env') {n : Nat} {o : Obj} {co : CO} (hv : ∀ c, o = .box c → ∀ v, v ∈ c → v.hangs K KV)
    (hk : ∀ b, b ∈ co.fp → w'.heap[b]? = w.heap[b]?) (h : RO ty w hp env n o co) : RO ty w' hp' env' n o co := by
  cases o with
  | box c =>
    obtain ⟨b, cs, e, rfl, hh, hc⟩ := h
    exact ⟨b, cs, e, rfl, by rw [hk b (by simp)]; exact hh, hc.mono fun a u ha hr => RA.step s (hv c rfl a ha) hr⟩
  | arr t l => exact RO.agree h hk
end

theorem look_app_none {α : Type} : ∀ {os : List (Nat × α)} {l : List (Nat × α)} {n : Nat}, look os n = none → look (os ++ l) n = look l n
  | [], _, _, _ => rfl
  | (j, x) :: r, l, n, h => by
    simp only [look, List.cons_append] at h ⊢
    split at h
    · cases h
    · exact look_app_none h
theorem look_app_some {α : Type} : ∀ {os : List (Nat × α)} {l : List (Nat × α)} {n : Nat} {x : α}, look os n = some x → look (os ++ l) n = some x
  | (j, y) :: r, l, n, x, h => by
    simp only [look, List.cons_append] at h ⊢
    split at h
    · exact h
    · exact look_app_some h
theorem look_mem {α : Type} : ∀ {os : List (Nat × α)} {n : Nat} {x : α}, look os n = some x → (n, x) ∈ os
  | (j, y) :: r, n, x, h => by
    simp only [look] at h
    split at h
    · rename_i hb
      have : n = j := Nat.eq_of_beq_eq_true hb
      simp at h
      simp [h, this]
    · exact List.mem_cons_of_mem _ (look_mem h)
theorem fresh_spec {hp : Hp} : ∀ {os : Hp}, fresh hp os = true → ∀ n o, look os n = some o → look hp n = none
  | (j, y) :: r, h, n, o, hl => by
    simp only [fresh, Bool.and_eq_true] at h
    simp only [look] at hl
    split at hl
    · rename_i hb
      have : n = j := Nat.eq_of_beq_eq_true hb
      subst this
      cases hq : look hp n with
      | none => rfl
      | some z => simp [hq] at h
    · exact fresh_spec h.2 n o hl

theorem fresh_pin {hp : Hp} : ∀ {os : Hp}, fresh hp os = true → ∀ n o, look os n = some o → pin n = false
  | (j, y) :: r, h, n, o, hl => by
    simp only [fresh, Bool.and_eq_true] at h
    simp only [look] at hl
    split at hl
    · rename_i hb
      have : n = j := Nat.eq_of_beq_eq_true hb
      subst this
      simpa using h.1.2
    · exact fresh_pin h.2 n o hl
/-- New objects in a grown world. -/
structure News (w w' : World) (hp : Hp) (os : Hp) (env env' : Env) : Prop where
  below : Below w.heap.size w w'
  old : ∀ n, look os n = none → env' n = env n
  obj : ∀ n o, look os n = some o → RO ty w' (os ++ hp) env' n o (env' n) ∧ ∀ b, b ∈ (env' n).fp → w.heap.size ≤ b
  dis : ∀ n m o o', n ≠ m → look os n = some o → look os m = some o' → ∀ b, b ∈ (env' n).fp → b ∉ (env' m).fp
theorem News.none {w w' : World} {hp : Hp} {env : Env} (h : Below w.heap.size w w') : News (ty := ty) w w' hp [] env env :=
  ⟨h, fun _ _ => rfl, fun _ _ h => by simp [look] at h, fun _ _ _ _ _ h => by simp [look] at h⟩
/-- The step from a state to one with new objects. -/
theorem News.step {zb : Base} {st : St} {tmps : Array Value} {w w' : World} {os : Hp} {env env' : Env} (g : Good ty zb st tmps w env) (hf : fresh st.hp os = true) (h : News (ty := ty) w w' st.hp os env env') :
    Step (fun _ => True) (fun _ => True) w st.hp env w' (os ++ st.hp) env' where
  keep := fun b hb _ => h.below.block b hb
  own := by
    rintro b hb ⟨n, o, h1, h2⟩
    cases hn : look os n with
    | none =>
      rw [look_app_none hn] at h1
      rw [h.old n hn] at h2
      exact ⟨n, o, h1, h2⟩
    | some o' =>
      have := (h.obj n o' hn).2 b h2
      omega
  name := by
    intro n o _ h1
    have hn : look os n = .none := by
      cases hn : look os n with
      | none => rfl
      | some o' => rw [fresh_spec hf n o' hn] at h1; cases h1
    refine ⟨o, by rw [look_app_none hn]; exact h1, ?_, by rw [h.old n hn]⟩
    cases o <;> simp [Obj.like]
  view := by
    intro n t l _ h1
    have hn : look os n = .none := by
      cases hn : look os n with
      | none => rfl
      | some o' => rw [fresh_spec hf n o' hn] at h1; cases h1
    exact ⟨by rw [look_app_none hn]; exact h1, h.old n hn, fun b hb => h.below.block b ((g.obj n _ h1).blk b hb)⟩
theorem Good.grow {zb : Base} {st : St} {tmps : Array Value} {w w' : World} {os : Hp} {env env' : Env} (hB : zb.w.heap.size ≤ w.heap.size) (g : Good ty zb st tmps w env) (hf : fresh st.hp os = true) (h : News (ty := ty) w w' st.hp os env env') :
    Good ty zb ⟨st.n, st.sl, os ++ st.hp⟩ tmps w' env' := by
  have s := h.step g hf
  refine ⟨fun n o hl => ?_, fun n m o o' hne h1 h2 b hb hb' => ?_, fun t v hl => RSV.step s (fun v _ => v.hangs_all) (g.slot t v hl), fun n o hl b hb => ?_, fun n hn => ?_⟩
  · cases hn : look os n with
    | some o' =>
      rw [look_app_some hn] at hl
      simp only [Option.some.injEq] at hl
      subst hl
      exact (h.obj n _ hn).1
    | none =>
      rw [look_app_none hn] at hl
      rw [h.old n hn]
      have hro := g.obj n o hl
      exact hro.step s (fun _ _ v _ => v.hangs_all) (fun b hb => h.below.block b (hro.blk b hb))
  · cases hn : look os n with
    | some x =>
      cases hm : look os m with
      | some y => exact h.dis n m x y hne hn hm b hb hb'
      | none =>
        rw [look_app_none hm] at h2
        rw [h.old m hm] at hb'
        have h3 := (h.obj n x hn).2 b hb
        have h4 := (g.obj m o' h2).blk b hb'
        omega
    | none =>
      rw [look_app_none hn] at h1
      rw [h.old n hn] at hb
      cases hm : look os m with
      | some y =>
        have h3 := (h.obj m y hm).2 b hb'
        have h4 := (g.obj n o h1).blk b hb
        omega
      | none =>
        rw [look_app_none hm] at h2
        rw [h.old m hm] at hb'
        exact g.dis n m o o' hne h1 h2 b hb hb'
  · cases hn : look os n with
    | some x => exact Or.inr (Nat.le_trans hB ((h.obj n x hn).2 b hb))
    | none =>
      rw [look_app_none hn] at hl
      rw [h.old n hn] at hb
      exact g.dom n o hl b hb
  · cases hq : look os n with
    | none => rw [h.old n hq]; exact g.pins n hn
    | some x => have := fresh_pin hf n x hq; rw [hn] at this; cases this
end Go.Proofs.YthjedjndamejmaaGreat.G
namespace Go.Proofs.YthjedjndamejmaaGreat.L
set_option linter.all false
open Go.RowKit
/-- Only the blocks of fp, and new ones, are written. -/
structure Confined (fp : List Nat) (w w' : World) : Prop where
  os : w'.os = w.os
  tape : w'.tape = w.tape
  output : w'.output = w.output
  size : w.heap.size ≤ w'.heap.size
  block : ∀ b, b < w.heap.size → b ∉ fp → w'.heap[b]? = w.heap[b]?
theorem Confined.refl (fp : List Nat) (w : World) : Confined fp w w := ⟨rfl, rfl, rfl, Nat.le_refl _, fun _ _ _ => rfl⟩
theorem Confined.mono {fp fq : List Nat} {w w' : World} (h : Confined fp w w') (hs : ∀ b, b ∈ fp → b ∈ fq) : Confined fq w w' := ⟨h.os, h.tape, h.output, h.size, fun b hb hn => h.block b hb fun hm => hn (hs b hm)⟩
theorem Confined.trans {fp : List Nat} {a b c : World} (h : Confined fp a b) (k : Confined fp b c) : Confined fp a c :=
  ⟨k.os.trans h.os, k.tape.trans h.tape, k.output.trans h.output, Nat.le_trans h.size k.size, fun i hi hn => (k.block i (Nat.lt_of_lt_of_le hi h.size) hn).trans (h.block i hi hn)⟩
theorem Confined.below {fp : List Nat} {w w' : World} {B : Nat} (h : Confined fp w w') (hB : B ≤ w.heap.size) (hg : ∀ b, b ∈ fp → B ≤ b) : Below B w w' :=
  ⟨h.os, h.tape, h.output, h.size, fun b hb => h.block b (Nat.lt_of_lt_of_le hb hB) fun hm => Nat.not_le_of_lt hb (hg b hm)⟩
theorem Confined.agree {fp fq : List Nat} {w w' : World} (h : Confined fp w w') (hl : ∀ b, b ∈ fq → b < w.heap.size) (hd : ∀ b, b ∈ fq → b ∉ fp) : Agree w w' fq := fun b hb => h.block b (hl b hb) (hd b hb)
section
variable {α : Type} {k : Nat} {E : ER α} {lo e g n : Nat} {w w' : World} {l : List α} {fps : List (List Nat)}
/-- Two elements' memory is apart. -/
theorem fps_apart {fps : List (List Nat)} (h : fps.flatten.Nodup) {i j : Nat} {f f' : List Nat} (hi : fps[i]? = some f) (hj : fps[j]? = some f') (hne : i ≠ j) : ∀ b, b ∈ f → b ∉ f' := by
  intro b hb hb'
  have hp := (List.pairwise_flatten.1 h).2
  rw [List.pairwise_iff_getElem] at hp
  obtain ⟨hi1, rfl⟩ := List.getElem?_eq_some_iff.1 hi
  obtain ⟨hj1, rfl⟩ := List.getElem?_eq_some_iff.1 hj
  rcases Nat.lt_or_ge i j with h1 | h1
  · exact hp i j hi1 hj1 h1 b hb b hb' rfl
  · exact hp j i hj1 hi1 (by omega) b hb' b hb rfl
/-- An element's cells are stored anew; what it holds beside them lies where it lay. -/
theorem Part.set (G : Fine k E) (h : Part k E lo e w g n l fps) {i : Nat} {f : List Nat} {cs : List Value} {x' : α} (hi : i < l.length) (hin : i < n) (hf : fps[i]? = some f) (hE : E w cs x' f) :
    Part k E lo e (w.setCells g (i * k) cs) g n (l.set i x') fps := by
  have hlen := G.len hE
  have hnd := h.own.nodup
  rw [List.nodup_cons] at hnd
  obtain ⟨c, hc, hs⟩ := h.blk
  obtain ⟨c', hc', hs'⟩ := setCells_blk g e cs (i * k) w c hc
  have hth : w.there g (i * k) cs.length := by rw [hlen]; exact h.there _ hin
  have hself : ∀ b, b ∈ fps.flatten → b ≠ g := fun b hb e => hnd.1 (e ▸ hb)
  have hag : Agree w (w.setCells g (i * k) cs) fps.flatten := fun b hb => setCells_other g cs _ w b (hself b hb)
  refine ⟨⟨c', hc', by rw [hs', hs]⟩, ⟨by rw [List.length_set]; exact h.el.1, fun j y fy hy hfy => ?_⟩, ⟨h.own.nodup, h.own.ge, fun b hb => ?_⟩, h.cap⟩
  · by_cases hj : i = j
    · subst hj
      rw [List.getElem?_set_self hi] at hy
      simp only [Option.some.injEq] at hy
      subst hy
      rw [hf] at hfy
      simp only [Option.some.injEq] at hfy
      subst hfy
      refine ⟨cs, ?_, G.agree hE (hag.sub fun b hb => mem_fps hf hb)⟩
      rw [Nat.zero_add]
      exact World.rangeAt_setCells_same w g _ cs hth
    · rw [List.getElem?_set_ne hj] at hy
      obtain ⟨cy, hr, hEy⟩ := h.el.2 j y fy hy hfy
      refine ⟨cy, World.rangeAt_setCells_apart hr _ _ _ (Or.inr ?_), G.agree hEy (hag.sub fun b hb => mem_fps hfy hb)⟩
      rw [G.len hEy, hlen]
      rcases Nat.lt_or_ge j i with h1 | h1
      · left
        have := Nat.mul_le_mul_right k (show j + 1 ≤ i by omega)
        rw [Nat.add_mul] at this; omega
      · right
        have := Nat.mul_le_mul_right k (show i + 1 ≤ j by omega)
        rw [Nat.add_mul] at this; omega
  · rcases List.mem_cons.1 hb with rfl | hb
    · exact ⟨_, _, hc'⟩
    · rw [hag b hb]; exact h.own.kind b (List.mem_cons_of_mem _ hb)
theorem Part.bld (G : Fine k E) (h : Part k E lo e w g n l fps) (hn : l.length ≤ n) : Bld k E lo e w (.slice (some ⟨g, 0, none⟩) l.length n) l (g :: fps.flatten) := by
  obtain ⟨c, hc, hs⟩ := h.blk
  have hk : l.length * k ≤ n * k := Nat.mul_le_mul_right k hn
  refine ⟨c.toList.take (l.length * k), fps, ⟨by rw [List.length_take, show c.toList.length = n * k from hs]; exact Nat.min_eq_left hk, Or.inr ⟨g, n, c, rfl, h.own.ge g (by simp), hc, hn, h.cap, hs, rfl⟩⟩, h.el.1, fun i x f hx hf => ?_, rfl, h.own⟩
  obtain ⟨cs, hr, hE⟩ := h.el.2 i x f hx hf
  have hlen := G.len hE
  have hi : i < l.length := (List.getElem?_eq_some_iff.1 hx).1
  have h5 : i * k + k ≤ l.length * k := by
    have := Nat.mul_le_mul_right k (show i + 1 ≤ l.length by omega)
    rw [Nat.add_mul] at this; omega
  have : ((c.toList.take (l.length * k)).drop (i * k)).take k = cs := by
    apply List.ext_getElem?
    intro j
    by_cases hj : j < k
    · rw [List.getElem?_take, if_pos hj, List.getElem?_drop, List.getElem?_take, if_pos (by omega)]
      have h6 := hr j _ (List.getElem?_eq_getElem (by omega))
      rw [Nat.zero_add] at h6
      simp [World.cell?, hc] at h6
      rw [List.getElem?_eq_getElem (show j < cs.length by omega)]
      simp [h6]
    · rw [List.getElem?_take, if_neg hj, List.getElem?_eq_none (by omega)]
  rw [this]; exact hE
theorem Bld.part {v : Value} {fp : List Nat} (h : Bld k E lo e w v l fp) : (v = .slice none 0 0 ∧ l = [] ∧ fp = []) ∨ ∃ g n fps, v = .slice (some ⟨g, 0, none⟩) l.length n ∧ l.length ≤ n ∧ fp = g :: fps.flatten ∧ Part k E lo e w g n l fps := by
  obtain ⟨xs, fps, ⟨hxl, ho⟩, hl, hel, hfp, hown⟩ := h
  rcases ho with ⟨rfl, h0⟩ | ⟨g, cap, cur, rfl, hg, hc, hn, hcm, hcs, htk⟩
  · have hl0 : l = [] := List.eq_nil_of_length_eq_zero h0
    have : fps = [] := List.eq_nil_of_length_eq_zero (by omega)
    exact Or.inl ⟨rfl, hl0, by rw [hfp, this]; rfl⟩
  · refine Or.inr ⟨g, cap, fps, rfl, hn, hfp, ⟨⟨cur, hc, hcs⟩, ⟨hl, fun i x f hx hf => ⟨_, ?_, hel i x f hx hf⟩⟩, by rw [hfp] at hown; exact hown, hcm⟩⟩
    intro j u hu
    have hi : i < l.length := (List.getElem?_eq_some_iff.1 hx).1
    rw [List.getElem?_take] at hu
    split at hu
    · rename_i hj
      rw [List.getElem?_drop, ← htk, List.getElem?_take] at hu
      split at hu
      · simp only [World.cell?, hc]
        rw [Array.getElem?_toList] at hu
        rw [Nat.zero_add]
        simpa using hu
      · cases hu
    · cases hu
/-- A slice in memory that may be written: its elements, and its blocks. -/
structure Held {α : Type} (k : Nat) (E : ER α) (lo : Nat) (w : World) (b off : Nat) (l : List α) (fps : List (List Nat)) : Prop where
  el : Elems k E w b off l fps
  own : Own lo w (b :: fps.flatten)
theorem Held.lt {b off : Nat} (h : Held k E lo w b off l fps) : b < w.heap.size := h.own.lt b (by simp)
/-- Some cells of an element are stored anew: cs, from the place o within it. -/
theorem Held.set (G : Fine k E) {b off : Nat} (h : Held k E lo w b off l fps) {i o : Nat} {f : List Nat} {vs cs : List Value} {x' : α} (hi : i < l.length) (ho : o + vs.length ≤ k) (hf : fps[i]? = some f)
    (hr : (w.setCells b (off + i * k + o) vs).rangeAt b (off + i * k) cs) (hE : E w cs x' f) :
    Held k E lo (w.setCells b (off + i * k + o) vs) b off (l.set i x') fps := by
  have hlen := G.len hE
  have hnd := h.own.nodup
  rw [List.nodup_cons] at hnd
  have hself : ∀ c, c ∈ fps.flatten → c ≠ b := fun c hc e => hnd.1 (e ▸ hc)
  have hag : Agree w (w.setCells b (off + i * k + o) vs) fps.flatten := fun c hc => setCells_other b vs _ w c (hself c hc)
  refine ⟨⟨by rw [List.length_set]; exact h.el.1, fun j y fy hy hfy => ?_⟩, ⟨h.own.nodup, h.own.ge, fun c hc => ?_⟩⟩
  · by_cases hj : i = j
    · subst hj
      rw [List.getElem?_set_self hi] at hy
      simp only [Option.some.injEq] at hy
      subst hy
      rw [hf] at hfy
      simp only [Option.some.injEq] at hfy
      subst hfy
      exact ⟨cs, hr, G.agree hE (hag.sub fun b hb => mem_fps hf hb)⟩
    · rw [List.getElem?_set_ne hj] at hy
      obtain ⟨cy, hr, hEy⟩ := h.el.2 j y fy hy hfy
      refine ⟨cy, World.rangeAt_setCells_apart hr _ _ _ (Or.inr ?_), G.agree hEy (hag.sub fun b hb => mem_fps hfy hb)⟩
      rw [G.len hEy]
      rcases Nat.lt_or_ge j i with h1 | h1
      · left
        have := Nat.mul_le_mul_right k (show j + 1 ≤ i by omega)
        rw [Nat.add_mul] at this; omega
      · right
        have := Nat.mul_le_mul_right k (show i + 1 ≤ j by omega)
        rw [Nat.add_mul] at this; omega
  · rcases List.mem_cons.1 hc with rfl | hc
    · obtain ⟨c0, e0, hk⟩ := h.own.kind c (by simp)
      obtain ⟨c', hc', _⟩ := setCells_blk c e0 vs (off + i * k + o) w c0 hk
      exact ⟨_, _, hc'⟩
    · rw [hag c hc]; exact h.own.kind c (List.mem_cons_of_mem _ hc)
end
end Go.Proofs.YthjedjndamejmaaGreat.L
