/-
  Slices that the call has made, written again: an element replaced; an element's own memory written by a call.
-/
import Derived.Test.YtjknhnhcbadigaaDoorZFormatArchiveM2
import Derived.ProofKit
import Derived.OpenShut
namespace Go.Proofs.YtjknhnhcbadigaaDoor.L
set_option linter.all false
open Go.RowKit Go.ChangeShapes Go.WideShapes Go.ChangeAt D

theorem i64_of_wf {n : Int} (h : (Lit.int .i64 n).wf = true) : I64 n := by
  have := bounds_i64 h
  unfold I64; omega

section
variable {H : Type} (enc : TypeId × Value → H) (P : Program) (w : World) (spare : Nat → Bool) (held : Bool)
/-- Whatever is read as a value of type t reads as a datum of this library, and the datum meets W. -/
def Opens {α : Type} (t : TypeId) (E : ER α) (W : α → Prop) : Prop :=
  ∀ fuel cs y, DataW.trod enc P w 0 spare held fuel t cs = some y → ∃ x fp, E w cs x fp ∧ W x

variable {enc P w spare held}
theorem opens_int {t : TypeId} (ht : P.underlying t = some (.int .i64)) : Opens enc P w spare held t EInt I64 := by
  intro fuel cs y h
  obtain ⟨n, rfl, _, hw⟩ := DataW.trod_int ht h
  exact ⟨n, [], ⟨rfl, rfl⟩, i64_of_wf hw⟩
theorem opens_u8 {t : TypeId} (ht : P.underlying t = some (.int .u8)) : Opens enc P w spare held t EU8 (fun _ => True) := by
  intro fuel cs y h
  obtain ⟨n, rfl, _, hw⟩ := DataW.trod_int ht h
  have hb := bounds_u8 hw
  refine ⟨UInt8.ofNat n.toNat, [], ⟨?_, rfl⟩, trivial⟩
  have : ((UInt8.ofNat n.toNat).toNat : Int) = n := by
    rw [UInt8.toNat_ofNat']; omega
  rw [this]

theorem opens_sl {α : Type} [Inhabited α] {k : Nat} {E : ER α} {W : α → Prop} {t e : TypeId} (ht : P.underlying t = some (.slice e)) (hk : P.cellsOf e = k) (hpos : 0 < k) (ho : Opens enc P w spare held e E W) :
    Opens enc P w spare held t (ESl k E) (fun l => ∀ x, x ∈ l → W x) := by
  intro fuel cs y h
  rcases Go.Deep.open_slice ht h with ⟨rfl, _⟩ | ⟨a, len, cap, m, n, D, Pl, rfl, _, hl, hm, hmm, _, hx⟩
  · exact ⟨[], [], ⟨_, rfl, none, 0, rfl, Nat.le_refl _, Nat.zero_le _, Or.inl ⟨rfl, rfl, fun _ => rfl⟩⟩, by simp⟩
  rw [hk] at hx
  have hlm : len ≤ m := by rw [hmm]; split <;> omega
  by_cases h0 : len = 0
  · subst h0
    exact ⟨[], [], ⟨_, rfl, some a, cap, rfl, hl, hm, Or.inl ⟨rfl, rfl, by simp⟩⟩, by simp⟩
  -- the head's address bears no spot
  have hsp : a.spot = none := by
    obtain ⟨cs', hc, _⟩ := hx 0 (by omega)
    obtain ⟨_, h1, h2⟩ := World.cells?_some hc
    have h3 := h2 0 (by omega)
    have ha : ((a.add (0 * k)).add 0) = a := by simp [Addr.add]
    rw [ha] at h3
    have hlen : 0 < cs'.length := by omega
    rw [List.getElem?_eq_getElem hlen] at h3
    simp only [World.cell?] at h3
    split at h3
    · split at h3
      · cases h3
      · rename_i hs; simpa using hs
    · cases h3
  obtain ⟨b, off, rfl⟩ : ∃ b off, a = ⟨b, off, none⟩ := ⟨a.block, a.off, by cases a; simp_all⟩
  have hel : ∀ i, i < len → ∃ q : α × List Nat, (∃ cs', w.rangeAt b (off + i * k) cs' ∧ E w cs' q.1 q.2) ∧ W q.1 := by
    intro i hi
    obtain ⟨cs', hc, htr⟩ := hx i (by omega)
    obtain ⟨x, fp, hE, hW⟩ := ho _ _ _ htr
    obtain ⟨_, h1, h2⟩ := World.cells?_some hc
    refine ⟨(x, fp), ⟨cs', fun j v hv => ?_, hE⟩, hW⟩
    have hj := (List.getElem?_eq_some_iff.1 hv).1
    have := h2 j (by omega)
    rw [Addr.add_mid, Addr.add_mid, hv] at this
    exact this
  obtain ⟨f, hf⟩ := Go.Deep.choose_lt hel
  refine ⟨(List.range len).map fun i => (f i).1, b :: ((List.range len).map fun i => (f i).2).flatten, ⟨_, rfl, some ⟨b, off, none⟩, cap, by simp, by simpa using hl, hm, Or.inr ⟨b, off, (List.range len).map fun i => (f i).2, rfl, ?_, rfl, by simp, ?_⟩⟩, ?_⟩
  · obtain ⟨cs', hc, _⟩ := hx 0 (by omega)
    have := World.cells?_block hc (by omega)
    rw [Addr.add_mid] at this
    exact this
  · intro i x fp hx hfp
    have hi : i < len := by have := (List.getElem?_eq_some_iff.1 hx).1; simpa using this
    simp [hi] at hx hfp
    subst hx; subst hfp
    exact (hf i hi).1
  · intro x hx
    simp only [List.mem_map, List.mem_range] at hx
    obtain ⟨i, hi, rfl⟩ := hx
    exact (hf i hi).2
end
end Go.Proofs.YtjknhnhcbadigaaDoor.L
namespace Go.Proofs.YtjknhnhcbadigaaDoor.G
set_option linter.all false
open Go.RowKit L D
/-- Kinds of data that are elements of slices, or structs. -/
inductive Tag where
  | int | u8 | str | sl (t : Tag) | DB | RShare | Srv | ARound | Arc | Cli | Dev | Wld | Ev | Trf | Rcp | Plain | SAns
  deriving DecidableEq
@[reducible] def T : Tag → Type
  | .int => Int
  | .u8 => UInt8
  | .str => List UInt8
  | .sl t => List (T t)
  | .DB => DB
  | .RShare => RShare
  | .Srv => Srv
  | .ARound => ARound
  | .Arc => Arc
  | .Cli => Cli
  | .Dev => Dev
  | .Wld => Wld
  | .Ev => Ev
  | .Trf => Trf
  | .Rcp => Rcp
  | .Plain => Plain
  | .SAns => SAns
def kk : Tag → Nat
  | .int => 1
  | .u8 => 1
  | .str => 1
  | .sl _ => 1
  | .DB => 1
  | .RShare => 2
  | .Srv => 5
  | .ARound => 2
  | .Arc => 2
  | .Cli => 8
  | .Dev => 16
  | .Wld => 10
  | .Ev => 4
  | .Trf => 3
  | .Rcp => 5
  | .Plain => 2
  | .SAns => 5
def rd : (t : Tag) → ER (T t)
  | .int => EInt
  | .u8 => EU8
  | .str => EStr
  | .sl t => ESl (kk t) (rd t)
  | .DB => EDB
  | .RShare => ERShare
  | .Srv => ESrv
  | .ARound => EARound
  | .Arc => EArc
  | .Cli => ECli
  | .Dev => EDev
  | .Wld => EWld
  | .Ev => EEv
  | .Trf => ETrf
  | .Rcp => ERcp
  | .Plain => EPlain
  | .SAns => ESAns
theorem fine : (t : Tag) → Fine (kk t) (rd t)
  | .int => good_int
  | .u8 => good_u8
  | .str => good_str
  | .sl t => good_sl (fine t)
  | .DB => good_DB
  | .RShare => good_RShare
  | .Srv => good_Srv
  | .ARound => good_ARound
  | .Arc => good_Arc
  | .Cli => good_Cli
  | .Dev => good_Dev
  | .Wld => good_Wld
  | .Ev => good_Ev
  | .Trf => good_Trf
  | .Rcp => good_Rcp
  | .Plain => good_Plain
  | .SAns => good_SAns
theorem kk_pos : (t : Tag) → 0 < kk t
  | .int => by decide
  | .u8 => by decide
  | .str => by decide
  | .sl _ => Nat.one_pos
  | .DB => by decide
  | .RShare => by decide
  | .Srv => by decide
  | .ARound => by decide
  | .Arc => by decide
  | .Cli => by decide
  | .Dev => by decide
  | .Wld => by decide
  | .Ev => by decide
  | .Trf => by decide
  | .Rcp => by decide
  | .Plain => by decide
  | .SAns => by decide
def dfl : (t : Tag) → T t
  | .int => (0 : Int)
  | .u8 => (0 : UInt8)
  | .str => ([] : List UInt8)
  | .sl t => ([] : List (T t))
  | .DB => (default : DB)
  | .RShare => (default : RShare)
  | .Srv => (default : Srv)
  | .ARound => (default : ARound)
  | .Arc => (default : Arc)
  | .Cli => (default : Cli)
  | .Dev => (default : Dev)
  | .Wld => (default : Wld)
  | .Ev => (default : Ev)
  | .Trf => (default : Trf)
  | .Rcp => (default : Rcp)
  | .Plain => (default : Plain)
  | .SAns => (default : SAns)
/-- What a cell holds, symbolically. -/
inductive V where
  | any
  | lit (v : Value)
  | sl (t : Tag) (l : List (T t))
  | own (n : Nat)
  | ptr (n off : Nat)
  | eptr (n i off : Nat)
  | ip (t : Tag) (x : T t) (off : Nat)
  | vw (n : Nat) (p : Option (Nat × Nat)) (t : Tag) (l : List (T t))
  | vip (n : Nat) (p : Option (Nat × Nat × Nat)) (t : Tag) (x : T t) (off : Nat)
  | bsl (n : Nat) (t : Tag) (l : List (T t))
  | fnp (f : FuncId) (n : Nat)
  | husk (k : Nat)
/-- An immutable cell's reading. -/
def RI (w : World) : V → Value → List Nat → Prop
  | .lit v, u, fp => u = v ∧ v.oneCell' = true ∧ fp = []
  | .sl t l, u, fp => Sl (kk t) (rd t) w u l fp
  | _, _, _ => False
def RIs (w : World) : List V → List Value → List Nat → Prop
  | [], [], fp => fp = []
  | V :: Vs, u :: us, fp => ∃ f g, RI w V u f ∧ RIs w Vs us g ∧ fp = f ++ g
  | _, _, _ => False
theorem RIs.nil {w : World} : RIs w [] [] [] := rfl
theorem RIs.lit {w : World} {v : Value} {Vs : List V} {us : List Value} {g : List Nat} (hv : v.oneCell' = true) (h : RIs w Vs us g) : RIs w (.lit v :: Vs) (v :: us) g := ⟨[], g, ⟨rfl, hv, rfl⟩, h, rfl⟩
theorem RIs.sl {w : World} {u : Value} {t : Tag} {l : List (T t)} {f g : List Nat} {Vs : List V} {us : List Value} (k : Sl (kk t) (rd t) w u l f) (h : RIs w Vs us g) : RIs w (.sl t l :: Vs) (u :: us) (f ++ g) := ⟨f, g, k, h, rfl⟩
theorem RIs.app {w : World} : ∀ {Vs Us : List V} {vs us : List Value} {f g : List Nat}, RIs w Vs vs f → RIs w Us us g → RIs w (Vs ++ Us) (vs ++ us) (f ++ g)
  | [], _, [], _, _, _, h, k => by rw [show _ = _ from h]; exact k
  | _ :: _, _, _ :: _, _, _, _, ⟨f1, f2, h1, h2, e⟩, k => ⟨f1, f2 ++ _, h1, RIs.app h2 k, by rw [e, List.append_assoc]⟩
  | [], _, _ :: _, _, _, _, h, _ => h.elim
  | _ :: _, _, [], _, _, _, h, _ => h.elim
theorem RIs.len {w : World} : ∀ {Vs : List V} {us : List Value} {fp : List Nat}, RIs w Vs us fp → us.length = Vs.length
  | [], [], _, _ => rfl
  | _ :: _, _ :: _, _, ⟨_, _, _, h, _⟩ => by simp [RIs.len h]
  | [], _ :: _, _, h => h.elim
  | _ :: _, [], _, h => h.elim
def dec_DB (x : DB) : List V := [.sl (.sl .u8) x.rows]
def dec_RShare (x : RShare) : List V := [.lit (.int .i64 x.client)] ++ dec_DB x.share
def dec_Srv (x : Srv) : List V := [.lit (.int .i64 x.id), .lit (.int .i64 x.rows), .lit (.int .i64 x.round), .sl .RShare x.received, .lit (.int .i64 x.behavior)]
def dec_ARound (x : ARound) : List V := [.lit (.int .i64 x.round)] ++ dec_DB x.db
def dec_Arc (x : Arc) : List V := [.lit (.int .i64 x.rows), .sl .ARound x.rounds]
def dec_Cli (x : Cli) : List V := [.lit (.int .i64 x.id), .lit (.int .i64 x.friend), .lit (.int .i64 x.key), .lit (.int .i64 x.seed), .sl (.sl .u8) x.submitted, .lit (.int .i64 x.sent), .sl (.sl .u8) x.inbox, .lit (.int .i64 x.next)]
def dec_Dev (x : Dev) : List V := dec_Cli x.live ++ dec_Cli x.saved
def dec_Wld (x : Wld) : List V := [.lit (.int .i64 x.rows), .sl .Srv x.servers, .sl .Dev x.devices] ++ dec_Arc x.archive ++ [.lit (.int .i64 x.master), .lit (.int .i64 x.seed), .lit (.int .i64 x.round), .sl .int x.replaced, .lit (.int .i64 x.cancelled)]
def dec_Ev (x : Ev) : List V := [.lit (.int .i64 x.kind), .lit (.int .i64 x.node), .lit (.int .i64 x.value), .sl .u8 x.body]
def dec_Trf (x : Trf) : List V := [.lit (.int .i64 x.fr), .lit (.int .i64 x.to), .lit (.int .i64 x.bytes)]
def dec_Rcp (x : Rcp) : List V := [.lit (.int .i64 x.server), .lit (.int .i64 x.client), .lit (.int .i64 x.round), .lit (.int .i64 x.digest), .lit (.int .i64 x.mac)]
def dec_Plain (x : Plain) : List V := [.lit (.int .i64 x.kind), .sl .u8 x.body]
def dec_SAns (x : SAns) : List V := [.lit (.int .i64 x.server), .lit (.int .i64 x.round), .sl .int x.selection, .sl .u8 x.data, .lit (.int .i64 x.mac)]
/-- The cells of a datum. -/
def dec : (t : Tag) → T t → List V
  | .int, n => [.lit (.int .i64 n)]
  | .u8, n => [.lit (.int .u8 n.toNat)]
  | .str, s => [.lit (.string ⟨s.toArray⟩)]
  | .sl t, l => [.sl t l]
  | .DB, x => dec_DB x
  | .RShare, x => dec_RShare x
  | .Srv, x => dec_Srv x
  | .ARound, x => dec_ARound x
  | .Arc, x => dec_Arc x
  | .Cli, x => dec_Cli x
  | .Dev, x => dec_Dev x
  | .Wld, x => dec_Wld x
  | .Ev, x => dec_Ev x
  | .Trf, x => dec_Trf x
  | .Rcp, x => dec_Rcp x
  | .Plain, x => dec_Plain x
  | .SAns, x => dec_SAns x
theorem reads_DB {w : World} {cs : List Value} {x : DB} {fp : List Nat} : EDB w cs x fp → RIs w (dec_DB x) cs fp := by
  rintro ⟨v0, f0, rfl, h0, rfl⟩
  have h := (RIs.sl (t := (.sl .u8)) h0 RIs.nil)
  simpa [dec_DB] using h
theorem reads_RShare {w : World} {cs : List Value} {x : RShare} {fp : List Nat} : ERShare w cs x fp → RIs w (dec_RShare x) cs fp := by
  rintro ⟨v0, f0, rfl, h0, rfl⟩
  have h := (RIs.app (RIs.lit (w := w) (v := .int .i64 x.client) rfl RIs.nil) (reads_DB h0))
  simpa [dec_RShare] using h
theorem reads_Srv {w : World} {cs : List Value} {x : Srv} {fp : List Nat} : ESrv w cs x fp → RIs w (dec_Srv x) cs fp := by
  rintro ⟨v0, f0, rfl, h0, rfl⟩
  have h := (RIs.lit (w := w) (v := .int .i64 x.id) rfl (RIs.lit (w := w) (v := .int .i64 x.rows) rfl (RIs.lit (w := w) (v := .int .i64 x.round) rfl (RIs.sl (t := .RShare) h0 (RIs.lit (w := w) (v := .int .i64 x.behavior) rfl RIs.nil)))))
  simpa [dec_Srv] using h
theorem reads_ARound {w : World} {cs : List Value} {x : ARound} {fp : List Nat} : EARound w cs x fp → RIs w (dec_ARound x) cs fp := by
  rintro ⟨v0, f0, rfl, h0, rfl⟩
  have h := (RIs.app (RIs.lit (w := w) (v := .int .i64 x.round) rfl RIs.nil) (reads_DB h0))
  simpa [dec_ARound] using h
theorem reads_Arc {w : World} {cs : List Value} {x : Arc} {fp : List Nat} : EArc w cs x fp → RIs w (dec_Arc x) cs fp := by
  rintro ⟨v0, f0, rfl, h0, rfl⟩
  have h := (RIs.lit (w := w) (v := .int .i64 x.rows) rfl (RIs.sl (t := .ARound) h0 RIs.nil))
  simpa [dec_Arc] using h
theorem reads_Cli {w : World} {cs : List Value} {x : Cli} {fp : List Nat} : ECli w cs x fp → RIs w (dec_Cli x) cs fp := by
  rintro ⟨v0, v1, f0, f1, rfl, h0, h1, rfl⟩
  have h := (RIs.lit (w := w) (v := .int .i64 x.id) rfl (RIs.lit (w := w) (v := .int .i64 x.friend) rfl (RIs.lit (w := w) (v := .int .i64 x.key) rfl (RIs.lit (w := w) (v := .int .i64 x.seed) rfl (RIs.sl (t := (.sl .u8)) h0 (RIs.lit (w := w) (v := .int .i64 x.sent) rfl (RIs.sl (t := (.sl .u8)) h1 (RIs.lit (w := w) (v := .int .i64 x.next) rfl RIs.nil))))))))
  simpa [dec_Cli] using h
theorem reads_Dev {w : World} {cs : List Value} {x : Dev} {fp : List Nat} : EDev w cs x fp → RIs w (dec_Dev x) cs fp := by
  rintro ⟨v0, v1, f0, f1, rfl, h0, h1, rfl⟩
  have h := (RIs.app (reads_Cli h0) (reads_Cli h1))
  simpa [dec_Dev] using h
theorem reads_Wld {w : World} {cs : List Value} {x : Wld} {fp : List Nat} : EWld w cs x fp → RIs w (dec_Wld x) cs fp := by
  rintro ⟨v0, v1, v2, v3, f0, f1, f2, f3, rfl, h0, h1, h2, h3, rfl⟩
  have h := (RIs.app (RIs.app (RIs.lit (w := w) (v := .int .i64 x.rows) rfl (RIs.sl (t := .Srv) h0 (RIs.sl (t := .Dev) h1 RIs.nil))) (reads_Arc h2)) (RIs.lit (w := w) (v := .int .i64 x.master) rfl (RIs.lit (w := w) (v := .int .i64 x.seed) rfl (RIs.lit (w := w) (v := .int .i64 x.round) rfl (RIs.sl (t := .int) h3 (RIs.lit (w := w) (v := .int .i64 x.cancelled) rfl RIs.nil))))))
  simpa [dec_Wld] using h
theorem reads_Ev {w : World} {cs : List Value} {x : Ev} {fp : List Nat} : EEv w cs x fp → RIs w (dec_Ev x) cs fp := by
  rintro ⟨v0, f0, rfl, h0, rfl⟩
  have h := (RIs.lit (w := w) (v := .int .i64 x.kind) rfl (RIs.lit (w := w) (v := .int .i64 x.node) rfl (RIs.lit (w := w) (v := .int .i64 x.value) rfl (RIs.sl (t := .u8) h0 RIs.nil))))
  simpa [dec_Ev] using h
theorem reads_Trf {w : World} {cs : List Value} {x : Trf} {fp : List Nat} : ETrf w cs x fp → RIs w (dec_Trf x) cs fp := by
  rintro ⟨rfl, rfl⟩
  have h := (RIs.lit (w := w) (v := .int .i64 x.fr) rfl (RIs.lit (w := w) (v := .int .i64 x.to) rfl (RIs.lit (w := w) (v := .int .i64 x.bytes) rfl RIs.nil)))
  simpa [dec_Trf] using h
theorem reads_Rcp {w : World} {cs : List Value} {x : Rcp} {fp : List Nat} : ERcp w cs x fp → RIs w (dec_Rcp x) cs fp := by
  rintro ⟨rfl, rfl⟩
  have h := (RIs.lit (w := w) (v := .int .i64 x.server) rfl (RIs.lit (w := w) (v := .int .i64 x.client) rfl (RIs.lit (w := w) (v := .int .i64 x.round) rfl (RIs.lit (w := w) (v := .int .i64 x.digest) rfl (RIs.lit (w := w) (v := .int .i64 x.mac) rfl RIs.nil)))))
  simpa [dec_Rcp] using h
theorem reads_Plain {w : World} {cs : List Value} {x : Plain} {fp : List Nat} : EPlain w cs x fp → RIs w (dec_Plain x) cs fp := by
  rintro ⟨v0, f0, rfl, h0, rfl⟩
  have h := (RIs.lit (w := w) (v := .int .i64 x.kind) rfl (RIs.sl (t := .u8) h0 RIs.nil))
  simpa [dec_Plain] using h
theorem reads_SAns {w : World} {cs : List Value} {x : SAns} {fp : List Nat} : ESAns w cs x fp → RIs w (dec_SAns x) cs fp := by
  rintro ⟨v0, v1, f0, f1, rfl, h0, h1, rfl⟩
  have h := (RIs.lit (w := w) (v := .int .i64 x.server) rfl (RIs.lit (w := w) (v := .int .i64 x.round) rfl (RIs.sl (t := .int) h0 (RIs.sl (t := .u8) h1 (RIs.lit (w := w) (v := .int .i64 x.mac) rfl RIs.nil)))))
  simpa [dec_SAns] using h
theorem reads {w : World} : (t : Tag) → {cs : List Value} → {x : T t} → {fp : List Nat} → rd t w cs x fp → RIs w (dec t x) cs fp
  | .int, _, _, _, ⟨rfl, rfl⟩ => RIs.lit (v := .int .i64 _) rfl RIs.nil
  | .u8, _, _, _, ⟨rfl, rfl⟩ => RIs.lit (v := .int .u8 _) rfl RIs.nil
  | .str, _, _, _, ⟨rfl, _, rfl⟩ => RIs.lit (v := .string _) rfl RIs.nil
  | .sl t, _, _, _, ⟨v, rfl, h⟩ => by have := RIs.sl (t := t) h (RIs.nil); rwa [List.append_nil] at this
  | .DB, _, _, _, h => reads_DB h
  | .RShare, _, _, _, h => reads_RShare h
  | .Srv, _, _, _, h => reads_Srv h
  | .ARound, _, _, _, h => reads_ARound h
  | .Arc, _, _, _, h => reads_Arc h
  | .Cli, _, _, _, h => reads_Cli h
  | .Dev, _, _, _, h => reads_Dev h
  | .Wld, _, _, _, h => reads_Wld h
  | .Ev, _, _, _, h => reads_Ev h
  | .Trf, _, _, _, h => reads_Trf h
  | .Rcp, _, _, _, h => reads_Rcp h
  | .Plain, _, _, _, h => reads_Plain h
  | .SAns, _, _, _, h => reads_SAns h
end Go.Proofs.YtjknhnhcbadigaaDoor.G
namespace Go.Proofs.YtjknhnhcbadigaaDoor.G
set_option linter.all false
open Go.RowKit L D
def castL : (t t' : Tag) → List (T t') → Option (List (T t))
  | .int, .int, l => some l
  | .u8, .u8, l => some l
  | .str, .str, l => some l
  | .sl .int, .sl .int, l => some l
  | .sl .u8, .sl .u8, l => some l
  | .sl .str, .sl .str, l => some l
  | .sl (.sl .u8), .sl (.sl .u8), l => some l
  | .sl (.sl .int), .sl (.sl .int), l => some l
  | .DB, .DB, l => some l
  | .RShare, .RShare, l => some l
  | .Srv, .Srv, l => some l
  | .ARound, .ARound, l => some l
  | .Arc, .Arc, l => some l
  | .Cli, .Cli, l => some l
  | .Dev, .Dev, l => some l
  | .Wld, .Wld, l => some l
  | .Ev, .Ev, l => some l
  | .Trf, .Trf, l => some l
  | .Rcp, .Rcp, l => some l
  | .Plain, .Plain, l => some l
  | .SAns, .SAns, l => some l
  | _, _, _ => none
theorem castL_ok {t t' : Tag} {l : List (T t')} {l2 : List (T t)} (h : castL t t' l = some l2) : ∃ e : t' = t, l2 = e ▸ l := by
  unfold castL at h
  split at h <;> first
    | (simp only [Option.some.injEq] at h; exact ⟨rfl, h.symm⟩)
    | cases h
def gi : V → Option Int
  | .lit (.int .i64 n) => some n
  | _ => none
def gs (t : Tag) : V → Option (List (T t))
  | .sl t' l => castL t t' l
  | .lit (.slice none 0 0) => some []
  | _ => none
theorem gi_ok {w : World} {v : V} {u : Value} {f : List Nat} {n : Int} (h : gi v = some n) (hr : RI w v u f) : u = .int .i64 n ∧ f = [] := by
  unfold gi at h
  split at h
  · simp only [Option.some.injEq] at h
    subst h
    exact ⟨hr.1, hr.2.2⟩
  · cases h
theorem gs_ok {w : World} {t : Tag} {v : V} {u : Value} {f : List Nat} {l : List (T t)} (h : gs t v = some l) (hr : RI w v u f) : Sl (kk t) (rd t) w u l f := by
  unfold gs at h
  split at h
  · rename_i t' l'
    obtain ⟨he, rfl⟩ := castL_ok h
    subst he
    exact hr
  · simp only [Option.some.injEq] at h
    subst h
    obtain ⟨rfl, _, rfl⟩ := hr
    exact ⟨none, 0, rfl, Nat.le_refl _, Nat.zero_le _, Or.inl ⟨rfl, rfl, fun _ => rfl⟩⟩
  · cases h
def enc_DB : List V → Option DB
  | [a0] => match gs (.sl .u8) a0 with
    | some x0 => some ⟨x0⟩
    | _ => none
  | _ => none
theorem enc_DB_ok {w : World} {c : List V} {us : List Value} {fp : List Nat} {x : DB} (h : enc_DB c = some x) (hr : RIs w c us fp) : EDB w us x fp := by
  unfold enc_DB at h
  split at h
  · rename_i a0
    split at h
    · rename_i x0 e0
      simp only [Option.some.injEq] at h
      subst h
      match us, hr with
      | [u0], ⟨f0, g0, r0, h9, q0⟩ =>
        have h9 : g0 = [] := h9
        have z0 := gs_ok e0 r0
        refine ⟨u0, f0, ?_, z0, ?_⟩
        · rfl
        · simp [q0, h9]
    · cases h
  · cases h
def enc_RShare : List V → Option RShare
  | [a0, a1] => match gi a0, enc_DB [a1] with
    | some x0, some x1 => some ⟨x0, x1⟩
    | _, _ => none
  | _ => none
theorem enc_RShare_ok {w : World} {c : List V} {us : List Value} {fp : List Nat} {x : RShare} (h : enc_RShare c = some x) (hr : RIs w c us fp) : ERShare w us x fp := by
  unfold enc_RShare at h
  split at h
  · rename_i a0 a1
    split at h
    · rename_i x0 x1 e0 e1
      simp only [Option.some.injEq] at h
      subst h
      match us, hr with
      | [u0, u1], ⟨f0, g0, r0, ⟨f1, g1, r1, h9, q1⟩, q0⟩ =>
        have h9 : g1 = [] := h9
        obtain ⟨z0, y0⟩ := gi_ok e0 r0
        have z1 := enc_DB_ok (w := w) (us := [u1]) (fp := (f1 ++ [])) e1 ⟨f1, _, r1, rfl, rfl⟩
        refine ⟨[u1], (f1 ++ []), ?_, z1, ?_⟩
        · simp [z0]
        · simp [q0, q1, h9, y0]
    · cases h
  · cases h
def enc_Srv : List V → Option Srv
  | [a0, a1, a2, a3, a4] => match gi a0, gi a1, gi a2, gs .RShare a3, gi a4 with
    | some x0, some x1, some x2, some x3, some x4 => some ⟨x0, x1, x2, x3, x4⟩
    | _, _, _, _, _ => none
  | _ => none
theorem enc_Srv_ok {w : World} {c : List V} {us : List Value} {fp : List Nat} {x : Srv} (h : enc_Srv c = some x) (hr : RIs w c us fp) : ESrv w us x fp := by
  unfold enc_Srv at h
  split at h
  · rename_i a0 a1 a2 a3 a4
    split at h
    · rename_i x0 x1 x2 x3 x4 e0 e1 e2 e3 e4
      simp only [Option.some.injEq] at h
      subst h
      match us, hr with
      | [u0, u1, u2, u3, u4], ⟨f0, g0, r0, ⟨f1, g1, r1, ⟨f2, g2, r2, ⟨f3, g3, r3, ⟨f4, g4, r4, h9, q4⟩, q3⟩, q2⟩, q1⟩, q0⟩ =>
        have h9 : g4 = [] := h9
        obtain ⟨z0, y0⟩ := gi_ok e0 r0
        obtain ⟨z1, y1⟩ := gi_ok e1 r1
        obtain ⟨z2, y2⟩ := gi_ok e2 r2
        have z3 := gs_ok e3 r3
        obtain ⟨z4, y4⟩ := gi_ok e4 r4
        refine ⟨u3, f3, ?_, z3, ?_⟩
        · simp [z0, z1, z2, z4]
        · simp [q0, q1, q2, q3, q4, h9, y0, y1, y2, y4]
    · cases h
  · cases h
def enc_ARound : List V → Option ARound
  | [a0, a1] => match gi a0, enc_DB [a1] with
    | some x0, some x1 => some ⟨x0, x1⟩
    | _, _ => none
  | _ => none
theorem enc_ARound_ok {w : World} {c : List V} {us : List Value} {fp : List Nat} {x : ARound} (h : enc_ARound c = some x) (hr : RIs w c us fp) : EARound w us x fp := by
  unfold enc_ARound at h
  split at h
  · rename_i a0 a1
    split at h
    · rename_i x0 x1 e0 e1
      simp only [Option.some.injEq] at h
      subst h
      match us, hr with
      | [u0, u1], ⟨f0, g0, r0, ⟨f1, g1, r1, h9, q1⟩, q0⟩ =>
        have h9 : g1 = [] := h9
        obtain ⟨z0, y0⟩ := gi_ok e0 r0
        have z1 := enc_DB_ok (w := w) (us := [u1]) (fp := (f1 ++ [])) e1 ⟨f1, _, r1, rfl, rfl⟩
        refine ⟨[u1], (f1 ++ []), ?_, z1, ?_⟩
        · simp [z0]
        · simp [q0, q1, h9, y0]
    · cases h
  · cases h
def enc_Arc : List V → Option Arc
  | [a0, a1] => match gi a0, gs .ARound a1 with
    | some x0, some x1 => some ⟨x0, x1⟩
    | _, _ => none
  | _ => none
theorem enc_Arc_ok {w : World} {c : List V} {us : List Value} {fp : List Nat} {x : Arc} (h : enc_Arc c = some x) (hr : RIs w c us fp) : EArc w us x fp := by
  unfold enc_Arc at h
  split at h
  · rename_i a0 a1
    split at h
    · rename_i x0 x1 e0 e1
      simp only [Option.some.injEq] at h
      subst h
      match us, hr with
      | [u0, u1], ⟨f0, g0, r0, ⟨f1, g1, r1, h9, q1⟩, q0⟩ =>
        have h9 : g1 = [] := h9
        obtain ⟨z0, y0⟩ := gi_ok e0 r0
        have z1 := gs_ok e1 r1
        refine ⟨u1, f1, ?_, z1, ?_⟩
        · simp [z0]
        · simp [q0, q1, h9, y0]
    · cases h
  · cases h
def enc_Cli : List V → Option Cli
  | [a0, a1, a2, a3, a4, a5, a6, a7] => match gi a0, gi a1, gi a2, gi a3, gs (.sl .u8) a4, gi a5, gs (.sl .u8) a6, gi a7 with
    | some x0, some x1, some x2, some x3, some x4, some x5, some x6, some x7 => some ⟨x0, x1, x2, x3, x4, x5, x6, x7⟩
    | _, _, _, _, _, _, _, _ => none
  | _ => none
theorem enc_Cli_ok {w : World} {c : List V} {us : List Value} {fp : List Nat} {x : Cli} (h : enc_Cli c = some x) (hr : RIs w c us fp) : ECli w us x fp := by
  unfold enc_Cli at h
  split at h
  · rename_i a0 a1 a2 a3 a4 a5 a6 a7
    split at h
    · rename_i x0 x1 x2 x3 x4 x5 x6 x7 e0 e1 e2 e3 e4 e5 e6 e7
      simp only [Option.some.injEq] at h
      subst h
      match us, hr with
      | [u0, u1, u2, u3, u4, u5, u6, u7], ⟨f0, g0, r0, ⟨f1, g1, r1, ⟨f2, g2, r2, ⟨f3, g3, r3, ⟨f4, g4, r4, ⟨f5, g5, r5, ⟨f6, g6, r6, ⟨f7, g7, r7, h9, q7⟩, q6⟩, q5⟩, q4⟩, q3⟩, q2⟩, q1⟩, q0⟩ =>
        have h9 : g7 = [] := h9
        obtain ⟨z0, y0⟩ := gi_ok e0 r0
        obtain ⟨z1, y1⟩ := gi_ok e1 r1
        obtain ⟨z2, y2⟩ := gi_ok e2 r2
        obtain ⟨z3, y3⟩ := gi_ok e3 r3
        have z4 := gs_ok e4 r4
        obtain ⟨z5, y5⟩ := gi_ok e5 r5
        have z6 := gs_ok e6 r6
        obtain ⟨z7, y7⟩ := gi_ok e7 r7
        refine ⟨u4, u6, f4, f6, ?_, z4, z6, ?_⟩
        · simp [z0, z1, z2, z3, z5, z7]
        · simp [q0, q1, q2, q3, q4, q5, q6, q7, h9, y0, y1, y2, y3, y5, y7]
    · cases h
  · cases h
def enc_Dev : List V → Option Dev
  | [a0, a1, a2, a3, a4, a5, a6, a7, a8, a9, a10, a11, a12, a13, a14, a15] => match enc_Cli [a0, a1, a2, a3, a4, a5, a6, a7], enc_Cli [a8, a9, a10, a11, a12, a13, a14, a15] with
    | some x0, some x8 => some ⟨x0, x8⟩
    | _, _ => none
  | _ => none
theorem enc_Dev_ok {w : World} {c : List V} {us : List Value} {fp : List Nat} {x : Dev} (h : enc_Dev c = some x) (hr : RIs w c us fp) : EDev w us x fp := by
  unfold enc_Dev at h
  split at h
  · rename_i a0 a1 a2 a3 a4 a5 a6 a7 a8 a9 a10 a11 a12 a13 a14 a15
    split at h
    · rename_i x0 x8 e0 e1
      simp only [Option.some.injEq] at h
      subst h
      match us, hr with
      | [u0, u1, u2, u3, u4, u5, u6, u7, u8, u9, u10, u11, u12, u13, u14, u15], ⟨f0, g0, r0, ⟨f1, g1, r1, ⟨f2, g2, r2, ⟨f3, g3, r3, ⟨f4, g4, r4, ⟨f5, g5, r5, ⟨f6, g6, r6, ⟨f7, g7, r7, ⟨f8, g8, r8, ⟨f9, g9, r9, ⟨f10, g10, r10, ⟨f11, g11, r11, ⟨f12, g12, r12, ⟨f13, g13, r13, ⟨f14, g14, r14, ⟨f15, g15, r15, h9, q15⟩, q14⟩, q13⟩, q12⟩, q11⟩, q10⟩, q9⟩, q8⟩, q7⟩, q6⟩, q5⟩, q4⟩, q3⟩, q2⟩, q1⟩, q0⟩ =>
        have h9 : g15 = [] := h9
        have z0 := enc_Cli_ok (w := w) (us := [u0, u1, u2, u3, u4, u5, u6, u7]) (fp := (f0 ++ (f1 ++ (f2 ++ (f3 ++ (f4 ++ (f5 ++ (f6 ++ (f7 ++ []))))))))) e0 ⟨f0, _, r0, ⟨f1, _, r1, ⟨f2, _, r2, ⟨f3, _, r3, ⟨f4, _, r4, ⟨f5, _, r5, ⟨f6, _, r6, ⟨f7, _, r7, rfl, rfl⟩, rfl⟩, rfl⟩, rfl⟩, rfl⟩, rfl⟩, rfl⟩, rfl⟩
        have z8 := enc_Cli_ok (w := w) (us := [u8, u9, u10, u11, u12, u13, u14, u15]) (fp := (f8 ++ (f9 ++ (f10 ++ (f11 ++ (f12 ++ (f13 ++ (f14 ++ (f15 ++ []))))))))) e1 ⟨f8, _, r8, ⟨f9, _, r9, ⟨f10, _, r10, ⟨f11, _, r11, ⟨f12, _, r12, ⟨f13, _, r13, ⟨f14, _, r14, ⟨f15, _, r15, rfl, rfl⟩, rfl⟩, rfl⟩, rfl⟩, rfl⟩, rfl⟩, rfl⟩, rfl⟩
        refine ⟨[u0, u1, u2, u3, u4, u5, u6, u7], [u8, u9, u10, u11, u12, u13, u14, u15], (f0 ++ (f1 ++ (f2 ++ (f3 ++ (f4 ++ (f5 ++ (f6 ++ (f7 ++ [])))))))), (f8 ++ (f9 ++ (f10 ++ (f11 ++ (f12 ++ (f13 ++ (f14 ++ (f15 ++ [])))))))), ?_, z0, z8, ?_⟩
        · rfl
        · simp [q0, q1, q2, q3, q4, q5, q6, q7, q8, q9, q10, q11, q12, q13, q14, q15, h9]
    · cases h
  · cases h
def enc_Wld : List V → Option Wld
  | [a0, a1, a2, a3, a4, a5, a6, a7, a8, a9] => match gi a0, gs .Srv a1, gs .Dev a2, enc_Arc [a3, a4], gi a5, gi a6, gi a7, gs .int a8, gi a9 with
    | some x0, some x1, some x2, some x3, some x5, some x6, some x7, some x8, some x9 => some ⟨x0, x1, x2, x3, x5, x6, x7, x8, x9⟩
    | _, _, _, _, _, _, _, _, _ => none
  | _ => none
theorem enc_Wld_ok {w : World} {c : List V} {us : List Value} {fp : List Nat} {x : Wld} (h : enc_Wld c = some x) (hr : RIs w c us fp) : EWld w us x fp := by
  unfold enc_Wld at h
  split at h
  · rename_i a0 a1 a2 a3 a4 a5 a6 a7 a8 a9
    split at h
    · rename_i x0 x1 x2 x3 x5 x6 x7 x8 x9 e0 e1 e2 e3 e4 e5 e6 e7 e8
      simp only [Option.some.injEq] at h
      subst h
      match us, hr with
      | [u0, u1, u2, u3, u4, u5, u6, u7, u8, u9], ⟨f0, g0, r0, ⟨f1, g1, r1, ⟨f2, g2, r2, ⟨f3, g3, r3, ⟨f4, g4, r4, ⟨f5, g5, r5, ⟨f6, g6, r6, ⟨f7, g7, r7, ⟨f8, g8, r8, ⟨f9, g9, r9, h9, q9⟩, q8⟩, q7⟩, q6⟩, q5⟩, q4⟩, q3⟩, q2⟩, q1⟩, q0⟩ =>
        have h9 : g9 = [] := h9
        obtain ⟨z0, y0⟩ := gi_ok e0 r0
        have z1 := gs_ok e1 r1
        have z2 := gs_ok e2 r2
        have z3 := enc_Arc_ok (w := w) (us := [u3, u4]) (fp := (f3 ++ (f4 ++ []))) e3 ⟨f3, _, r3, ⟨f4, _, r4, rfl, rfl⟩, rfl⟩
        obtain ⟨z5, y5⟩ := gi_ok e4 r5
        obtain ⟨z6, y6⟩ := gi_ok e5 r6
        obtain ⟨z7, y7⟩ := gi_ok e6 r7
        have z8 := gs_ok e7 r8
        obtain ⟨z9, y9⟩ := gi_ok e8 r9
        refine ⟨u1, u2, [u3, u4], u8, f1, f2, (f3 ++ (f4 ++ [])), f8, ?_, z1, z2, z3, z8, ?_⟩
        · simp [z0, z5, z6, z7, z9]
        · simp [q0, q1, q2, q3, q4, q5, q6, q7, q8, q9, h9, y0, y5, y6, y7, y9]
    · cases h
  · cases h
def enc_Ev : List V → Option Ev
  | [a0, a1, a2, a3] => match gi a0, gi a1, gi a2, gs .u8 a3 with
    | some x0, some x1, some x2, some x3 => some ⟨x0, x1, x2, x3⟩
    | _, _, _, _ => none
  | _ => none
theorem enc_Ev_ok {w : World} {c : List V} {us : List Value} {fp : List Nat} {x : Ev} (h : enc_Ev c = some x) (hr : RIs w c us fp) : EEv w us x fp := by
  unfold enc_Ev at h
  split at h
  · rename_i a0 a1 a2 a3
    split at h
    · rename_i x0 x1 x2 x3 e0 e1 e2 e3
      simp only [Option.some.injEq] at h
      subst h
      match us, hr with
      | [u0, u1, u2, u3], ⟨f0, g0, r0, ⟨f1, g1, r1, ⟨f2, g2, r2, ⟨f3, g3, r3, h9, q3⟩, q2⟩, q1⟩, q0⟩ =>
        have h9 : g3 = [] := h9
        obtain ⟨z0, y0⟩ := gi_ok e0 r0
        obtain ⟨z1, y1⟩ := gi_ok e1 r1
        obtain ⟨z2, y2⟩ := gi_ok e2 r2
        have z3 := gs_ok e3 r3
        refine ⟨u3, f3, ?_, z3, ?_⟩
        · simp [z0, z1, z2]
        · simp [q0, q1, q2, q3, h9, y0, y1, y2]
    · cases h
  · cases h
def enc_Trf : List V → Option Trf
  | [a0, a1, a2] => match gi a0, gi a1, gi a2 with
    | some x0, some x1, some x2 => some ⟨x0, x1, x2⟩
    | _, _, _ => none
  | _ => none
theorem enc_Trf_ok {w : World} {c : List V} {us : List Value} {fp : List Nat} {x : Trf} (h : enc_Trf c = some x) (hr : RIs w c us fp) : ETrf w us x fp := by
  unfold enc_Trf at h
  split at h
  · rename_i a0 a1 a2
    split at h
    · rename_i x0 x1 x2 e0 e1 e2
      simp only [Option.some.injEq] at h
      subst h
      match us, hr with
      | [u0, u1, u2], ⟨f0, g0, r0, ⟨f1, g1, r1, ⟨f2, g2, r2, h9, q2⟩, q1⟩, q0⟩ =>
        have h9 : g2 = [] := h9
        obtain ⟨z0, y0⟩ := gi_ok e0 r0
        obtain ⟨z1, y1⟩ := gi_ok e1 r1
        obtain ⟨z2, y2⟩ := gi_ok e2 r2
        refine ⟨?_, ?_⟩
        · simp [z0, z1, z2]
        · simp [q0, q1, q2, h9, y0, y1, y2]
    · cases h
  · cases h
def enc_Rcp : List V → Option Rcp
  | [a0, a1, a2, a3, a4] => match gi a0, gi a1, gi a2, gi a3, gi a4 with
    | some x0, some x1, some x2, some x3, some x4 => some ⟨x0, x1, x2, x3, x4⟩
    | _, _, _, _, _ => none
  | _ => none
theorem enc_Rcp_ok {w : World} {c : List V} {us : List Value} {fp : List Nat} {x : Rcp} (h : enc_Rcp c = some x) (hr : RIs w c us fp) : ERcp w us x fp := by
  unfold enc_Rcp at h
  split at h
  · rename_i a0 a1 a2 a3 a4
    split at h
    · rename_i x0 x1 x2 x3 x4 e0 e1 e2 e3 e4
      simp only [Option.some.injEq] at h
      subst h
      match us, hr with
      | [u0, u1, u2, u3, u4], ⟨f0, g0, r0, ⟨f1, g1, r1, ⟨f2, g2, r2, ⟨f3, g3, r3, ⟨f4, g4, r4, h9, q4⟩, q3⟩, q2⟩, q1⟩, q0⟩ =>
        have h9 : g4 = [] := h9
        obtain ⟨z0, y0⟩ := gi_ok e0 r0
        obtain ⟨z1, y1⟩ := gi_ok e1 r1
        obtain ⟨z2, y2⟩ := gi_ok e2 r2
        obtain ⟨z3, y3⟩ := gi_ok e3 r3
        obtain ⟨z4, y4⟩ := gi_ok e4 r4
        refine ⟨?_, ?_⟩
        · simp [z0, z1, z2, z3, z4]
        · simp [q0, q1, q2, q3, q4, h9, y0, y1, y2, y3, y4]
    · cases h
  · cases h
def enc_Plain : List V → Option Plain
  | [a0, a1] => match gi a0, gs .u8 a1 with
    | some x0, some x1 => some ⟨x0, x1⟩
    | _, _ => none
  | _ => none
theorem enc_Plain_ok {w : World} {c : List V} {us : List Value} {fp : List Nat} {x : Plain} (h : enc_Plain c = some x) (hr : RIs w c us fp) : EPlain w us x fp := by
  unfold enc_Plain at h
  split at h
  · rename_i a0 a1
    split at h
    · rename_i x0 x1 e0 e1
      simp only [Option.some.injEq] at h
      subst h
      match us, hr with
      | [u0, u1], ⟨f0, g0, r0, ⟨f1, g1, r1, h9, q1⟩, q0⟩ =>
        have h9 : g1 = [] := h9
        obtain ⟨z0, y0⟩ := gi_ok e0 r0
        have z1 := gs_ok e1 r1
        refine ⟨u1, f1, ?_, z1, ?_⟩
        · simp [z0]
        · simp [q0, q1, h9, y0]
    · cases h
  · cases h
def enc_SAns : List V → Option SAns
  | [a0, a1, a2, a3, a4] => match gi a0, gi a1, gs .int a2, gs .u8 a3, gi a4 with
    | some x0, some x1, some x2, some x3, some x4 => some ⟨x0, x1, x2, x3, x4⟩
    | _, _, _, _, _ => none
  | _ => none
theorem enc_SAns_ok {w : World} {c : List V} {us : List Value} {fp : List Nat} {x : SAns} (h : enc_SAns c = some x) (hr : RIs w c us fp) : ESAns w us x fp := by
  unfold enc_SAns at h
  split at h
  · rename_i a0 a1 a2 a3 a4
    split at h
    · rename_i x0 x1 x2 x3 x4 e0 e1 e2 e3 e4
      simp only [Option.some.injEq] at h
      subst h
      match us, hr with
      | [u0, u1, u2, u3, u4], ⟨f0, g0, r0, ⟨f1, g1, r1, ⟨f2, g2, r2, ⟨f3, g3, r3, ⟨f4, g4, r4, h9, q4⟩, q3⟩, q2⟩, q1⟩, q0⟩ =>
        have h9 : g4 = [] := h9
        obtain ⟨z0, y0⟩ := gi_ok e0 r0
        obtain ⟨z1, y1⟩ := gi_ok e1 r1
        have z2 := gs_ok e2 r2
        have z3 := gs_ok e3 r3
        obtain ⟨z4, y4⟩ := gi_ok e4 r4
        refine ⟨u2, u3, f2, f3, ?_, z2, z3, ?_⟩
        · simp [z0, z1, z4]
        · simp [q0, q1, q2, q3, q4, h9, y0, y1, y4]
    · cases h
  · cases h
/-- An element out of its cells; what must hold for it. -/
def enc_int : List V → Option (List Prop × Int)
  | [v] => match gi v with | some n => some ([], n) | none => none
  | _ => none
def enc_u8 : List V → Option (List Prop × UInt8)
  | [.lit (.int .u8 n)] => some ([0 ≤ n ∧ n < 256], UInt8.ofNat n.toNat)
  | _ => none
def enc_str : List V → Option (List Prop × List UInt8)
  | [.lit (.string s)] => some ([s.size ≤ maxLen], s.data.toList)
  | _ => none
def enc_sl (t : Tag) : List V → Option (List Prop × List (T t))
  | [v] => match gs t v with | some l => some ([], l) | none => none
  | _ => none
def encS {α : Type} : Option α → Option (List Prop × α)
  | some x => some ([], x)
  | none => none
theorem encS_some {α : Type} {o : Option α} {vc : List Prop} {x : α} (h : encS o = some (vc, x)) : o = some x := by
  cases o with
  | none => cases h
  | some y => simp only [encS, Option.some.injEq, Prod.mk.injEq] at h; rw [h.2]
def enc : (t : Tag) → List V → Option (List Prop × T t)
  | .int, c => enc_int c
  | .u8, c => enc_u8 c
  | .str, c => enc_str c
  | .sl t, c => enc_sl t c
  | .DB, c => encS (enc_DB c)
  | .RShare, c => encS (enc_RShare c)
  | .Srv, c => encS (enc_Srv c)
  | .ARound, c => encS (enc_ARound c)
  | .Arc, c => encS (enc_Arc c)
  | .Cli, c => encS (enc_Cli c)
  | .Dev, c => encS (enc_Dev c)
  | .Wld, c => encS (enc_Wld c)
  | .Ev, c => encS (enc_Ev c)
  | .Trf, c => encS (enc_Trf c)
  | .Rcp, c => encS (enc_Rcp c)
  | .Plain, c => encS (enc_Plain c)
  | .SAns, c => encS (enc_SAns c)
theorem enc_ok {w : World} : (t : Tag) → {c : List V} → {us : List Value} → {fp : List Nat} → {vc : List Prop} → {x : T t} → enc t c = some (vc, x) → (∀ q, q ∈ vc → q) → RIs w c us fp → rd t w us x fp
  | .int, c, us, fp, vc, x, h, hv, hr => by
    have h : enc_int c = some (vc, x) := h
    unfold enc_int at h
    split at h <;> first | (cases h; done) | skip
    · split at h
      · rename_i v _ n e
        simp only [Option.some.injEq, Prod.mk.injEq] at h
        obtain ⟨rfl, rfl⟩ := h
        match us, hr with
        | [u], ⟨f, g, r, h9, q⟩ =>
          obtain ⟨z, y⟩ := gi_ok e r
          have h9 : g = [] := h9
          exact ⟨by rw [z], by simp [q, y, h9]⟩
      · cases h
  | .u8, c, us, fp, vc, x, h, hv, hr => by
    have h : enc_u8 c = some (vc, x) := h
    unfold enc_u8 at h
    split at h <;> first | (cases h; done) | skip
    · rename_i n _
      simp only [Option.some.injEq, Prod.mk.injEq] at h
      obtain ⟨rfl, rfl⟩ := h
      obtain ⟨h0, h1⟩ := hv _ (List.mem_singleton.2 rfl)
      match us, hr with
      | [u], ⟨f, g, r, h9, q⟩ =>
        have h9 : g = [] := h9
        obtain ⟨rfl, _, rfl⟩ := r
        refine ⟨?_, by simp [q, h9]⟩
        have : ((UInt8.ofNat n.toNat).toNat : Int) = n := by rw [UInt8.toNat_ofNat']; omega
        rw [this]
  | .str, c, us, fp, vc, x, h, hv, hr => by
    have h : enc_str c = some (vc, x) := h
    unfold enc_str at h
    split at h <;> first | (cases h; done) | skip
    · rename_i s _
      simp only [Option.some.injEq, Prod.mk.injEq] at h
      obtain ⟨rfl, rfl⟩ := h
      have h0 := hv _ (List.mem_singleton.2 rfl)
      match us, hr with
      | [u], ⟨f, g, r, h9, q⟩ =>
        have h9 : g = [] := h9
        obtain ⟨rfl, _, rfl⟩ := r
        exact ⟨rfl, h0, by simp [q, h9]⟩
  | .sl t, c, us, fp, vc, x, h, hv, hr => by
    have h : enc_sl t c = some (vc, x) := h
    unfold enc_sl at h
    split at h <;> first | (cases h; done) | skip
    · split at h
      · rename_i v _ l e
        simp only [Option.some.injEq, Prod.mk.injEq] at h
        obtain ⟨rfl, rfl⟩ := h
        match us, hr with
        | [u], ⟨f, g, r, h9, q⟩ =>
          have h9 : g = [] := h9
          refine ⟨u, rfl, ?_⟩
          have := gs_ok e r
          rw [q, h9, List.append_nil]; exact this
      · cases h
  | .DB, c, us, fp, vc, x, h, hv, hr => by
    exact enc_DB_ok (encS_some (show encS (enc_DB c) = _ from h)) hr
  | .RShare, c, us, fp, vc, x, h, hv, hr => by
    exact enc_RShare_ok (encS_some (show encS (enc_RShare c) = _ from h)) hr
  | .Srv, c, us, fp, vc, x, h, hv, hr => by
    exact enc_Srv_ok (encS_some (show encS (enc_Srv c) = _ from h)) hr
  | .ARound, c, us, fp, vc, x, h, hv, hr => by
    exact enc_ARound_ok (encS_some (show encS (enc_ARound c) = _ from h)) hr
  | .Arc, c, us, fp, vc, x, h, hv, hr => by
    exact enc_Arc_ok (encS_some (show encS (enc_Arc c) = _ from h)) hr
  | .Cli, c, us, fp, vc, x, h, hv, hr => by
    exact enc_Cli_ok (encS_some (show encS (enc_Cli c) = _ from h)) hr
  | .Dev, c, us, fp, vc, x, h, hv, hr => by
    exact enc_Dev_ok (encS_some (show encS (enc_Dev c) = _ from h)) hr
  | .Wld, c, us, fp, vc, x, h, hv, hr => by
    exact enc_Wld_ok (encS_some (show encS (enc_Wld c) = _ from h)) hr
  | .Ev, c, us, fp, vc, x, h, hv, hr => by
    exact enc_Ev_ok (encS_some (show encS (enc_Ev c) = _ from h)) hr
  | .Trf, c, us, fp, vc, x, h, hv, hr => by
    exact enc_Trf_ok (encS_some (show encS (enc_Trf c) = _ from h)) hr
  | .Rcp, c, us, fp, vc, x, h, hv, hr => by
    exact enc_Rcp_ok (encS_some (show encS (enc_Rcp c) = _ from h)) hr
  | .Plain, c, us, fp, vc, x, h, hv, hr => by
    exact enc_Plain_ok (encS_some (show encS (enc_Plain c) = _ from h)) hr
  | .SAns, c, us, fp, vc, x, h, hv, hr => by
    exact enc_SAns_ok (encS_some (show encS (enc_SAns c) = _ from h)) hr
/-- Zero values of elements, their bytes; whose readings pass no block. -/
def zval : Tag → Value
  | .int => .int .i64 0
  | .u8 => .int .u8 0
  | .str => .string ⟨#[]⟩
  | .sl _ => .slice none 0 0
  | .DB => .agg #[.slice none 0 0]
  | .RShare => .agg #[.int .i64 0, .slice none 0 0]
  | .Srv => .agg #[.int .i64 0, .int .i64 0, .int .i64 0, .slice none 0 0, .int .i64 0]
  | .ARound => .agg #[.int .i64 0, .slice none 0 0]
  | .Arc => .agg #[.int .i64 0, .slice none 0 0]
  | .Cli => .agg #[.int .i64 0, .int .i64 0, .int .i64 0, .int .i64 0, .slice none 0 0, .int .i64 0, .slice none 0 0, .int .i64 0]
  | .Dev => .agg #[.int .i64 0, .int .i64 0, .int .i64 0, .int .i64 0, .slice none 0 0, .int .i64 0, .slice none 0 0, .int .i64 0, .int .i64 0, .int .i64 0, .int .i64 0, .int .i64 0, .slice none 0 0, .int .i64 0, .slice none 0 0, .int .i64 0]
  | .Wld => .agg #[.int .i64 0, .slice none 0 0, .slice none 0 0, .int .i64 0, .slice none 0 0, .int .i64 0, .int .i64 0, .int .i64 0, .slice none 0 0, .int .i64 0]
  | .Ev => .agg #[.int .i64 0, .int .i64 0, .int .i64 0, .slice none 0 0]
  | .Trf => .agg #[.int .i64 0, .int .i64 0, .int .i64 0]
  | .Rcp => .agg #[.int .i64 0, .int .i64 0, .int .i64 0, .int .i64 0, .int .i64 0]
  | .Plain => .agg #[.int .i64 0, .slice none 0 0]
  | .SAns => .agg #[.int .i64 0, .int .i64 0, .slice none 0 0, .slice none 0 0, .int .i64 0]
def byt : Tag → Nat
  | .int => 8
  | .u8 => 1
  | .str => 16
  | .sl _ => 24
  | .DB => 24
  | .RShare => 32
  | .Srv => 56
  | .ARound => 32
  | .Arc => 32
  | .Cli => 96
  | .Dev => 192
  | .Wld => 144
  | .Ev => 48
  | .Trf => 24
  | .Rcp => 40
  | .Plain => 32
  | .SAns => 72
theorem zval_cells : (t : Tag) → (zval t).cells.size = kk t
  | .int => rfl
  | .u8 => rfl
  | .str => rfl
  | .sl _ => rfl
  | .DB => rfl
  | .RShare => rfl
  | .Srv => rfl
  | .ARound => rfl
  | .Arc => rfl
  | .Cli => rfl
  | .Dev => rfl
  | .Wld => rfl
  | .Ev => rfl
  | .Trf => rfl
  | .Rcp => rfl
  | .Plain => rfl
  | .SAns => rfl
def flat : Tag → Bool
  | .int => true
  | .u8 => true
  | .str => true
  | .sl _ => false
  | .DB => false
  | .RShare => false
  | .Srv => false
  | .ARound => false
  | .Arc => false
  | .Cli => false
  | .Dev => false
  | .Wld => false
  | .Ev => false
  | .Trf => true
  | .Rcp => true
  | .Plain => false
  | .SAns => false
theorem flat_ok {w : World} (t : Tag) {cs : List Value} {x : T t} {fp : List Nat} (hf : flat t = true) (h : rd t w cs x fp) : fp = [] := by
  cases t with
  | int => exact (show EInt w cs x fp from h).2
  | u8 => exact (show EU8 w cs x fp from h).2
  | str => exact (show EStr w cs x fp from h).2.2
  | sl _ => cases hf
  | DB => cases hf
  | RShare => cases hf
  | Srv => cases hf
  | ARound => cases hf
  | Arc => cases hf
  | Cli => cases hf
  | Dev => cases hf
  | Wld => cases hf
  | Ev => cases hf
  | Trf => exact (show ETrf w cs x fp from h).2
  | Rcp => exact (show ERcp w cs x fp from h).2
  | Plain => cases hf
  | SAns => cases hf
theorem RIs.lits {w : World} : ∀ {z : List Value}, (∀ v, v ∈ z → v.oneCell' = true) → RIs w (z.map V.lit) z []
  | [], _ => rfl
  | v :: r, h => ⟨[], [], ⟨rfl, h v (by simp), rfl⟩, RIs.lits fun u hu => h u (by simp [hu]), rfl⟩
/-- Zero values read as the default. -/
theorem zero_ok {w : World} : (t : Tag) → rd t w (zval t).cells.toList (dfl t) []
  | .int => ⟨rfl, rfl⟩
  | .u8 => ⟨rfl, rfl⟩
  | .str => ⟨rfl, by decide, rfl⟩
  | .sl _ => ⟨_, rfl, none, 0, rfl, Nat.le_refl _, Nat.zero_le _, Or.inl ⟨rfl, rfl, fun _ => rfl⟩⟩
  | .DB => enc_DB_ok (c := (zval .DB).cells.toList.map V.lit) rfl (RIs.lits (by simp [zval, Value.cells, Value.oneCell']))
  | .RShare => enc_RShare_ok (c := (zval .RShare).cells.toList.map V.lit) rfl (RIs.lits (by simp [zval, Value.cells, Value.oneCell']))
  | .Srv => enc_Srv_ok (c := (zval .Srv).cells.toList.map V.lit) rfl (RIs.lits (by simp [zval, Value.cells, Value.oneCell']))
  | .ARound => enc_ARound_ok (c := (zval .ARound).cells.toList.map V.lit) rfl (RIs.lits (by simp [zval, Value.cells, Value.oneCell']))
  | .Arc => enc_Arc_ok (c := (zval .Arc).cells.toList.map V.lit) rfl (RIs.lits (by simp [zval, Value.cells, Value.oneCell']))
  | .Cli => enc_Cli_ok (c := (zval .Cli).cells.toList.map V.lit) rfl (RIs.lits (by simp [zval, Value.cells, Value.oneCell']))
  | .Dev => enc_Dev_ok (c := (zval .Dev).cells.toList.map V.lit) rfl (RIs.lits (by simp [zval, Value.cells, Value.oneCell']))
  | .Wld => enc_Wld_ok (c := (zval .Wld).cells.toList.map V.lit) rfl (RIs.lits (by simp [zval, Value.cells, Value.oneCell']))
  | .Ev => enc_Ev_ok (c := (zval .Ev).cells.toList.map V.lit) rfl (RIs.lits (by simp [zval, Value.cells, Value.oneCell']))
  | .Trf => enc_Trf_ok (c := (zval .Trf).cells.toList.map V.lit) rfl (RIs.lits (by simp [zval, Value.cells, Value.oneCell']))
  | .Rcp => enc_Rcp_ok (c := (zval .Rcp).cells.toList.map V.lit) rfl (RIs.lits (by simp [zval, Value.cells, Value.oneCell']))
  | .Plain => enc_Plain_ok (c := (zval .Plain).cells.toList.map V.lit) rfl (RIs.lits (by simp [zval, Value.cells, Value.oneCell']))
  | .SAns => enc_SAns_ok (c := (zval .SAns).cells.toList.map V.lit) rfl (RIs.lits (by simp [zval, Value.cells, Value.oneCell']))
end Go.Proofs.YtjknhnhcbadigaaDoor.G
namespace Go.Proofs.YtjknhnhcbadigaaDoor.L
set_option linter.all false
open Go.RowKit
/-- Only the blocks of fp, and new ones, are written. -/
structure Confined (fp : List Nat) (w w' : World) : Prop where
  os : w'.os = w.os
  tape : w'.tape = w.tape
  output : w'.output = w.output
  size : w.heap.size ≤ w'.heap.size
  block : ∀ b, b < w.heap.size → b ∉ fp → w'.heap[b]? = w.heap[b]?
theorem Confined.refl (fp : List Nat) (w : World) : Confined fp w w := ⟨rfl, rfl, rfl, Nat.le_refl _, fun _ _ _ => rfl⟩
theorem Confined.mono {fp fq : List Nat} {w w' : World} (h : Confined fp w w') (hs : ∀ b, b ∈ fp → b ∈ fq) : Confined fq w w' := ⟨h.os, h.tape, h.output, h.size, fun b hb hn => h.block b hb fun hm => hn (hs b hm)⟩
theorem Confined.trans {fp : List Nat} {a b c : World} (h : Confined fp a b) (k : Confined fp b c) : Confined fp a c :=
  ⟨k.os.trans h.os, k.tape.trans h.tape, k.output.trans h.output, Nat.le_trans h.size k.size, fun i hi hn => (k.block i (Nat.lt_of_lt_of_le hi h.size) hn).trans (h.block i hi hn)⟩
theorem Confined.below {fp : List Nat} {w w' : World} {B : Nat} (h : Confined fp w w') (hB : B ≤ w.heap.size) (hg : ∀ b, b ∈ fp → B ≤ b) : Below B w w' :=
  ⟨h.os, h.tape, h.output, h.size, fun b hb => h.block b (Nat.lt_of_lt_of_le hb hB) fun hm => Nat.not_le_of_lt hb (hg b hm)⟩
theorem Confined.agree {fp fq : List Nat} {w w' : World} (h : Confined fp w w') (hl : ∀ b, b ∈ fq → b < w.heap.size) (hd : ∀ b, b ∈ fq → b ∉ fp) : Agree w w' fq := fun b hb => h.block b (hl b hb) (hd b hb)
section
variable {α : Type} {k : Nat} {E : ER α} {lo e g n : Nat} {w w' : World} {l : List α} {fps : List (List Nat)}
/-- Two elements' memory is apart. -/
theorem fps_apart {fps : List (List Nat)} (h : fps.flatten.Nodup) {i j : Nat} {f f' : List Nat} (hi : fps[i]? = some f) (hj : fps[j]? = some f') (hne : i ≠ j) : ∀ b, b ∈ f → b ∉ f' := by
  intro b hb hb'
  have hp := (List.pairwise_flatten.1 h).2
  rw [List.pairwise_iff_getElem] at hp
  obtain ⟨hi1, rfl⟩ := List.getElem?_eq_some_iff.1 hi
  obtain ⟨hj1, rfl⟩ := List.getElem?_eq_some_iff.1 hj
  rcases Nat.lt_or_ge i j with h1 | h1
  · exact hp i j hi1 hj1 h1 b hb b hb' rfl
  · exact hp j i hj1 hi1 (by omega) b hb' b hb rfl
/-- An element's cells are stored anew; what it holds beside them lies where it lay. -/
theorem Part.set (G : Fine k E) (h : Part k E lo e w g n l fps) {i : Nat} {f : List Nat} {cs : List Value} {x' : α} (hi : i < l.length) (hin : i < n) (hf : fps[i]? = some f) (hE : E w cs x' f) :
    Part k E lo e (w.setCells g (i * k) cs) g n (l.set i x') fps := by
  have hlen := G.len hE
  have hnd := h.own.nodup
  rw [List.nodup_cons] at hnd
  obtain ⟨c, hc, hs⟩ := h.blk
  obtain ⟨c', hc', hs'⟩ := setCells_blk g e cs (i * k) w c hc
  have hth : w.there g (i * k) cs.length := by rw [hlen]; exact h.there _ hin
  have hself : ∀ b, b ∈ fps.flatten → b ≠ g := fun b hb e => hnd.1 (e ▸ hb)
  have hag : Agree w (w.setCells g (i * k) cs) fps.flatten := fun b hb => setCells_other g cs _ w b (hself b hb)
  refine ⟨⟨c', hc', by rw [hs', hs]⟩, ⟨by rw [List.length_set]; exact h.el.1, fun j y fy hy hfy => ?_⟩, ⟨h.own.nodup, h.own.ge, fun b hb => ?_⟩, h.cap⟩
  · by_cases hj : i = j
    · subst hj
      rw [List.getElem?_set_self hi] at hy
      simp only [Option.some.injEq] at hy
      subst hy
      rw [hf] at hfy
      simp only [Option.some.injEq] at hfy
      subst hfy
      refine ⟨cs, ?_, G.agree hE (hag.sub fun b hb => mem_fps hf hb)⟩
      rw [Nat.zero_add]
      exact World.rangeAt_setCells_same w g _ cs hth
    · rw [List.getElem?_set_ne hj] at hy
      obtain ⟨cy, hr, hEy⟩ := h.el.2 j y fy hy hfy
      refine ⟨cy, World.rangeAt_setCells_apart hr _ _ _ (Or.inr ?_), G.agree hEy (hag.sub fun b hb => mem_fps hfy hb)⟩
      rw [G.len hEy, hlen]
      rcases Nat.lt_or_ge j i with h1 | h1
      · left
        have := Nat.mul_le_mul_right k (show j + 1 ≤ i by omega)
        rw [Nat.add_mul] at this; omega
      · right
        have := Nat.mul_le_mul_right k (show i + 1 ≤ j by omega)
        rw [Nat.add_mul] at this; omega
  · rcases List.mem_cons.1 hb with rfl | hb
    · exact ⟨_, _, hc'⟩
    · rw [hag b hb]; exact h.own.kind b (List.mem_cons_of_mem _ hb)
theorem Part.bld (G : Fine k E) (h : Part k E lo e w g n l fps) (hn : l.length ≤ n) : Bld k E lo e w (.slice (some ⟨g, 0, none⟩) l.length n) l (g :: fps.flatten) := by
  obtain ⟨c, hc, hs⟩ := h.blk
  have hk : l.length * k ≤ n * k := Nat.mul_le_mul_right k hn
  refine ⟨c.toList.take (l.length * k), fps, ⟨by rw [List.length_take, show c.toList.length = n * k from hs]; exact Nat.min_eq_left hk, Or.inr ⟨g, n, c, rfl, h.own.ge g (by simp), hc, hn, h.cap, hs, rfl⟩⟩, h.el.1, fun i x f hx hf => ?_, rfl, h.own⟩
  obtain ⟨cs, hr, hE⟩ := h.el.2 i x f hx hf
  have hlen := G.len hE
  have hi : i < l.length := (List.getElem?_eq_some_iff.1 hx).1
  have h5 : i * k + k ≤ l.length * k := by
    have := Nat.mul_le_mul_right k (show i + 1 ≤ l.length by omega)
    rw [Nat.add_mul] at this; omega
  have : ((c.toList.take (l.length * k)).drop (i * k)).take k = cs := by
    apply List.ext_getElem?
    intro j
    by_cases hj : j < k
    · rw [List.getElem?_take, if_pos hj, List.getElem?_drop, List.getElem?_take, if_pos (by omega)]
      have h6 := hr j _ (List.getElem?_eq_getElem (by omega))
      rw [Nat.zero_add] at h6
      simp [World.cell?, hc] at h6
      rw [List.getElem?_eq_getElem (show j < cs.length by omega)]
      simp [h6]
    · rw [List.getElem?_take, if_neg hj, List.getElem?_eq_none (by omega)]
  rw [this]; exact hE
theorem Bld.part {v : Value} {fp : List Nat} (h : Bld k E lo e w v l fp) : (v = .slice none 0 0 ∧ l = [] ∧ fp = []) ∨ ∃ g n fps, v = .slice (some ⟨g, 0, none⟩) l.length n ∧ l.length ≤ n ∧ fp = g :: fps.flatten ∧ Part k E lo e w g n l fps := by
  obtain ⟨xs, fps, ⟨hxl, ho⟩, hl, hel, hfp, hown⟩ := h
  rcases ho with ⟨rfl, h0⟩ | ⟨g, cap, cur, rfl, hg, hc, hn, hcm, hcs, htk⟩
  · have hl0 : l = [] := List.eq_nil_of_length_eq_zero h0
    have : fps = [] := List.eq_nil_of_length_eq_zero (by omega)
    exact Or.inl ⟨rfl, hl0, by rw [hfp, this]; rfl⟩
  · refine Or.inr ⟨g, cap, fps, rfl, hn, hfp, ⟨⟨cur, hc, hcs⟩, ⟨hl, fun i x f hx hf => ⟨_, ?_, hel i x f hx hf⟩⟩, by rw [hfp] at hown; exact hown, hcm⟩⟩
    intro j u hu
    have hi : i < l.length := (List.getElem?_eq_some_iff.1 hx).1
    rw [List.getElem?_take] at hu
    split at hu
    · rename_i hj
      rw [List.getElem?_drop, ← htk, List.getElem?_take] at hu
      split at hu
      · simp only [World.cell?, hc]
        rw [Array.getElem?_toList] at hu
        rw [Nat.zero_add]
        simpa using hu
      · cases hu
    · cases hu
/-- A slice in memory that may be written: its elements, and its blocks. -/
structure Held {α : Type} (k : Nat) (E : ER α) (lo : Nat) (w : World) (b off : Nat) (l : List α) (fps : List (List Nat)) : Prop where
  el : Elems k E w b off l fps
  own : Own lo w (b :: fps.flatten)
theorem Held.lt {b off : Nat} (h : Held k E lo w b off l fps) : b < w.heap.size := h.own.lt b (by simp)
/-- Some cells of an element are stored anew: cs, from the place o within it. -/
theorem Held.set (G : Fine k E) {b off : Nat} (h : Held k E lo w b off l fps) {i o : Nat} {f : List Nat} {vs cs : List Value} {x' : α} (hi : i < l.length) (ho : o + vs.length ≤ k) (hf : fps[i]? = some f)
    (hr : (w.setCells b (off + i * k + o) vs).rangeAt b (off + i * k) cs) (hE : E w cs x' f) :
    Held k E lo (w.setCells b (off + i * k + o) vs) b off (l.set i x') fps := by
  have hlen := G.len hE
  have hnd := h.own.nodup
  rw [List.nodup_cons] at hnd
  have hself : ∀ c, c ∈ fps.flatten → c ≠ b := fun c hc e => hnd.1 (e ▸ hc)
  have hag : Agree w (w.setCells b (off + i * k + o) vs) fps.flatten := fun c hc => setCells_other b vs _ w c (hself c hc)
  refine ⟨⟨by rw [List.length_set]; exact h.el.1, fun j y fy hy hfy => ?_⟩, ⟨h.own.nodup, h.own.ge, fun c hc => ?_⟩⟩
  · by_cases hj : i = j
    · subst hj
      rw [List.getElem?_set_self hi] at hy
      simp only [Option.some.injEq] at hy
      subst hy
      rw [hf] at hfy
      simp only [Option.some.injEq] at hfy
      subst hfy
      exact ⟨cs, hr, G.agree hE (hag.sub fun b hb => mem_fps hf hb)⟩
    · rw [List.getElem?_set_ne hj] at hy
      obtain ⟨cy, hr, hEy⟩ := h.el.2 j y fy hy hfy
      refine ⟨cy, World.rangeAt_setCells_apart hr _ _ _ (Or.inr ?_), G.agree hEy (hag.sub fun b hb => mem_fps hfy hb)⟩
      rw [G.len hEy]
      rcases Nat.lt_or_ge j i with h1 | h1
      · left
        have := Nat.mul_le_mul_right k (show j + 1 ≤ i by omega)
        rw [Nat.add_mul] at this; omega
      · right
        have := Nat.mul_le_mul_right k (show i + 1 ≤ j by omega)
        rw [Nat.add_mul] at this; omega
  · rcases List.mem_cons.1 hc with rfl | hc
    · obtain ⟨c0, e0, hk⟩ := h.own.kind c (by simp)
      obtain ⟨c', hc', _⟩ := setCells_blk c e0 vs (off + i * k + o) w c0 hk
      exact ⟨_, _, hc'⟩
    · rw [hag c hc]; exact h.own.kind c (List.mem_cons_of_mem _ hc)
end
end Go.Proofs.YtjknhnhcbadigaaDoor.L
