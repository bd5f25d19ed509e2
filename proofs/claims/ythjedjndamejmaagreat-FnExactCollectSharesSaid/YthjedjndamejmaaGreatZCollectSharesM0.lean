/-
  The data of the program: structures, and how cells read as them.
-/
import Derived.WalkKit
import Derived.WalkSpells
import Derived.WalkLawsBesides
import Derived.Deep.MidRow
import Derived.Deep.Slices
import Derived.Lib.Hide
namespace Go.Proofs.YthjedjndamejmaaGreat.L
set_option linter.all false
open Go.RowKit

/-- How cells of a world read as a datum; the last argument: the blocks that the reading passes. -/
abbrev ER (α : Type) := World → List Value → α → List Nat → Prop

/-- Nothing that a reading passes has turned. -/
def Agree (w w' : World) (fp : List Nat) : Prop := ∀ b, b ∈ fp → w'.heap[b]? = w.heap[b]?

theorem Agree.cell {w w' : World} {fp : List Nat} (h : Agree w w' fp) {b : Nat} (hb : b ∈ fp) (o : Nat) : w'.cell? ⟨b, o, none⟩ = w.cell? ⟨b, o, none⟩ :=
  World.cell?_of_block (w := w) (a := ⟨b, o, none⟩) (h b hb)
theorem Agree.range {w w' : World} {fp : List Nat} (h : Agree w w' fp) {b : Nat} (hb : b ∈ fp) {o : Nat} {cs : List Value} (hr : w.rangeAt b o cs) : w'.rangeAt b o cs :=
  fun j v hv => by rw [h.cell hb]; exact hr j v hv
theorem Agree.sub {w w' : World} {fp fp' : List Nat} (h : Agree w w' fp) (hs : ∀ b, b ∈ fp' → b ∈ fp) : Agree w w' fp' := fun b hb => h b (hs b hb)
theorem Agree.trans {a b c : World} {fp : List Nat} (h : Agree a b fp) (k : Agree b c fp) : Agree a c fp := fun x hx => (k x hx).trans (h x hx)
theorem Agree.refl (w : World) (fp : List Nat) : Agree w w fp := fun _ _ => rfl
theorem agree_below {B : Nat} {w w' : World} {fp : List Nat} (hb : Below B w w') (hf : ∀ b, b ∈ fp → b < B) : Agree w w' fp := fun b h => hb.block b (hf b h)
/-- A reading that hangs on its blocks alone; k cells, each of them one cell. -/
structure Fine {α : Type} (k : Nat) (E : ER α) : Prop where
  agree : ∀ {w w' : World} {cs x fp}, E w cs x fp → Agree w w' fp → E w' cs x fp
  lt : ∀ {w : World} {cs x fp}, E w cs x fp → ∀ b, b ∈ fp → b < w.heap.size
  len : ∀ {w : World} {cs x fp}, E w cs x fp → cs.length = k
  one : ∀ {w : World} {cs x fp}, E w cs x fp → ∀ u, u ∈ cs → u.oneCell' = true

/-- The elements of a slice, from a block's offset on: k cells each. -/
def Elems {α : Type} (k : Nat) (E : ER α) (w : World) (b off : Nat) (l : List α) (fps : List (List Nat)) : Prop :=
  fps.length = l.length ∧ ∀ i x f, l[i]? = some x → fps[i]? = some f → ∃ cs, w.rangeAt b (off + i * k) cs ∧ E w cs x f

/-- A slice value reads as a list. -/
def Sl {α : Type} (k : Nat) (E : ER α) (w : World) (v : Value) (l : List α) (fp : List Nat) : Prop :=
  ∃ oa cap, v = .slice oa l.length cap ∧ l.length ≤ cap ∧ cap ≤ maxLen ∧
    ((l = [] ∧ fp = [] ∧ (oa = none → cap = 0)) ∨ ∃ b off fps, oa = some ⟨b, off, none⟩ ∧ b < w.heap.size ∧ fp = b :: fps.flatten ∧ Elems k E w b off l fps)

def ESl {α : Type} (k : Nat) (E : ER α) : ER (List α) := fun w cs l fp => ∃ v, cs = [v] ∧ Sl k E w v l fp
def EInt : ER Int := fun _ cs n fp => cs = [.int .i64 n] ∧ fp = []
def EU8 : ER UInt8 := fun _ cs n fp => cs = [.int .u8 n.toNat] ∧ fp = []
def EStr : ER (List UInt8) := fun _ cs s fp => cs = [.string ⟨s.toArray⟩] ∧ s.length ≤ maxLen ∧ fp = []

theorem good_int : Fine 1 EInt := ⟨fun h _ => h, by rintro w cs x fp ⟨rfl, rfl⟩ b hb; simp at hb, by rintro w cs x fp ⟨rfl, rfl⟩; rfl, by rintro w cs x fp ⟨rfl, rfl⟩ u hu; simp at hu; subst hu; rfl⟩
theorem good_u8 : Fine 1 EU8 := ⟨fun h _ => h, by rintro w cs x fp ⟨rfl, rfl⟩ b hb; simp at hb, by rintro w cs x fp ⟨rfl, rfl⟩; rfl, by rintro w cs x fp ⟨rfl, rfl⟩ u hu; simp at hu; subst hu; rfl⟩
theorem good_str : Fine 1 EStr := ⟨fun h _ => h, by rintro w cs x fp ⟨rfl, _, rfl⟩ b hb; simp at hb, by rintro w cs x fp ⟨rfl, _, rfl⟩; rfl, by rintro w cs x fp ⟨rfl, _, rfl⟩ u hu; simp at hu; subst hu; rfl⟩

theorem mem_fps {l : List (List Nat)} {i : Nat} {f : List Nat} (h : l[i]? = some f) {b : Nat} (hb : b ∈ f) : b ∈ l.flatten :=
  List.mem_flatten.2 ⟨f, List.mem_of_getElem? h, hb⟩
theorem fps_some {α : Type} {l : List α} {fps : List (List Nat)} (h : fps.length = l.length) {i : Nat} {x : α} (hx : l[i]? = some x) : ∃ f, fps[i]? = some f := by
  have : i < l.length := (List.getElem?_eq_some_iff.1 hx).1
  exact ⟨fps[i], List.getElem?_eq_getElem (by omega)⟩

section
variable {α : Type} {k : Nat} {E : ER α} (G : Fine k E)
include G
theorem Elems.agree {w w' : World} {b off : Nat} {l : List α} {fps : List (List Nat)} (h : Elems k E w b off l fps) (hb : w'.heap[b]? = w.heap[b]?) (ha : Agree w w' fps.flatten) : Elems k E w' b off l fps := by
  refine ⟨h.1, fun i x f hx hf => ?_⟩
  obtain ⟨cs, hr, he⟩ := h.2 i x f hx hf
  refine ⟨cs, fun j v hv => ?_, G.agree he (ha.sub fun _ hm => mem_fps hf hm)⟩
  rw [World.cell?_of_block (w := w) (a := ⟨b, _, none⟩) hb]; exact hr j v hv
theorem Sl.agree {w w' : World} {v : Value} {l : List α} {fp : List Nat} (h : Sl k E w v l fp) (ha : Agree w w' fp) : Sl k E w' v l fp := by
  obtain ⟨oa, cap, rfl, h1, h2, h3⟩ := h
  refine ⟨oa, cap, rfl, h1, h2, ?_⟩
  rcases h3 with h3 | ⟨b, off, fps, rfl, hb, rfl, he⟩
  · exact Or.inl h3
  · have hbk := ha b (by simp)
    refine Or.inr ⟨b, off, fps, rfl, ?_, rfl, Elems.agree G he hbk (ha.sub (fun _ hm => List.mem_cons_of_mem _ hm))⟩
    have : w.heap[b]? = some w.heap[b] := by simp [hb]
    rw [this] at hbk
    exact (Array.getElem?_eq_some_iff.1 hbk).1
theorem Sl.lt {w : World} {v : Value} {l : List α} {fp : List Nat} (h : Sl k E w v l fp) : ∀ b, b ∈ fp → b < w.heap.size := by
  obtain ⟨oa, cap, rfl, h1, h2, h3⟩ := h
  rcases h3 with ⟨_, rfl, _⟩ | ⟨b, off, fps, rfl, hb, rfl, he⟩
  · simp
  · intro c hc
    rcases List.mem_cons.1 hc with rfl | hc
    · exact hb
    · obtain ⟨f, hf, hcf⟩ := List.mem_flatten.1 hc
      obtain ⟨i, hi⟩ := List.getElem?_of_mem hf
      have hil : i < l.length := by have := (List.getElem?_eq_some_iff.1 hi).1; have := he.1; omega
      obtain ⟨cs, _, hE⟩ := he.2 i l[i] f (List.getElem?_eq_getElem hil) hi
      exact G.lt hE c hcf
theorem good_sl : Fine 1 (ESl k E) :=
  ⟨by rintro w w' cs x fp ⟨v, rfl, h⟩ ha; exact ⟨v, rfl, Sl.agree G h ha⟩, by rintro w cs x fp ⟨v, rfl, h⟩; exact Sl.lt G h,
   by rintro w cs x fp ⟨v, rfl, h⟩; rfl, by rintro w cs x fp ⟨v, rfl, oa, cap, rfl, h⟩ u hu; simp at hu; subst hu; rfl⟩

/-- Behind a call that turned nothing old. -/
theorem Sl.below {w w' : World} {v : Value} {l : List α} {fp : List Nat} (h : Sl k E w v l fp) (hb : Below w.heap.size w w') : Sl k E w' v l fp := Sl.agree G h (agree_below hb (Sl.lt G h))
end

/-- A slice's element, as the walk asks for it. -/
theorem Sl.at {α : Type} {k : Nat} {E : ER α} {w : World} {oa : Option Addr} {n cap : Nat} {l : List α} {fp : List Nat} (h : Sl k E w (.slice oa n cap) l fp) {i : Nat} {x : α} (hx : l[i]? = some x) :
    ∃ b off f cs, oa = some ⟨b, off, none⟩ ∧ w.rangeAt b (off + i * k) cs ∧ E w cs x f ∧ (∀ y, y ∈ f → y ∈ fp) := by
  obtain ⟨oa', cap', hv, h1, h2, h3⟩ := h
  simp only [Value.slice.injEq] at hv
  obtain ⟨rfl, _, rfl⟩ := hv
  rcases h3 with ⟨rfl, _⟩ | ⟨b, off, fps, rfl, hb, rfl, he⟩
  · simp at hx
  · obtain ⟨f, hf⟩ := fps_some he.1 hx
    obtain ⟨cs, hr, hE⟩ := he.2 i x f hx hf
    exact ⟨b, off, f, cs, rfl, hr, hE, fun y hy => List.mem_cons_of_mem _ (mem_fps hf hy)⟩

/-- What a call made: its blocks lie above lo, are there, differ, and may be written. -/
structure Own (lo : Nat) (w : World) (fp : List Nat) : Prop where
  nodup : fp.Nodup
  ge : ∀ b, b ∈ fp → lo ≤ b
  kind : ∀ b, b ∈ fp → ∃ c e, w.heap[b]? = some (.cells c e (0, 0))
theorem Own.agree {lo : Nat} {w w' : World} {fp : List Nat} (h : Own lo w fp) (ha : Agree w w' fp) : Own lo w' fp := ⟨h.nodup, h.ge, fun b hb => by rw [ha b hb]; exact h.kind b hb⟩
theorem Own.lt {lo : Nat} {w : World} {fp : List Nat} (h : Own lo w fp) : ∀ b, b ∈ fp → b < w.heap.size := fun b hb => by
  obtain ⟨c, e, hk⟩ := h.kind b hb
  exact (Array.getElem?_eq_some_iff.1 hk).1
theorem Own.nil (lo : Nat) (w : World) : Own lo w [] := ⟨List.nodup_nil, by simp, by simp⟩
theorem Own.mono {lo lo' : Nat} {w : World} {fp : List Nat} (h : Own lo w fp) (hl : lo' ≤ lo) : Own lo' w fp := ⟨h.nodup, fun b hb => Nat.le_trans hl (h.ge b hb), h.kind⟩
theorem Own.below {lo : Nat} {w w' : World} {fp : List Nat} (h : Own lo w fp) (hb : Below w.heap.size w w') : Own lo w' fp := h.agree (agree_below hb h.lt)

/-- A fresh slice out of an owned row. -/
theorem elems_of_row {α : Type} {k : Nat} {E : ER α} {w : World} {b : Nat} {l : List α} {xs : List Value} {fps : List (List Nat)} (hf : fps.length = l.length)
    (hx : ∀ j u, xs[j]? = some u → w.cell? ⟨b, j, none⟩ = some u) (h : ∀ i x f, l[i]? = some x → fps[i]? = some f → E w ((xs.drop (i * k)).take k) x f) : Elems k E w b 0 l fps := by
  refine ⟨hf, fun i x f hi hfi => ⟨_, fun j v hv => ?_, h i x f hi hfi⟩⟩
  rw [Nat.zero_add]
  refine hx _ _ ?_
  have := List.getElem?_eq_some_iff.1 hv
  rw [List.getElem?_take, ] at hv
  split at hv
  · rw [List.getElem?_drop] at hv; exact hv
  · simp at hv
end Go.Proofs.YthjedjndamejmaaGreat.L
namespace Go.Proofs.YthjedjndamejmaaGreat.D
set_option linter.all false
open Go.RowKit L
/-- Fits an int. -/
def I64 (n : Int) : Prop := -9223372036854775808 ≤ n ∧ n ≤ 9223372036854775807
theorem Sl.one {α : Type} {k : Nat} {E : ER α} {w : World} {v : Value} {l : List α} {fp : List Nat} (h : Sl k E w v l fp) : v.oneCell' = true := by
  obtain ⟨oa, cap, rfl, _⟩ := h; rfl
theorem ones_nil : ∀ u, u ∈ ([] : List Value) → u.oneCell' = true := by simp
theorem ones_cons {v : Value} {l : List Value} (h : v.oneCell' = true) (r : ∀ u, u ∈ l → u.oneCell' = true) : ∀ u, u ∈ v :: l → u.oneCell' = true := by
  intro u hu
  rcases List.mem_cons.1 hu with rfl | hu
  · exact h
  · exact r u hu
theorem ones_app {a b : List Value} (h : ∀ u, u ∈ a → u.oneCell' = true) (r : ∀ u, u ∈ b → u.oneCell' = true) : ∀ u, u ∈ a ++ b → u.oneCell' = true := by
  intro u hu
  rcases List.mem_append.1 hu with hu | hu
  · exact h u hu
  · exact r u hu
abbrev RB := Sl 1 EU8
structure DB where
  rows : (List (List UInt8))
instance : Inhabited DB := ⟨⟨[]⟩⟩
def wf_DB (x : DB) : Prop := (fun l => ∀ x, x ∈ l → (fun l => ∀ x, x ∈ l → (fun _ => True) x) x) x.rows
def EDB : ER DB := fun w cs x fp => ∃ (v_rows : Value) (f_rows : List Nat), cs = [v_rows] ∧ Sl 1 (ESl 1 EU8) w v_rows x.rows f_rows ∧ fp = f_rows
theorem good_DB : Fine 1 EDB where
  agree := by rintro w w' cs x fp ⟨v0, f0, rfl, h0, rfl⟩ ha; exact ⟨v0, _, rfl, (Sl.agree (good_sl good_u8) h0 (ha.sub fun b hb => by simp [hb])), rfl⟩
  lt := by rintro w cs x fp ⟨v0, f0, rfl, h0, rfl⟩ b hb; exact Sl.lt (good_sl good_u8) h0 b hb
  len := by rintro w cs x fp ⟨v0, f0, rfl, h0, rfl⟩; rfl
  one := by rintro w cs x fp ⟨v0, f0, rfl, h0, rfl⟩; exact (ones_cons (Sl.one h0) ones_nil)

structure RShare where
  client : Int
  share : DB
instance : Inhabited RShare := ⟨⟨0, default⟩⟩
def wf_RShare (x : RShare) : Prop := (I64) x.client ∧ (wf_DB) x.share
def ERShare : ER RShare := fun w cs x fp => ∃ (c_share : List Value) (f_share : List Nat), cs = [.int .i64 x.client] ++ c_share ∧ EDB w c_share x.share f_share ∧ fp = f_share
theorem good_RShare : Fine 2 ERShare where
  agree := by rintro w w' cs x fp ⟨v0, f0, rfl, h0, rfl⟩ ha; exact ⟨v0, _, rfl, (good_DB.agree h0 (ha.sub fun b hb => by simp [hb])), rfl⟩
  lt := by rintro w cs x fp ⟨v0, f0, rfl, h0, rfl⟩ b hb; exact good_DB.lt h0 b hb
  len := by rintro w cs x fp ⟨v0, f0, rfl, h0, rfl⟩; simp [good_DB.len h0]
  one := by rintro w cs x fp ⟨v0, f0, rfl, h0, rfl⟩; exact (ones_app (ones_cons rfl ones_nil) (good_DB.one h0))

structure Srv where
  id : Int
  rows : Int
  round : Int
  received : (List RShare)
  behavior : Int
instance : Inhabited Srv := ⟨⟨0, 0, 0, [], 0⟩⟩
def wf_Srv (x : Srv) : Prop := (I64) x.id ∧ (I64) x.rows ∧ (I64) x.round ∧ (fun l => ∀ x, x ∈ l → (wf_RShare) x) x.received ∧ (I64) x.behavior
def ESrv : ER Srv := fun w cs x fp => ∃ (v_received : Value) (f_received : List Nat), cs = [.int .i64 x.id, .int .i64 x.rows, .int .i64 x.round, v_received, .int .i64 x.behavior] ∧ Sl 2 ERShare w v_received x.received f_received ∧ fp = f_received
theorem good_Srv : Fine 5 ESrv where
  agree := by rintro w w' cs x fp ⟨v0, f0, rfl, h0, rfl⟩ ha; exact ⟨v0, _, rfl, (Sl.agree good_RShare h0 (ha.sub fun b hb => by simp [hb])), rfl⟩
  lt := by rintro w cs x fp ⟨v0, f0, rfl, h0, rfl⟩ b hb; exact Sl.lt good_RShare h0 b hb
  len := by rintro w cs x fp ⟨v0, f0, rfl, h0, rfl⟩; rfl
  one := by rintro w cs x fp ⟨v0, f0, rfl, h0, rfl⟩; exact (ones_cons rfl (ones_cons rfl (ones_cons rfl (ones_cons (Sl.one h0) (ones_cons rfl ones_nil)))))

structure ARound where
  round : Int
  db : DB
instance : Inhabited ARound := ⟨⟨0, default⟩⟩
def wf_ARound (x : ARound) : Prop := (I64) x.round ∧ (wf_DB) x.db
def EARound : ER ARound := fun w cs x fp => ∃ (c_db : List Value) (f_db : List Nat), cs = [.int .i64 x.round] ++ c_db ∧ EDB w c_db x.db f_db ∧ fp = f_db
theorem good_ARound : Fine 2 EARound where
  agree := by rintro w w' cs x fp ⟨v0, f0, rfl, h0, rfl⟩ ha; exact ⟨v0, _, rfl, (good_DB.agree h0 (ha.sub fun b hb => by simp [hb])), rfl⟩
  lt := by rintro w cs x fp ⟨v0, f0, rfl, h0, rfl⟩ b hb; exact good_DB.lt h0 b hb
  len := by rintro w cs x fp ⟨v0, f0, rfl, h0, rfl⟩; simp [good_DB.len h0]
  one := by rintro w cs x fp ⟨v0, f0, rfl, h0, rfl⟩; exact (ones_app (ones_cons rfl ones_nil) (good_DB.one h0))

structure Arc where
  rows : Int
  rounds : (List ARound)
instance : Inhabited Arc := ⟨⟨0, []⟩⟩
def wf_Arc (x : Arc) : Prop := (I64) x.rows ∧ (fun l => ∀ x, x ∈ l → (wf_ARound) x) x.rounds
def EArc : ER Arc := fun w cs x fp => ∃ (v_rounds : Value) (f_rounds : List Nat), cs = [.int .i64 x.rows, v_rounds] ∧ Sl 2 EARound w v_rounds x.rounds f_rounds ∧ fp = f_rounds
theorem good_Arc : Fine 2 EArc where
  agree := by rintro w w' cs x fp ⟨v0, f0, rfl, h0, rfl⟩ ha; exact ⟨v0, _, rfl, (Sl.agree good_ARound h0 (ha.sub fun b hb => by simp [hb])), rfl⟩
  lt := by rintro w cs x fp ⟨v0, f0, rfl, h0, rfl⟩ b hb; exact Sl.lt good_ARound h0 b hb
  len := by rintro w cs x fp ⟨v0, f0, rfl, h0, rfl⟩; rfl
  one := by rintro w cs x fp ⟨v0, f0, rfl, h0, rfl⟩; exact (ones_cons rfl (ones_cons (Sl.one h0) ones_nil))

structure Cli where
  id : Int
  friend : Int
  key : Int
  seed : Int
  submitted : (List (List UInt8))
  sent : Int
  inbox : (List (List UInt8))
  next : Int
instance : Inhabited Cli := ⟨⟨0, 0, 0, 0, [], 0, [], 0⟩⟩
def wf_Cli (x : Cli) : Prop := (I64) x.id ∧ (I64) x.friend ∧ (I64) x.key ∧ (I64) x.seed ∧ (fun l => ∀ x, x ∈ l → (fun l => ∀ x, x ∈ l → (fun _ => True) x) x) x.submitted ∧ (I64) x.sent ∧ (fun l => ∀ x, x ∈ l → (fun l => ∀ x, x ∈ l → (fun _ => True) x) x) x.inbox ∧ (I64) x.next
def ECli : ER Cli := fun w cs x fp => ∃ (v_submitted : Value) (v_inbox : Value) (f_submitted f_inbox : List Nat), cs = [.int .i64 x.id, .int .i64 x.friend, .int .i64 x.key, .int .i64 x.seed, v_submitted, .int .i64 x.sent, v_inbox, .int .i64 x.next] ∧ Sl 1 (ESl 1 EU8) w v_submitted x.submitted f_submitted ∧ Sl 1 (ESl 1 EU8) w v_inbox x.inbox f_inbox ∧ fp = f_submitted ++ f_inbox
theorem good_Cli : Fine 8 ECli where
  agree := by rintro w w' cs x fp ⟨v0, v1, f0, f1, rfl, h0, h1, rfl⟩ ha; exact ⟨v0, v1, _, _, rfl, (Sl.agree (good_sl good_u8) h0 (ha.sub fun b hb => by simp [hb])), (Sl.agree (good_sl good_u8) h1 (ha.sub fun b hb => by simp [hb])), rfl⟩
  lt := by
    rintro w cs x fp ⟨v0, v1, f0, f1, rfl, h0, h1, rfl⟩ b hb
    simp only [List.mem_append] at hb
    rcases hb with hb | hb
    · exact Sl.lt (good_sl good_u8) h0 b hb
    · exact Sl.lt (good_sl good_u8) h1 b hb
  len := by rintro w cs x fp ⟨v0, v1, f0, f1, rfl, h0, h1, rfl⟩; rfl
  one := by rintro w cs x fp ⟨v0, v1, f0, f1, rfl, h0, h1, rfl⟩; exact (ones_cons rfl (ones_cons rfl (ones_cons rfl (ones_cons rfl (ones_cons (Sl.one h0) (ones_cons rfl (ones_cons (Sl.one h1) (ones_cons rfl ones_nil))))))))

structure Dev where
  live : Cli
  saved : Cli
instance : Inhabited Dev := ⟨⟨default, default⟩⟩
def wf_Dev (x : Dev) : Prop := (wf_Cli) x.live ∧ (wf_Cli) x.saved
def EDev : ER Dev := fun w cs x fp => ∃ (c_live : List Value) (c_saved : List Value) (f_live f_saved : List Nat), cs = c_live ++ c_saved ∧ ECli w c_live x.live f_live ∧ ECli w c_saved x.saved f_saved ∧ fp = f_live ++ f_saved
theorem good_Dev : Fine 16 EDev where
  agree := by rintro w w' cs x fp ⟨v0, v1, f0, f1, rfl, h0, h1, rfl⟩ ha; exact ⟨v0, v1, _, _, rfl, (good_Cli.agree h0 (ha.sub fun b hb => by simp [hb])), (good_Cli.agree h1 (ha.sub fun b hb => by simp [hb])), rfl⟩
  lt := by
    rintro w cs x fp ⟨v0, v1, f0, f1, rfl, h0, h1, rfl⟩ b hb
    simp only [List.mem_append] at hb
    rcases hb with hb | hb
    · exact good_Cli.lt h0 b hb
    · exact good_Cli.lt h1 b hb
  len := by rintro w cs x fp ⟨v0, v1, f0, f1, rfl, h0, h1, rfl⟩; simp [good_Cli.len h0, good_Cli.len h1]
  one := by rintro w cs x fp ⟨v0, v1, f0, f1, rfl, h0, h1, rfl⟩; exact (ones_app (good_Cli.one h0) (good_Cli.one h1))

structure Wld where
  rows : Int
  servers : (List Srv)
  devices : (List Dev)
  archive : Arc
  master : Int
  seed : Int
  round : Int
  replaced : (List Int)
  cancelled : Int
instance : Inhabited Wld := ⟨⟨0, [], [], default, 0, 0, 0, [], 0⟩⟩
def wf_Wld (x : Wld) : Prop := (I64) x.rows ∧ (fun l => ∀ x, x ∈ l → (wf_Srv) x) x.servers ∧ (fun l => ∀ x, x ∈ l → (wf_Dev) x) x.devices ∧ (wf_Arc) x.archive ∧ (I64) x.master ∧ (I64) x.seed ∧ (I64) x.round ∧ (fun l => ∀ x, x ∈ l → (I64) x) x.replaced ∧ (I64) x.cancelled
def EWld : ER Wld := fun w cs x fp => ∃ (v_servers : Value) (v_devices : Value) (c_archive : List Value) (v_replaced : Value) (f_servers f_devices f_archive f_replaced : List Nat), cs = [.int .i64 x.rows, v_servers, v_devices] ++ c_archive ++ [.int .i64 x.master, .int .i64 x.seed, .int .i64 x.round, v_replaced, .int .i64 x.cancelled] ∧ Sl 5 ESrv w v_servers x.servers f_servers ∧ Sl 16 EDev w v_devices x.devices f_devices ∧ EArc w c_archive x.archive f_archive ∧ Sl 1 EInt w v_replaced x.replaced f_replaced ∧ fp = f_servers ++ f_devices ++ f_archive ++ f_replaced
theorem good_Wld : Fine 10 EWld where
  agree := by rintro w w' cs x fp ⟨v0, v1, v2, v3, f0, f1, f2, f3, rfl, h0, h1, h2, h3, rfl⟩ ha; exact ⟨v0, v1, v2, v3, _, _, _, _, rfl, (Sl.agree good_Srv h0 (ha.sub fun b hb => by simp [hb])), (Sl.agree good_Dev h1 (ha.sub fun b hb => by simp [hb])), (good_Arc.agree h2 (ha.sub fun b hb => by simp [hb])), (Sl.agree good_int h3 (ha.sub fun b hb => by simp [hb])), rfl⟩
  lt := by
    rintro w cs x fp ⟨v0, v1, v2, v3, f0, f1, f2, f3, rfl, h0, h1, h2, h3, rfl⟩ b hb
    simp only [List.mem_append] at hb
    rcases hb with ((hb | hb) | hb) | hb
    · exact Sl.lt good_Srv h0 b hb
    · exact Sl.lt good_Dev h1 b hb
    · exact good_Arc.lt h2 b hb
    · exact Sl.lt good_int h3 b hb
  len := by rintro w cs x fp ⟨v0, v1, v2, v3, f0, f1, f2, f3, rfl, h0, h1, h2, h3, rfl⟩; simp [good_Arc.len h2]
  one := by rintro w cs x fp ⟨v0, v1, v2, v3, f0, f1, f2, f3, rfl, h0, h1, h2, h3, rfl⟩; exact (ones_app (ones_app (ones_cons rfl (ones_cons (Sl.one h0) (ones_cons (Sl.one h1) ones_nil))) (good_Arc.one h2)) (ones_cons rfl (ones_cons rfl (ones_cons rfl (ones_cons (Sl.one h3) (ones_cons rfl ones_nil))))))

structure Ev where
  kind : Int
  node : Int
  value : Int
  body : (List UInt8)
instance : Inhabited Ev := ⟨⟨0, 0, 0, []⟩⟩
def EEv : ER Ev := fun w cs x fp => ∃ (v_body : Value) (f_body : List Nat), cs = [.int .i64 x.kind, .int .i64 x.node, .int .i64 x.value, v_body] ∧ Sl 1 EU8 w v_body x.body f_body ∧ fp = f_body
theorem good_Ev : Fine 4 EEv where
  agree := by rintro w w' cs x fp ⟨v0, f0, rfl, h0, rfl⟩ ha; exact ⟨v0, _, rfl, (Sl.agree good_u8 h0 (ha.sub fun b hb => by simp [hb])), rfl⟩
  lt := by rintro w cs x fp ⟨v0, f0, rfl, h0, rfl⟩ b hb; exact Sl.lt good_u8 h0 b hb
  len := by rintro w cs x fp ⟨v0, f0, rfl, h0, rfl⟩; rfl
  one := by rintro w cs x fp ⟨v0, f0, rfl, h0, rfl⟩; exact (ones_cons rfl (ones_cons rfl (ones_cons rfl (ones_cons (Sl.one h0) ones_nil))))

structure Trf where
  fr : Int
  to : Int
  bytes : Int
instance : Inhabited Trf := ⟨⟨0, 0, 0⟩⟩
def ETrf : ER Trf := fun _ cs x fp => cs = [.int .i64 x.fr, .int .i64 x.to, .int .i64 x.bytes] ∧ fp = []
theorem good_Trf : Fine 3 ETrf where
  agree := fun h _ => h
  lt := by rintro w cs x fp ⟨rfl, rfl⟩ b hb; simp at hb
  len := by rintro w cs x fp ⟨rfl, rfl⟩; rfl
  one := by rintro w cs x fp ⟨rfl, rfl⟩ u hu; simp at hu; rcases hu with rfl | rfl | rfl <;> rfl

structure Rcp where
  server : Int
  client : Int
  round : Int
  digest : Int
  mac : Int
instance : Inhabited Rcp := ⟨⟨0, 0, 0, 0, 0⟩⟩
def ERcp : ER Rcp := fun _ cs x fp => cs = [.int .i64 x.server, .int .i64 x.client, .int .i64 x.round, .int .i64 x.digest, .int .i64 x.mac] ∧ fp = []
theorem good_Rcp : Fine 5 ERcp where
  agree := fun h _ => h
  lt := by rintro w cs x fp ⟨rfl, rfl⟩ b hb; simp at hb
  len := by rintro w cs x fp ⟨rfl, rfl⟩; rfl
  one := by rintro w cs x fp ⟨rfl, rfl⟩ u hu; simp at hu; rcases hu with rfl | rfl | rfl | rfl | rfl <;> rfl

structure Plain where
  kind : Int
  body : (List UInt8)
instance : Inhabited Plain := ⟨⟨0, []⟩⟩
def EPlain : ER Plain := fun w cs x fp => ∃ (v_body : Value) (f_body : List Nat), cs = [.int .i64 x.kind, v_body] ∧ Sl 1 EU8 w v_body x.body f_body ∧ fp = f_body
theorem good_Plain : Fine 2 EPlain where
  agree := by rintro w w' cs x fp ⟨v0, f0, rfl, h0, rfl⟩ ha; exact ⟨v0, _, rfl, (Sl.agree good_u8 h0 (ha.sub fun b hb => by simp [hb])), rfl⟩
  lt := by rintro w cs x fp ⟨v0, f0, rfl, h0, rfl⟩ b hb; exact Sl.lt good_u8 h0 b hb
  len := by rintro w cs x fp ⟨v0, f0, rfl, h0, rfl⟩; rfl
  one := by rintro w cs x fp ⟨v0, f0, rfl, h0, rfl⟩; exact (ones_cons rfl (ones_cons (Sl.one h0) ones_nil))

structure SAns where
  server : Int
  round : Int
  selection : (List Int)
  data : (List UInt8)
  mac : Int
instance : Inhabited SAns := ⟨⟨0, 0, [], [], 0⟩⟩
def ESAns : ER SAns := fun w cs x fp => ∃ (v_selection : Value) (v_data : Value) (f_selection f_data : List Nat), cs = [.int .i64 x.server, .int .i64 x.round, v_selection, v_data, .int .i64 x.mac] ∧ Sl 1 EInt w v_selection x.selection f_selection ∧ Sl 1 EU8 w v_data x.data f_data ∧ fp = f_selection ++ f_data
theorem good_SAns : Fine 5 ESAns where
  agree := by rintro w w' cs x fp ⟨v0, v1, f0, f1, rfl, h0, h1, rfl⟩ ha; exact ⟨v0, v1, _, _, rfl, (Sl.agree good_int h0 (ha.sub fun b hb => by simp [hb])), (Sl.agree good_u8 h1 (ha.sub fun b hb => by simp [hb])), rfl⟩
  lt := by
    rintro w cs x fp ⟨v0, v1, f0, f1, rfl, h0, h1, rfl⟩ b hb
    simp only [List.mem_append] at hb
    rcases hb with hb | hb
    · exact Sl.lt good_int h0 b hb
    · exact Sl.lt good_u8 h1 b hb
  len := by rintro w cs x fp ⟨v0, v1, f0, f1, rfl, h0, h1, rfl⟩; rfl
  one := by rintro w cs x fp ⟨v0, v1, f0, f1, rfl, h0, h1, rfl⟩; exact (ones_cons rfl (ones_cons rfl (ones_cons (Sl.one h0) (ones_cons (Sl.one h1) (ones_cons rfl ones_nil)))))
end Go.Proofs.YthjedjndamejmaaGreat.D
