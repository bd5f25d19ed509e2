/-
  The data of the program: structures, and how cells read as them.
-/
import Derived.Test.YthlflnplnajjiaaL1
namespace Go.Proofs.Ythlflnplnajjiaa.D
set_option linter.all false
open Go.RowKit L
/-- Fits an int. -/
def I64 (n : Int) : Prop := -9223372036854775808 ≤ n ∧ n ≤ 9223372036854775807
theorem Sl.one {α : Type} {k : Nat} {E : ER α} {w : World} {v : Value} {l : List α} {fp : List Nat} (h : Sl k E w v l fp) : v.oneCell' = true := by
  obtain ⟨oa, cap, rfl, _⟩ := h; rfl
theorem ones_nil : ∀ u, u ∈ ([] : List Value) → u.oneCell' = true := by simp
theorem ones_cons {v : Value} {l : List Value} (h : v.oneCell' = true) (r : ∀ u, u ∈ l → u.oneCell' = true) : ∀ u, u ∈ v :: l → u.oneCell' = true := by
  intro u hu
  rcases List.mem_cons.1 hu with rfl | hu
  · exact h
  · exact r u hu
theorem ones_app {a b : List Value} (h : ∀ u, u ∈ a → u.oneCell' = true) (r : ∀ u, u ∈ b → u.oneCell' = true) : ∀ u, u ∈ a ++ b → u.oneCell' = true := by
  intro u hu
  rcases List.mem_append.1 hu with hu | hu
  · exact h u hu
  · exact r u hu
abbrev RB := Sl 1 EU8
abbrev RBB := Sl 1 (ESl 1 EU8)
structure DB where
  rows : (List (List UInt8))
instance : Inhabited DB := ⟨⟨[]⟩⟩
def wf_DB (x : DB) : Prop := (fun l => ∀ x, x ∈ l → (fun l => ∀ x, x ∈ l → (fun _ => True) x) x) x.rows
def EDB : ER DB := fun w cs x fp => ∃ (v_rows : Value) (f_rows : List Nat), cs = [v_rows] ∧ Sl 1 (ESl 1 EU8) w v_rows x.rows f_rows ∧ fp = f_rows
theorem good_DB : Fine 1 EDB where
  agree := by rintro w w' cs x fp ⟨v0, f0, rfl, h0, rfl⟩ ha; exact ⟨v0, _, rfl, (Sl.agree (good_sl good_u8) h0 (ha.sub fun b hb => by simp [hb])), rfl⟩
  lt := by rintro w cs x fp ⟨v0, f0, rfl, h0, rfl⟩ b hb; exact Sl.lt (good_sl good_u8) h0 b hb
  len := by rintro w cs x fp ⟨v0, f0, rfl, h0, rfl⟩; rfl
  one := by rintro w cs x fp ⟨v0, f0, rfl, h0, rfl⟩; exact (ones_cons (Sl.one h0) ones_nil)

structure RShare where
  client : Int
  share : DB
instance : Inhabited RShare := ⟨⟨0, default⟩⟩
def wf_RShare (x : RShare) : Prop := (I64) x.client ∧ (wf_DB) x.share
def ERShare : ER RShare := fun w cs x fp => ∃ (c_share : List Value) (f_share : List Nat), cs = [.int .i64 x.client] ++ c_share ∧ EDB w c_share x.share f_share ∧ fp = f_share
theorem good_RShare : Fine 2 ERShare where
  agree := by rintro w w' cs x fp ⟨v0, f0, rfl, h0, rfl⟩ ha; exact ⟨v0, _, rfl, (good_DB.agree h0 (ha.sub fun b hb => by simp [hb])), rfl⟩
  lt := by rintro w cs x fp ⟨v0, f0, rfl, h0, rfl⟩ b hb; exact good_DB.lt h0 b hb
  len := by rintro w cs x fp ⟨v0, f0, rfl, h0, rfl⟩; simp [good_DB.len h0]
  one := by rintro w cs x fp ⟨v0, f0, rfl, h0, rfl⟩; exact (ones_app (ones_cons rfl ones_nil) (good_DB.one h0))

structure Srv where
  id : Int
  rows : Int
  round : Int
  received : (List RShare)
  behavior : Int
instance : Inhabited Srv := ⟨⟨0, 0, 0, [], 0⟩⟩
def wf_Srv (x : Srv) : Prop := (I64) x.id ∧ (I64) x.rows ∧ (I64) x.round ∧ (fun l => ∀ x, x ∈ l → (wf_RShare) x) x.received ∧ (I64) x.behavior
def ESrv : ER Srv := fun w cs x fp => ∃ (v_received : Value) (f_received : List Nat), cs = [.int .i64 x.id, .int .i64 x.rows, .int .i64 x.round, v_received, .int .i64 x.behavior] ∧ Sl 2 ERShare w v_received x.received f_received ∧ fp = f_received
theorem good_Srv : Fine 5 ESrv where
  agree := by rintro w w' cs x fp ⟨v0, f0, rfl, h0, rfl⟩ ha; exact ⟨v0, _, rfl, (Sl.agree good_RShare h0 (ha.sub fun b hb => by simp [hb])), rfl⟩
  lt := by rintro w cs x fp ⟨v0, f0, rfl, h0, rfl⟩ b hb; exact Sl.lt good_RShare h0 b hb
  len := by rintro w cs x fp ⟨v0, f0, rfl, h0, rfl⟩; rfl
  one := by rintro w cs x fp ⟨v0, f0, rfl, h0, rfl⟩; exact (ones_cons rfl (ones_cons rfl (ones_cons rfl (ones_cons (Sl.one h0) (ones_cons rfl ones_nil)))))

structure ARound where
  round : Int
  db : DB
instance : Inhabited ARound := ⟨⟨0, default⟩⟩
def wf_ARound (x : ARound) : Prop := (I64) x.round ∧ (wf_DB) x.db
def EARound : ER ARound := fun w cs x fp => ∃ (c_db : List Value) (f_db : List Nat), cs = [.int .i64 x.round] ++ c_db ∧ EDB w c_db x.db f_db ∧ fp = f_db
theorem good_ARound : Fine 2 EARound where
  agree := by rintro w w' cs x fp ⟨v0, f0, rfl, h0, rfl⟩ ha; exact ⟨v0, _, rfl, (good_DB.agree h0 (ha.sub fun b hb => by simp [hb])), rfl⟩
  lt := by rintro w cs x fp ⟨v0, f0, rfl, h0, rfl⟩ b hb; exact good_DB.lt h0 b hb
  len := by rintro w cs x fp ⟨v0, f0, rfl, h0, rfl⟩; simp [good_DB.len h0]
  one := by rintro w cs x fp ⟨v0, f0, rfl, h0, rfl⟩; exact (ones_app (ones_cons rfl ones_nil) (good_DB.one h0))

structure Arc where
  rows : Int
  rounds : (List ARound)
instance : Inhabited Arc := ⟨⟨0, []⟩⟩
def wf_Arc (x : Arc) : Prop := (I64) x.rows ∧ (fun l => ∀ x, x ∈ l → (wf_ARound) x) x.rounds
def EArc : ER Arc := fun w cs x fp => ∃ (v_rounds : Value) (f_rounds : List Nat), cs = [.int .i64 x.rows, v_rounds] ∧ Sl 2 EARound w v_rounds x.rounds f_rounds ∧ fp = f_rounds
theorem good_Arc : Fine 2 EArc where
  agree := by rintro w w' cs x fp ⟨v0, f0, rfl, h0, rfl⟩ ha; exact ⟨v0, _, rfl, (Sl.agree good_ARound h0 (ha.sub fun b hb => by simp [hb])), rfl⟩
  lt := by rintro w cs x fp ⟨v0, f0, rfl, h0, rfl⟩ b hb; exact Sl.lt good_ARound h0 b hb
  len := by rintro w cs x fp ⟨v0, f0, rfl, h0, rfl⟩; rfl
  one := by rintro w cs x fp ⟨v0, f0, rfl, h0, rfl⟩; exact (ones_cons rfl (ones_cons (Sl.one h0) ones_nil))

structure Cli where
  id : Int
  friend : Int
  key : Int
  seed : Int
  submitted : (List (List UInt8))
  sent : Int
  inbox : (List (List UInt8))
  next : Int
instance : Inhabited Cli := ⟨⟨0, 0, 0, 0, [], 0, [], 0⟩⟩
def wf_Cli (x : Cli) : Prop := (I64) x.id ∧ (I64) x.friend ∧ (I64) x.key ∧ (I64) x.seed ∧ (fun l => ∀ x, x ∈ l → (fun l => ∀ x, x ∈ l → (fun _ => True) x) x) x.submitted ∧ (I64) x.sent ∧ (fun l => ∀ x, x ∈ l → (fun l => ∀ x, x ∈ l → (fun _ => True) x) x) x.inbox ∧ (I64) x.next
def ECli : ER Cli := fun w cs x fp => ∃ (v_submitted : Value) (v_inbox : Value) (f_submitted f_inbox : List Nat), cs = [.int .i64 x.id, .int .i64 x.friend, .int .i64 x.key, .int .i64 x.seed, v_submitted, .int .i64 x.sent, v_inbox, .int .i64 x.next] ∧ Sl 1 (ESl 1 EU8) w v_submitted x.submitted f_submitted ∧ Sl 1 (ESl 1 EU8) w v_inbox x.inbox f_inbox ∧ fp = f_submitted ++ f_inbox
theorem good_Cli : Fine 8 ECli where
  agree := by rintro w w' cs x fp ⟨v0, v1, f0, f1, rfl, h0, h1, rfl⟩ ha; exact ⟨v0, v1, _, _, rfl, (Sl.agree (good_sl good_u8) h0 (ha.sub fun b hb => by simp [hb])), (Sl.agree (good_sl good_u8) h1 (ha.sub fun b hb => by simp [hb])), rfl⟩
  lt := by
    rintro w cs x fp ⟨v0, v1, f0, f1, rfl, h0, h1, rfl⟩ b hb
    simp only [List.mem_append] at hb
    rcases hb with hb | hb
    · exact Sl.lt (good_sl good_u8) h0 b hb
    · exact Sl.lt (good_sl good_u8) h1 b hb
  len := by rintro w cs x fp ⟨v0, v1, f0, f1, rfl, h0, h1, rfl⟩; rfl
  one := by rintro w cs x fp ⟨v0, v1, f0, f1, rfl, h0, h1, rfl⟩; exact (ones_cons rfl (ones_cons rfl (ones_cons rfl (ones_cons rfl (ones_cons (Sl.one h0) (ones_cons rfl (ones_cons (Sl.one h1) (ones_cons rfl ones_nil))))))))

structure Dev where
  live : Cli
  saved : Cli
instance : Inhabited Dev := ⟨⟨default, default⟩⟩
def wf_Dev (x : Dev) : Prop := (wf_Cli) x.live ∧ (wf_Cli) x.saved
def EDev : ER Dev := fun w cs x fp => ∃ (c_live : List Value) (c_saved : List Value) (f_live f_saved : List Nat), cs = c_live ++ c_saved ∧ ECli w c_live x.live f_live ∧ ECli w c_saved x.saved f_saved ∧ fp = f_live ++ f_saved
theorem good_Dev : Fine 16 EDev where
  agree := by rintro w w' cs x fp ⟨v0, v1, f0, f1, rfl, h0, h1, rfl⟩ ha; exact ⟨v0, v1, _, _, rfl, (good_Cli.agree h0 (ha.sub fun b hb => by simp [hb])), (good_Cli.agree h1 (ha.sub fun b hb => by simp [hb])), rfl⟩
  lt := by
    rintro w cs x fp ⟨v0, v1, f0, f1, rfl, h0, h1, rfl⟩ b hb
    simp only [List.mem_append] at hb
    rcases hb with hb | hb
    · exact good_Cli.lt h0 b hb
    · exact good_Cli.lt h1 b hb
  len := by rintro w cs x fp ⟨v0, v1, f0, f1, rfl, h0, h1, rfl⟩; simp [good_Cli.len h0, good_Cli.len h1]
  one := by rintro w cs x fp ⟨v0, v1, f0, f1, rfl, h0, h1, rfl⟩; exact (ones_app (good_Cli.one h0) (good_Cli.one h1))

structure Wld where
  rows : Int
  servers : (List Srv)
  devices : (List Dev)
  archive : Arc
  master : Int
  seed : Int
  round : Int
  replaced : (List Int)
  cancelled : Int
instance : Inhabited Wld := ⟨⟨0, [], [], default, 0, 0, 0, [], 0⟩⟩
def wf_Wld (x : Wld) : Prop := (I64) x.rows ∧ (fun l => ∀ x, x ∈ l → (wf_Srv) x) x.servers ∧ (fun l => ∀ x, x ∈ l → (wf_Dev) x) x.devices ∧ (wf_Arc) x.archive ∧ (I64) x.master ∧ (I64) x.seed ∧ (I64) x.round ∧ (fun l => ∀ x, x ∈ l → (I64) x) x.replaced ∧ (I64) x.cancelled
def EWld : ER Wld := fun w cs x fp => ∃ (v_servers : Value) (v_devices : Value) (c_archive : List Value) (v_replaced : Value) (f_servers f_devices f_archive f_replaced : List Nat), cs = [.int .i64 x.rows, v_servers, v_devices] ++ c_archive ++ [.int .i64 x.master, .int .i64 x.seed, .int .i64 x.round, v_replaced, .int .i64 x.cancelled] ∧ Sl 5 ESrv w v_servers x.servers f_servers ∧ Sl 16 EDev w v_devices x.devices f_devices ∧ EArc w c_archive x.archive f_archive ∧ Sl 1 EInt w v_replaced x.replaced f_replaced ∧ fp = f_servers ++ f_devices ++ f_archive ++ f_replaced
theorem good_Wld : Fine 10 EWld where
  agree := by rintro w w' cs x fp ⟨v0, v1, v2, v3, f0, f1, f2, f3, rfl, h0, h1, h2, h3, rfl⟩ ha; exact ⟨v0, v1, v2, v3, _, _, _, _, rfl, (Sl.agree good_Srv h0 (ha.sub fun b hb => by simp [hb])), (Sl.agree good_Dev h1 (ha.sub fun b hb => by simp [hb])), (good_Arc.agree h2 (ha.sub fun b hb => by simp [hb])), (Sl.agree good_int h3 (ha.sub fun b hb => by simp [hb])), rfl⟩
  lt := by
    rintro w cs x fp ⟨v0, v1, v2, v3, f0, f1, f2, f3, rfl, h0, h1, h2, h3, rfl⟩ b hb
    simp only [List.mem_append] at hb
    rcases hb with ((hb | hb) | hb) | hb
    · exact Sl.lt good_Srv h0 b hb
    · exact Sl.lt good_Dev h1 b hb
    · exact good_Arc.lt h2 b hb
    · exact Sl.lt good_int h3 b hb
  len := by rintro w cs x fp ⟨v0, v1, v2, v3, f0, f1, f2, f3, rfl, h0, h1, h2, h3, rfl⟩; simp [good_Arc.len h2]
  one := by rintro w cs x fp ⟨v0, v1, v2, v3, f0, f1, f2, f3, rfl, h0, h1, h2, h3, rfl⟩; exact (ones_app (ones_app (ones_cons rfl (ones_cons (Sl.one h0) (ones_cons (Sl.one h1) ones_nil))) (good_Arc.one h2)) (ones_cons rfl (ones_cons rfl (ones_cons rfl (ones_cons (Sl.one h3) (ones_cons rfl ones_nil))))))

structure Ev where
  kind : Int
  node : Int
  value : Int
  body : (List UInt8)
instance : Inhabited Ev := ⟨⟨0, 0, 0, []⟩⟩
def wf_Ev (x : Ev) : Prop := (I64) x.kind ∧ (I64) x.node ∧ (I64) x.value ∧ (fun l => ∀ x, x ∈ l → (fun _ => True) x) x.body
def EEv : ER Ev := fun w cs x fp => ∃ (v_body : Value) (f_body : List Nat), cs = [.int .i64 x.kind, .int .i64 x.node, .int .i64 x.value, v_body] ∧ Sl 1 EU8 w v_body x.body f_body ∧ fp = f_body
theorem good_Ev : Fine 4 EEv where
  agree := by rintro w w' cs x fp ⟨v0, f0, rfl, h0, rfl⟩ ha; exact ⟨v0, _, rfl, (Sl.agree good_u8 h0 (ha.sub fun b hb => by simp [hb])), rfl⟩
  lt := by rintro w cs x fp ⟨v0, f0, rfl, h0, rfl⟩ b hb; exact Sl.lt good_u8 h0 b hb
  len := by rintro w cs x fp ⟨v0, f0, rfl, h0, rfl⟩; rfl
  one := by rintro w cs x fp ⟨v0, f0, rfl, h0, rfl⟩; exact (ones_cons rfl (ones_cons rfl (ones_cons rfl (ones_cons (Sl.one h0) ones_nil))))

structure Trf where
  fr : Int
  to : Int
  bytes : Int
instance : Inhabited Trf := ⟨⟨0, 0, 0⟩⟩
def wf_Trf (x : Trf) : Prop := (I64) x.fr ∧ (I64) x.to ∧ (I64) x.bytes
def ETrf : ER Trf := fun _ cs x fp => cs = [.int .i64 x.fr, .int .i64 x.to, .int .i64 x.bytes] ∧ fp = []
theorem good_Trf : Fine 3 ETrf where
  agree := fun h _ => h
  lt := by rintro w cs x fp ⟨rfl, rfl⟩ b hb; simp at hb
  len := by rintro w cs x fp ⟨rfl, rfl⟩; rfl
  one := by rintro w cs x fp ⟨rfl, rfl⟩ u hu; simp at hu; rcases hu with rfl | rfl | rfl <;> rfl

structure Rcp where
  server : Int
  client : Int
  round : Int
  digest : Int
  mac : Int
instance : Inhabited Rcp := ⟨⟨0, 0, 0, 0, 0⟩⟩
def wf_Rcp (x : Rcp) : Prop := (I64) x.server ∧ (I64) x.client ∧ (I64) x.round ∧ (I64) x.digest ∧ (I64) x.mac
def ERcp : ER Rcp := fun _ cs x fp => cs = [.int .i64 x.server, .int .i64 x.client, .int .i64 x.round, .int .i64 x.digest, .int .i64 x.mac] ∧ fp = []
theorem good_Rcp : Fine 5 ERcp where
  agree := fun h _ => h
  lt := by rintro w cs x fp ⟨rfl, rfl⟩ b hb; simp at hb
  len := by rintro w cs x fp ⟨rfl, rfl⟩; rfl
  one := by rintro w cs x fp ⟨rfl, rfl⟩ u hu; simp at hu; rcases hu with rfl | rfl | rfl | rfl | rfl <;> rfl

structure Plain where
  kind : Int
  body : (List UInt8)
instance : Inhabited Plain := ⟨⟨0, []⟩⟩
def wf_Plain (x : Plain) : Prop := (I64) x.kind ∧ (fun l => ∀ x, x ∈ l → (fun _ => True) x) x.body
def EPlain : ER Plain := fun w cs x fp => ∃ (v_body : Value) (f_body : List Nat), cs = [.int .i64 x.kind, v_body] ∧ Sl 1 EU8 w v_body x.body f_body ∧ fp = f_body
theorem good_Plain : Fine 2 EPlain where
  agree := by rintro w w' cs x fp ⟨v0, f0, rfl, h0, rfl⟩ ha; exact ⟨v0, _, rfl, (Sl.agree good_u8 h0 (ha.sub fun b hb => by simp [hb])), rfl⟩
  lt := by rintro w cs x fp ⟨v0, f0, rfl, h0, rfl⟩ b hb; exact Sl.lt good_u8 h0 b hb
  len := by rintro w cs x fp ⟨v0, f0, rfl, h0, rfl⟩; rfl
  one := by rintro w cs x fp ⟨v0, f0, rfl, h0, rfl⟩; exact (ones_cons rfl (ones_cons (Sl.one h0) ones_nil))

structure SAns where
  server : Int
  round : Int
  selection : (List Int)
  data : (List UInt8)
  mac : Int
instance : Inhabited SAns := ⟨⟨0, 0, [], [], 0⟩⟩
def wf_SAns (x : SAns) : Prop := (I64) x.server ∧ (I64) x.round ∧ (fun l => ∀ x, x ∈ l → (I64) x) x.selection ∧ (fun l => ∀ x, x ∈ l → (fun _ => True) x) x.data ∧ (I64) x.mac
def ESAns : ER SAns := fun w cs x fp => ∃ (v_selection : Value) (v_data : Value) (f_selection f_data : List Nat), cs = [.int .i64 x.server, .int .i64 x.round, v_selection, v_data, .int .i64 x.mac] ∧ Sl 1 EInt w v_selection x.selection f_selection ∧ Sl 1 EU8 w v_data x.data f_data ∧ fp = f_selection ++ f_data
theorem good_SAns : Fine 5 ESAns where
  agree := by rintro w w' cs x fp ⟨v0, v1, f0, f1, rfl, h0, h1, rfl⟩ ha; exact ⟨v0, v1, _, _, rfl, (Sl.agree good_int h0 (ha.sub fun b hb => by simp [hb])), (Sl.agree good_u8 h1 (ha.sub fun b hb => by simp [hb])), rfl⟩
  lt := by
    rintro w cs x fp ⟨v0, v1, f0, f1, rfl, h0, h1, rfl⟩ b hb
    simp only [List.mem_append] at hb
    rcases hb with hb | hb
    · exact Sl.lt good_int h0 b hb
    · exact Sl.lt good_u8 h1 b hb
  len := by rintro w cs x fp ⟨v0, v1, f0, f1, rfl, h0, h1, rfl⟩; rfl
  one := by rintro w cs x fp ⟨v0, v1, f0, f1, rfl, h0, h1, rfl⟩; exact (ones_cons rfl (ones_cons rfl (ones_cons (Sl.one h0) (ones_cons (Sl.one h1) (ones_cons rfl ones_nil)))))
end Go.Proofs.Ythlflnplnajjiaa.D

