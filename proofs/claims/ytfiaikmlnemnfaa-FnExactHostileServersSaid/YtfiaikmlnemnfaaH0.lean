/-
  Sizes, and marks, of the data.
-/
import Derived.Test.YtfiaikmlnemnfaaE7
namespace Go.Proofs.Ytfiaikmlnemnfaa.G
set_option linter.all false
open Go.RowKit L D
set_option maxRecDepth 100000
def mku8 (k : Int) (_ : UInt8) : UInt8 := UInt8.ofNat (IntKind.u8.wrap k).toNat
theorem getD_some {α : Type} (l : List α) (d : α) (k : Nat) (h : k < l.length) : l[k]? = some (l.getD k d) := by
  rw [List.getD_eq_getElem?_getD, List.getElem?_eq_getElem h]; rfl
def size_DB (x : DB) : Nat := (lsz List.length) x.rows
def mne_DB (x : DB) : Nat := (mnl (mnl (fun _ => 1))) x.rows
def mke_DB (k : Int) (x : DB) : DB := ⟨(mkl (mkl mku8 (fun _ => 1)) (mnl (fun _ => 1))) (k) x.rows⟩
def mnv_DB (x : DB) : Nat := (mnl (mnl (fun _ => 1))) x.rows
def mkv_DB (k : Int) (x : DB) : DB := ⟨(mkl (mkl mku8 (fun _ => 1)) (mnl (fun _ => 1))) (k) x.rows⟩
def size_RShare (x : RShare) : Nat := size_DB x.share
def mne_RShare (x : RShare) : Nat := 1 + (mnl (mnl (fun _ => 1))) x.share.rows
def mke_RShare (k : Int) (x : RShare) : RShare := ⟨k, ⟨(mkl (mkl mku8 (fun _ => 1)) (mnl (fun _ => 1))) (k + 1) x.share.rows⟩⟩
def mnv_RShare (x : RShare) : Nat := mnv_DB x.share
def mkv_RShare (k : Int) (x : RShare) : RShare := ⟨x.client, mkv_DB (k) x.share⟩
def size_Srv (x : Srv) : Nat := (lsz size_RShare) x.received
def mne_Srv (x : Srv) : Nat := 1 + 1 + 1 + (mnl mne_RShare) x.received + 1
def mke_Srv (k : Int) (x : Srv) : Srv := ⟨k, k + 1, k + 1 + 1, (mkl mke_RShare mne_RShare) (k + 1 + 1 + 1) x.received, k + 1 + 1 + 1 + ((mnl mne_RShare) x.received : Nat)⟩
def mnv_Srv (x : Srv) : Nat := (mnl mne_RShare) x.received
def mkv_Srv (k : Int) (x : Srv) : Srv := ⟨x.id, x.rows, x.round, (mkl mke_RShare mne_RShare) (k) x.received, x.behavior⟩
def size_ARound (x : ARound) : Nat := size_DB x.db
def mne_ARound (x : ARound) : Nat := 1 + (mnl (mnl (fun _ => 1))) x.db.rows
def mke_ARound (k : Int) (x : ARound) : ARound := ⟨k, ⟨(mkl (mkl mku8 (fun _ => 1)) (mnl (fun _ => 1))) (k + 1) x.db.rows⟩⟩
def mnv_ARound (x : ARound) : Nat := mnv_DB x.db
def mkv_ARound (k : Int) (x : ARound) : ARound := ⟨x.round, mkv_DB (k) x.db⟩
def size_Arc (x : Arc) : Nat := (lsz size_ARound) x.rounds
def mne_Arc (x : Arc) : Nat := 1 + (mnl mne_ARound) x.rounds
def mke_Arc (k : Int) (x : Arc) : Arc := ⟨k, (mkl mke_ARound mne_ARound) (k + 1) x.rounds⟩
def mnv_Arc (x : Arc) : Nat := (mnl mne_ARound) x.rounds
def mkv_Arc (k : Int) (x : Arc) : Arc := ⟨x.rows, (mkl mke_ARound mne_ARound) (k) x.rounds⟩
def size_Cli (x : Cli) : Nat := (lsz List.length) x.submitted + (lsz List.length) x.inbox
def mne_Cli (x : Cli) : Nat := 1 + 1 + 1 + 1 + (mnl (mnl (fun _ => 1))) x.submitted + 1 + (mnl (mnl (fun _ => 1))) x.inbox + 1
def mke_Cli (k : Int) (x : Cli) : Cli := ⟨k, k + 1, k + 1 + 1, k + 1 + 1 + 1, (mkl (mkl mku8 (fun _ => 1)) (mnl (fun _ => 1))) (k + 1 + 1 + 1 + 1) x.submitted, k + 1 + 1 + 1 + 1 + ((mnl (mnl (fun _ => 1))) x.submitted : Nat), (mkl (mkl mku8 (fun _ => 1)) (mnl (fun _ => 1))) (k + 1 + 1 + 1 + 1 + ((mnl (mnl (fun _ => 1))) x.submitted : Nat) + 1) x.inbox, k + 1 + 1 + 1 + 1 + ((mnl (mnl (fun _ => 1))) x.submitted : Nat) + 1 + ((mnl (mnl (fun _ => 1))) x.inbox : Nat)⟩
def mnv_Cli (x : Cli) : Nat := (mnl (mnl (fun _ => 1))) x.submitted + (mnl (mnl (fun _ => 1))) x.inbox
def mkv_Cli (k : Int) (x : Cli) : Cli := ⟨x.id, x.friend, x.key, x.seed, (mkl (mkl mku8 (fun _ => 1)) (mnl (fun _ => 1))) (k) x.submitted, x.sent, (mkl (mkl mku8 (fun _ => 1)) (mnl (fun _ => 1))) (k + ((mnl (mnl (fun _ => 1))) x.submitted : Nat)) x.inbox, x.next⟩
def size_Dev (x : Dev) : Nat := size_Cli x.live + size_Cli x.saved
def mne_Dev (x : Dev) : Nat := 1 + 1 + 1 + 1 + (mnl (mnl (fun _ => 1))) x.live.submitted + 1 + (mnl (mnl (fun _ => 1))) x.live.inbox + 1 + 1 + 1 + 1 + 1 + (mnl (mnl (fun _ => 1))) x.saved.submitted + 1 + (mnl (mnl (fun _ => 1))) x.saved.inbox + 1
def mke_Dev (k : Int) (x : Dev) : Dev := ⟨⟨k, k + 1, k + 1 + 1, k + 1 + 1 + 1, (mkl (mkl mku8 (fun _ => 1)) (mnl (fun _ => 1))) (k + 1 + 1 + 1 + 1) x.live.submitted, k + 1 + 1 + 1 + 1 + ((mnl (mnl (fun _ => 1))) x.live.submitted : Nat), (mkl (mkl mku8 (fun _ => 1)) (mnl (fun _ => 1))) (k + 1 + 1 + 1 + 1 + ((mnl (mnl (fun _ => 1))) x.live.submitted : Nat) + 1) x.live.inbox, k + 1 + 1 + 1 + 1 + ((mnl (mnl (fun _ => 1))) x.live.submitted : Nat) + 1 + ((mnl (mnl (fun _ => 1))) x.live.inbox : Nat)⟩, ⟨k + 1 + 1 + 1 + 1 + ((mnl (mnl (fun _ => 1))) x.live.submitted : Nat) + 1 + ((mnl (mnl (fun _ => 1))) x.live.inbox : Nat) + 1, k + 1 + 1 + 1 + 1 + ((mnl (mnl (fun _ => 1))) x.live.submitted : Nat) + 1 + ((mnl (mnl (fun _ => 1))) x.live.inbox : Nat) + 1 + 1, k + 1 + 1 + 1 + 1 + ((mnl (mnl (fun _ => 1))) x.live.submitted : Nat) + 1 + ((mnl (mnl (fun _ => 1))) x.live.inbox : Nat) + 1 + 1 + 1, k + 1 + 1 + 1 + 1 + ((mnl (mnl (fun _ => 1))) x.live.submitted : Nat) + 1 + ((mnl (mnl (fun _ => 1))) x.live.inbox : Nat) + 1 + 1 + 1 + 1, (mkl (mkl mku8 (fun _ => 1)) (mnl (fun _ => 1))) (k + 1 + 1 + 1 + 1 + ((mnl (mnl (fun _ => 1))) x.live.submitted : Nat) + 1 + ((mnl (mnl (fun _ => 1))) x.live.inbox : Nat) + 1 + 1 + 1 + 1 + 1) x.saved.submitted, k + 1 + 1 + 1 + 1 + ((mnl (mnl (fun _ => 1))) x.live.submitted : Nat) + 1 + ((mnl (mnl (fun _ => 1))) x.live.inbox : Nat) + 1 + 1 + 1 + 1 + 1 + ((mnl (mnl (fun _ => 1))) x.saved.submitted : Nat), (mkl (mkl mku8 (fun _ => 1)) (mnl (fun _ => 1))) (k + 1 + 1 + 1 + 1 + ((mnl (mnl (fun _ => 1))) x.live.submitted : Nat) + 1 + ((mnl (mnl (fun _ => 1))) x.live.inbox : Nat) + 1 + 1 + 1 + 1 + 1 + ((mnl (mnl (fun _ => 1))) x.saved.submitted : Nat) + 1) x.saved.inbox, k + 1 + 1 + 1 + 1 + ((mnl (mnl (fun _ => 1))) x.live.submitted : Nat) + 1 + ((mnl (mnl (fun _ => 1))) x.live.inbox : Nat) + 1 + 1 + 1 + 1 + 1 + ((mnl (mnl (fun _ => 1))) x.saved.submitted : Nat) + 1 + ((mnl (mnl (fun _ => 1))) x.saved.inbox : Nat)⟩⟩
def mnv_Dev (x : Dev) : Nat := mnv_Cli x.live + mnv_Cli x.saved
def mkv_Dev (k : Int) (x : Dev) : Dev := ⟨mkv_Cli (k) x.live, mkv_Cli (k + (mnv_Cli x.live : Nat)) x.saved⟩
def size_Wld (x : Wld) : Nat := (lsz size_Srv) x.servers + (lsz size_Dev) x.devices + size_Arc x.archive + List.length x.replaced
def mne_Wld (x : Wld) : Nat := 1 + (mnl mne_Srv) x.servers + (mnl mne_Dev) x.devices + 1 + (mnl mne_ARound) x.archive.rounds + 1 + 1 + 1 + (mnl (fun _ => 1)) x.replaced + 1
def mke_Wld (k : Int) (x : Wld) : Wld := ⟨k, (mkl mke_Srv mne_Srv) (k + 1) x.servers, (mkl mke_Dev mne_Dev) (k + 1 + ((mnl mne_Srv) x.servers : Nat)) x.devices, ⟨k + 1 + ((mnl mne_Srv) x.servers : Nat) + ((mnl mne_Dev) x.devices : Nat), (mkl mke_ARound mne_ARound) (k + 1 + ((mnl mne_Srv) x.servers : Nat) + ((mnl mne_Dev) x.devices : Nat) + 1) x.archive.rounds⟩, k + 1 + ((mnl mne_Srv) x.servers : Nat) + ((mnl mne_Dev) x.devices : Nat) + 1 + ((mnl mne_ARound) x.archive.rounds : Nat), k + 1 + ((mnl mne_Srv) x.servers : Nat) + ((mnl mne_Dev) x.devices : Nat) + 1 + ((mnl mne_ARound) x.archive.rounds : Nat) + 1, k + 1 + ((mnl mne_Srv) x.servers : Nat) + ((mnl mne_Dev) x.devices : Nat) + 1 + ((mnl mne_ARound) x.archive.rounds : Nat) + 1 + 1, (mkl (fun k _ => k) (fun _ => 1)) (k + 1 + ((mnl mne_Srv) x.servers : Nat) + ((mnl mne_Dev) x.devices : Nat) + 1 + ((mnl mne_ARound) x.archive.rounds : Nat) + 1 + 1 + 1) x.replaced, k + 1 + ((mnl mne_Srv) x.servers : Nat) + ((mnl mne_Dev) x.devices : Nat) + 1 + ((mnl mne_ARound) x.archive.rounds : Nat) + 1 + 1 + 1 + ((mnl (fun _ => 1)) x.replaced : Nat)⟩
def mnv_Wld (x : Wld) : Nat := (mnl mne_Srv) x.servers + (mnl mne_Dev) x.devices + mnv_Arc x.archive + (mnl (fun _ => 1)) x.replaced
def mkv_Wld (k : Int) (x : Wld) : Wld := ⟨x.rows, (mkl mke_Srv mne_Srv) (k) x.servers, (mkl mke_Dev mne_Dev) (k + ((mnl mne_Srv) x.servers : Nat)) x.devices, mkv_Arc (k + ((mnl mne_Srv) x.servers : Nat) + ((mnl mne_Dev) x.devices : Nat)) x.archive, x.master, x.seed, x.round, (mkl (fun k _ => k) (fun _ => 1)) (k + ((mnl mne_Srv) x.servers : Nat) + ((mnl mne_Dev) x.devices : Nat) + (mnv_Arc x.archive : Nat)) x.replaced, x.cancelled⟩
theorem mnl_one {α : Type} (l : List α) : mnl (fun _ => 1) l = l.length := by
  induction l with
  | nil => rfl
  | cons x r ih => rw [mnl_cons, ih, List.length_cons]; omega
theorem mnl_lsz {α : Type} {mn sz : α → Nat} {C : Nat} (h : ∀ e, mn e ≤ C * (1 + sz e)) (l : List α) : mnl mn l ≤ C * lsz sz l := by
  unfold lsz mnl
  induction l with
  | nil => simp
  | cons x r ih =>
    simp only [List.map_cons, List.sum_cons, List.length_cons]
    have := h x
    have e : C * (r.length + 1 + (sz x + (r.map sz).sum)) = C * (1 + sz x) + C * (r.length + (r.map sz).sum) := by rw [← Nat.mul_add]; congr 1; omega
    omega
theorem mnl_len {α : Type} (l : List α) : mnl (fun _ => 1) l ≤ 32 * List.length l := by rw [mnl_one]; omega
theorem mnl_len1 {α : Type} (l : List α) : mnl (fun _ => 1) l ≤ 32 * (1 + List.length l) := by rw [mnl_one]; omega
theorem mne_le_DB (x : DB) : mne_DB x ≤ 32 * (1 + size_DB x) := by
  have h0 : (mnl (mnl (fun _ => 1))) x.rows ≤ 32 * (lsz List.length) x.rows := mnl_lsz (C := 32) (sz := List.length) (fun e => by have : (mnl (fun _ => 1)) e ≤ 32 * List.length e := mnl_len e; omega) x.rows
  simp only [mne_DB, size_DB]
  omega
theorem mnv_le_DB (x : DB) : mnv_DB x ≤ 32 * size_DB x := by
  have h0 : (mnl (mnl (fun _ => 1))) x.rows ≤ 32 * (lsz List.length) x.rows := mnl_lsz (C := 32) (sz := List.length) (fun e => by have : (mnl (fun _ => 1)) e ≤ 32 * List.length e := mnl_len e; omega) x.rows
  simp only [mnv_DB, size_DB]
  omega
theorem mne_le_RShare (x : RShare) : mne_RShare x ≤ 32 * (1 + size_RShare x) := by
  have h0 : (mnl (mnl (fun _ => 1))) x.share.rows ≤ 32 * (lsz List.length) x.share.rows := mnl_lsz (C := 32) (sz := List.length) (fun e => by have : (mnl (fun _ => 1)) e ≤ 32 * List.length e := mnl_len e; omega) x.share.rows
  simp only [mne_RShare, size_RShare, size_DB]
  omega
theorem mnv_le_RShare (x : RShare) : mnv_RShare x ≤ 32 * size_RShare x := by
  have h0 : (mnl (mnl (fun _ => 1))) x.share.rows ≤ 32 * (lsz List.length) x.share.rows := mnl_lsz (C := 32) (sz := List.length) (fun e => by have : (mnl (fun _ => 1)) e ≤ 32 * List.length e := mnl_len e; omega) x.share.rows
  simp only [mnv_RShare, mnv_DB, size_RShare, size_DB]
  omega
theorem mne_le_Srv (x : Srv) : mne_Srv x ≤ 32 * (1 + size_Srv x) := by
  have h0 : (mnl mne_RShare) x.received ≤ 32 * (lsz size_RShare) x.received := mnl_lsz (C := 32) (sz := size_RShare) mne_le_RShare x.received
  simp only [mne_Srv, size_Srv]
  omega
theorem mnv_le_Srv (x : Srv) : mnv_Srv x ≤ 32 * size_Srv x := by
  have h0 : (mnl mne_RShare) x.received ≤ 32 * (lsz size_RShare) x.received := mnl_lsz (C := 32) (sz := size_RShare) mne_le_RShare x.received
  simp only [mnv_Srv, size_Srv]
  omega
theorem mne_le_ARound (x : ARound) : mne_ARound x ≤ 32 * (1 + size_ARound x) := by
  have h0 : (mnl (mnl (fun _ => 1))) x.db.rows ≤ 32 * (lsz List.length) x.db.rows := mnl_lsz (C := 32) (sz := List.length) (fun e => by have : (mnl (fun _ => 1)) e ≤ 32 * List.length e := mnl_len e; omega) x.db.rows
  simp only [mne_ARound, size_ARound, size_DB]
  omega
theorem mnv_le_ARound (x : ARound) : mnv_ARound x ≤ 32 * size_ARound x := by
  have h0 : (mnl (mnl (fun _ => 1))) x.db.rows ≤ 32 * (lsz List.length) x.db.rows := mnl_lsz (C := 32) (sz := List.length) (fun e => by have : (mnl (fun _ => 1)) e ≤ 32 * List.length e := mnl_len e; omega) x.db.rows
  simp only [mnv_ARound, mnv_DB, size_ARound, size_DB]
  omega
theorem mne_le_Arc (x : Arc) : mne_Arc x ≤ 32 * (1 + size_Arc x) := by
  have h0 : (mnl mne_ARound) x.rounds ≤ 32 * (lsz size_ARound) x.rounds := mnl_lsz (C := 32) (sz := size_ARound) mne_le_ARound x.rounds
  simp only [mne_Arc, size_Arc]
  omega
theorem mnv_le_Arc (x : Arc) : mnv_Arc x ≤ 32 * size_Arc x := by
  have h0 : (mnl mne_ARound) x.rounds ≤ 32 * (lsz size_ARound) x.rounds := mnl_lsz (C := 32) (sz := size_ARound) mne_le_ARound x.rounds
  simp only [mnv_Arc, size_Arc]
  omega
theorem mne_le_Cli (x : Cli) : mne_Cli x ≤ 32 * (1 + size_Cli x) := by
  have h0 : (mnl (mnl (fun _ => 1))) x.submitted ≤ 32 * (lsz List.length) x.submitted := mnl_lsz (C := 32) (sz := List.length) (fun e => by have : (mnl (fun _ => 1)) e ≤ 32 * List.length e := mnl_len e; omega) x.submitted
  have h1 : (mnl (mnl (fun _ => 1))) x.inbox ≤ 32 * (lsz List.length) x.inbox := mnl_lsz (C := 32) (sz := List.length) (fun e => by have : (mnl (fun _ => 1)) e ≤ 32 * List.length e := mnl_len e; omega) x.inbox
  simp only [mne_Cli, size_Cli]
  omega
theorem mnv_le_Cli (x : Cli) : mnv_Cli x ≤ 32 * size_Cli x := by
  have h0 : (mnl (mnl (fun _ => 1))) x.submitted ≤ 32 * (lsz List.length) x.submitted := mnl_lsz (C := 32) (sz := List.length) (fun e => by have : (mnl (fun _ => 1)) e ≤ 32 * List.length e := mnl_len e; omega) x.submitted
  have h1 : (mnl (mnl (fun _ => 1))) x.inbox ≤ 32 * (lsz List.length) x.inbox := mnl_lsz (C := 32) (sz := List.length) (fun e => by have : (mnl (fun _ => 1)) e ≤ 32 * List.length e := mnl_len e; omega) x.inbox
  simp only [mnv_Cli, size_Cli]
  omega
theorem mne_le_Dev (x : Dev) : mne_Dev x ≤ 32 * (1 + size_Dev x) := by
  have h0 : (mnl (mnl (fun _ => 1))) x.live.submitted ≤ 32 * (lsz List.length) x.live.submitted := mnl_lsz (C := 32) (sz := List.length) (fun e => by have : (mnl (fun _ => 1)) e ≤ 32 * List.length e := mnl_len e; omega) x.live.submitted
  have h1 : (mnl (mnl (fun _ => 1))) x.live.inbox ≤ 32 * (lsz List.length) x.live.inbox := mnl_lsz (C := 32) (sz := List.length) (fun e => by have : (mnl (fun _ => 1)) e ≤ 32 * List.length e := mnl_len e; omega) x.live.inbox
  have h2 : (mnl (mnl (fun _ => 1))) x.saved.submitted ≤ 32 * (lsz List.length) x.saved.submitted := mnl_lsz (C := 32) (sz := List.length) (fun e => by have : (mnl (fun _ => 1)) e ≤ 32 * List.length e := mnl_len e; omega) x.saved.submitted
  have h3 : (mnl (mnl (fun _ => 1))) x.saved.inbox ≤ 32 * (lsz List.length) x.saved.inbox := mnl_lsz (C := 32) (sz := List.length) (fun e => by have : (mnl (fun _ => 1)) e ≤ 32 * List.length e := mnl_len e; omega) x.saved.inbox
  simp only [mne_Dev, size_Dev, size_Cli]
  omega
theorem mnv_le_Dev (x : Dev) : mnv_Dev x ≤ 32 * size_Dev x := by
  have h0 : (mnl (mnl (fun _ => 1))) x.live.submitted ≤ 32 * (lsz List.length) x.live.submitted := mnl_lsz (C := 32) (sz := List.length) (fun e => by have : (mnl (fun _ => 1)) e ≤ 32 * List.length e := mnl_len e; omega) x.live.submitted
  have h1 : (mnl (mnl (fun _ => 1))) x.live.inbox ≤ 32 * (lsz List.length) x.live.inbox := mnl_lsz (C := 32) (sz := List.length) (fun e => by have : (mnl (fun _ => 1)) e ≤ 32 * List.length e := mnl_len e; omega) x.live.inbox
  have h2 : (mnl (mnl (fun _ => 1))) x.saved.submitted ≤ 32 * (lsz List.length) x.saved.submitted := mnl_lsz (C := 32) (sz := List.length) (fun e => by have : (mnl (fun _ => 1)) e ≤ 32 * List.length e := mnl_len e; omega) x.saved.submitted
  have h3 : (mnl (mnl (fun _ => 1))) x.saved.inbox ≤ 32 * (lsz List.length) x.saved.inbox := mnl_lsz (C := 32) (sz := List.length) (fun e => by have : (mnl (fun _ => 1)) e ≤ 32 * List.length e := mnl_len e; omega) x.saved.inbox
  simp only [mnv_Dev, mnv_Cli, size_Dev, size_Cli]
  omega
theorem mne_le_Wld (x : Wld) : mne_Wld x ≤ 32 * (1 + size_Wld x) := by
  have h0 : (mnl mne_Srv) x.servers ≤ 32 * (lsz size_Srv) x.servers := mnl_lsz (C := 32) (sz := size_Srv) mne_le_Srv x.servers
  have h1 : (mnl mne_Dev) x.devices ≤ 32 * (lsz size_Dev) x.devices := mnl_lsz (C := 32) (sz := size_Dev) mne_le_Dev x.devices
  have h2 : (mnl mne_ARound) x.archive.rounds ≤ 32 * (lsz size_ARound) x.archive.rounds := mnl_lsz (C := 32) (sz := size_ARound) mne_le_ARound x.archive.rounds
  have h3 : (mnl (fun _ => 1)) x.replaced ≤ 32 * List.length x.replaced := mnl_len x.replaced
  simp only [mne_Wld, size_Wld, size_Arc]
  omega
theorem mnv_le_Wld (x : Wld) : mnv_Wld x ≤ 32 * size_Wld x := by
  have h0 : (mnl mne_Srv) x.servers ≤ 32 * (lsz size_Srv) x.servers := mnl_lsz (C := 32) (sz := size_Srv) mne_le_Srv x.servers
  have h1 : (mnl mne_Dev) x.devices ≤ 32 * (lsz size_Dev) x.devices := mnl_lsz (C := 32) (sz := size_Dev) mne_le_Dev x.devices
  have h2 : (mnl mne_ARound) x.archive.rounds ≤ 32 * (lsz size_ARound) x.archive.rounds := mnl_lsz (C := 32) (sz := size_ARound) mne_le_ARound x.archive.rounds
  have h3 : (mnl (fun _ => 1)) x.replaced ≤ 32 * List.length x.replaced := mnl_len x.replaced
  simp only [mnv_Wld, mnv_Arc, size_Wld, size_Arc]
  omega
end Go.Proofs.Ytfiaikmlnemnfaa.G
