/-
  FnExactFormatWorld: the law returns true for every argument: the program and the reference agree on FormatWorld, arguments are left as they were, and what is returned is memory of its own. No condition.
-/
import Derived.Test.YtjknhnhcbadigaaDoorZFormatWorldM11
import Derived.Test.YtjknhnhcbadigaaDoorZFormatWorldM13
import Derived.Test.YtjknhnhcbadigaaDoorZFormatWorldM14
import Derived.Test.YtjknhnhcbadigaaDoorCards
import Derived.Test.YtjknhnhcbadigaaDoorTie
import Derived.Handed
import Derived.JoinedOf
import Derived.LaidLaws
import Derived.LaidHandle
import Derived.LaidSub
import Derived.SevenTiedAt
import Derived.Lib.LaidTab
import Derived.ProofKit
import Derived.ChangeOld
namespace Go.Proofs.YtjknhnhcbadigaaDoor.fnExactFormatWorld
open Go.ChangeShapes Go.WideShapes Go.ChangeAt Go.RowKit L D C
set_option linter.all false
theorem gTab : Tryd.prog.globalNamed "internal/strconv.uint64pow10" = some 0 := by kernel_rfl
theorem gTabType : (Tryd.prog.globals[0]?).map (·.type) = some 163 := by kernel_rfl
theorem cellsT : Tryd.prog.cellsOf 163 = 20 := by kernel_rfl
theorem cellsE : Tryd.prog.cellsOf 153 = 1 := by kernel_rfl
/-- What the row's list gives: the table's cells. -/
theorem amb_of {W : World} (h : laidMetH Tryd.prog Rows.fnExactFormatWorldRow.laid W) : G.Amb W := by
  have h1 : laidMet Tryd.prog Rows.fnExactFormatWorldRow.laid W := h
  have h2 := h1.filter (fun x => match x.2 with | .agg l => l.length == 20 | _ => false)
  have h3 : Lib.TabIs Tryd.prog W "internal/strconv.uint64pow10" .u64 Lib.pow10Tab := Lib.tabIs_of_head (rest := []) gTab gTabType Tryd.underlying163 Tryd.underlying153 cellsE cellsT h2
  unfold Lib.TabIs World.var? at h3
  rw [gTab, Option.bind_some] at h3
  unfold G.Amb
  split at h3
  · rename_i cs e k hh
    simp only [Option.some.injEq] at h3
    rw [hh, h3]; exact ⟨_, _, rfl⟩
  · cases h3
/-- A world for the witness: the settled one, the tables holding what their initialisers lay. -/
noncomputable def putT (cs : Array Value) : Go.Obj → Go.Obj
  | .cells _ t frozen => .cells cs t frozen
  | o => o
noncomputable def laidWorld (os : Os) : World :=
  { World.holding Tryd.prog os ⟨#[], #[], []⟩ with heap := (((World.holding Tryd.prog os ⟨#[], #[], []⟩).heap.modify 0 (putT (Lib.pow10Tab.map fun z => Value.int .u64 z).toArray)).modify 2 (putT (([0, 1, 28, 2, 29, 14, 24, 3, 30, 22, 20, 15, 25, 17, 4, 8, 31, 27, 13, 23, 21, 19, 16, 7, 26, 12, 18, 6, 11, 5, 10, 9] : List Int).map fun z => Value.int .u8 z).toArray)).modify 3 (putT (([0, 1, 56, 2, 57, 49, 28, 3, 61, 58, 42, 50, 38, 29, 17, 4, 62, 47, 59, 36, 45, 43, 51, 22, 53, 39, 33, 30, 24, 18, 12, 5, 63, 55, 48, 27, 60, 41, 37, 16, 46, 35, 44, 21, 52, 32, 23, 11, 54, 26, 40, 15, 34, 20, 31, 10, 25, 14, 19, 9, 13, 8, 7, 6] : List Int).map fun z => Value.int .u8 z).toArray) }
theorem laid_met (os : Os) (args : Array Value) : laidMetH Tryd.prog Rows.fnExactFormatWorldRow.laid ((laidWorld os).forCall (fun _ _ => 0) ⟨#[], args, []⟩).memory :=
  (show laidMet Tryd.prog Rows.fnExactFormatWorldRow.laid ((laidWorld os).forCall (fun _ _ => 0) ⟨#[], args, []⟩).memory from laidMet_of_run' 8 (by as_aux_lemma => kernel_rfl) (by as_aux_lemma => kernel_rfl))
theorem walk (w : World) (hA : G.Amb w) (cs0 : List Value) (x0 : Wld) (fp0 : List Nat) (e0 : EWld w cs0 x0 fp0) (wf0 : wf_Wld x0) :
    Calls Tryd.prog 7 #[.agg cs0.toArray] w (Gives w (.bool true)) :=
  G.gives_of (G.c_FnExactFormatWorld x0 wf0) ⟨G.arg_agg (G.reads_Wld e0), ⟨⟩⟩

set_option maxRecDepth 100000 in
theorem lifted (os : Os) (started : os.Started) (H : Type) (enc : TypeId × Value → H) :
    ReturnsInHanded {} Tryd.checked os 7 .any (fun w args => (Rows.fnExactFormatWorldSpec.pre enc Tryd.prog Tryd.f7 [] false w args ∧ laidMetH Tryd.prog Rows.fnExactFormatWorldRow.laid w) ∧ sizedMet enc Tryd.prog Tryd.f7 (OpenSpec.ofChange Rows.fnExactFormatWorldSpec) false w args)
      (Rows.fnExactFormatWorldSpec.post enc Tryd.prog Tryd.f7 false true false false) := by
  refine returnsInHanded_of_change_and (C := Tryd.checked) (X := fun w _ => laidMetH Tryd.prog Rows.fnExactFormatWorldRow.laid w) (fun _ _ _ hh h => h.of_heap hh) K.own started (by as_aux_lemma => kernel_rfl) Tryd.func7
    (ChangeSpec.witness_at (enc := enc) (C := Tryd.checked) (os := os) (X := fun w _ => laidMetH Tryd.prog Rows.fnExactFormatWorldRow.laid w) false (laidWorld os) #[.agg #[.int .i64 0, .slice none 0 0, .slice none 0 0, .int .i64 0, .slice none 0 0, .int .i64 0, .int .i64 0, .int .i64 0, .slice none 0 0, .int .i64 0]] 8 rfl (by as_aux_lemma => kernel_rfl) (by as_aux_lemma => kernel_rfl) (by as_aux_lemma => kernel_rfl) (by as_aux_lemma => kernel_rfl) (by as_aux_lemma => kernel_rfl) (laid_met os _)) ?_
  intro W base args ds gs before hval0 hW hcnd _ hL _
  have hval : ∀ (j : Nat) t v, Tryd.f7.params[j]? = some t → args[j]? = some v → Value.okWide Tryd.prog W .any base t v := hval0
  have hW' := hW
  obtain ⟨p, q, hA0, hV, rfl, hfz, hnd⟩ := hW
  have hA : DataW.TrodAll enc Tryd.prog W 0 (fun _ => true) true Tryd.f7.params.toList args.toList ds p := hA0
  rw [Tryd.params7] at hA hval
  obtain ⟨v0, vs0, d0, ds0, p0, q0, hargs, rfl, rfl, h0, r0⟩ := trodAll_cons hA
  obtain ⟨rfl, rfl, rfl⟩ := trodAll_nil r0
  obtain rfl : args = #[v0] := by cases args; simp_all
  obtain ⟨rfl, rfl⟩ := trodVars_none hV
  have k0 := h0
  have lt0 : ∀ x ∈ p0, x.block < W.heap.size := by obtain ⟨m, hm⟩ := k0; exact DataW.trod_lt m _ _ _ hm
  obtain ⟨fuel0, hf0⟩ := h0
  obtain ⟨cs0, rfl, hsz0⟩ := okWide_struct Tryd.underlying64 (hval 0 64 v0 rfl rfl)
  obtain ⟨x0, fp0, e0, wf0⟩ := opens_Wld _ _ _ hf0
  have e0 : EWld W cs0.toList x0 fp0 := e0
  clear hA0 hval0
  refine (walk W (amb_of hL) cs0.toList x0 fp0 e0 wf0).mono fun e W' ⟨he, bel⟩ => ?_
  subst he
  exact ⟨_, rfl, _, _, _, [], _, [], hW', trodAll_mk1 (shut_bool Tryd.underlying4 _), (trodAll_cons_mk (Below.trod K.laid (by as_aux_lemma => kernel_rfl) (of_decide_eq_true (by as_aux_lemma => kernel_rfl)) k0 bel lt0) trodAll_mk0), rfl, bel.frame _, fun h => by cases h⟩

set_option maxHeartbeats 4000000 in
theorem closed : joinedFacts Tryd.prog 7 Tryd.f7 Rows.fnExactFormatWorldSpec Rows.fnExactFormatWorldRow = true := by
  unfold joinedFacts
  repeat' (with_reducible refine K.and2 ?_ ?_)
  · as_aux_lemma => kernel_rfl
  · exact K.laid
  · exact K.rowed
  · as_aux_lemma => kernel_rfl
  · as_aux_lemma => kernel_rfl
  · as_aux_lemma => kernel_rfl
  · exact K.stops
  · as_aux_lemma => kernel_rfl
  · exact K.stopKnobs
  · as_aux_lemma => kernel_rfl
  · as_aux_lemma => kernel_rfl
  · as_aux_lemma => kernel_rfl
  · as_aux_lemma => kernel_rfl
  · as_aux_lemma => kernel_rfl
  · as_aux_lemma => kernel_rfl
  · as_aux_lemma => kernel_rfl
  · as_aux_lemma => kernel_rfl
  · as_aux_lemma => kernel_rfl
  · as_aux_lemma => kernel_rfl
  · as_aux_lemma => kernel_rfl
  · as_aux_lemma => kernel_rfl
  · as_aux_lemma => kernel_rfl
  · exact K.plainKeys
  · as_aux_lemma => kernel_rfl
  · exact K.stopsHeard
  · exact K.mayEnter
  · exact K.lifted
  · exact K.make
  · as_aux_lemma => kernel_rfl
  · as_aux_lemma => kernel_rfl
  · as_aux_lemma => kernel_rfl
  · as_aux_lemma => kernel_rfl
theorem over : Rows.fnExactFormatWorldRow.holds Tryd.pinned (OpenSpec.ofChange Rows.fnExactFormatWorldSpec) :=
  OpenClaim.holds_of_wide 7 Tryd.f7 rfl rfl rfl rfl rfl rfl rfl ⟨rfl, rfl, rfl, rfl, rfl⟩ rfl rfl rfl rfl rfl (by as_aux_lemma => kernel_rfl) Tryd.func7 closed
    (of_decide_eq_true (by as_aux_lemma => kernel_rfl)) (by unfold Func.isWrapper; first | (rw [if_pos (by decide +kernel)]; kernel_rfl) | (rw [if_neg (by decide +kernel)]; exact ⟨rfl, rfl⟩))
    (fun os started H enc _ => lifted os started H enc)

theorem plain (f : FuncId) (fn : Func) (hf : Tryd.pinned.checked.prog.funcNamed "loop.example/g00516/laws.FnExactFormatWorld" = some f) (hfn : Tryd.pinned.checked.prog.funcs[f]? = some fn) :
    false = Tryd.pinned.checked.prog.looks [] ∧ ∀ (j : Nat) t, fn.params[j]? = some t → Tryd.pinned.checked.prog.wantsStandIn t = false := by
  obtain rfl : f = 7 := Option.some.inj ((show Tryd.prog.funcNamed "loop.example/g00516/laws.FnExactFormatWorld" = some 7 by as_aux_lemma => kernel_rfl).symm.trans hf) |>.symm
  obtain rfl : fn = Tryd.f7 := (Option.some.inj (Tryd.func7.symm.trans hfn)).symm
  refine ⟨by as_aux_lemma => kernel_rfl, fun j t ht => ?_⟩
  have hall : (Tryd.f7.params.toList.all fun t => !Tryd.prog.wantsStandIn t) = true := by as_aux_lemma => kernel_rfl
  have := List.all_eq_true.1 hall t (Array.mem_toList_iff.2 (Array.mem_of_getElem? ht))
  exact (show Tryd.prog.wantsStandIn t = false by simpa using this)
/-- THE STATEMENT: the tied card. -/
theorem proved : Rows.FnExactFormatWorldCardSaid :=
  Claim7.holds_tied_plain_at .later [] _ _ _ _ over (fun _ h => by cases h) (by as_aux_lemma => kernel_rfl) (fun _ h => by cases h) fnExactFormatWorld_row_tie rfl ⟨rfl, rfl⟩ (by as_aux_lemma => kernel_rfl) rfl plain (by as_aux_lemma => kernel_rfl)
#print axioms proved
end Go.Proofs.YtjknhnhcbadigaaDoor.fnExactFormatWorld
