/-
  One operation of a region: written slots, guards.
-/
import Derived.Test.YthlflnplnajjiaaG6
namespace Go.Proofs.Ythlflnplnajjiaa.G
set_option linter.all false
open Go.RowKit L D
variable {ty : Tag → Nat}
theorem look_map {α : Type} {f : Nat × α → α} : ∀ {l : List (Nat × α)} {s : Nat}, look (l.map fun e => (e.1, f e)) s = (look l s).map fun x => f (s, x)
  | [], _ => rfl
  | (j, x) :: r, s => by
    by_cases h : s = j
    · subst h; rw [List.map_cons, look_eq, look_eq]; rfl
    · rw [List.map_cons, look_ne h, look_ne h]; exact look_map
theorem holds_put {tmps : Array Value} {d : Nat} {u : Value} {p : List (Nat × Bool)} (h : (p.any fun e => Nat.beq e.1 d) = false) : holds (tmps.setIfInBounds d u) p ↔ holds tmps p := by
  have hne : ∀ e, e ∈ p → d ≠ e.1 := by
    rintro e he rfl
    rw [List.any_eq_false] at h
    exact h e he (by simp)
  constructor
  · intro hh e he
    have := hh e he
    rwa [Array.getElem?_setIfInBounds_ne (hne e he)] at this
  · intro hh e he
    rw [Array.getElem?_setIfInBounds_ne (hne e he)]
    exact hh e he
theorem RSV.put {w : World} {hp : Hp} {env : Env} {tmps : Array Value} {d : Nat} {u y : Value} {x : SV} (hm : x.mentions d = false) (h : RSV w hp env tmps x y) : RSV w hp env (tmps.setIfInBounds d u) x y := by
  cases x with
  | one x => exact h
  | tup l => exact h
  | cond p x => exact ⟨fun hh => h.1 ((holds_put hm).1 hh), fun hh => h.2 fun k => hh ((holds_put hm).2 k)⟩
theorem Good.put' {zb : Base} {st : St} {tmps : Array Value} {w : World} {env : Env} (g : Good ty zb st tmps w env) {d : Nat} (hd : d < tmps.size) {v : SV} {u : Value} (hv : RSV w st.hp env tmps v u) (hm : v.mentions d = false) (f : SV → SV) (hf : ∀ s y, look st.sl s = some y → f y = .one (.a .any) ∨ (f y = y ∧ y.mentions d = false)) :
    Good ty zb ⟨st.n, (d, v) :: st.sl.map fun e => (e.1, f e.2), st.hp⟩ (tmps.setIfInBounds d u) w env := by
  refine ⟨g.obj, g.dis, fun s x hl => ?_, g.dom, g.pins⟩
  by_cases hs : s = d
  · subst hs
    have hl : look ((s, v) :: _) s = some x := hl
    rw [look_eq] at hl
    simp only [Option.some.injEq] at hl
    subst hl
    have : (tmps.setIfInBounds s u).getD s undef = u := by
      rw [Array.getD_eq_getD_getElem?, Array.getElem?_setIfInBounds_self_of_lt hd]; rfl
    rw [this]
    exact hv.put hm
  · have hl : look ((d, v) :: _) s = some x := hl
    rw [look_ne hs, look_map (α := SV) (f := fun e : Nat × SV => f e.2)] at hl
    cases hq : look st.sl s with
    | none => rw [hq] at hl; cases hl
    | some y =>
      rw [hq] at hl
      simp only [Option.map_some, Option.some.injEq] at hl
      subst hl
      have hgd : (tmps.setIfInBounds d u).getD s undef = tmps.getD s undef := by
        rw [Array.getD_eq_getD_getElem?, Array.getD_eq_getD_getElem?, Array.getElem?_setIfInBounds_ne (Ne.symm hs)]
      rw [hgd]
      show RSV w st.hp env _ (f y) _
      rcases hf s y hq with h | ⟨h, hm'⟩
      · rw [h]; trivial
      · rw [h]; exact (g.slot s y hq).put hm'
theorem Good.put {zb : Base} {st : St} {tmps : Array Value} {w : World} {env : Env} (g : Good ty zb st tmps w env) {d : Nat} (hd : d < tmps.size) {v : SV} {u : Value} (hv : RSV w st.hp env tmps v u) (hm : v.mentions d = false) :
    Good ty zb (st.put (some d) v) (tmps.setIfInBounds d u) w env := by
  unfold St.put
  dsimp only
  split
  · rename_i hno
    have := g.put' hd hv hm id (fun s y hl => Or.inr ⟨rfl, by
      rw [List.any_eq_false] at hno
      simpa using hno _ (look_mem hl)⟩)
    simpa using this
  · refine g.put' hd hv hm (SV.drops d) fun s y hl => ?_
    unfold SV.drops
    split
    · exact Or.inl rfl
    · rename_i hm'; exact Or.inr ⟨rfl, hm'⟩
theorem put_good {zb : Base} {st : St} {a : Act} {w : World} {env : Env} (g : Good ty zb st a.tmps w env) {dst : Option Nat} (hd : ∀ d, dst = some d → d < a.tmps.size) {v : SV} {u : Value} (hv : RSV w st.hp env a.tmps v u) (hm : ∀ d, dst = some d → v.mentions d = false) :
    Good ty zb (st.put dst v) (a.put dst u).tmps w env := by
  cases dst with
  | none => exact g
  | some d => exact g.put (hd d rfl) hv (hm d rfl)
theorem put_size (a : Act) (dst : Option Nat) (u : Value) : (a.put dst u).tmps.size = a.tmps.size := by
  cases dst <;> simp [Act.put]
theorem put_n (st : St) (d : Option Nat) (v : SV) : (st.put d v).n = st.n := by
  unfold St.put
  split
  · split <;> rfl
  · rfl
theorem put_hp (st : St) (d : Option Nat) (v : SV) : (st.put d v).hp = st.hp := by
  unfold St.put
  split
  · split <;> rfl
  · rfl
theorem put_defers (a : Act) (dst : Option Nat) (u : Value) : (a.put dst u).defers = a.defers := by
  cases dst <;> rfl

/-! ### Guards -/
theorem wanted_iff {ops : Array Oper} {o : Oper} {j : Nat} {x : Bool} (hg : o.guard = some (j, x)) {q : Oper} (hj : ops[j]? = some q) {d : Nat} (hd : q.dst = some d) (tmps : Array Value) :
    Region.wanted o (yielded ops tmps) = true ↔ tmps[d]? = some (.bool x) := by
  simp only [Region.wanted, hg, yielded, hj, Option.bind_some, hd]
  constructor
  · intro h
    have h := eq_of_beq h
    split at h
    · rename_i b hb
      simp at h
      rw [hb, h]
    · cases h
  · intro h
    rw [h]; simp
theorem cond_bool {zb : Base} {st : St} {tmps : Array Value} {w : World} {env : Env} (g : Good ty zb st tmps w env) {d : Nat} {p : List (Nat × Bool)} {b x : Bool} (hl : look st.sl d = some (.cond p (.a (.lit (.bool b))))) (h : tmps[d]? = some (.bool x)) : holds tmps p ∧ b = x := by
  have hs := g.slot d _ hl
  rw [Array.getD_eq_getD_getElem?, h] at hs
  by_cases hh : holds tmps p
  · have := (hs.1 hh).lit
    simp at this
    exact ⟨hh, this.symm⟩
  · have := hs.2 hh
    simp [undef] at this
theorem one_bool {zb : Base} {st : St} {tmps : Array Value} {w : World} {env : Env} (g : Good ty zb st tmps w env) {d : Nat} {b x : Bool} (hl : look st.sl d = some (.one (.a (.lit (.bool b))))) (h : tmps[d]? = some (.bool x)) : b = x := by
  have hs := g.slot d _ hl
  rw [Array.getD_eq_getD_getElem?, h] at hs
  have := (show RS1 w st.hp env (.a (.lit (.bool b))) (.bool x) from hs).lit
  simp at this
  exact this.symm
theorem hyps_ok {zb : Base} {st : St} {tmps : Array Value} {w : World} {env : Env} (g : Good ty zb st tmps w env) : ∀ {p : List (Nat × Bool)}, holds tmps p → ∀ q, q ∈ hyps st p → q
  | [], _, q, hq => by simp [hyps] at hq
  | (d, x) :: r, h, q, hq => by
    have h0 : tmps[d]? = some (.bool x) := h (d, x) (by simp)
    have hr : holds tmps r := fun e he => h e (by simp [he])
    simp only [hyps] at hq
    split at hq
    · rename_i b hl
      rcases List.mem_cons.1 hq with rfl | hq
      · exact one_bool g hl h0
      · exact hyps_ok g hr q hq
    · rename_i p' b hl
      rcases List.mem_cons.1 hq with rfl | hq
      · exact (cond_bool g hl h0).2
      · exact hyps_ok g hr q hq
    · exact hyps_ok g hr q hq
theorem imps_ok : ∀ {hs : List Prop} {q : Prop}, imps hs q → (∀ h, h ∈ hs → h) → q
  | [], _, h, _ => h
  | h' :: r, q, h, hh => imps_ok (hs := r) (h (hh h' (by simp))) fun x hx => hh x (by simp [hx])

section
variable {P : Program} {zb : Base} {st st' : St} {a : Act} {w : World} {Q : Exit → Act → World → Prop} {o : Oper}
/-- An operation runs, or is passed over. -/
def Runs (P : Program) (ops : Array Oper) (o : Oper) (a : Act) (w : World) (K : Act → World → Prop) (Q : Exit → Act → World → Prop) : Prop :=
  if Region.wanted o (yielded ops a.tmps) then o.wp P a w K Q ∨ (o.asks P a w ∧ LetsOut Q) else K (a.put o.dst undef) w
theorem guard_none {ops : Array Oper} (hg : o.guard = none) {K : Act → World → Prop} (h : o.wp P a w K Q) : Runs P ops o a w K Q := by
  unfold Runs
  rw [if_pos (by simp [Region.wanted, hg])]
  exact .inl h
theorem dst_lt (iv : Inv ty zb st a w) (h : dstok st o.dst = true) : ∀ d, o.dst = some d → d < a.tmps.size := by
  intro d hd
  rw [hd] at h
  rw [iv.size]
  exact Nat.le_of_ble_eq_true h
/-- A quiet step of a region. -/
theorem qcore_ok {Γ : Nat → TK} (C : ∀ t, TKok P t (Γ t)) {ren : List (Nat × Nat)} {cr : List (Nat × CR)} {ops : List Oper} {vc : List Prop} {v2 : SV} {os : Hp} (h : qcore Γ (Elt P ty) (Sound ty P) ren cr ops st o = some (vc, v2, os)) (iv : Inv ty zb st a w) (hv : ∀ q, q ∈ vc → q) :
    Runs P ops.toArray o a w (fun a' w' => Inv ty zb (St.put ⟨st.n, st.sl, os ++ st.hp⟩ o.dst v2) a' w') Q := by
  obtain ⟨env, g⟩ := iv.good
  have hBz := iv.kept.size
  simp only [qcore] at h
  split at h
  · rename_i m hd _ hgp
    have hdl := dst_lt iv hd
    have hg : o.guard = none := by
      cases hg : o.guard with
      | none => rfl
      | some e =>
        obtain ⟨j, x⟩ := e
        exfalso
        simp only [guardp, hg] at hgp
        repeat' split at hgp
        all_goals simp at hgp
    split at h
    · rename_i v1 v os hq
      split at h
      · rename_i hf hn
        simp only [Option.some.injEq, Prod.mk.injEq] at h
        obtain ⟨rfl, rfl, rfl⟩ := h
        refine guard_none hg (Oper.wp_mono ?_ (quiet_ok (Q := Q) C hq g (fun e he => by simp at he) hv hf hn))
        rintro a' w' ⟨u, env', rfl, hN, hr⟩
        have g' := g.grow hBz hf hN
        have hnm : ∀ d, o.dst = some d → v.mentions d = false := by
          intro d _
          cases v with
          | one x => rfl
          | tup l => rfl
          | cond p x =>
            exfalso
            have : ∀ (op : Op) (d m : Nat) (out : Out) (p : List (Nat × Bool)) (x : S1), quiet Γ (Elt P ty) (Sound ty P) cr st [] d m op = some out → out.v ≠ .cond p x := by
              intro op d m out p x hh
              unfold quiet at hh
              repeat' split at hh
              all_goals first
                | (cases hh; done)
                | (simp only [out1, Option.some.injEq] at hh; subst hh; intro e; cases e; done)
                | (simp only [Option.some.injEq] at hh; subst hh; unfold outs; (repeat' split) <;> (intro e; cases e))
            exact this _ _ _ _ p x hq rfl
        refine ⟨by rw [put_size, put_n]; exact iv.size, by rw [put_defers]; exact iv.defers, iv.kept.trans (kept_below hN.below hBz), env', put_good g' hdl hr hnm⟩
      · cases h
    · cases h
  · rename_i m e p hd _ hgp
    have hdl := dst_lt iv hd
    split at h
    · rename_i hne
      split at h
      · rename_i v1 v hq
        simp only [Option.some.injEq, Prod.mk.injEq] at h
        obtain ⟨rfl, rfl, rfl⟩ := h
        have hmn : ∀ d, o.dst = some d → (SV.cond (e :: p) v).mentions d = false := by
          intro d hdd
          show ((e :: p).any fun e => Nat.beq e.1 d) = false
          rw [List.any_eq_false] at hne ⊢
          intro x hx hb
          have := Nat.eq_of_beq_eq_true hb
          exact hne x hx (by rw [hdd, this]; simp)
        have fin : ∀ {u : Value} {w' : World}, Below w.heap.size w w' → News (ty := ty) w w' st.hp [] env env → RSV w' st.hp env a.tmps (.cond (e :: p) v) u → Inv ty zb (st.put o.dst (.cond (e :: p) v)) (a.put o.dst u) w' := by
          intro u w' hb hN hr
          have g' := g.grow (os := []) hBz rfl hN
          exact ⟨by rw [put_size, put_n]; exact iv.size, by rw [put_defers]; exact iv.defers, iv.kept.trans (kept_below hb hBz), env, put_good g' hdl hr hmn⟩
        -- the guard
        have key : ∃ j x q d, o.guard = some (j, x) ∧ ops[j]? = some q ∧ q.dst = some d ∧ (d, x) ∈ e :: p ∧ (a.tmps[d]? = some (.bool x) → holds a.tmps (e :: p)) := by
          unfold guardp at hgp
          split at hgp
          · simp at hgp
          · rename_i j x hg
            split at hgp
            · rename_i q hj
              split at hgp
              · rename_i d hdq
                split at hgp
                · rename_i b hl
                  simp only [Option.some.injEq] at hgp
                  refine ⟨j, x, q, d, hg, hj, hdq, by rw [← hgp]; simp, fun hh => ?_⟩
                  rw [← hgp]
                  intro y hy
                  simp at hy
                  subst hy
                  exact hh
                · rename_i p' b hl
                  simp only [Option.some.injEq] at hgp
                  refine ⟨j, x, q, d, hg, hj, hdq, by rw [← hgp]; simp, fun hh => ?_⟩
                  rw [← hgp]
                  intro y hy
                  rcases List.mem_cons.1 hy with rfl | hy
                  · exact hh
                  · exact (cond_bool g hl hh).1 y hy
                · cases hgp
              · cases hgp
            · cases hgp
        obtain ⟨j, x, q, d, hg, hj, hdq, hmem, hhold⟩ := key
        have hw := wanted_iff (ops := ops.toArray) hg (by simpa using hj) hdq a.tmps
        unfold Runs
        by_cases hb : a.tmps[d]? = some (.bool x)
        · rw [if_pos (hw.2 hb)]
          have hp := hhold hb
          left
          refine Oper.wp_mono ?_ (quiet_ok (Q := Q) C hq g hp (fun z hz => ?_) rfl rfl)
          · rintro a' w' ⟨u, env', rfl, hN, hr⟩
            have he : env' = env := funext fun n => hN.old n rfl
            subst he
            exact fin hN.below hN ⟨fun _ => hr, fun hh => absurd (fun y hy => hp y hy) hh⟩
          · exact imps_ok (hv _ (List.mem_map.2 ⟨z, hz, rfl⟩)) (hyps_ok g hp)
        · rw [if_neg (fun hh => hb (hw.1 hh))]
          exact fin (Below.refl _ _) (News.none (Below.refl _ _)) ⟨fun hh => absurd (hh (d, x) hmem) hb, fun _ => rfl⟩
      · cases h
    · cases h
  · cases h
theorem qstep_ok {Γ : Nat → TK} (C : ∀ t, TKok P t (Γ t)) {ren : List (Nat × Nat)} {cr : List (Nat × CR)} {ops : List Oper} {vc : List Prop} (h : qstep Γ (Elt P ty) (Sound ty P) ren cr ops st o = some (vc, st')) (iv : Inv ty zb st a w) (hv : ∀ q, q ∈ vc → q) :
    Runs P ops.toArray o a w (fun a' w' => Inv ty zb st' a' w') Q := by
  unfold qstep at h
  split at h
  · rename_i vc1 v os hq
    simp only [Option.some.injEq, Prod.mk.injEq] at h
    obtain ⟨rfl, rfl⟩ := h
    exact qcore_ok C hq iv hv
  · cases h
end
end Go.Proofs.Ythlflnplnajjiaa.G
