/-
  Calls that write slices that are lent to them.
-/
import Derived.Test.YthlflnplnajjiaaGB
namespace Go.Proofs.Ythlflnplnajjiaa.G
set_option linter.all false
open Go.RowKit L D
variable {ty : Tag → Nat}
def RF (w : World) : List V → List Value → List (List Nat) → Prop
  | [], [], fps => fps = []
  | v :: vs, u :: us, fps => ∃ f g, RI w v u f ∧ RF w vs us g ∧ fps = f :: g
  | _, _, _ => False
/-- Arguments, with the memory of each of their cells. -/
def ArgsF (w : World) : List S1 → List Value → List (List Nat) → Prop
  | [], [], fps => fps = []
  | .a v :: as, u :: us, fps => ∃ f g, RI w v u f ∧ ArgsF w as us g ∧ fps = f :: g
  | .agg l :: as, u :: us, fps => ∃ cs f g, u = .agg cs.toArray ∧ RF w l cs f ∧ ArgsF w as us g ∧ fps = f ++ g
  | _, _, _ => False
def SubF : List (List Nat) → List (List Nat) → Prop
  | [], [] => True
  | f :: r, g :: s => (∀ b, b ∈ f → b ∈ g) ∧ SubF r s
  | _, _ => False
/-- Whoever lends f slices that read as `as` gets them back reading as `as'`; the call returns v; nothing else is written. -/
def SoundM (P : Program) (f : FuncId) (as as' : List S1) (v : Value) : Prop :=
  (∀ (args : Array Value) (w : World), (callFunc f args).run P w = .ok (.enter f args) w) ∧
  ∀ w us fps, ArgsF w as us fps → Own 0 w fps.flatten → Calls P f us.toArray w fun e w' => ∃ fps', e = .returned v ∧ Kept ⟨w, fps.flatten, fun _ => ⟨v, []⟩⟩ w w' ∧ ArgsF w' as' us fps' ∧ Own 0 w' fps'.flatten ∧ SubF fps' fps
/-- Objects are others; nothing has gone into them. -/
def St.upd (st : St) (os : Hp) : St := ⟨st.n, st.sl.map fun e => (e.1, e.2.kills [] (os.map Prod.fst)), os ++ hkills [] (os.map Prod.fst) st.hp⟩
theorem look_keys {os : Hp} {n : Nat} : n ∈ os.map Prod.fst ↔ look os n ≠ none := by
  induction os with
  | nil => simp [look]
  | cons e r ih =>
    obtain ⟨j, x⟩ := e
    by_cases h : n = j
    · subst h; simp [look_eq]
    · rw [look_ne h, ← ih]; simp [h]
section
variable {P : Program} {zb : Base} {st st' : St} {a : Act} {w : World} {env : Env} {Q : Exit → Act → World → Prop} {o : Oper}
theorem good_upd (g : Good ty zb st a.tmps w env) {os : Hp} (hos : ∀ n o, look os n = some o → ∃ t l l', look st.hp n = some (.arr t l) ∧ o = .arr t l') {w' : World} {fpn : Nat → List Nat}
    (hsub : ∀ n o, look os n = some o → ∀ b, b ∈ fpn n → b ∈ (env n).fp) (hk : ∀ b, b < w.heap.size → (∀ n o, look os n = some o → b ∉ (env n).fp) → w'.heap[b]? = w.heap[b]?)
    (hro : ∀ n t l', look os n = some (.arr t l') → RArr ty w' n t l' ⟨(env n).v, fpn n⟩) :
    ∃ env', Good ty zb (st.upd os) a.tmps w' env' ∧ ∀ n, (env' n).v = (env n).v := by
  refine ⟨fun m => match look os m with | some _ => ⟨(env m).v, fpn m⟩ | none => env m, ?_, fun n => by dsimp only; split <;> rfl⟩
  have hlk : ∀ m o, look (os ++ hkills [] (os.map Prod.fst) st.hp) m = some o → (look os m = some o) ∨ (look os m = none ∧ ∃ o', look st.hp m = some o' ∧ o = o'.kills [] (os.map Prod.fst)) := by
    intro m o hm
    cases hq : look os m with
    | some x => rw [look_app_some hq] at hm; exact Or.inl hm
    | none =>
      rw [look_app_none hq, hkills_look, if_neg (by simp)] at hm
      cases hq2 : look st.hp m with
      | none => rw [hq2] at hm; cases hm
      | some o' => rw [hq2] at hm; simp only [Option.map_some, Option.some.injEq] at hm; exact Or.inr ⟨rfl, o', rfl, hm.symm⟩
  have hst : ∀ m o, look os m = none → look st.hp m = some o → ∀ b, b ∈ (env m).fp → w'.heap[b]? = w.heap[b]? := by
    intro m o hm h3 b hb
    refine hk b ((g.obj m o h3).blk b hb) fun n o' hn h => ?_
    obtain ⟨t, l, l', h4, _⟩ := hos n o' hn
    exact g.dis m n _ _ (fun e => by rw [e, hn] at hm; cases hm) h3 h4 b hb h
  have hfp : ∀ m o, look (os ++ hkills [] (os.map Prod.fst) st.hp) m = some o → ∀ b, b ∈ (match look os m with | some _ => (⟨(env m).v, fpn m⟩ : CO) | none => env m).fp → b ∈ (env m).fp ∧ ∃ o', look st.hp m = some o' := by
    intro m o hm b hb
    rcases hlk m o hm with h | ⟨h, o', h2, _⟩
    · rw [h] at hb
      obtain ⟨t, l, l', h4, _⟩ := hos m o h
      exact ⟨hsub m o h b hb, _, h4⟩
    · rw [h] at hb
      exact ⟨hb, o', h2⟩
  have s : Turn [] (os.map Prod.fst) w st.hp env w' (os ++ hkills [] (os.map Prod.fst) st.hp) (fun m => match look os m with | some _ => ⟨(env m).v, fpn m⟩ | none => env m) := by
    refine ⟨fun b hb hno => hk b hb fun n o hn h => ?_, ?_, ?_, ?_⟩
    · obtain ⟨t, l, l', h4, _⟩ := hos n o hn
      exact hno ⟨n, _, h4, h⟩
    · rintro b hb ⟨m, o', h1, h2⟩
      obtain ⟨h3, o2, h4⟩ := hfp m o' h1 b h2
      exact ⟨m, o2, h4, h3⟩
    · intro m o' _ h1
      cases hq : look os m with
      | some x =>
        obtain ⟨t, l, l', h4, rfl⟩ := hos m x hq
        rw [h4] at h1
        simp only [Option.some.injEq] at h1
        subst h1
        exact ⟨_, look_app_some hq, rfl, rfl⟩
      | none =>
        exact ⟨o'.kills [] (os.map Prod.fst), by rw [look_app_none hq, hkills_look, if_neg (by simp), h1]; rfl, by cases o' <;> simp [Obj.like, Obj.kills], rfl⟩
    · rintro m t' l2 ⟨_, hmn⟩ h1
      have hq : look os m = none := by
        cases hq : look os m with
        | none => rfl
        | some x => exact absurd (look_keys.2 (by rw [hq]; simp)) hmn
      exact ⟨by rw [look_app_none hq, hkills_look, if_neg (by simp), h1]; rfl, by simp [hq], hst m _ hq h1⟩
  refine g.turn s (fun m o' hm => ?_) (fun m m' o1 o2 hne h1 h2 b hb hb' => ?_) (fun m o' hm b hb => ?_) (fun m hm => ?_)
  · rcases hlk m o' hm with h | ⟨h, o'', h3, rfl⟩
    · obtain ⟨t, l, l', h4, rfl⟩ := hos m o' h
      simp only [h]
      exact hro m t l' h
    · simp only [h]
      exact (g.obj m o'' h3).turn s (hst m o'' h h3)
  · obtain ⟨h3, q1, h4⟩ := hfp m o1 h1 b hb
    obtain ⟨h5, q2, h6⟩ := hfp m' o2 h2 b hb'
    exact g.dis m m' _ _ hne h4 h6 b h3 h5
  · obtain ⟨h3, q1, h4⟩ := hfp m o' hm b hb
    exact g.dom m q1 h4 b h3
  · refine ⟨?_, fun b hb => ?_⟩
    · have := (g.pins m hm).1
      split <;> exact this
    · cases hq : look os m with
      | none => simp only [hq] at hb; exact (g.pins m hm).2 b hb
      | some x => simp only [hq] at hb; exact (g.pins m hm).2 b (hsub m x hq b hb)
/-- What was built, or lent, is so still behind a call that wrote it. -/
theorem rarr_after {n : Nat} {t : Tag} {l l' : List (T t)} {co : CO} {fp' : List Nat} {w' : World} {hp : Hp} (h : RO ty w hp env n (.arr t l) co) (hs : Shape w w') (h' : Sl (kk t) (rd t) w' co.v l' fp') (ho : Own 0 w' fp') (hsub : ∀ b, b ∈ fp' → b ∈ co.fp) :
    ∃ fp2, RArr ty w' n t l' ⟨co.v, fp2⟩ ∧ ∀ b, b ∈ fp2 → b ∈ co.fp := by
  unfold RArr
  cases hp : pin n with
  | true => exact ⟨fp', ⟨h', ho⟩, hsub⟩
  | false => exact bld_of (fine t) (RO.bld hp h) hs h' ho hsub
end
/-- A cell as it is lent. -/
def lend (st : St) (tg : Option Tag) : V → Option V
  | .own n => match look st.hp n with | some (.arr t l) => some (.sl t l) | _ => none
  | .lit (.slice none 0 0) => match tg with | some t => some (.sl t []) | none => none
  | .lit (.slice _ _ _) => none
  | .lit v => some (.lit v)
  | _ => none
def lends (st : St) : List (Option Tag) → List V → Option (List V)
  | _, [] => some []
  | tg, v :: r => match lend st (match tg with | t :: _ => t | [] => none) v, lends st (match tg with | _ :: ts => ts | [] => []) r with
    | some x, some y => some (x :: y)
    | _, _ => none
def lend1 (st : St) (k : TK) : S1 → Option S1
  | .a v => match lend st (match k with | .sl t _ => some t | _ => none) v with | some x => some (.a x) | none => none
  | .agg l => match lends st (match k with | .st _ tg _ => tg | _ => []) l with | some x => some (.agg x) | none => none
def lendArgs (Γ : Nat → TK) (st : St) : List Operand → List Nat → Option (List S1 × List S1)
  | [], _ => some ([], [])
  | x :: r, t => match opv st [] x with
    | some v => match lend1 st (match t with | t :: _ => Γ t | [] => .other) v, lendArgs Γ st r (match t with | _ :: ts => ts | [] => []) with
      | some y, some (vs, ys) => some (v :: vs, y :: ys)
      | _, _ => none
    | none => none
/-- What has become of lent cells. -/
def back (st : St) : List V → List V → Option Hp
  | [], [] => some []
  | .own n :: r, .sl t' l' :: s => match look st.hp n, back st r s with
    | some (.arr t _), some os => match castL t t' l' with | some l' => some ((n, .arr t l') :: os) | none => none
    | _, _ => none
  | .lit _ :: r, _ :: s => back st r s
  | _, _ => none
def eio (P : Program) (ty : Tag → Nat) (Γ : Nat → TK) (cr : List (Nat × CR)) (st : St) (d : Option Nat) : Op → Option (List Prop × St × SV)
  | .call ⟨.value (.func f), xs, ts⟩ => match lendArgs Γ st xs.toList ts.toList, look cr (d.getD 0 + 100000) with
    | some (vs, as), some ⟨_, .a (.lit v) :: as'⟩ => match back st (vs.flatMap cellsOf) (as'.flatMap cellsOf), v.oneCell' with
      | some os, true => match nodupk os with
        | true => some ([SoundM P f as as' v], st.upd os, .one (.a (.lit v)))
        | false => none
      | _, _ => none
    | _, _ => none
  | _ => none
/-- The same with a slice that lies in an object's element. -/
def litArgs (st : St) : List Operand → Option (List S1)
  | [] => some []
  | x :: r => match opv st [] x, litArgs st r with
    | some (.a (.lit (.slice _ _ _))), _ => none
    | some (.a (.lit v)), some ys => some (.a (.lit v) :: ys)
    | _, _ => none
def eiv (P : Program) (ty : Tag → Nat) (cr : List (Nat × CR)) (st : St) (d : Option Nat) : Op → Option (List Prop × St × SV)
  | .call ⟨.value (.func f), xs, _⟩ => match xs.toList with
    | x :: r => match opv st [] x, litArgs st r, look cr (d.getD 0 + 200000) with
      | some (.a (.vw n (some (i, off)) t l)), some ls, some ⟨_, .a (.lit v) :: .a (.sl t' l') :: ls'⟩ => match look st.hp n, castL t t' l', v.oneCell' with
        | some (.arr g l0), some l', true => match spl (dec g (l0.getD i (dfl g))) off [.sl t l'] with
          | some c => match enc g c with
            | some (vc, x') => some (SoundM P f (.a (.sl t l) :: ls) (.a (.sl t l') :: ls') v :: vc, st.upd [(n, .arr g (l0.set i x'))], .one (.a (.lit v)))
            | none => none
          | none => none
        | _, _, _ => none
      | _, _, _ => none
    | [] => none
  | _ => none
section
variable {P : Program} {zb : Base} {st st' : St} {a : Act} {w : World} {env : Env} {Q : Exit → Act → World → Prop} {o : Oper}
theorem RI.cells {v : V} {u : Value} {f : List Nat} (h : RI w v u f) : u.cells = #[u] := by
  cases v with
  | lit x => obtain ⟨rfl, h1, _⟩ := h; cases u <;> simp_all [Value.cells, Value.oneCell']
  | sl t l => obtain ⟨oa, cap, rfl, _⟩ := h; rfl
  | _ => exact h.elim
theorem RF.app {w : World} : ∀ {x y : List V} {us vs : List Value} {f g : List (List Nat)}, RF w x us f → RF w y vs g → RF w (x ++ y) (us ++ vs) (f ++ g)
  | [], _, [], _, _, _, h, k => by rw [show _ = _ from h]; exact k
  | _ :: _, _, _ :: _, _, _, _, ⟨f1, f2, h1, h2, e⟩, k => ⟨f1, f2 ++ _, h1, RF.app h2 k, by rw [e, List.cons_append]⟩
  | [], _, _ :: _, _, _, _, h, _ => h.elim
  | _ :: _, _, [], _, _, _, h, _ => h.elim
theorem argsF_flat {w : World} : ∀ {as : List S1} {us : List Value} {fps : List (List Nat)}, ArgsF w as us fps → RF w (as.flatMap cellsOf) (us.flatMap fun u => u.cells.toList) fps
  | [], [], _, h => h
  | .a v :: as, u :: us, _, ⟨f, g, h1, h2, e⟩ => by
    have := RF.app (x := [v]) (us := [u]) (f := [f]) ⟨f, [], h1, rfl, rfl⟩ (argsF_flat h2)
    rw [List.flatMap_cons, List.flatMap_cons, RI.cells h1, e]
    exact this
  | .agg l :: as, u :: us, _, ⟨cs, f, g, hu, h1, h2, e⟩ => by
    rw [List.flatMap_cons, List.flatMap_cons, hu, e]
    exact RF.app h1 (argsF_flat h2)
  | [], _ :: _, _, h => h.elim
  | .a _ :: _, [], _, h => h.elim
  | .agg _ :: _, [], _, h => h.elim
def fpOf (env : Env) : V → List Nat
  | .own n => (env n).fp
  | _ => []
theorem lend_ok (g : Good ty zb st a.tmps w env) {tg : Option Tag} {v x : V} {u : Value} (hr : RA w st.hp env v u) (h : lend st tg v = some x) : RI w x u (fpOf env v) := by
  cases v with
  | own n =>
    simp only [lend] at h
    split at h
    · rename_i t l hl
      simp only [Option.some.injEq] at h
      subst h
      obtain ⟨_, rfl⟩ := hr
      exact RO.sl (g.obj n _ hl)
    · cases h
  | lit v =>
    obtain ⟨rfl, h1⟩ := hr
    simp only [lend] at h
    split at h
    · rename_i heq; cases heq
    · rename_i heq
      simp only [V.lit.injEq] at heq
      subst heq
      split at h
      · simp only [Option.some.injEq] at h
        subst h
        exact ⟨none, 0, rfl, Nat.le_refl _, Nat.zero_le _, Or.inl ⟨rfl, rfl, fun _ => rfl⟩⟩
      · cases h
    · cases h
    · rename_i heq
      simp only [V.lit.injEq] at heq
      subst heq
      simp only [Option.some.injEq] at h
      subst h
      exact ⟨rfl, h1, rfl⟩
    · cases h
  | _ => simp [lend] at h
theorem lends_ok (g : Good ty zb st a.tmps w env) : ∀ {vs : List V} {tg : List (Option Tag)} {xs : List V} {us : List Value}, All2 (RA w st.hp env) vs us → lends st tg vs = some xs → RF w xs us (vs.map (fpOf env))
  | [], tg, xs, us, hr, h => by
    simp only [lends, Option.some.injEq] at h
    subst h
    cases us with
    | nil => rfl
    | cons _ _ => exact hr.elim
  | v :: r, tg, xs, us, hr, h => by
    cases us with
    | nil => exact hr.elim
    | cons u us =>
      simp only [lends] at h
      split at h
      · rename_i x y h1 h2
        simp only [Option.some.injEq] at h
        subst h
        exact ⟨_, _, lend_ok g hr.1 h1, lends_ok g hr.2 h2, rfl⟩
      · cases h
theorem lendArgs_ok {Γ : Nat → TK} (g : Good ty zb st a.tmps w env) : ∀ {xs : List Operand} {ts : List Nat} {vs as : List S1}, lendArgs Γ st xs ts = some (vs, as) →
    ArgsF w as (xs.map a.eval) ((vs.flatMap cellsOf).map (fpOf env)) ∧ All2 (RA w st.hp env) (vs.flatMap cellsOf) ((xs.map a.eval).flatMap fun u => u.cells.toList)
  | [], ts, vs, as, h => by
    simp only [lendArgs, Option.some.injEq, Prod.mk.injEq] at h
    obtain ⟨rfl, rfl⟩ := h
    exact ⟨rfl, trivial⟩
  | x :: r, ts, vs, as, h => by
    simp only [lendArgs] at h
    split at h
    · rename_i v hx
      split at h
      · rename_i y vs' ys h1 h2
        simp only [Option.some.injEq, Prod.mk.injEq] at h
        obtain ⟨rfl, rfl⟩ := h
        have hrs := opv_ok g (fun e he => by simp at he) hx
        obtain ⟨k1, k2⟩ := lendArgs_ok g h2
        cases v with
        | a v =>
          simp only [lend1] at h1
          split at h1
          · rename_i x' hl
            simp only [Option.some.injEq] at h1
            subst h1
            have hri := lend_ok g hrs hl
            refine ⟨⟨_, _, hri, k1, rfl⟩, ?_⟩
            rw [List.map_cons, List.flatMap_cons, List.flatMap_cons, RI.cells hri]
            exact ⟨hrs, k2⟩
          · cases h1
        | agg l =>
          simp only [lend1] at h1
          split at h1
          · rename_i x' hl
            simp only [Option.some.injEq] at h1
            subst h1
            obtain ⟨cs, hu, hl2⟩ := hrs
            refine ⟨⟨cs, _, _, hu, lends_ok g hl2 hl, k1, by rw [List.flatMap_cons, List.map_append]; rfl⟩, ?_⟩
            rw [List.map_cons, List.flatMap_cons, List.flatMap_cons, hu]
            exact All2.app hl2 k2
          · cases h1
      · cases h
    · cases h
theorem back_ok (g : Good ty zb st a.tmps w env) {w' : World} : ∀ {vs as : List V} {us : List Value} {fps : List (List Nat)} {os : Hp}, back st vs as = some os → All2 (RA w st.hp env) vs us → RF w' as us fps → SubF fps (vs.map (fpOf env)) → Own 0 w' fps.flatten → nodupk os = true →
    (∀ b, b ∈ (vs.map (fpOf env)).flatten → ∃ n o, look os n = some o ∧ b ∈ (env n).fp) ∧
    (∀ n o, look os n = some o → (∃ t l l' fp', look st.hp n = some (.arr t l) ∧ o = .arr t l' ∧ Sl (kk t) (rd t) w' (env n).v l' fp' ∧ Own 0 w' fp' ∧ ∀ b, b ∈ fp' → b ∈ (env n).fp) ∧ ∀ b, b ∈ (env n).fp → b ∈ (vs.map (fpOf env)).flatten) ∧
    ((vs.map (fpOf env)).flatten.Nodup)
  | [], [], us, fps, os, h, _, _, _, _, _ => by
    simp only [back, Option.some.injEq] at h
    subst h
    exact ⟨by simp, by simp [look], by simp⟩
  | .own n :: r, .sl t' l' :: s, us, fps, os, h, hr, hf, hsub, hown, hnd => by
    cases us with
    | nil => exact hr.elim
    | cons u us =>
      obtain ⟨f, fr, h1, h2, rfl⟩ := hf
      simp only [back] at h
      split at h
      · rename_i t l os' hl hb
        split at h
        · rename_i l2 hc
          simp only [Option.some.injEq] at h
          subst h
          obtain ⟨e, rfl⟩ := castL_ok hc
          subst e
          simp only [nodupk, Bool.and_eq_true] at hnd
          rw [List.flatten_cons] at hown
          obtain ⟨hn1, hn2, hn3⟩ := List.nodup_append.1 hown.nodup
          have o1 : Own 0 w' f := ⟨hn1, fun _ _ => Nat.zero_le _, fun b hb => hown.kind b (List.mem_append_left _ hb)⟩
          have o2 : Own 0 w' fr.flatten := ⟨hn2, fun _ _ => Nat.zero_le _, fun b hb => hown.kind b (List.mem_append_right _ hb)⟩
          obtain ⟨q1, q2, q3⟩ := back_ok g hb hr.2 h2 hsub.2 o2 hnd.2
          have hu : u = (env n).v := hr.1.2
          have hno : look os' n = none := by
            cases hq : look os' n with
            | none => rfl
            | some x => simp [hq] at hnd
          refine ⟨fun b hb => ?_, fun m o hm => ?_, ?_⟩
          · rw [List.map_cons, List.flatten_cons] at hb
            rcases List.mem_append.1 hb with hb | hb
            · exact ⟨n, _, look_eq, hb⟩
            · obtain ⟨m, o, h3, h4⟩ := q1 b hb
              have hmn : m ≠ n := by rintro rfl; rw [hno] at h3; cases h3
              exact ⟨m, o, by rw [look_ne hmn]; exact h3, h4⟩
          · by_cases hmn : m = n
            · subst hmn
              rw [look_eq] at hm
              simp only [Option.some.injEq] at hm
              exact ⟨⟨t', l, l', f, hl, hm.symm, by rw [← hu]; exact h1, o1, hsub.1⟩, fun b hb => by rw [List.map_cons, List.flatten_cons]; exact List.mem_append_left _ hb⟩
            · rw [look_ne hmn] at hm
              obtain ⟨h3, h4⟩ := q2 m o hm
              exact ⟨h3, fun b hb => by rw [List.map_cons, List.flatten_cons]; exact List.mem_append_right _ (h4 b hb)⟩
          · rw [List.map_cons, List.flatten_cons]
            refine List.nodup_append.2 ⟨(RO.own (g.obj n _ hl)).nodup, q3, ?_⟩
            rintro b hb c hc rfl
            obtain ⟨m, o, h3, h4⟩ := q1 b hc
            have hmn : n ≠ m := by rintro rfl; rw [hno] at h3; cases h3
            obtain ⟨⟨t2, l2, _, _, h5, _⟩, _⟩ := q2 m o h3
            exact g.dis n m _ _ hmn hl h5 b hb h4
        · cases h
      · cases h
  | .lit x :: r, y :: s, us, fps, os, h, hr, hf, hsub, hown, hnd => by
    cases us with
    | nil => exact hr.elim
    | cons u us =>
      obtain ⟨f, fr, h1, h2, rfl⟩ := hf
      simp only [back] at h
      rw [List.flatten_cons] at hown
      obtain ⟨_, hn2, _⟩ := List.nodup_append.1 hown.nodup
      obtain ⟨q1, q2, q3⟩ := back_ok g h hr.2 h2 hsub.2 ⟨hn2, fun _ _ => Nat.zero_le _, fun b hb => hown.kind b (List.mem_append_right _ hb)⟩ hnd
      exact ⟨q1, q2, q3⟩
  | .own _ :: _, .lit _ :: _, _, _, _, h, _, _, _, _, _ => by simp [back] at h
  | .own _ :: _, .any :: _, _, _, _, h, _, _, _, _, _ => by simp [back] at h
  | .own _ :: _, .own _ :: _, _, _, _, h, _, _, _, _, _ => by simp [back] at h
  | .own _ :: _, .ptr _ _ :: _, _, _, _, h, _, _, _, _, _ => by simp [back] at h
  | .own _ :: _, .eptr _ _ _ :: _, _, _, _, h, _, _, _, _, _ => by simp [back] at h
  | .own _ :: _, .ip _ _ _ :: _, _, _, _, h, _, _, _, _, _ => by simp [back] at h
  | .own _ :: _, .vw _ _ _ _ :: _, _, _, _, h, _, _, _, _, _ => by simp [back] at h
  | .own _ :: _, .vip _ _ _ _ :: _, _, _, _, h, _, _, _, _, _ => by simp [back] at h
  | .own _ :: _, [], _, _, _, h, _, _, _, _, _ => by simp [back] at h
  | .lit _ :: _, [], _, _, _, h, _, _, _, _, _ => by simp [back] at h
  | [], _ :: _, _, _, _, h, _, _, _, _, _ => by simp [back] at h
  | .any :: _, _, _, _, _, h, _, _, _, _, _ => by simp [back] at h
  | .sl _ _ :: _, _, _, _, _, h, _, _, _, _, _ => by simp [back] at h
  | .ptr _ _ :: _, _, _, _, _, h, _, _, _, _, _ => by simp [back] at h
  | .eptr _ _ _ :: _, _, _, _, _, h, _, _, _, _, _ => by simp [back] at h
  | .ip _ _ _ :: _, _, _, _, _, h, _, _, _, _, _ => by simp [back] at h
  | .vw _ _ _ _ :: _, _, _, _, _, h, _, _, _, _, _ => by simp [back] at h
  | .vip _ _ _ _ :: _, _, _, _, _, h, _, _, _, _, _ => by simp [back] at h
theorem back_own (g : Good ty zb st a.tmps w env) : ∀ {vs as : List V} {os : Hp}, back st vs as = some os → nodupk os = true →
    Own 0 w (vs.map (fpOf env)).flatten ∧ (∀ b, b ∈ (vs.map (fpOf env)).flatten → ∃ n o o', look os n = some o ∧ look st.hp n = some o' ∧ b ∈ (env n).fp)
  | [], [], os, h, _ => ⟨Own.nil _ _, by simp⟩
  | .own n :: r, .sl t' l' :: s, os, h, hnd => by
    simp only [back] at h
    split at h
    · rename_i t l os' hl hb
      split at h
      · rename_i l2 hc
        simp only [Option.some.injEq] at h
        subst h
        simp only [nodupk, Bool.and_eq_true] at hnd
        obtain ⟨q1, q2⟩ := back_own g hb hnd.2
        have hno : look os' n = none := by
          cases hq : look os' n with
          | none => rfl
          | some x => simp [hq] at hnd
        have ho := RO.own (g.obj n _ hl)
        rw [List.map_cons, List.flatten_cons]
        refine ⟨⟨List.nodup_append.2 ⟨ho.nodup, q1.nodup, ?_⟩, fun _ _ => Nat.zero_le _, fun b hb => ?_⟩, fun b hb => ?_⟩
        · rintro b hb c hc' rfl
          obtain ⟨m, o, o', h3, h5, h4⟩ := q2 b hc'
          have hmn : n ≠ m := by rintro rfl; rw [hno] at h3; cases h3
          exact g.dis n m _ _ hmn hl h5 b hb h4
        · rcases List.mem_append.1 hb with hb | hb
          · exact ho.kind b hb
          · exact q1.kind b hb
        · rcases List.mem_append.1 hb with hb | hb
          · exact ⟨n, _, _, look_eq, hl, hb⟩
          · obtain ⟨m, o, o', h3, h5, h4⟩ := q2 b hb
            have hmn : m ≠ n := by rintro rfl; rw [hno] at h3; cases h3
            exact ⟨m, o, o', by rw [look_ne hmn]; exact h3, h5, h4⟩
      · cases h
    · cases h
  | .lit x :: r, y :: s, os, h, hnd => by
    simp only [back] at h
    have q := back_own g h hnd
    exact q
  | .own _ :: _, .lit _ :: _, _, h, _ => by simp [back] at h
  | .own _ :: _, .any :: _, _, h, _ => by simp [back] at h
  | .own _ :: _, .own _ :: _, _, h, _ => by simp [back] at h
  | .own _ :: _, .ptr _ _ :: _, _, h, _ => by simp [back] at h
  | .own _ :: _, .eptr _ _ _ :: _, _, h, _ => by simp [back] at h
  | .own _ :: _, .ip _ _ _ :: _, _, h, _ => by simp [back] at h
  | .own _ :: _, .vw _ _ _ _ :: _, _, h, _ => by simp [back] at h
  | .own _ :: _, .vip _ _ _ _ :: _, _, h, _ => by simp [back] at h
  | .own _ :: _, [], _, h, _ => by simp [back] at h
  | .lit _ :: _, [], _, h, _ => by simp [back] at h
  | [], _ :: _, _, h, _ => by simp [back] at h
  | .any :: _, _, _, h, _ => by simp [back] at h
  | .sl _ _ :: _, _, _, h, _ => by simp [back] at h
  | .ptr _ _ :: _, _, _, h, _ => by simp [back] at h
  | .eptr _ _ _ :: _, _, _, h, _ => by simp [back] at h
  | .ip _ _ _ :: _, _, _, h, _ => by simp [back] at h
  | .vw _ _ _ _ :: _, _, _, h, _ => by simp [back] at h
  | .vip _ _ _ _ :: _, _, _, h, _ => by simp [back] at h
theorem Kept.lent {L : List Nat} {pv : Nat → CO} {w' : World} (h : Kept ⟨w, L, pv⟩ w w') (hB : zb.w.heap.size ≤ w.heap.size) (hL : ∀ b, b ∈ L → b ∈ zb.L ∨ zb.w.heap.size ≤ b) : Kept zb w w' :=
  ⟨h.os, h.tape, h.output, h.size, fun b hb hn => h.block b (Nat.lt_of_lt_of_le hb hB) fun hm => (hL b hm).elim hn fun h => by omega, h.shape⟩
theorem run_callf {f : FuncId} {xs : Array Operand} {ts : Array TypeId} (ho : o.op = .call ⟨.value (.func f), xs, ts⟩) (hS : ∀ (args : Array Value) (w : World), (callFunc f args).run P w = .ok (.enter f args) w) :
    (execOp a.eval o).run P w = .ok (.enter f (xs.toList.map a.eval).toArray) w := by
  have hx : xs.map a.eval = (xs.toList.map a.eval).toArray := by rw [← List.map_toArray]
  rw [← hx]
  have h0 : a.eval (.func f) = .func (.func f) #[] #[] := rfl
  unfold execOp
  simp [ho, resolve, invoke, Deferred.ofValue, h0, hS]
theorem eio_ok {Γ : Nat → TK} {cr : List (Nat × CR)} {vc : List Prop} {v : SV} {d : Option Nat} (h : eio P ty Γ cr st d o.op = some (vc, st', v)) (g : Good ty zb st a.tmps w env) (hB : zb.w.heap.size ≤ w.heap.size) (hv : ∀ q, q ∈ vc → q) :
    o.wp P a w (fun a' w' => ∃ u env', a' = a.put o.dst u ∧ Kept zb w w' ∧ Good ty zb st' a.tmps w' env' ∧ st'.n = st.n ∧ RSV w' st'.hp env' a.tmps v u) Q := by
  generalize hoo : o.op = op at h
  unfold eio at h
  split at h
  · rename_i f xs ts
    split at h
    · rename_i vs as own v0 as' hl hcr
      split at h
      · rename_i os hb h1
        split at h
        · rename_i hnd
          simp only [Option.some.injEq, Prod.mk.injEq] at h
          obtain ⟨rfl, rfl, rfl⟩ := h
          obtain ⟨hS1, hS2⟩ : SoundM P f as as' v0 := hv _ (by simp)
          obtain ⟨q1, q2⟩ := lendArgs_ok g hl
          obtain ⟨q3, q4⟩ := back_own g hb hnd
          unfold Oper.wp
          rw [run_callf hoo hS1]
          simp only [Oper.upon]
          refine (hS2 w _ _ q1 q3).mono ?_
          rintro e w' ⟨fps', rfl, hk, ha, hown, hsub⟩
          obtain ⟨r1, r2, _⟩ := back_ok g hb q2 (argsF_flat ha) hsub hown hnd
          have hfp : ∀ n, ∃ fp2, ∀ t l', look os n = some (.arr t l') → RArr ty w' n t l' ⟨(env n).v, fp2⟩ ∧ ∀ b, b ∈ fp2 → b ∈ (env n).fp := by
            intro n
            cases hq : look os n with
            | none => exact ⟨[], fun _ _ h => by cases h⟩
            | some o' =>
              obtain ⟨⟨t, l, l', fp', h3, rfl, h5, h6, h7⟩, _⟩ := r2 n o' hq
              obtain ⟨fp2, k1, k2⟩ := rarr_after (hp := st.hp) (g.obj n _ h3) hk.shape h5 h6 h7
              refine ⟨fp2, fun t2 l2 h => ?_⟩
              simp only [Option.some.injEq, Obj.arr.injEq] at h
              obtain ⟨rfl, h⟩ := h
              cases h
              exact ⟨k1, k2⟩
          obtain ⟨env', hg', hv'⟩ := good_upd g (os := os) (w' := w') (fpn := fun n => Classical.choose (hfp n))
            (fun n o' hn => by
              obtain ⟨⟨t, l, l', fp', h3, h4, _⟩, _⟩ := r2 n o' hn
              exact ⟨t, l, l', h3, h4⟩)
            (fun n o' hn b hb' => by
              obtain ⟨⟨t, l, l', fp', h3, rfl, _⟩, _⟩ := r2 n o' hn
              exact (Classical.choose_spec (hfp n) t l' hn).2 b hb')
            (fun b hlt hno => hk.block b hlt fun hm => by
              obtain ⟨n, o', h3, h4⟩ := r1 b hm
              exact hno n o' h3 h4)
            (fun n t l' hn => (Classical.choose_spec (hfp n) t l' hn).1)
          refine ⟨v0, env', rfl, hk.lent hB fun b hm => ?_, hg', rfl, rfl, h1⟩
          obtain ⟨n, o1, o2, h3, h4, h5⟩ := q4 b hm
          exact g.dom n o2 h4 b h5
        · cases h
      · cases h
    · cases h
  · cases h
theorem litArgs_ok (g : Good ty zb st a.tmps w env) : ∀ {xs : List Operand} {as : List S1}, litArgs st xs = some as → ArgsF w as (xs.map a.eval) (as.map fun _ => [])
  | [], as, h => by
    simp only [litArgs, Option.some.injEq] at h
    subst h; rfl
  | x :: r, as, h => by
    simp only [litArgs] at h
    split at h
    · cases h
    · rename_i v ys hne hx h2
      simp only [Option.some.injEq] at h
      subst h
      obtain ⟨h3, h4⟩ := opv_ok g (fun e he => by simp at he) hx
      exact ⟨[], _, ⟨h3, h4, rfl⟩, litArgs_ok g h2, rfl⟩
    · cases h
theorem eiv_ok {Γ : Nat → TK} {cr : List (Nat × CR)} {vc : List Prop} {v : SV} {d : Option Nat} (h : eiv P ty cr st d o.op = some (vc, st', v)) (g : Good ty zb st a.tmps w env) (hB : zb.w.heap.size ≤ w.heap.size) (hv : ∀ q, q ∈ vc → q) :
    o.wp P a w (fun a' w' => ∃ u env', a' = a.put o.dst u ∧ Kept zb w w' ∧ Good ty zb st' a.tmps w' env' ∧ st'.n = st.n ∧ RSV w' st'.hp env' a.tmps v u) Q := by
  generalize hoo : o.op = op at h
  unfold eiv at h
  split at h
  · rename_i f xs ts
    split at h
    · rename_i x r hxs
      split at h
      · rename_i n i off t l ls own v0 t' l' ls' hx hls hcr
        split at h
        · rename_i gt l0 l2 hl hc hv0
          split at h
          · rename_i c hs
            split at h
            · rename_i vc1 x' he
              simp only [Option.some.injEq, Prod.mk.injEq] at h
              obtain ⟨rfl, rfl, rfl⟩ := h
              obtain ⟨hS1, hS2⟩ : SoundM P f (.a (.sl t l) :: ls) (.a (.sl t l2) :: ls') v0 := hv _ (by simp)
              obtain ⟨_, _, hprov⟩ := opv_ok g (fun e he => by simp at he) hx
              obtain ⟨t1, l1, b2, o2, len1, cap1, hl1, hi, helt, hev, hbm, hcell⟩ := hprov i off rfl
              rw [hl] at hl1
              simp only [Option.some.injEq, Obj.arr.injEq] at hl1
              obtain ⟨rfl, hl1⟩ := hl1
              cases hl1
              have hro := g.obj n _ hl
              obtain ⟨oa, cap, hsv, hc1, hc2, h3⟩ := RO.sl hro
              have hown := RO.own hro
              rcases h3 with ⟨rfl, _⟩ | ⟨b, o1, fps, hoa, hb2, hfp, hE⟩
              · simp at hi
              rw [hsv, hoa] at hev
              simp only [Value.slice.injEq, Option.some.injEq, Addr.mk.injEq, and_true] at hev
              obtain ⟨⟨rfl, rfl⟩, rfl, rfl⟩ := hev
              have hxi : l0[i]? = some (l0.getD i (dfl gt)) := by rw [List.getD_eq_getElem?_getD, List.getElem?_eq_getElem hi]; rfl
              obtain ⟨fe, hf⟩ := fps_some hE.1 hxi
              obtain ⟨cs, hra, hEi⟩ := hE.2 _ _ fe hxi hf
              rw [hfp] at hown
              have hnd2 := List.nodup_cons.1 hown.nodup
              have hR := reads gt hEi
              -- the view's own cell
              obtain ⟨f1, f', hfe, k1, k2⟩ := RIs.split off hR
              have hdl : ∃ r', (dec gt (l0.getD i (dfl gt))).drop off = .sl t l :: r' := by
                rw [elt_get] at helt
                have hlt := (List.getElem?_eq_some_iff.1 helt).1
                rw [List.drop_eq_getElem_cons hlt]
                have := (List.getElem?_eq_some_iff.1 helt).2
                rw [this]
                exact ⟨_, rfl⟩
              obtain ⟨r', hdl⟩ := hdl
              rw [hdl] at k2
              have hcsd : ∃ u us, cs.drop off = u :: us := by
                cases hq : cs.drop off with
                | nil => rw [hq] at k2; exact k2.elim
                | cons u us => exact ⟨u, us, rfl⟩
              obtain ⟨u, us, hcsd⟩ := hcsd
              rw [hcsd] at k2
              obtain ⟨fv, f3, hri, hrest, hf'⟩ := k2
              have huc : cs[off]? = some u := by
                have := congrArg (fun l => l[0]?) hcsd
                simpa using this
              have hue : a.eval x = u := by
                have := hra off u huc
                rw [hcell] at this
                simpa using this
              have hsubv : ∀ y, y ∈ fv → y ∈ fe := fun y hy => by rw [hfe, hf']; simp [hy]
              have hfen := (List.pairwise_flatten.1 hnd2.2).1 fe (List.mem_of_getElem? hf)
              rw [hfe, hf'] at hfen
              obtain ⟨n1, n2, n3⟩ := List.nodup_append.1 hfen
              obtain ⟨n4, n5, n6⟩ := List.nodup_append.1 n2
              have hflat : ((fv :: ls.map fun _ => ([] : List Nat))).flatten = fv := by
                rw [List.flatten_cons]
                have : (ls.map fun _ => ([] : List Nat)).flatten = [] := by simp
                rw [this, List.append_nil]
              have hownv : Own 0 w fv := ⟨n4, fun _ _ => Nat.zero_le _, fun y hy => hown.kind y (List.mem_cons_of_mem _ (mem_fps hf (hsubv y hy)))⟩
              unfold Oper.wp
              rw [run_callf hoo hS1]
              simp only [Oper.upon]
              rw [hxs, List.map_cons]
              have hargs : ArgsF w (.a (.sl t l) :: ls) (a.eval x :: r.map a.eval) (fv :: ls.map fun _ => []) := ⟨fv, _, by rw [hue]; exact hri, litArgs_ok g hls, rfl⟩
              refine (hS2 w _ (fv :: ls.map fun _ => []) hargs (by rw [hflat]; exact hownv)).mono ?_
              rintro e w' ⟨fps', rfl, hk, ⟨fv', fr, hri', _, rfl⟩, hown', hsub⟩
              rw [hflat] at hk
              rw [List.flatten_cons] at hown'
              obtain ⟨m1, _, _⟩ := List.nodup_append.1 hown'.nodup
              have hownv' : Own 0 w' fv' := ⟨m1, fun _ _ => Nat.zero_le _, fun y hy => hown'.kind y (List.mem_append_left _ hy)⟩
              have hsubv' : ∀ y, y ∈ fv' → y ∈ fv := hsub.1
              have hkeep : ∀ y, y < w.heap.size → y ∉ fv → w'.heap[y]? = w.heap[y]? := fun y hy hn => hk.block y hy hn
              have hbf : ∀ y, y ∈ fps.flatten → y ≠ b := fun y hy e => hnd2.1 (e ▸ hy)
              have hflt : ∀ y, y ∈ fps.flatten → y < w.heap.size := fun y hy => hown.lt y (List.mem_cons_of_mem _ hy)
              have hkb : w'.heap[b]? = w.heap[b]? := hkeep b hb2 fun hm => hnd2.1 (mem_fps hf (hsubv b hm))
              have hrg : ∀ {o : Nat} {cs : List Value}, w.rangeAt b o cs → w'.rangeAt b o cs := by
                intro o cs hr j v hv
                rw [World.cell?_of_block (w := w) (a := ⟨b, _, none⟩) hkb]; exact hr j v hv
              -- the element, read again
              have ag1 : Agree w w' f1 := fun y hy => hkeep y (hflt y (mem_fps hf (by rw [hfe]; simp [hy]))) fun hm => n3 y hy y (by simp [hm]) rfl
              have ag3 : Agree w w' f3 := fun y hy => hkeep y (hflt y (mem_fps hf (by rw [hfe, hf']; simp [hy]))) fun hm => n6 y hm y hy rfl
              have ris_ag : ∀ {c : List V} {us : List Value} {f : List Nat}, RIs w c us f → Agree w w' f → RIs w' c us f := by
                intro c
                induction c with
                | nil => intro us f h _; cases us with
                  | nil => exact h
                  | cons _ _ => exact h.elim
                | cons v r ih =>
                  intro us f h ha
                  cases us with
                  | nil => exact h.elim
                  | cons u us =>
                    obtain ⟨f1, f2, h1, h2, rfl⟩ := h
                    refine ⟨f1, f2, ?_, ih h2 (ha.sub fun y hy => List.mem_append_right _ hy), rfl⟩
                    cases v with
                    | lit x => exact h1
                    | sl t l => exact Sl.agree (fine t) h1 (ha.sub fun y hy => List.mem_append_left _ hy)
                    | _ => exact h1.elim
              have hc' : c = (dec gt (l0.getD i (dfl gt))).take off ++ ([.sl t l2] ++ r') := by
                unfold spl at hs
                split at hs
                · simp only [Option.some.injEq] at hs
                  rw [← hs]
                  congr 2
                  have : (dec gt (l0.getD i (dfl gt))).drop (off + [V.sl t l2].length) = ((dec gt (l0.getD i (dfl gt))).drop off).drop 1 := by rw [List.drop_drop]; rfl
                  rw [this, hdl]; rfl
                · cases hs
              have hcs' : cs = cs.take off ++ ([u] ++ us) := by
                have := (List.take_append_drop off cs).symm
                rw [hcsd] at this
                exact this
              have hrd : RIs w' c cs (f1 ++ (fv' ++ f3)) := by
                rw [hc', hcs']
                refine RIs.app3 (ris_ag k1 ag1) (y := [.sl t l2]) (vs := [u]) ?_ (ris_ag hrest ag3)
                rw [hue] at hri'
                exact ⟨fv', [], hri', rfl, by simp⟩
              have hEn := enc_ok gt he (fun q hq => hv q (by simp [hq])) hrd
              have hsubf : ∀ y, y ∈ f1 ++ (fv' ++ f3) → y ∈ fe := by
                intro y hy
                rw [hfe, hf']
                simp only [List.mem_append] at hy ⊢
                rcases hy with hy | hy | hy
                · exact Or.inl hy
                · exact Or.inr (Or.inl (hsubv' y hy))
                · exact Or.inr (Or.inr hy)
              have hEl' := elems_put (fine gt) (w' := w') hE (i := i) (x' := x') (f' := f1 ++ (fv' ++ f3)) (hrg hra) hEn (fun j cs' _ _ hr => hrg hr)
                (fun j f' hj hf' y hy => hkeep y (hflt y (mem_fps hf' hy)) fun hm => fps_apart hnd2.2 hf' hf hj y hy (hsubv y hm))
              have hmem : ∀ y, y ∈ (fps.set i (f1 ++ (fv' ++ f3))).flatten → y ∈ fps.flatten := by
                intro y hy
                rcases fps_set_mem hy with h | ⟨j, f', _, hj, h⟩
                · exact mem_fps hf (hsubf y h)
                · exact mem_fps hj h
              have hO' : Own 0 w' (b :: (fps.set i (f1 ++ (fv' ++ f3))).flatten) := by
                refine ⟨List.nodup_cons.2 ⟨fun hm => hnd2.1 (hmem b hm), fps_set_nodup hnd2.2 ?_ fun j f' hj hf' y hy hy' => fps_apart hnd2.2 hf' hf hj y hy (hsubf y hy')⟩, fun _ _ => Nat.zero_le _, fun y hy => ?_⟩
                · refine List.nodup_append.2 ⟨n1, List.nodup_append.2 ⟨m1, n5, fun y hy z hz e => n6 y (hsubv' y hy) z hz e⟩, fun y hy z hz e => ?_⟩
                  rcases List.mem_append.1 hz with hz | hz
                  · exact n3 y hy z (by simp [hsubv' z hz]) e
                  · exact n3 y hy z (by simp [hz]) e
                · obtain ⟨cb, eb, hblk⟩ := hown.kind y (by
                    rcases List.mem_cons.1 hy with rfl | hy
                    · simp
                    · exact List.mem_cons_of_mem _ (hmem y hy))
                  obtain ⟨cb', h5, _⟩ := hk.shape y cb eb hblk
                  exact ⟨_, _, h5⟩
              have hSl' : Sl (kk gt) (rd gt) w' (env n).v (l0.set i x') (b :: (fps.set i (f1 ++ (fv' ++ f3))).flatten) := by
                refine ⟨some ⟨b, o1, none⟩, cap, by rw [hsv, hoa, List.length_set], by rw [List.length_set]; exact hc1, hc2, Or.inr ⟨b, o1, _, rfl, Nat.lt_of_lt_of_le hb2 hk.size, rfl, hEl'⟩⟩
              obtain ⟨fp2, w1, w2⟩ := rarr_after (hp := st.hp) hro hk.shape hSl' hO' (fun y hy => by
                rw [hfp]
                rcases List.mem_cons.1 hy with rfl | hy
                · simp
                · exact List.mem_cons_of_mem _ (hmem y hy))
              have hlk : ∀ m o', look [(n, Obj.arr gt (l0.set i x'))] m = some o' → m = n ∧ o' = .arr gt (l0.set i x') := by
                intro m o' hm
                by_cases hmn : m = n
                · subst hmn; rw [look_eq] at hm; simp only [Option.some.injEq] at hm; exact ⟨rfl, hm.symm⟩
                · rw [look_ne hmn] at hm; cases hm
              obtain ⟨env', hg', hv'⟩ := good_upd g (os := [(n, .arr gt (l0.set i x'))]) (w' := w') (fpn := fun _ => fp2)
                (fun m o' hm => by obtain ⟨rfl, rfl⟩ := hlk m o' hm; exact ⟨_, _, _, hl, rfl⟩)
                (fun m o' hm y hy => by obtain ⟨rfl, _⟩ := hlk m o' hm; exact w2 y hy)
                (fun y hlt hno => hkeep y hlt fun hm => hno n _ look_eq (by rw [hfp]; exact List.mem_cons_of_mem _ (mem_fps hf (hsubv y hm))))
                (fun m t2 l3 hm => by
                  obtain ⟨rfl, h5⟩ := hlk m _ hm
                  simp only [Obj.arr.injEq] at h5
                  obtain ⟨rfl, h5⟩ := h5
                  cases h5
                  exact w1)
              refine ⟨v0, env', rfl, hk.lent hB fun y hm => ?_, hg', rfl, rfl, hv0⟩
              exact g.dom n _ hl y (by rw [hfp]; exact List.mem_cons_of_mem _ (mem_fps hf (hsubv y hm)))
            · cases h
          · cases h
        · cases h
      · cases h
    · cases h
  · cases h
end
end Go.Proofs.Ythlflnplnajjiaa.G
