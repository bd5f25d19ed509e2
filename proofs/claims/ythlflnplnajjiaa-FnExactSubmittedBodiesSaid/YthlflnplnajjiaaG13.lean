/-
  A function's contract out of a walk through its body.
-/
import Derived.Test.YthlflnplnajjiaaG12
namespace Go.Proofs.Ythlflnplnajjiaa.G
set_option linter.all false
open Go.RowKit L D
variable {ty : Tag → Nat}
theorem RI.ra {w : World} {env : Env} {v : V} {u : Value} {fp : List Nat} (h : RI w v u fp) : RA w [] env v u := by
  have hno : ∀ b, ¬ Ow [] env b := by rintro b ⟨n, o, hl, _⟩; simp [look] at hl
  cases v with
  | lit x => exact ⟨h.1, h.2.1⟩
  | sl t l => exact ⟨fp, h, fun b _ => hno b⟩
  | _ => exact h.elim
theorem Arg1.rs1 {w : World} {env : Env} {x : S1} {u : Value} (h : Arg1 w x u) : RS1 w [] env x u := by
  cases x with
  | a v => obtain ⟨fp, h⟩ := h; exact h.ra
  | agg l =>
    obtain ⟨cs, fp, rfl, h⟩ := h
    exact ⟨cs, rfl, h.all2 fun b _ => by rintro ⟨n, o, hl, _⟩; simp [look] at hl⟩
theorem enter_look : ∀ {as : List S1} {i s : Nat} {v : SV}, look (enter i as) s = some v → ∃ x, v = .one x ∧ i ≤ s ∧ as[s - i]? = some x
  | x :: r, i, s, v, h => by
    by_cases hs : s = i
    · subst hs
      rw [enter, look_eq] at h
      simp only [Option.some.injEq] at h
      exact ⟨x, h.symm, Nat.le_refl _, by simp⟩
    · rw [enter, look_ne hs] at h
      obtain ⟨y, h1, h2, h3⟩ := enter_look h
      refine ⟨y, h1, by omega, ?_⟩
      rw [show s - i = (s - (i + 1)) + 1 by omega, List.getElem?_cons_succ]; exact h3
theorem entry {as : List S1} {us : List Value} {w : World} {n : Nat} (ha : All2 (Arg1 w) as us) (hn : as.length ≤ n) :
    Inv ty ⟨w, [], fun _ => ⟨.tuple #[], []⟩⟩ ⟨n, enter 0 as, []⟩ { tmps := us.toArray ++ Array.replicate (n - us.toArray.size) undef, defers := [] } w := by
  have hl := ha.len
  refine ⟨by simp; omega, rfl, Kept.refl _ _, fun _ => ⟨.tuple #[], []⟩, ⟨fun n o h => by simp [look] at h, fun n m o o' _ h => by simp [look] at h, fun s v hv => ?_, fun n o h => by simp [look] at h, fun n _ => ⟨rfl, fun b hb => hb⟩⟩⟩
  obtain ⟨x, rfl, _, hx⟩ := enter_look hv
  rw [Nat.sub_zero] at hx
  obtain ⟨u, hu, hr⟩ := ha.at hx
  have hs : s < us.length := (List.getElem?_eq_some_iff.1 hu).1
  have : (us.toArray ++ Array.replicate (n - us.toArray.size) undef).getD s undef = u := by
    rw [Array.getD_eq_getD_getElem?, Array.getElem?_append_left (by simpa using hs)]
    simp [hu]
  show RS1 w [] _ x _
  rw [this]
  exact hr.rs1
theorem Sound.of {P : Program} {Γ : Nat → TK} (X : Ctx P ty Γ) {f : FuncId} {fn : Func} {c : Code} {rvs : List ResultVar} {n : Nat} {as rs : List S1}
    (hcall : ∀ (args : Array Value) (w : World), (callFunc f args).run P w = .ok (.enter f args) w) (hf : P.funcs[f]? = some fn) (hb : fn.body = some c) (hr : fn.results = rvs.toArray) (hl : rvs.length ≤ 4) (hn : fn.ntmps = n) (hlen : as.length ≤ n)
    (h : ∀ zb, W P ty zb c (Fin Γ rvs rs) ⟨n, enter 0 as, []⟩) : Sound ty P f as rs := by
  refine ⟨hcall, fun w us ha => calls_of_wp hf hb ?_⟩
  rw [hn]
  refine wp_mono (h _ _ w (entry ha hlen)) ?_
  rintro e a w' ⟨st, iv, he, vc, hends, hv⟩
  have key : a.defers = [] ∧ ∃ v, (results fn a.tmps).run P w' = .ok v w' ∧ Ret ty w rs (.returned v) w' := by
    obtain ⟨env, g⟩ := iv.good
    unfold ends at hends
    split at hends
    · rename_i xs hx
      split at hends
      · rename_i vc1 k hm
        split at hends
        · rename_i hnd
          simp only [Option.some.injEq] at hends
          subst hends
          obtain ⟨vs, h1, h2, h3⟩ := retvs_ok X.kind g hr hx hl
          obtain ⟨fp, q1, q2, _⟩ := meets_ok rfl g h1 hm (nodupn_ok hnd) hv.out
          have hbel : Below w.heap.size w w' := ⟨iv.kept.os, iv.kept.tape, iv.kept.output, iv.kept.size, fun b hb => iv.kept.block b hb (by simp)⟩
          refine ⟨iv.defers, _, h3, _, fp, rfl, hbel, q2, ?_⟩
          match rs, vs, q1 with
          | [], [], q1 => exact ⟨[], rfl, q1⟩
          | [r], [u], ⟨f1, f2, p1, p2, e⟩ =>
            have p2 : f2 = [] := p2
            rw [p2, List.append_nil] at e
            rw [e]; exact p1
          | r1 :: r2 :: r, u1 :: u2 :: u, q1 => exact ⟨_, rfl, q1⟩
          | [], _ :: _, q1 => exact q1.elim
          | _ :: _, [], q1 => exact q1.elim
          | [r], u1 :: u2 :: u, ⟨_, _, _, p, _⟩ => exact p.elim
          | r1 :: r2 :: r, [u], ⟨_, _, _, p, _⟩ => exact p.elim
        · cases hends
      · cases hends
    · cases hends
  rcases he with rfl | rfl <;> exact key
/-! ### Calls that write what is lent to them -/
/-- The lent slices become objects, named from m on. -/
def lentV (m : Nat) : List V → List V × Hp
  | [] => ([], [])
  | .sl t l :: r => match lentV (m + 1) r with | (vs, os) => (.own m :: vs, (m, .arr t l) :: os)
  | v :: r => match lentV (m + 1) r with | (vs, os) => (v :: vs, os)
def lentS (m : Nat) : List S1 → List S1 × Hp
  | [] => ([], [])
  | .a v :: r => match lentV m [v], lentS (m + 1) r with
    | ([v'], os), (as, os') => (.a v' :: as, os ++ os')
    | _, (as, os') => (.a .any :: as, os')
  | .agg l :: r => match lentV m l, lentS (m + l.length) r with
    | (l', os), (as, os') => (.agg l' :: as, os ++ os')
/-- What has become of them. -/
def metV (st : St) (m : Nat) : List V → List V → Option (List Prop)
  | [], [] => some []
  | .sl _ _ :: r, .sl t' l' :: s => match look st.hp m, metV st (m + 1) r s with
    | some (.arr t l2), some vc => match castL t' t l2 with | some l2 => some ((l2 = l') :: vc) | none => none
    | _, _ => none
  | .lit v :: r, .lit v' :: s => match metV st (m + 1) r s with | some vc => some ((v = v') :: vc) | none => none
  | _, _ => none
def metS (st : St) (m : Nat) : List S1 → List S1 → Option (List Prop)
  | [], [] => some []
  | .a v :: r, .a v' :: s => match metV st m [v] [v'], metS st (m + 1) r s with | some x, some y => some (x ++ y) | _, _ => none
  | .agg l :: r, .agg l' :: s => match metV st m l l', metS st (m + l.length) r s with | some x, some y => some (x ++ y) | _, _ => none
  | _, _ => none
def endsM (Γ : Nat → TK) (st : St) (rv : ResultVar) (as as' : List S1) (v : Value) : Option (List Prop) :=
  match retv Γ st rv, metS st 1000 as as' with
  | some (.a (.lit v')), some vc => some ((v' = v) :: vc)
  | _, _ => none
def FinM (Γ : Nat → TK) (rv : ResultVar) (as as' : List S1) (v : Value) : Post := fun e st => (e = .ret ∨ e = .normal) ∧ ∃ vc, endsM Γ st rv as as' v = some vc ∧ AllP vc
theorem FinM.ret {Γ : Nat → TK} {rv : ResultVar} {as as' : List S1} {v : Value} {st : St} {vc : List Prop} (h : endsM Γ st rv as as' v = some vc) (hv : AllP vc) : FinM Γ rv as as' v .ret st := ⟨.inl rfl, vc, h, hv⟩
/-- Where the lent objects lie. -/
def seats (m : Nat) : List Value → List (List Nat) → List (Nat × CO)
  | u :: us, f :: fs => (m, ⟨u, f⟩) :: seats (m + 1) us fs
  | _, _ => []
theorem seats_ge : ∀ {us : List Value} {fs : List (List Nat)} {m n : Nat} {c : CO}, look (seats m us fs) n = some c → m ≤ n ∧ us[n - m]? = some c.v ∧ fs[n - m]? = some c.fp
  | u :: us, f :: fs, m, n, c, h => by
    by_cases hn : n = m
    · subst hn
      rw [seats, look_eq] at h
      simp only [Option.some.injEq] at h
      subst h
      simp
    · rw [seats, look_ne hn] at h
      obtain ⟨h1, h2, h3⟩ := seats_ge h
      refine ⟨by omega, ?_, ?_⟩
      · rw [show n - m = (n - (m + 1)) + 1 by omega, List.getElem?_cons_succ]; exact h2
      · rw [show n - m = (n - (m + 1)) + 1 by omega, List.getElem?_cons_succ]; exact h3
  | [], _, _, _, _, h => by simp [seats, look] at h
  | _ :: _, [], _, _, _, h => by simp [seats, look] at h
theorem seats_at : ∀ {us : List Value} {fs : List (List Nat)} {m i : Nat} {u : Value} {f : List Nat}, us[i]? = some u → fs[i]? = some f → look (seats m us fs) (m + i) = some ⟨u, f⟩
  | u :: us, f :: fs, m, 0, u', f', h1, h2 => by
    simp at h1 h2
    subst h1; subst h2
    rw [seats]; exact look_eq
  | u :: us, f :: fs, m, i + 1, u', f', h1, h2 => by
    rw [seats, look_ne (by omega), show m + (i + 1) = (m + 1) + i by omega]
    exact seats_at (by simpa using h1) (by simpa using h2)
  | [], _, _, _, _, _, h1, _ => by simp at h1
  | _ :: _, [], _, _, _, _, _, h2 => by simp at h2
/-- A lent cell, as the callee has it. -/
theorem lentV_ok {w : World} : ∀ {vs : List V} {us : List Value} {fps : List (List Nat)} (m : Nat), RF w vs us fps → (∀ n o, look (lentV m vs).2 n = some o → ∃ t l u f, o = .arr t l ∧ m ≤ n ∧ n < m + vs.length ∧ us[n - m]? = some u ∧ fps[n - m]? = some f ∧ vs[n - m]? = some (.sl t l) ∧ Sl (kk t) (rd t) w u l f) ∧
    ∀ hp env, (∀ n o, look (lentV m vs).2 n = some o → look hp n = some o) → (∀ i u f, us[i]? = some u → fps[i]? = some f → env (m + i) = ⟨u, f⟩) → All2 (RA w hp env) (lentV m vs).1 us
  | [], [], _, m, h => ⟨fun n o hl => by simp [lentV, look] at hl, fun _ _ _ _ => trivial⟩
  | v :: vs, u :: us, fps, m, ⟨f, fr, h1, h2, e⟩ => by
    subst e
    obtain ⟨q1, q2⟩ := lentV_ok (m + 1) h2
    have up : ∀ n o, (∃ t l u' f', o = Obj.arr t l ∧ m + 1 ≤ n ∧ n < m + 1 + vs.length ∧ us[n - (m + 1)]? = some u' ∧ fr[n - (m + 1)]? = some f' ∧ vs[n - (m + 1)]? = some (.sl t l) ∧ Sl (kk t) (rd t) w u' l f') →
        ∃ t l u' f', o = Obj.arr t l ∧ m ≤ n ∧ n < m + (v :: vs).length ∧ (u :: us)[n - m]? = some u' ∧ (f :: fr)[n - m]? = some f' ∧ (v :: vs)[n - m]? = some (.sl t l) ∧ Sl (kk t) (rd t) w u' l f' := by
      rintro n o ⟨t, l, u', f', k1, k2, k3, k4, k5, k6, k7⟩
      have e : n - m = (n - (m + 1)) + 1 := by omega
      exact ⟨t, l, u', f', k1, by omega, by simp; omega, by rw [e]; simpa using k4, by rw [e]; simpa using k5, by rw [e]; simpa using k6, k7⟩
    cases v with
    | sl t l =>
      refine ⟨fun n o hl => ?_, fun hp env hh he => ⟨?_, q2 hp env (fun n o hl => hh n o ?_) (fun i u' f' hu hf => ?_)⟩⟩
      · by_cases hn : n = m
        · subst hn
          simp only [lentV] at hl
          rw [look_eq] at hl
          simp only [Option.some.injEq] at hl
          exact ⟨t, l, u, f, hl.symm, Nat.le_refl _, by simp, by simp, by simp, by simp, h1⟩
        · simp only [lentV] at hl
          rw [look_ne hn] at hl
          exact up n o (q1 n o hl)
      · refine ⟨⟨t, l, hh m _ ?_⟩, ?_⟩
        · simp only [lentV]; exact look_eq
        · have := he 0 u f (by simp) (by simp)
          rw [Nat.add_zero] at this
          rw [this]
      · have hge := (q1 n o hl)
        obtain ⟨_, _, _, _, _, hge, _⟩ := hge
        simp only [lentV]
        rw [look_ne (by omega)]; exact hl
      · have := he (i + 1) u' f' (by simpa using hu) (by simpa using hf)
        rwa [show m + (i + 1) = m + 1 + i by omega] at this
    | lit x =>
      refine ⟨fun n o hl => up n o (q1 n o hl), fun hp env hh he => ⟨⟨h1.1, h1.2.1⟩, q2 hp env hh (fun i u' f' hu hf => ?_)⟩⟩
      have := he (i + 1) u' f' (by simpa using hu) (by simpa using hf)
      rwa [show m + (i + 1) = m + 1 + i by omega] at this
    | _ => exact h1.elim
  | [], _ :: _, _, _, h => h.elim
  | _ :: _, [], _, _, h => h.elim
theorem RF.len {w : World} : ∀ {vs : List V} {us : List Value} {fps : List (List Nat)}, RF w vs us fps → us.length = vs.length ∧ fps.length = vs.length
  | [], [], _, h => by rw [show _ = _ from h]; exact ⟨rfl, rfl⟩
  | _ :: _, _ :: _, _, ⟨_, _, _, h, e⟩ => by obtain ⟨h1, h2⟩ := RF.len h; rw [e]; exact ⟨by simp [h1], by simp [h2]⟩
  | [], _ :: _, _, h => h.elim
  | _ :: _, [], _, h => h.elim
theorem lentV_len : ∀ {vs : List V} (m : Nat), (lentV m vs).1.length = vs.length
  | [], _ => rfl
  | v :: r, m => by
    have := lentV_len (vs := r) (m + 1)
    cases v <;> simp [lentV, this]
theorem lentS_ok {w : World} : ∀ {as : List S1} {us : List Value} {fps : List (List Nat)} (m : Nat), ArgsF w as us fps →
    (∀ n o, look (lentS m as).2 n = some o → ∃ t l u f, o = .arr t l ∧ m ≤ n ∧ (us.flatMap fun u => u.cells.toList)[n - m]? = some u ∧ fps[n - m]? = some f ∧ Sl (kk t) (rd t) w u l f) ∧
    ∀ hp env, (∀ n o, look (lentS m as).2 n = some o → look hp n = some o) → (∀ i u f, (us.flatMap fun u => u.cells.toList)[i]? = some u → fps[i]? = some f → env (m + i) = ⟨u, f⟩) → All2 (RS1 w hp env) (lentS m as).1 us
  | [], [], fps, m, h => ⟨fun n o hl => by simp [lentS, look] at hl, fun _ _ _ _ => trivial⟩
  | .a v :: as, u :: us, fps, m, ⟨f, g, h1, h2, e⟩ => by
    subst e
    have hc : u.cells.toList = [u] := by rw [h1.cells]
    obtain ⟨p1, p2⟩ := lentV_ok m (show RF w [v] [u] [f] from ⟨f, [], h1, rfl, rfl⟩)
    obtain ⟨q1, q2⟩ := lentS_ok (m + 1) h2
    have hl1 := lentV_len (vs := [v]) m
    rw [List.flatMap_cons, hc]
    simp only [lentS]
    generalize lentV m [v] = x at p1 p2 hl1 ⊢
    obtain ⟨xs, os⟩ := x
    match xs, hl1 with
    | [v'], _ =>
      have up : ∀ n o, look (lentS (m + 1) as).2 n = some o → look os n = none := by
        intro n o hl
        cases hq : look os n with
        | none => rfl
        | some o' =>
          obtain ⟨_, _, _, _, _, k1, _⟩ := q1 n o hl
          obtain ⟨_, _, _, _, _, _, k2, _⟩ := p1 n o' hq
          simp at k2; omega
      refine ⟨fun n o hl => ?_, fun hp env hh he => ⟨?_, q2 hp env (fun n o hl => hh n o (by
          show look (os ++ (lentS (m + 1) as).2) n = some o
          rw [look_app_none (up n o hl)]; exact hl)) fun i u' f' hu hf => ?_⟩⟩
      · have hl : look (os ++ (lentS (m + 1) as).2) n = some o := hl
        cases hq : look os n with
        | some o' =>
          rw [look_app_some hq] at hl
          simp only [Option.some.injEq] at hl
          subst hl
          obtain ⟨t, l, u', f', k1, k2, k3, k4, k5, k6, k7⟩ := p1 n _ hq
          have h0 : n - m = 0 := by simp at k3; omega
          rw [h0] at k4 k5 ⊢
          simp at k4 k5
          subst k4; subst k5
          exact ⟨t, l, u, f, k1, k2, by simp, by simp, k7⟩
        | none =>
          rw [look_app_none hq] at hl
          obtain ⟨t, l, u', f', k1, k2, k3, k4, k5⟩ := q1 n o hl
          have e : n - m = (n - (m + 1)) + 1 := by omega
          exact ⟨t, l, u', f', k1, by omega, by rw [e]; simpa using k3, by rw [e]; simpa using k4, k5⟩
      · have := p2 hp env (fun n o hl => hh n o (look_app_some hl)) (fun i u' f' hu hf => by
          match i with
          | 0 => exact he 0 u' f' (by simpa using hu) (by simpa using hf)
          | i + 1 => simp at hu)
        exact this.1
      · have := he (i + 1) u' f' (by simpa using hu) (by simpa using hf)
        rwa [show m + (i + 1) = m + 1 + i by omega] at this
  | .agg l :: as, u :: us, fps, m, ⟨cs, f, g, e1, h1, h2, e⟩ => by
    subst e; subst e1
    have hc : (Value.agg cs.toArray).cells.toList = cs := by simp [Value.cells]
    obtain ⟨p1, p2⟩ := lentV_ok m h1
    obtain ⟨q1, q2⟩ := lentS_ok (m + l.length) h2
    obtain ⟨n1, n2⟩ := RF.len h1
    rw [List.flatMap_cons, hc]
    have up : ∀ n o, look (lentS (m + l.length) as).2 n = some o → look (lentV m l).2 n = none := by
      intro n o hl
      cases hq : look (lentV m l).2 n with
      | none => rfl
      | some o' =>
        obtain ⟨_, _, _, _, _, k1, _⟩ := q1 n o hl
        obtain ⟨_, _, _, _, _, _, k2, _⟩ := p1 n o' hq
        omega
    refine ⟨fun n o hl => ?_, fun hp env hh he => ⟨⟨cs, rfl, ?_⟩, q2 hp env (fun n o hl => hh n o (by
        show look ((lentV m l).2 ++ (lentS (m + l.length) as).2) n = some o
        rw [look_app_none (up n o hl)]; exact hl)) fun i u' f' hu hf => ?_⟩⟩
    · have hl : look ((lentV m l).2 ++ (lentS (m + l.length) as).2) n = some o := hl
      cases hq : look (lentV m l).2 n with
      | some o' =>
        rw [look_app_some hq] at hl
        simp only [Option.some.injEq] at hl
        subst hl
        obtain ⟨t, l', u', f', k1, k2, k3, k4, k5, k6, k7⟩ := p1 n _ hq
        exact ⟨t, l', u', f', k1, k2, by rw [List.getElem?_append_left (by omega)]; exact k4, by rw [List.getElem?_append_left (by omega)]; exact k5, k7⟩
      | none =>
        rw [look_app_none hq] at hl
        obtain ⟨t, l', u', f', k1, k2, k3, k4, k5⟩ := q1 n o hl
        have e : n - m - l.length = n - (m + l.length) := by omega
        exact ⟨t, l', u', f', k1, by omega, by rw [List.getElem?_append_right (by omega), n1, e]; exact k3, by rw [List.getElem?_append_right (by omega), n2, e]; exact k4, k5⟩
    · exact p2 hp env (fun n o hl => hh n o (look_app_some hl)) (fun i u' f' hu hf => he i u' f'
        (by rw [List.getElem?_append_left (List.getElem?_eq_some_iff.1 hu).1]; exact hu)
        (by rw [List.getElem?_append_left (List.getElem?_eq_some_iff.1 hf).1]; exact hf))
    · have := he (l.length + i) u' f' (by rw [List.getElem?_append_right (by omega), n1, show l.length + i - l.length = i by omega]; exact hu)
        (by rw [List.getElem?_append_right (by omega), n2, show l.length + i - l.length = i by omega]; exact hf)
      rwa [show m + (l.length + i) = m + l.length + i by omega] at this
  | [], _ :: _, _, _, h => h.elim
  | .a _ :: _, [], _, _, h => h.elim
  | .agg _ :: _, [], _, _, h => h.elim
theorem SubF.nodup : ∀ {fs gs : List (List Nat)}, SubF fs gs → gs.flatten.Nodup → (∀ f, f ∈ fs → f.Nodup) → fs.flatten.Nodup ∧ ∀ b, b ∈ fs.flatten → b ∈ gs.flatten
  | [], [], _, _, _ => ⟨by simp, by simp⟩
  | f :: fs, g :: gs, ⟨h1, h2⟩, hn, hf => by
    rw [List.flatten_cons] at hn
    obtain ⟨_, n2, n3⟩ := List.nodup_append.1 hn
    obtain ⟨q1, q2⟩ := SubF.nodup h2 n2 (fun f hm => hf f (List.mem_cons_of_mem _ hm))
    refine ⟨?_, fun b hb => ?_⟩
    · rw [List.flatten_cons]
      exact List.nodup_append.2 ⟨hf f (by simp), q1, fun b hb c hc e => n3 b (h1 b hb) c (q2 c hc) e⟩
    · rw [List.flatten_cons] at hb ⊢
      rcases List.mem_append.1 hb with hb | hb
      · exact List.mem_append_left _ (h1 b hb)
      · exact List.mem_append_right _ (q2 b hb)
  | [], _ :: _, h, _, _ => h.elim
  | _ :: _, [], h, _, _ => h.elim
theorem SubF.app : ∀ {a b c d : List (List Nat)}, SubF a b → SubF c d → SubF (a ++ c) (b ++ d)
  | [], [], _, _, _, h => h
  | _ :: _, _ :: _, _, _, ⟨h1, h2⟩, h => ⟨h1, SubF.app h2 h⟩
  | [], _ :: _, _, _, h, _ => h.elim
  | _ :: _, [], _, _, h, _ => h.elim
section
variable {zb : Base} {st : St} {tmps : Array Value} {w0 w : World} {env : Env}
theorem metV_ok (g : Good ty zb st tmps w env) : ∀ {vs vs' : List V} {us : List Value} {fps : List (List Nat)} {vc : List Prop} (m : Nat), pin m = true → metV st m vs vs' = some vc → (∀ q, q ∈ vc → q) → RF w0 vs us fps →
    (∀ i u f, us[i]? = some u → fps[i]? = some f → zb.pv (m + i) = ⟨u, f⟩) → ∃ fps', RF w vs' us fps' ∧ SubF fps' fps ∧ ∀ f, f ∈ fps' → Own 0 w f
  | [], [], [], fps, vc, m, _, _, _, h, _ => ⟨[], rfl, by rw [show fps = [] from h]; trivial, by simp⟩
  | .sl t l :: r, .sl t' l' :: s, u :: us, fps, vc, m, hm, hh, hv, ⟨f, fr, h1, h2, e⟩, hz => by
    subst e
    simp only [metV] at hh
    split at hh
    · rename_i t2 l2 vcs hl hr
      split at hh
      · rename_i l3 hc
        simp only [Option.some.injEq] at hh
        subst hh
        obtain ⟨e, rfl⟩ := castL_ok hc
        subst e
        have e2 : l2 = l' := hv _ (by simp)
        subst e2
        obtain ⟨fps', q1, q2, q3⟩ := metV_ok g (m + 1) (by unfold pin at hm ⊢; exact Nat.ble_eq_true_of_le (Nat.le_succ_of_le (Nat.le_of_ble_eq_true hm))) hr (fun q hq => hv q (List.mem_cons_of_mem _ hq)) h2 (fun i u' f' hu hf => by
          have := hz (i + 1) u' f' (by simpa using hu) (by simpa using hf)
          rwa [show m + (i + 1) = m + 1 + i by omega] at this)
        have hp := hz 0 u f (by simp) (by simp)
        rw [Nat.add_zero] at hp
        obtain ⟨k1, k2⟩ := g.pins m hm
        rw [hp] at k1 k2
        have hro := g.obj m _ hl
        refine ⟨(env m).fp :: fps', ⟨_, _, ?_, q1, rfl⟩, ⟨k2, q2⟩, ?_⟩
        · have := RO.sl hro
          rw [k1] at this
          exact this
        · intro f' hf'
          rcases List.mem_cons.1 hf' with rfl | hf'
          · exact RO.own hro
          · exact q3 f' hf'
      · cases hh
    · cases hh
  | .lit x :: r, .lit x' :: s, u :: us, fps, vc, m, hm, hh, hv, ⟨f, fr, h1, h2, e⟩, hz => by
    subst e
    simp only [metV] at hh
    split at hh
    · rename_i vcs hr
      simp only [Option.some.injEq] at hh
      subst hh
      have e2 : x = x' := hv _ (by simp)
      subst e2
      obtain ⟨fps', q1, q2, q3⟩ := metV_ok g (m + 1) (by unfold pin at hm ⊢; exact Nat.ble_eq_true_of_le (Nat.le_succ_of_le (Nat.le_of_ble_eq_true hm))) hr (fun q hq => hv q (List.mem_cons_of_mem _ hq)) h2 (fun i u' f' hu hf => by
        have := hz (i + 1) u' f' (by simpa using hu) (by simpa using hf)
        rwa [show m + (i + 1) = m + 1 + i by omega] at this)
      refine ⟨[] :: fps', ⟨_, _, ⟨h1.1, h1.2.1, rfl⟩, q1, rfl⟩, ⟨by simp, q2⟩, ?_⟩
      intro f' hf'
      rcases List.mem_cons.1 hf' with rfl | hf'
      · exact Own.nil _ _
      · exact q3 f' hf'
    · cases hh
  | [], _ :: _, _, _, _, _, _, hh, _, _, _ => by simp [metV] at hh
  | .sl _ _ :: _, [], _, _, _, _, _, hh, _, _, _ => by simp [metV] at hh
  | .sl _ _ :: _, .lit _ :: _, _, _, _, _, _, hh, _, _, _ => by simp [metV] at hh
  | .sl _ _ :: _, .any :: _, _, _, _, _, _, hh, _, _, _ => by simp [metV] at hh
  | .sl _ _ :: _, .own _ :: _, _, _, _, _, _, hh, _, _, _ => by simp [metV] at hh
  | .sl _ _ :: _, .ptr _ _ :: _, _, _, _, _, _, hh, _, _, _ => by simp [metV] at hh
  | .sl _ _ :: _, .eptr _ _ _ :: _, _, _, _, _, _, hh, _, _, _ => by simp [metV] at hh
  | .sl _ _ :: _, .ip _ _ _ :: _, _, _, _, _, _, hh, _, _, _ => by simp [metV] at hh
  | .sl _ _ :: _, .vw _ _ _ _ :: _, _, _, _, _, _, hh, _, _, _ => by simp [metV] at hh
  | .sl _ _ :: _, .vip _ _ _ _ :: _, _, _, _, _, _, hh, _, _, _ => by simp [metV] at hh
  | .lit _ :: _, [], _, _, _, _, _, hh, _, _, _ => by simp [metV] at hh
  | .lit _ :: _, .sl _ _ :: _, _, _, _, _, _, hh, _, _, _ => by simp [metV] at hh
  | .lit _ :: _, .any :: _, _, _, _, _, _, hh, _, _, _ => by simp [metV] at hh
  | .lit _ :: _, .own _ :: _, _, _, _, _, _, hh, _, _, _ => by simp [metV] at hh
  | .lit _ :: _, .ptr _ _ :: _, _, _, _, _, _, hh, _, _, _ => by simp [metV] at hh
  | .lit _ :: _, .eptr _ _ _ :: _, _, _, _, _, _, hh, _, _, _ => by simp [metV] at hh
  | .lit _ :: _, .ip _ _ _ :: _, _, _, _, _, _, hh, _, _, _ => by simp [metV] at hh
  | .lit _ :: _, .vw _ _ _ _ :: _, _, _, _, _, _, hh, _, _, _ => by simp [metV] at hh
  | .lit _ :: _, .vip _ _ _ _ :: _, _, _, _, _, _, hh, _, _, _ => by simp [metV] at hh
  | .any :: _, _, _, _, _, _, _, hh, _, _, _ => by simp [metV] at hh
  | .own _ :: _, _, _, _, _, _, _, hh, _, _, _ => by simp [metV] at hh
  | .ptr _ _ :: _, _, _, _, _, _, _, hh, _, _, _ => by simp [metV] at hh
  | .eptr _ _ _ :: _, _, _, _, _, _, _, hh, _, _, _ => by simp [metV] at hh
  | .ip _ _ _ :: _, _, _, _, _, _, _, hh, _, _, _ => by simp [metV] at hh
  | .vw _ _ _ _ :: _, _, _, _, _, _, _, hh, _, _, _ => by simp [metV] at hh
  | .vip _ _ _ _ :: _, _, _, _, _, _, _, hh, _, _, _ => by simp [metV] at hh
  | _ :: _, _, [], _, _, _, _, _, _, h, _ => h.elim
  | [], [], _ :: _, _, _, _, _, _, _, h, _ => h.elim
theorem RF.one {w : World} {v : V} {u : Value} {fps : List (List Nat)} (h : RF w [v] [u] fps) : ∃ f, RI w v u f ∧ fps = [f] := by
  obtain ⟨f, g, h1, h2, h3⟩ := h
  exact ⟨f, h1, by rw [h3, show g = [] from h2]⟩
theorem metS_ok (g : Good ty zb st tmps w env) : ∀ {as as' : List S1} {us : List Value} {fps : List (List Nat)} {vc : List Prop} (m : Nat), pin m = true → metS st m as as' = some vc → (∀ q, q ∈ vc → q) → ArgsF w0 as us fps →
    (∀ i u f, (us.flatMap fun u => u.cells.toList)[i]? = some u → fps[i]? = some f → zb.pv (m + i) = ⟨u, f⟩) → ∃ fps', ArgsF w as' us fps' ∧ SubF fps' fps ∧ ∀ f, f ∈ fps' → Own 0 w f
  | [], [], [], fps, vc, m, _, _, _, h, _ => ⟨[], rfl, by rw [show fps = [] from h]; trivial, by simp⟩
  | .a v :: r, .a v' :: s, u :: us, fps, vc, m, hm, hh, hv, ⟨f, fr, h1, h2, e⟩, hz => by
    subst e
    have hc : u.cells.toList = [u] := by rw [h1.cells]
    rw [List.flatMap_cons, hc] at hz
    simp only [metS] at hh
    split at hh
    · rename_i x y hx hy
      simp only [Option.some.injEq] at hh
      subst hh
      obtain ⟨f1, p1, p2, p3⟩ := metV_ok g m hm hx (fun q hq => hv q (List.mem_append_left _ hq)) (show RF w0 [v] [u] [f] from ⟨f, [], h1, rfl, rfl⟩) (fun i u' f' hu hf => by
        match i with
        | 0 => exact hz 0 u' f' (by simpa using hu) (by simpa using hf)
        | i + 1 => simp at hu)
      obtain ⟨f2, rfl⟩ : ∃ f2, f1 = [f2] := by obtain ⟨f2, _, h⟩ := RF.one p1; exact ⟨f2, h⟩
      obtain ⟨f3, p4, p5⟩ := RF.one p1
      simp only [List.cons.injEq, and_true] at p5
      subst p5
      obtain ⟨fps', q1, q2, q3⟩ := metS_ok g (m + 1) (by unfold pin at hm ⊢; exact Nat.ble_eq_true_of_le (Nat.le_succ_of_le (Nat.le_of_ble_eq_true hm))) hy (fun q hq => hv q (List.mem_append_right _ hq)) h2 (fun i u' f' hu hf => by
        have := hz (i + 1) u' f' (by simpa using hu) (by simpa using hf)
        rwa [show m + (i + 1) = m + 1 + i by omega] at this)
      refine ⟨f2 :: fps', ⟨_, _, p4, q1, rfl⟩, ⟨p2.1, q2⟩, ?_⟩
      intro f' hf'
      rcases List.mem_cons.1 hf' with rfl | hf'
      · exact p3 _ (by simp)
      · exact q3 f' hf'
    · cases hh
  | .agg l :: r, .agg l' :: s, u :: us, fps, vc, m, hm, hh, hv, ⟨cs, f, fr, e1, h1, h2, e⟩, hz => by
    subst e; subst e1
    have hc : (Value.agg cs.toArray).cells.toList = cs := by simp [Value.cells]
    obtain ⟨n1, n2⟩ := RF.len h1
    rw [List.flatMap_cons, hc] at hz
    simp only [metS] at hh
    split at hh
    · rename_i x y hx hy
      simp only [Option.some.injEq] at hh
      subst hh
      obtain ⟨f1, p1, p2, p3⟩ := metV_ok g m hm hx (fun q hq => hv q (List.mem_append_left _ hq)) h1 (fun i u' f' hu hf => hz i u' f'
        (by rw [List.getElem?_append_left (List.getElem?_eq_some_iff.1 hu).1]; exact hu)
        (by rw [List.getElem?_append_left (List.getElem?_eq_some_iff.1 hf).1]; exact hf))
      obtain ⟨fps', q1, q2, q3⟩ := metS_ok g (m + l.length) (by unfold pin at hm ⊢; exact Nat.ble_eq_true_of_le (Nat.le_trans (Nat.le_of_ble_eq_true hm) (Nat.le_add_right _ _))) hy (fun q hq => hv q (List.mem_append_right _ hq)) h2 (fun i u' f' hu hf => by
        have := hz (l.length + i) u' f' (by rw [List.getElem?_append_right (by omega), n1, show l.length + i - l.length = i by omega]; exact hu)
          (by rw [List.getElem?_append_right (by omega), n2, show l.length + i - l.length = i by omega]; exact hf)
        rwa [show m + (l.length + i) = m + l.length + i by omega] at this)
      refine ⟨f1 ++ fps', ⟨cs, f1, fps', rfl, p1, q1, rfl⟩, SubF.app p2 q2, ?_⟩
      intro f' hf'
      rcases List.mem_append.1 hf' with hf' | hf'
      · exact p3 _ hf'
      · exact q3 f' hf'
    · cases hh
  | [], _ :: _, _, _, _, _, _, hh, _, _, _ => by simp [metS] at hh
  | .a _ :: _, [], _, _, _, _, _, hh, _, _, _ => by simp [metS] at hh
  | .agg _ :: _, [], _, _, _, _, _, hh, _, _, _ => by simp [metS] at hh
  | .a _ :: _, .agg _ :: _, _, _, _, _, _, hh, _, _, _ => by simp [metS] at hh
  | .agg _ :: _, .a _ :: _, _, _, _, _, _, hh, _, _, _ => by simp [metS] at hh
  | .a _ :: _, _, [], _, _, _, _, _, _, h, _ => h.elim
  | .agg _ :: _, _, [], _, _, _, _, _, _, h, _ => h.elim
  | [], [], _ :: _, _, _, _, _, _, _, h, _ => h.elim
end
theorem lentS_len : ∀ {as : List S1} (m : Nat), (lentS m as).1.length = as.length
  | [], _ => rfl
  | .a v :: r, m => by
    have := lentS_len (as := r) (m + 1)
    have h2 := lentV_len (vs := [v]) m
    simp only [lentS]
    generalize lentV m [v] = x at h2 ⊢
    obtain ⟨xs, os⟩ := x
    match xs, h2 with
    | [v'], _ => simp [this]
  | .agg l :: r, m => by
    have := lentS_len (as := r) (m + l.length)
    simp [lentS, this]
theorem fps_ne {fps : List (List Nat)} (h : fps.flatten.Nodup) {i j : Nat} {f f' : List Nat} (hi : fps[i]? = some f) (hj : fps[j]? = some f') (hne : i ≠ j) : ∀ b, b ∈ f → b ∉ f' := by
  induction fps generalizing i j with
  | nil => simp at hi
  | cons g r ih =>
    rw [List.flatten_cons] at h
    obtain ⟨_, n2, n3⟩ := List.nodup_append.1 h
    intro b hb hb'
    cases i with
    | zero =>
      cases j with
      | zero => exact hne rfl
      | succ j =>
        simp at hi hj
        subst hi
        exact n3 b hb b (List.mem_flatten.2 ⟨f', List.mem_of_getElem? hj, hb'⟩) rfl
    | succ i =>
      cases j with
      | zero =>
        simp at hi hj
        subst hj
        exact n3 b hb' b (List.mem_flatten.2 ⟨f, List.mem_of_getElem? hi, hb⟩) rfl
      | succ j => exact ih n2 (by simpa using hi) (by simpa using hj) (by omega) b hb hb'
def pvOf (us : List Value) (fps : List (List Nat)) : Nat → CO := fun n => match look (seats 1000 (us.flatMap fun u => u.cells.toList) fps) n with | some c => c | none => ⟨.tuple #[], []⟩
theorem entryM {as : List S1} {us : List Value} {fps : List (List Nat)} {w : World} {n : Nat} (ha : ArgsF w as us fps) (ho : Own 0 w fps.flatten) (hn : as.length ≤ n) :
    Inv ty ⟨w, fps.flatten, pvOf us fps⟩ ⟨n, enter 0 (lentS 1000 as).1, (lentS 1000 as).2⟩ { tmps := us.toArray ++ Array.replicate (n - us.toArray.size) undef, defers := [] } w := by
  obtain ⟨q1, q2⟩ := lentS_ok 1000 ha
  have hpv : ∀ i u f, (us.flatMap fun u => u.cells.toList)[i]? = some u → fps[i]? = some f → pvOf us fps (1000 + i) = ⟨u, f⟩ := by
    intro i u f hu hf
    unfold pvOf
    rw [seats_at hu hf]
  have hall := q2 (lentS 1000 as).2 (pvOf us fps) (fun _ _ h => h) hpv
  have hl := hall.len
  rw [lentS_len] at hl
  have hobj : ∀ m o, look (lentS 1000 as).2 m = some o → ∃ t l f, o = .arr t l ∧ 1000 ≤ m ∧ fps[m - 1000]? = some f ∧ (pvOf us fps m).fp = f ∧ Sl (kk t) (rd t) w (pvOf us fps m).v l f := by
    intro m o hm
    obtain ⟨t, l, u, f, k1, k2, k3, k4, k5⟩ := q1 m o hm
    have h := hpv _ _ _ k3 k4
    rw [show 1000 + (m - 1000) = m by omega] at h
    refine ⟨t, l, f, k1, k2, k4, by rw [h], by rw [h]; exact k5⟩
  refine ⟨by simp; omega, rfl, Kept.refl _ _, pvOf us fps, ⟨?_, ?_, ?_, ?_, fun n _ => ⟨rfl, fun b hb => hb⟩⟩⟩
  · intro m o hm
    obtain ⟨t, l, f, rfl, k2, k3, k4, k5⟩ := hobj m o hm
    have hp : pin m = true := by unfold pin; exact Nat.ble_eq_true_of_le k2
    show RArr ty w m t l _
    unfold RArr
    rw [hp]
    refine ⟨by rw [k4]; exact k5, ?_⟩
    rw [k4]
    have hmem := List.mem_of_getElem? k3
    exact ⟨(List.pairwise_flatten.1 ho.nodup).1 f hmem, fun _ _ => Nat.zero_le _, fun b hb => ho.kind b (List.mem_flatten.2 ⟨f, hmem, hb⟩)⟩
  · intro m m' o o' hne hm hm' b hb hb'
    obtain ⟨t, l, f, _, k2, k3, k4, _⟩ := hobj m o hm
    obtain ⟨t', l', f', _, k2', k3', k4', _⟩ := hobj m' o' hm'
    rw [k4] at hb
    rw [k4'] at hb'
    exact fps_ne ho.nodup k3 k3' (by omega) b hb hb'
  · intro s v hv
    obtain ⟨x, rfl, _, hx⟩ := enter_look hv
    rw [Nat.sub_zero] at hx
    obtain ⟨u, hu, hr⟩ := hall.at hx
    have hs : s < us.length := (List.getElem?_eq_some_iff.1 hu).1
    have : (us.toArray ++ Array.replicate (n - us.toArray.size) undef).getD s undef = u := by
      rw [Array.getD_eq_getD_getElem?, Array.getElem?_append_left (by simpa using hs)]
      simp [hu]
    show RS1 w _ _ x _
    rw [this]
    exact hr
  · intro m o hm b hb
    obtain ⟨t, l, f, _, k2, k3, k4, _⟩ := hobj m o hm
    rw [k4] at hb
    exact Or.inl (List.mem_flatten.2 ⟨f, List.mem_of_getElem? k3, hb⟩)
theorem SoundM.of {P : Program} {Γ : Nat → TK} (X : Ctx P ty Γ) {f : FuncId} {fn : Func} {c : Code} {rv : ResultVar} {n : Nat} {as as' : List S1} {v : Value}
    (hcall : ∀ (args : Array Value) (w : World), (callFunc f args).run P w = .ok (.enter f args) w) (hf : P.funcs[f]? = some fn) (hb : fn.body = some c) (hr : fn.results = [rv].toArray) (hn : fn.ntmps = n) (hlen : as.length ≤ n)
    (h : ∀ zb, W P ty zb c (FinM Γ rv as as' v) ⟨n, enter 0 (lentS 1000 as).1, (lentS 1000 as).2⟩) : SoundM P f as as' v := by
  refine ⟨hcall, fun w us fps ha ho => calls_of_wp hf hb ?_⟩
  rw [hn]
  refine wp_mono (h _ _ w (entryM (ty := ty) ha ho hlen)) ?_
  rintro e a w' ⟨st, iv, he, vc, hends, hv⟩
  have key : a.defers = [] ∧ ∃ v', (results fn a.tmps).run P w' = .ok v' w' ∧ ∃ fps', (Ending.returned v' = .returned v) ∧ Kept ⟨w, fps.flatten, fun _ => ⟨v, []⟩⟩ w w' ∧ ArgsF w' as' us fps' ∧ Own 0 w' fps'.flatten ∧ SubF fps' fps := by
    obtain ⟨env, g⟩ := iv.good
    unfold endsM at hends
    split at hends
    · rename_i v1 vc1 h1 h2
      simp only [Option.some.injEq] at hends
      subst hends
      have hx : retvs Γ st [rv] = some [.a (.lit v1)] := by simp [retvs, h1]
      obtain ⟨vs, k1, k2, k3⟩ := retvs_ok X.kind g hr hx (by simp)
      match vs, k1 with
      | [u], ⟨k4, _⟩ =>
        have hu : u = v1 := k4.1
        have hv1 : v1 = v := hv.out _ (by simp)
        obtain ⟨fps', q1, q2, q3⟩ := metS_ok g 1000 rfl h2 (fun q hq => hv.out q (List.mem_cons_of_mem _ hq)) ha (fun i u f hu hf => by
          show pvOf us fps (1000 + i) = _
          unfold pvOf
          rw [seats_at hu hf])
        obtain ⟨r1, r2⟩ := SubF.nodup q2 ho.nodup (fun f hf => (q3 f hf).nodup)
        refine ⟨iv.defers, _, k3, fps', by rw [hu, hv1], ⟨iv.kept.os, iv.kept.tape, iv.kept.output, iv.kept.size, iv.kept.block, iv.kept.shape⟩, q1, ⟨r1, fun _ _ => Nat.zero_le _, fun b hb => ?_⟩, q2⟩
        obtain ⟨f, hf, hb⟩ := List.mem_flatten.1 hb
        exact (q3 f hf).kind b hb
    · cases hends
  rcases he with rfl | rfl <;> exact key
end Go.Proofs.Ythlflnplnajjiaa.G
