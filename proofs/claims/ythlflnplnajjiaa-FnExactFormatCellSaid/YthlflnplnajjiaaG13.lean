/-
  A function's contract out of a walk through its body.
-/
import Derived.Test.YthlflnplnajjiaaG12
namespace Go.Proofs.Ythlflnplnajjiaa.G
open Go.RowKit L D
variable {ty : Tag → Nat}
theorem RI.ra {w : World} {env : Env} {v : V} {u : Value} {fp : List Nat} (h : RI w v u fp) : RA w [] env v u := by
  have hno : ∀ b, ¬ Ow [] env b := by rintro b ⟨n, o, hl, _⟩; simp [look] at hl
  cases v with
  | lit x => exact ⟨h.1, h.2.1⟩
  | sl t l => exact ⟨fp, h, fun b _ => hno b⟩
  | _ => exact h.elim
theorem Arg1.rs1 {w : World} {env : Env} {x : S1} {u : Value} (h : Arg1 w x u) : RS1 w [] env x u := by
  cases x with
  | a v => obtain ⟨fp, h⟩ := h; exact h.ra
  | agg l =>
    obtain ⟨cs, fp, rfl, h⟩ := h
    exact ⟨cs, rfl, h.all2 fun b _ => by rintro ⟨n, o, hl, _⟩; simp [look] at hl⟩
theorem enter_look : ∀ {as : List S1} {i s : Nat} {v : SV}, look (enter i as) s = some v → ∃ x, v = .one x ∧ i ≤ s ∧ as[s - i]? = some x
  | x :: r, i, s, v, h => by
    by_cases hs : s = i
    · subst hs
      rw [enter, look_eq] at h
      simp only [Option.some.injEq] at h
      exact ⟨x, h.symm, Nat.le_refl _, by simp⟩
    · rw [enter, look_ne hs] at h
      obtain ⟨y, h1, h2, h3⟩ := enter_look h
      refine ⟨y, h1, by omega, ?_⟩
      rw [show s - i = (s - (i + 1)) + 1 by omega, List.getElem?_cons_succ]; exact h3
theorem entry {as : List S1} {us : List Value} {w : World} {n : Nat} (ha : All2 (Arg1 w) as us) (hn : as.length ≤ n) :
    Inv ty w ⟨n, enter 0 as, []⟩ { tmps := us.toArray ++ Array.replicate (n - us.toArray.size) undef, defers := [] } w := by
  have hl := ha.len
  refine ⟨by simp; omega, rfl, Below.refl _ _, fun _ => ⟨.tuple #[], []⟩, ⟨fun n o h => by simp [look] at h, fun n m o o' _ h => by simp [look] at h, fun s v hv => ?_⟩⟩
  obtain ⟨x, rfl, _, hx⟩ := enter_look hv
  rw [Nat.sub_zero] at hx
  obtain ⟨u, hu, hr⟩ := ha.at hx
  have hs : s < us.length := (List.getElem?_eq_some_iff.1 hu).1
  have : (us.toArray ++ Array.replicate (n - us.toArray.size) undef).getD s undef = u := by
    rw [Array.getD_eq_getD_getElem?, Array.getElem?_append_left (by simpa using hs)]
    simp [hu]
  show RS1 w [] _ x _
  rw [this]
  exact hr.rs1
theorem Sound.of {P : Program} {Γ : Nat → TK} (X : Ctx P ty Γ) {f : FuncId} {fn : Func} {c : Code} {rvs : List ResultVar} {n : Nat} {as rs : List S1}
    (hcall : ∀ (args : Array Value) (w : World), (callFunc f args).run P w = .ok (.enter f args) w) (hf : P.funcs[f]? = some fn) (hb : fn.body = some c) (hr : fn.results = rvs.toArray) (hl : rvs.length ≤ 4) (hn : fn.ntmps = n) (hlen : as.length ≤ n)
    (h : ∀ w0, W P ty w0 c (Fin Γ rvs rs) ⟨n, enter 0 as, []⟩) : Sound ty P f as rs := by
  refine ⟨hcall, fun w us ha => calls_of_wp hf hb ?_⟩
  rw [hn]
  refine wp_mono (h w _ w (entry ha hlen)) ?_
  rintro e a w' ⟨st, iv, he, vc, hends, hv⟩
  have key : a.defers = [] ∧ ∃ v, (results fn a.tmps).run P w' = .ok v w' ∧ Ret ty w rs (.returned v) w' := by
    obtain ⟨env, g⟩ := iv.good
    unfold ends at hends
    split at hends
    · rename_i xs hx
      split at hends
      · rename_i vc1 k hm
        split at hends
        · rename_i hnd
          simp only [Option.some.injEq] at hends
          subst hends
          obtain ⟨vs, h1, h2, h3⟩ := retvs_ok X.kind g hr hx hl
          obtain ⟨fp, q1, q2, _⟩ := meets_ok g h1 hm (nodupn_ok hnd) hv.out
          refine ⟨iv.defers, _, h3, _, fp, rfl, iv.below, q2, ?_⟩
          match rs, vs, q1 with
          | [], [], q1 => exact ⟨[], rfl, q1⟩
          | [r], [u], ⟨f1, f2, p1, p2, e⟩ =>
            have p2 : f2 = [] := p2
            rw [p2, List.append_nil] at e
            rw [e]; exact p1
          | r1 :: r2 :: r, u1 :: u2 :: u, q1 => exact ⟨_, rfl, q1⟩
          | [], _ :: _, q1 => exact q1.elim
          | _ :: _, [], q1 => exact q1.elim
          | [r], u1 :: u2 :: u, ⟨_, _, _, p, _⟩ => exact p.elim
          | r1 :: r2 :: r, [u], ⟨_, _, _, p, _⟩ => exact p.elim
        · cases hends
      · cases hends
    · cases hends
  rcases he with rfl | rfl <;> exact key
end Go.Proofs.Ythlflnplnajjiaa.G
