/-
  A function's call, from its entry to its results; objects renamed.
-/
import Derived.Test.YthlflnplnajjiaaG11
namespace Go.Proofs.Ythlflnplnajjiaa.G
set_option linter.all false
open Go.RowKit L D
variable {ty : Tag → Nat}
def enter : Nat → List S1 → List (Nat × SV)
  | _, [] => []
  | i, x :: r => (i, .one x) :: enter (i + 1) r
/-- A result's place, read. -/
def retv (Γ : Nat → TK) (st : St) : ResultVar → Option S1
  | .tmp t => match look st.sl t with | some (.one x) => some x | _ => none
  | .cell p t => match look st.sl p with
    | some (.one (.a (.ptr n 0))) => match look st.hp n, Γ t with
      | some (.box c), .st z _ _ => match Nat.beq c.length z.length with | true => some (.agg c) | false => none
      | _, _ => none
    | _ => none
def retvs (Γ : Nat → TK) (st : St) : List ResultVar → Option (List S1)
  | [] => some []
  | r :: rs => match retv Γ st r, retvs Γ st rs with | some x, some xs => some (x :: xs) | _, _ => none
/-- A cell against what it is said to be. -/
def meet0 (st : St) : V → V → Option (List Prop × List Nat)
  | .lit v, .lit u => some ([v = u], [])
  | .lit (.slice none 0 0), .sl _ l => some ([l = []], [])
  | .own n, .sl t l => match look st.hp n, pin n with
    | some (.arr t' l'), false => match castL t t' l' with
      | some l2 => some ([l2 = l], [n])
      | none => none
    | _, _ => none
  | _, _ => none
def meet (st : St) : List V → List V → Option (List Prop × List Nat)
  | [], [] => some ([], [])
  | x :: r, y :: s => match meet0 st x y, meet st r s with
    | some (vc, k), some (vcs, ks) => some (app1 vc vcs, app1 k ks)
    | _, _ => none
  | _, _ => none
def meet1 (st : St) : S1 → S1 → Option (List Prop × List Nat)
  | .a v, .a u => meet st [v] [u]
  | .agg l, .agg m => meet st l m
  | _, _ => none
def meets (st : St) : List S1 → List S1 → Option (List Prop × List Nat)
  | [], [] => some ([], [])
  | x :: r, y :: s => match meet1 st x y, meets st r s with
    | some (vc, k), some (vcs, ks) => some (app1 vc vcs, app1 k ks)
    | _, _ => none
  | _, _ => none
def ends (Γ : Nat → TK) (st : St) (rvs : List ResultVar) (rs : List S1) : Option (List Prop) :=
  match retvs Γ st rvs with
  | some xs => match meets st xs rs with
    | some (vc, k) => match nodupn k with | true => some vc | false => none
    | none => none
  | none => none
/-- The results at the end. -/
def Fin (Γ : Nat → TK) (rvs : List ResultVar) (rs : List S1) : Post := fun e st => (e = .ret ∨ e = .normal) ∧ ∃ vc, ends Γ st rvs rs = some vc ∧ AllP vc
theorem Fin.ret {Γ : Nat → TK} {rvs : List ResultVar} {rs : List S1} {st : St} {vc : List Prop} (h : ends Γ st rvs rs = some vc) (hv : AllP vc) : Fin Γ rvs rs .ret st := ⟨.inl rfl, vc, h, hv⟩
theorem Fin.normal {Γ : Nat → TK} {rvs : List ResultVar} {rs : List S1} {st : St} {vc : List Prop} (h : ends Γ st rvs rs = some vc) (hv : AllP vc) : Fin Γ rvs rs .normal st := ⟨.inr rfl, vc, h, hv⟩
theorem Bld.lift {α : Type} {k : Nat} {E : ER α} {lo e : Nat} {w : World} {v : Value} {l : List α} {fp : List Nat} (h : Bld k E 0 e w v l fp) (hl : ∀ b, b ∈ fp → lo ≤ b) : Bld k E lo e w v l fp := by
  obtain ⟨xs, fps, hown, hf, he, rfl, ho⟩ := h
  refine ⟨xs, fps, ⟨hown.1, ?_⟩, hf, he, rfl, ⟨ho.nodup, hl, ho.kind⟩⟩
  rcases hown.2 with h | ⟨g, cap, cur, rfl, hbg, r⟩
  · exact Or.inl h
  · exact Or.inr ⟨g, cap, cur, rfl, hl g (by simp [Value.ownBlock]), r⟩
section
variable {P : Program} {zb : Base} {st : St} {a : Act} {w : World} {env : Env}
theorem rv_ok {Γ : Nat → TK} (C : ∀ t, TKok P t (Γ t)) (g : Good ty zb st a.tmps w env) {r : ResultVar} {x : S1} (h : retv Γ st r = some x) :
    ∃ u, RS1 w st.hp env x u ∧ (match r with | .tmp t => a.tmps.getD t undef = u | .cell p t => ∃ ad, a.tmps.getD p undef = .pointer (some ad) ∧ (loadVar t ad).run P w = .ok u w) := by
  cases r with
  | tmp t =>
    simp only [retv] at h
    split at h
    · rename_i y hl
      simp only [Option.some.injEq] at h
      subst h
      exact ⟨_, g.slot t _ hl, rfl⟩
    · cases h
  | cell p t =>
    simp only [retv] at h
    split at h
    · rename_i n hl
      split at h
      · rename_i c z tg fo hb hk
        split at h
        · rename_i hlen
          have hlen := Nat.eq_of_beq_eq_true hlen
          simp only [Option.some.injEq] at h
          subst h
          obtain ⟨_, b, hv, hu⟩ := g.slot p _ hl
          obtain ⟨b', cs, e, hco, hh, hc⟩ := g.obj n _ hb
          have hbb : b = b' := by rw [hco] at hv; simpa using hv.symm
          subst hbb
          have hC := C t
          rw [hk] at hC
          obtain ⟨fs, hu2, hi, _⟩ := hC
          have hi' : (P.info? t).map (·.size) = some cs.length := by
            rw [hc.len, hlen]
            cases hq : P.info? t with
            | none => simp [hq] at hi
            | some i => simp [hq] at hi; simp [hi.1]
          refine ⟨.agg cs.toArray, ⟨cs, rfl, hc⟩, ?_⟩
          have hra : w.rangeAt b 0 cs := by simpa using rangeB hh
          exact ⟨_, hu, run_loadVar_mid w b 0 t cs _ hra hu2 rfl hi'⟩
        · cases h
      · cases h
    · cases h
theorem own_app (g : Good ty zb st a.tmps w env) {k1 k2 : List Nat} {f1 f2 : List Nat} (hnd : (k1 ++ k2).Nodup) (p2 : Own zb.w.heap.size w f1) (p3 : ∀ b, b ∈ f1 → ∃ i o, i ∈ k1 ∧ look st.hp i = some o ∧ b ∈ (env i).fp) (q2 : Own zb.w.heap.size w f2) (q3 : ∀ b, b ∈ f2 → ∃ i o, i ∈ k2 ∧ look st.hp i = some o ∧ b ∈ (env i).fp) :
    Own zb.w.heap.size w (f1 ++ f2) ∧ ∀ b, b ∈ f1 ++ f2 → ∃ i o, i ∈ k1 ++ k2 ∧ look st.hp i = some o ∧ b ∈ (env i).fp := by
  obtain ⟨n1, n2, n3⟩ := List.nodup_append.1 hnd
  refine ⟨⟨List.nodup_append.2 ⟨p2.nodup, q2.nodup, ?_⟩, fun b hb => ?_, fun b hb => ?_⟩, fun b hb => ?_⟩
  · rintro b hb z hz rfl
    obtain ⟨n, o1, h1, h2, h3⟩ := p3 b hb
    obtain ⟨m, o2, h4, h5, h6⟩ := q3 b hz
    exact g.dis n m _ _ (fun e => n3 n h1 m h4 e) h2 h5 b h3 h6
  · rcases List.mem_append.1 hb with hb | hb
    · exact p2.ge b hb
    · exact q2.ge b hb
  · rcases List.mem_append.1 hb with hb | hb
    · exact p2.kind b hb
    · exact q2.kind b hb
  · rcases List.mem_append.1 hb with hb | hb
    · obtain ⟨n, o1, h1, h2, h3⟩ := p3 b hb; exact ⟨n, o1, List.mem_append_left _ h1, h2, h3⟩
    · obtain ⟨n, o1, h1, h2, h3⟩ := q3 b hb; exact ⟨n, o1, List.mem_append_right _ h1, h2, h3⟩
theorem meet0_ok (hL : zb.L = []) (g : Good ty zb st a.tmps w env) {x y : V} {u : Value} {vc : List Prop} {k : List Nat} (hr : RA w st.hp env x u) (h : meet0 st x y = some (vc, k)) (hv : ∀ q, q ∈ vc → q) :
    ∃ fp, RB ty w zb.w.heap.size y u fp ∧ Own zb.w.heap.size w fp ∧ ∀ b, b ∈ fp → ∃ i o, i ∈ k ∧ look st.hp i = some o ∧ b ∈ (env i).fp := by
  unfold meet0 at h
  split at h
  · simp only [Option.some.injEq, Prod.mk.injEq] at h
    obtain ⟨rfl, rfl⟩ := h
    have hl := hv _ (List.mem_singleton.2 rfl)
    obtain ⟨rfl, ho⟩ := hr
    exact ⟨[], ⟨hl, hl ▸ ho, rfl⟩, Own.nil _ _, by simp⟩
  · simp only [Option.some.injEq, Prod.mk.injEq] at h
    obtain ⟨rfl, rfl⟩ := h
    have hl := hv _ (List.mem_singleton.2 rfl)
    subst hl
    obtain ⟨rfl, ho⟩ := hr
    exact ⟨[], Bld.nil _ _ _ _ _, Own.nil _ _, by simp⟩
  · rename_i n t l
    split at h
    · rename_i t' l' hl hpin
      split at h
      · rename_i l2 hc
        simp only [Option.some.injEq, Prod.mk.injEq] at h
        obtain ⟨rfl, rfl⟩ := h
        have hll := hv _ (List.mem_singleton.2 rfl)
        subst hll
        obtain ⟨e, rfl⟩ := castL_ok hc
        subst e
        obtain ⟨_, rfl⟩ := hr
        have hb := Bld.lift (RO.bld hpin (g.obj n _ hl)) (lo := zb.w.heap.size) (fun b hb => by
          rcases g.dom n _ hl b hb with h | h
          · rw [hL] at h; cases h
          · exact h)
        exact ⟨(env n).fp, hb, hb.own, fun b hb => ⟨n, _, by simp, hl, hb⟩⟩
      · cases h
    · cases h
  · cases h
theorem meet_ok (hL : zb.L = []) (g : Good ty zb st a.tmps w env) : ∀ {xs ys : List V} {us : List Value} {vc : List Prop} {k : List Nat}, All2 (RA w st.hp env) xs us → meet st xs ys = some (vc, k) → k.Nodup → (∀ q, q ∈ vc → q) →
    ∃ fp, RBs ty w zb.w.heap.size ys us fp ∧ Own zb.w.heap.size w fp ∧ ∀ b, b ∈ fp → ∃ i o, i ∈ k ∧ look st.hp i = some o ∧ b ∈ (env i).fp
  | [], ys, us, vc, k, hr, h, hnd, hv => by
    cases ys with
    | nil =>
      simp only [meet, Option.some.injEq, Prod.mk.injEq] at h
      obtain ⟨rfl, rfl⟩ := h
      cases us with
      | nil => exact ⟨[], rfl, Own.nil _ _, by simp⟩
      | cons _ _ => exact hr.elim
    | cons y ys => simp [meet] at h
  | x :: r, ys, us, vc, k, hr, h, hnd, hv => by
    cases us with
    | nil => exact hr.elim
    | cons u us =>
      cases ys with
      | nil => simp [meet] at h
      | cons y s =>
        simp only [meet] at h
        split at h
        · rename_i vc1 k1 vc2 k2 h1 h2
          simp only [Option.some.injEq, Prod.mk.injEq, app1_eq] at h
          obtain ⟨rfl, rfl⟩ := h
          obtain ⟨n1, n2, n3⟩ := List.nodup_append.1 hnd
          obtain ⟨f1, p1, p2, p3⟩ := meet0_ok hL g hr.1 h1 (fun q hq => hv q (List.mem_append_left _ hq))
          obtain ⟨f2, q1, q2, q3⟩ := meet_ok hL g hr.2 h2 n2 (fun q hq => hv q (List.mem_append_right _ hq))
          obtain ⟨r1, r2⟩ := own_app g hnd p2 p3 q2 q3
          exact ⟨f1 ++ f2, ⟨_, _, p1, q1, rfl⟩, r1, r2⟩
        · cases h
theorem meet1_ok (hL : zb.L = []) (g : Good ty zb st a.tmps w env) {x y : S1} {u : Value} {vc : List Prop} {k : List Nat} (hr : RS1 w st.hp env x u) (h : meet1 st x y = some (vc, k)) (hnd : k.Nodup) (hv : ∀ q, q ∈ vc → q) :
    ∃ fp, RB1 ty w zb.w.heap.size y u fp ∧ Own zb.w.heap.size w fp ∧ ∀ b, b ∈ fp → ∃ i o, i ∈ k ∧ look st.hp i = some o ∧ b ∈ (env i).fp := by
  cases x with
  | a v =>
    cases y with
    | a v' => exact meet_ok hL g (xs := [v]) (us := [u]) ⟨hr, trivial⟩ h hnd hv
    | agg _ => simp [meet1] at h
  | agg l =>
    cases y with
    | a v' => simp [meet1] at h
    | agg m =>
      obtain ⟨cs, rfl, hl⟩ := hr
      obtain ⟨fp, h1, h2, h3⟩ := meet_ok hL g hl h hnd hv
      exact ⟨fp, ⟨cs, rfl, h1⟩, h2, h3⟩
theorem meets_ok (hL : zb.L = []) (g : Good ty zb st a.tmps w env) : ∀ {xs ys : List S1} {us : List Value} {vc : List Prop} {k : List Nat}, All2 (RS1 w st.hp env) xs us → meets st xs ys = some (vc, k) → k.Nodup → (∀ q, q ∈ vc → q) →
    ∃ fp, RBl ty w zb.w.heap.size ys us fp ∧ Own zb.w.heap.size w fp ∧ ∀ b, b ∈ fp → ∃ i o, i ∈ k ∧ look st.hp i = some o ∧ b ∈ (env i).fp
  | [], ys, us, vc, k, hr, h, hnd, hv => by
    cases ys with
    | nil =>
      simp only [meets, Option.some.injEq, Prod.mk.injEq] at h
      obtain ⟨rfl, rfl⟩ := h
      cases us with
      | nil => exact ⟨[], rfl, Own.nil _ _, by simp⟩
      | cons _ _ => exact hr.elim
    | cons y ys => simp [meets] at h
  | x :: r, ys, us, vc, k, hr, h, hnd, hv => by
    cases us with
    | nil => exact hr.elim
    | cons u us =>
      cases ys with
      | nil => simp [meets] at h
      | cons y s =>
        simp only [meets] at h
        split at h
        · rename_i vc1 k1 vc2 k2 h1 h2
          simp only [Option.some.injEq, Prod.mk.injEq, app1_eq] at h
          obtain ⟨rfl, rfl⟩ := h
          obtain ⟨n1, n2, n3⟩ := List.nodup_append.1 hnd
          obtain ⟨f1, p1, p2, p3⟩ := meet1_ok hL g hr.1 h1 n1 (fun q hq => hv q (List.mem_append_left _ hq))
          obtain ⟨f2, q1, q2, q3⟩ := meets_ok hL g hr.2 h2 n2 (fun q hq => hv q (List.mem_append_right _ hq))
          obtain ⟨r1, r2⟩ := own_app g hnd p2 p3 q2 q3
          exact ⟨f1 ++ f2, ⟨_, _, p1, q1, rfl⟩, r1, r2⟩
        · cases h
theorem retvs_ok {Γ : Nat → TK} (C : ∀ t, TKok P t (Γ t)) (g : Good ty zb st a.tmps w env) {fn : Func} {rvs : List ResultVar} (hf : fn.results = rvs.toArray) {xs : List S1} (h : retvs Γ st rvs = some xs) (hl : rvs.length ≤ 4) :
    ∃ us, All2 (RS1 w st.hp env) xs us ∧ us.length = rvs.length ∧ (results fn a.tmps).run P w = .ok (match us with | [u] => u | us => .tuple us.toArray) w := by
  have one : ∀ {r : ResultVar} {rs : List ResultVar} {xs : List S1}, retvs Γ st (r :: rs) = some xs → ∃ y ys, xs = y :: ys ∧ retv Γ st r = some y ∧ retvs Γ st rs = some ys := by
    intro r rs xs h
    simp only [retvs] at h
    split at h
    · rename_i y ys h1 h2
      simp only [Option.some.injEq] at h
      exact ⟨y, ys, h.symm, h1, h2⟩
    · cases h
  have nil : ∀ {xs : List S1}, retvs Γ st [] = some xs → xs = [] := by
    intro xs h
    simp only [retvs, Option.some.injEq] at h
    exact h.symm
  match rvs, hf, h, hl with
  | [], hf, h, _ =>
    rw [nil h]
    exact ⟨[], trivial, rfl, by simp [results, hf]⟩
  | [r1], hf, h, _ =>
    obtain ⟨y1, ys, rfl, h1, h⟩ := one h
    rw [nil h]
    obtain ⟨u1, k1, e1⟩ := rv_ok C g h1
    refine ⟨[u1], ⟨k1, trivial⟩, rfl, ?_⟩
    cases r1
    · have e1 : a.tmps.getD _ undef = u1 := e1
      rw [Array.getD_eq_getD_getElem?] at e1
      simp [results, hf, asAddr, e1]
    · obtain ⟨_, p1, e1⟩ := e1
      rw [Array.getD_eq_getD_getElem?] at p1
      simp [results, hf, asAddr, e1, p1]
  | [r1, r2], hf, h, _ =>
    obtain ⟨y1, ys, rfl, h1, h⟩ := one h
    obtain ⟨y2, ys, rfl, h2, h⟩ := one h
    rw [nil h]
    obtain ⟨u1, k1, e1⟩ := rv_ok C g h1
    obtain ⟨u2, k2, e2⟩ := rv_ok C g h2
    refine ⟨[u1, u2], ⟨k1, k2, trivial⟩, rfl, ?_⟩
    cases r1 <;> cases r2
    · have e1 : a.tmps.getD _ undef = u1 := e1
      rw [Array.getD_eq_getD_getElem?] at e1
      have e2 : a.tmps.getD _ undef = u2 := e2
      rw [Array.getD_eq_getD_getElem?] at e2
      simp [results, hf, asAddr, e1, e2]
    · have e1 : a.tmps.getD _ undef = u1 := e1
      rw [Array.getD_eq_getD_getElem?] at e1
      obtain ⟨_, p2, e2⟩ := e2
      rw [Array.getD_eq_getD_getElem?] at p2
      simp [results, hf, asAddr, e1, e2, p2]
    · obtain ⟨_, p1, e1⟩ := e1
      rw [Array.getD_eq_getD_getElem?] at p1
      have e2 : a.tmps.getD _ undef = u2 := e2
      rw [Array.getD_eq_getD_getElem?] at e2
      simp [results, hf, asAddr, e1, e2, p1]
    · obtain ⟨_, p1, e1⟩ := e1
      rw [Array.getD_eq_getD_getElem?] at p1
      obtain ⟨_, p2, e2⟩ := e2
      rw [Array.getD_eq_getD_getElem?] at p2
      simp [results, hf, asAddr, e1, e2, p1, p2]
  | [r1, r2, r3], hf, h, _ =>
    obtain ⟨y1, ys, rfl, h1, h⟩ := one h
    obtain ⟨y2, ys, rfl, h2, h⟩ := one h
    obtain ⟨y3, ys, rfl, h3, h⟩ := one h
    rw [nil h]
    obtain ⟨u1, k1, e1⟩ := rv_ok C g h1
    obtain ⟨u2, k2, e2⟩ := rv_ok C g h2
    obtain ⟨u3, k3, e3⟩ := rv_ok C g h3
    refine ⟨[u1, u2, u3], ⟨k1, k2, k3, trivial⟩, rfl, ?_⟩
    cases r1 <;> cases r2 <;> cases r3
    · have e1 : a.tmps.getD _ undef = u1 := e1
      rw [Array.getD_eq_getD_getElem?] at e1
      have e2 : a.tmps.getD _ undef = u2 := e2
      rw [Array.getD_eq_getD_getElem?] at e2
      have e3 : a.tmps.getD _ undef = u3 := e3
      rw [Array.getD_eq_getD_getElem?] at e3
      simp [results, hf, asAddr, e1, e2, e3]
    · have e1 : a.tmps.getD _ undef = u1 := e1
      rw [Array.getD_eq_getD_getElem?] at e1
      have e2 : a.tmps.getD _ undef = u2 := e2
      rw [Array.getD_eq_getD_getElem?] at e2
      obtain ⟨_, p3, e3⟩ := e3
      rw [Array.getD_eq_getD_getElem?] at p3
      simp [results, hf, asAddr, e1, e2, e3, p3]
    · have e1 : a.tmps.getD _ undef = u1 := e1
      rw [Array.getD_eq_getD_getElem?] at e1
      obtain ⟨_, p2, e2⟩ := e2
      rw [Array.getD_eq_getD_getElem?] at p2
      have e3 : a.tmps.getD _ undef = u3 := e3
      rw [Array.getD_eq_getD_getElem?] at e3
      simp [results, hf, asAddr, e1, e2, e3, p2]
    · have e1 : a.tmps.getD _ undef = u1 := e1
      rw [Array.getD_eq_getD_getElem?] at e1
      obtain ⟨_, p2, e2⟩ := e2
      rw [Array.getD_eq_getD_getElem?] at p2
      obtain ⟨_, p3, e3⟩ := e3
      rw [Array.getD_eq_getD_getElem?] at p3
      simp [results, hf, asAddr, e1, e2, e3, p2, p3]
    · obtain ⟨_, p1, e1⟩ := e1
      rw [Array.getD_eq_getD_getElem?] at p1
      have e2 : a.tmps.getD _ undef = u2 := e2
      rw [Array.getD_eq_getD_getElem?] at e2
      have e3 : a.tmps.getD _ undef = u3 := e3
      rw [Array.getD_eq_getD_getElem?] at e3
      simp [results, hf, asAddr, e1, e2, e3, p1]
    · obtain ⟨_, p1, e1⟩ := e1
      rw [Array.getD_eq_getD_getElem?] at p1
      have e2 : a.tmps.getD _ undef = u2 := e2
      rw [Array.getD_eq_getD_getElem?] at e2
      obtain ⟨_, p3, e3⟩ := e3
      rw [Array.getD_eq_getD_getElem?] at p3
      simp [results, hf, asAddr, e1, e2, e3, p1, p3]
    · obtain ⟨_, p1, e1⟩ := e1
      rw [Array.getD_eq_getD_getElem?] at p1
      obtain ⟨_, p2, e2⟩ := e2
      rw [Array.getD_eq_getD_getElem?] at p2
      have e3 : a.tmps.getD _ undef = u3 := e3
      rw [Array.getD_eq_getD_getElem?] at e3
      simp [results, hf, asAddr, e1, e2, e3, p1, p2]
    · obtain ⟨_, p1, e1⟩ := e1
      rw [Array.getD_eq_getD_getElem?] at p1
      obtain ⟨_, p2, e2⟩ := e2
      rw [Array.getD_eq_getD_getElem?] at p2
      obtain ⟨_, p3, e3⟩ := e3
      rw [Array.getD_eq_getD_getElem?] at p3
      simp [results, hf, asAddr, e1, e2, e3, p1, p2, p3]
  | [r1, r2, r3, r4], hf, h, _ =>
    obtain ⟨y1, ys, rfl, h1, h⟩ := one h
    obtain ⟨y2, ys, rfl, h2, h⟩ := one h
    obtain ⟨y3, ys, rfl, h3, h⟩ := one h
    obtain ⟨y4, ys, rfl, h4, h⟩ := one h
    rw [nil h]
    obtain ⟨u1, k1, e1⟩ := rv_ok C g h1
    obtain ⟨u2, k2, e2⟩ := rv_ok C g h2
    obtain ⟨u3, k3, e3⟩ := rv_ok C g h3
    obtain ⟨u4, k4, e4⟩ := rv_ok C g h4
    refine ⟨[u1, u2, u3, u4], ⟨k1, k2, k3, k4, trivial⟩, rfl, ?_⟩
    cases r1 <;> cases r2 <;> cases r3 <;> cases r4
    · have e1 : a.tmps.getD _ undef = u1 := e1
      rw [Array.getD_eq_getD_getElem?] at e1
      have e2 : a.tmps.getD _ undef = u2 := e2
      rw [Array.getD_eq_getD_getElem?] at e2
      have e3 : a.tmps.getD _ undef = u3 := e3
      rw [Array.getD_eq_getD_getElem?] at e3
      have e4 : a.tmps.getD _ undef = u4 := e4
      rw [Array.getD_eq_getD_getElem?] at e4
      simp [results, hf, asAddr, e1, e2, e3, e4]
    · have e1 : a.tmps.getD _ undef = u1 := e1
      rw [Array.getD_eq_getD_getElem?] at e1
      have e2 : a.tmps.getD _ undef = u2 := e2
      rw [Array.getD_eq_getD_getElem?] at e2
      have e3 : a.tmps.getD _ undef = u3 := e3
      rw [Array.getD_eq_getD_getElem?] at e3
      obtain ⟨_, p4, e4⟩ := e4
      rw [Array.getD_eq_getD_getElem?] at p4
      simp [results, hf, asAddr, e1, e2, e3, e4, p4]
    · have e1 : a.tmps.getD _ undef = u1 := e1
      rw [Array.getD_eq_getD_getElem?] at e1
      have e2 : a.tmps.getD _ undef = u2 := e2
      rw [Array.getD_eq_getD_getElem?] at e2
      obtain ⟨_, p3, e3⟩ := e3
      rw [Array.getD_eq_getD_getElem?] at p3
      have e4 : a.tmps.getD _ undef = u4 := e4
      rw [Array.getD_eq_getD_getElem?] at e4
      simp [results, hf, asAddr, e1, e2, e3, e4, p3]
    · have e1 : a.tmps.getD _ undef = u1 := e1
      rw [Array.getD_eq_getD_getElem?] at e1
      have e2 : a.tmps.getD _ undef = u2 := e2
      rw [Array.getD_eq_getD_getElem?] at e2
      obtain ⟨_, p3, e3⟩ := e3
      rw [Array.getD_eq_getD_getElem?] at p3
      obtain ⟨_, p4, e4⟩ := e4
      rw [Array.getD_eq_getD_getElem?] at p4
      simp [results, hf, asAddr, e1, e2, e3, e4, p3, p4]
    · have e1 : a.tmps.getD _ undef = u1 := e1
      rw [Array.getD_eq_getD_getElem?] at e1
      obtain ⟨_, p2, e2⟩ := e2
      rw [Array.getD_eq_getD_getElem?] at p2
      have e3 : a.tmps.getD _ undef = u3 := e3
      rw [Array.getD_eq_getD_getElem?] at e3
      have e4 : a.tmps.getD _ undef = u4 := e4
      rw [Array.getD_eq_getD_getElem?] at e4
      simp [results, hf, asAddr, e1, e2, e3, e4, p2]
    · have e1 : a.tmps.getD _ undef = u1 := e1
      rw [Array.getD_eq_getD_getElem?] at e1
      obtain ⟨_, p2, e2⟩ := e2
      rw [Array.getD_eq_getD_getElem?] at p2
      have e3 : a.tmps.getD _ undef = u3 := e3
      rw [Array.getD_eq_getD_getElem?] at e3
      obtain ⟨_, p4, e4⟩ := e4
      rw [Array.getD_eq_getD_getElem?] at p4
      simp [results, hf, asAddr, e1, e2, e3, e4, p2, p4]
    · have e1 : a.tmps.getD _ undef = u1 := e1
      rw [Array.getD_eq_getD_getElem?] at e1
      obtain ⟨_, p2, e2⟩ := e2
      rw [Array.getD_eq_getD_getElem?] at p2
      obtain ⟨_, p3, e3⟩ := e3
      rw [Array.getD_eq_getD_getElem?] at p3
      have e4 : a.tmps.getD _ undef = u4 := e4
      rw [Array.getD_eq_getD_getElem?] at e4
      simp [results, hf, asAddr, e1, e2, e3, e4, p2, p3]
    · have e1 : a.tmps.getD _ undef = u1 := e1
      rw [Array.getD_eq_getD_getElem?] at e1
      obtain ⟨_, p2, e2⟩ := e2
      rw [Array.getD_eq_getD_getElem?] at p2
      obtain ⟨_, p3, e3⟩ := e3
      rw [Array.getD_eq_getD_getElem?] at p3
      obtain ⟨_, p4, e4⟩ := e4
      rw [Array.getD_eq_getD_getElem?] at p4
      simp [results, hf, asAddr, e1, e2, e3, e4, p2, p3, p4]
    · obtain ⟨_, p1, e1⟩ := e1
      rw [Array.getD_eq_getD_getElem?] at p1
      have e2 : a.tmps.getD _ undef = u2 := e2
      rw [Array.getD_eq_getD_getElem?] at e2
      have e3 : a.tmps.getD _ undef = u3 := e3
      rw [Array.getD_eq_getD_getElem?] at e3
      have e4 : a.tmps.getD _ undef = u4 := e4
      rw [Array.getD_eq_getD_getElem?] at e4
      simp [results, hf, asAddr, e1, e2, e3, e4, p1]
    · obtain ⟨_, p1, e1⟩ := e1
      rw [Array.getD_eq_getD_getElem?] at p1
      have e2 : a.tmps.getD _ undef = u2 := e2
      rw [Array.getD_eq_getD_getElem?] at e2
      have e3 : a.tmps.getD _ undef = u3 := e3
      rw [Array.getD_eq_getD_getElem?] at e3
      obtain ⟨_, p4, e4⟩ := e4
      rw [Array.getD_eq_getD_getElem?] at p4
      simp [results, hf, asAddr, e1, e2, e3, e4, p1, p4]
    · obtain ⟨_, p1, e1⟩ := e1
      rw [Array.getD_eq_getD_getElem?] at p1
      have e2 : a.tmps.getD _ undef = u2 := e2
      rw [Array.getD_eq_getD_getElem?] at e2
      obtain ⟨_, p3, e3⟩ := e3
      rw [Array.getD_eq_getD_getElem?] at p3
      have e4 : a.tmps.getD _ undef = u4 := e4
      rw [Array.getD_eq_getD_getElem?] at e4
      simp [results, hf, asAddr, e1, e2, e3, e4, p1, p3]
    · obtain ⟨_, p1, e1⟩ := e1
      rw [Array.getD_eq_getD_getElem?] at p1
      have e2 : a.tmps.getD _ undef = u2 := e2
      rw [Array.getD_eq_getD_getElem?] at e2
      obtain ⟨_, p3, e3⟩ := e3
      rw [Array.getD_eq_getD_getElem?] at p3
      obtain ⟨_, p4, e4⟩ := e4
      rw [Array.getD_eq_getD_getElem?] at p4
      simp [results, hf, asAddr, e1, e2, e3, e4, p1, p3, p4]
    · obtain ⟨_, p1, e1⟩ := e1
      rw [Array.getD_eq_getD_getElem?] at p1
      obtain ⟨_, p2, e2⟩ := e2
      rw [Array.getD_eq_getD_getElem?] at p2
      have e3 : a.tmps.getD _ undef = u3 := e3
      rw [Array.getD_eq_getD_getElem?] at e3
      have e4 : a.tmps.getD _ undef = u4 := e4
      rw [Array.getD_eq_getD_getElem?] at e4
      simp [results, hf, asAddr, e1, e2, e3, e4, p1, p2]
    · obtain ⟨_, p1, e1⟩ := e1
      rw [Array.getD_eq_getD_getElem?] at p1
      obtain ⟨_, p2, e2⟩ := e2
      rw [Array.getD_eq_getD_getElem?] at p2
      have e3 : a.tmps.getD _ undef = u3 := e3
      rw [Array.getD_eq_getD_getElem?] at e3
      obtain ⟨_, p4, e4⟩ := e4
      rw [Array.getD_eq_getD_getElem?] at p4
      simp [results, hf, asAddr, e1, e2, e3, e4, p1, p2, p4]
    · obtain ⟨_, p1, e1⟩ := e1
      rw [Array.getD_eq_getD_getElem?] at p1
      obtain ⟨_, p2, e2⟩ := e2
      rw [Array.getD_eq_getD_getElem?] at p2
      obtain ⟨_, p3, e3⟩ := e3
      rw [Array.getD_eq_getD_getElem?] at p3
      have e4 : a.tmps.getD _ undef = u4 := e4
      rw [Array.getD_eq_getD_getElem?] at e4
      simp [results, hf, asAddr, e1, e2, e3, e4, p1, p2, p3]
    · obtain ⟨_, p1, e1⟩ := e1
      rw [Array.getD_eq_getD_getElem?] at p1
      obtain ⟨_, p2, e2⟩ := e2
      rw [Array.getD_eq_getD_getElem?] at p2
      obtain ⟨_, p3, e3⟩ := e3
      rw [Array.getD_eq_getD_getElem?] at p3
      obtain ⟨_, p4, e4⟩ := e4
      rw [Array.getD_eq_getD_getElem?] at p4
      simp [results, hf, asAddr, e1, e2, e3, e4, p1, p2, p3, p4]
  | _ :: _ :: _ :: _ :: _ :: _, _, _, hl => simp at hl
end
end Go.Proofs.Ythlflnplnajjiaa.G
