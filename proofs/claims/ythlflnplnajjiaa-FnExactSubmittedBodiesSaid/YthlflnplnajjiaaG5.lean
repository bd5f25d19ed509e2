/-
  Calls, and all operations that turn nothing.
-/
import Derived.Test.YthlflnplnajjiaaG4
namespace Go.Proofs.Ythlflnplnajjiaa.G
set_option linter.all false
open Go.RowKit L D
variable {ty : Tag → Nat}
def pair : Hp → List CO → List (Nat × CO)
  | (n, _) :: r, c :: cs => (n, c) :: pair r cs
  | _, _ => []
theorem look_ne {α : Type} {j n : Nat} {x : α} {r : List (Nat × α)} (h : n ≠ j) : look ((j, x) :: r) n = look r n := by
  simp only [look]
  split
  · rename_i hb; exact absurd (Nat.eq_of_beq_eq_true hb) h
  · rfl
theorem look_eq {α : Type} {j : Nat} {x : α} {r : List (Nat × α)} : look ((j, x) :: r) j = some x := by simp [look]
theorem pair_all {R : Nat × Obj → CO → Prop} : ∀ {os : Hp} {ce : List CO}, nodupk os = true → All2 R os ce → All2 (fun e co => look os e.1 = some e.2 ∧ look (pair os ce) e.1 = some co) os ce
  | [], [], _, _ => trivial
  | (n, o) :: r, c :: cs, hn, ⟨_, h2⟩ => by
    simp only [nodupk, Bool.and_eq_true] at hn
    refine ⟨⟨look_eq, look_eq⟩, (pair_all hn.2 h2).mono ?_⟩
    rintro ⟨m, o'⟩ co _ ⟨h3, h4⟩
    have hne : m ≠ n := by
      rintro rfl
      have h3' : look r m = some o' := h3
      simp [h3'] at hn
    exact ⟨by rw [look_ne hne]; exact h3, by show look (pair ((n, o) :: r) (c :: cs)) m = some co; rw [pair, look_ne hne]; exact h4⟩
  | [], _ :: _, _, h => h.elim
  | _ :: _, [], _, h => h.elim
theorem pair_look {R : Nat × Obj → CO → Prop} : ∀ {os : Hp} {ce : List CO} {n : Nat} {o : Obj}, All2 R os ce → look os n = some o → ∃ co, look (pair os ce) n = some co ∧ R (n, o) co
  | (m, o') :: r, c :: cs, n, o, ⟨h1, h2⟩, hl => by
    by_cases h : n = m
    · subst h
      rw [look_eq] at hl
      simp only [Option.some.injEq] at hl
      subst hl
      exact ⟨c, look_eq, h1⟩
    · rw [look_ne h] at hl
      obtain ⟨co, h3, h4⟩ := pair_look h2 hl
      exact ⟨co, by rw [pair, look_ne h]; exact h3, h4⟩
  | [], [], _, _, _, hl => by simp [look] at hl
  | [], _ :: _, _, _, h, _ => h.elim
  | _ :: _, [], _, _, h, _ => h.elim
theorem pair_sub : ∀ {os : Hp} {ce : List CO} {n : Nat} {co : CO}, look (pair os ce) n = some co → ∀ b, b ∈ co.fp → b ∈ ce.flatMap CO.fp
  | (m, o') :: r, c :: cs, n, co, hl, b, hb => by
    rw [List.flatMap_cons]
    by_cases h : n = m
    · subst h
      rw [pair, look_eq] at hl
      simp only [Option.some.injEq] at hl
      subst hl
      exact List.mem_append_left _ hb
    · rw [pair, look_ne h] at hl
      exact List.mem_append_right _ (pair_sub hl b hb)
  | [], [], _, _, hl, _, _ => by simp [pair, look] at hl
  | [], _ :: _, _, _, hl, _, _ => by simp [pair, look] at hl
  | _ :: _, [], _, _, hl, _, _ => by simp [pair, look] at hl
theorem pair_dis : ∀ {os : Hp} {ce : List CO} {n n' : Nat} {co co' : CO}, (ce.flatMap CO.fp).Nodup → n ≠ n' → look (pair os ce) n = some co → look (pair os ce) n' = some co' → ∀ b, b ∈ co.fp → b ∉ co'.fp
  | (m, o') :: r, c :: cs, n, n', co, co', hnd, hne, h1, h2, b, hb, hb' => by
    rw [List.flatMap_cons] at hnd
    obtain ⟨_, hn2, hn3⟩ := List.nodup_append.1 hnd
    by_cases h : n = m
    · subst h
      rw [pair, look_eq] at h1
      simp only [Option.some.injEq] at h1
      subst h1
      rw [pair, look_ne (Ne.symm hne)] at h2
      exact hn3 b hb b (pair_sub h2 b hb') rfl
    · rw [pair, look_ne h] at h1
      by_cases h' : n' = m
      · subst h'
        rw [pair, look_eq] at h2
        simp only [Option.some.injEq] at h2
        subst h2
        exact hn3 b hb' b (pair_sub h1 b hb) rfl
      · rw [pair, look_ne h'] at h2
        exact pair_dis hn2 hne h1 h2 b hb hb'
  | [], [], _, _, _, _, _, _, hl, _, _, _, _ => by simp [pair, look] at hl
  | [], _ :: _, _, _, _, _, _, _, hl, _, _, _, _ => by simp [pair, look] at hl
  | _ :: _, [], _, _, _, _, _, _, hl, _, _, _, _ => by simp [pair, look] at hl
/-- New objects out of a list. -/
theorem News.list {w w' : World} {hp os : Hp} {env : Env} {ce : List CO} (hb : Below w.heap.size w w') (hn : nodupk os = true)
    (h : All2 (fun e co => (∀ hp' env', RO ty w' hp' env' e.1 e.2 co) ∧ ∀ b, b ∈ co.fp → w.heap.size ≤ b) os ce) (hnd : (ce.flatMap CO.fp).Nodup) :
    ∃ env', News (ty := ty) w w' hp os env env' ∧ All2 (fun e co => look os e.1 = some e.2 ∧ env' e.1 = co) os ce := by
  refine ⟨fun n => match look (pair os ce) n with | some co => co | _ => env n, ⟨hb, ?_, ?_, ?_⟩, ?_⟩
  · intro n hl
    cases hq : look (pair os ce) n with
    | none => simp [hq]
    | some co =>
      exfalso
      clear hn hnd
      induction os generalizing ce with
      | nil => cases ce <;> simp [pair, look] at hq
      | cons e r ih =>
        cases ce with
        | nil => simp [pair, look] at hq
        | cons c cs =>
          obtain ⟨m, o⟩ := e
          by_cases hm : n = m
          · subst hm; rw [look_eq] at hl; cases hl
          · rw [look_ne hm] at hl
            rw [pair, look_ne hm] at hq
            exact ih h.2 hl hq
  · intro n o hl
    obtain ⟨co, h1, h2⟩ := pair_look h hl
    simp only [h1]
    exact ⟨h2.1 _ _, h2.2⟩
  · intro n m o o' hne h1 h2
    obtain ⟨co, h3, _⟩ := pair_look h h1
    obtain ⟨co', h5, _⟩ := pair_look h h2
    simp only [h3, h5]
    exact pair_dis hnd hne h3 h5
  · exact (pair_all hn h).mono fun e co _ hh => ⟨hh.1, by simp [hh.2]⟩

theorem adopt_ok {w : World} {lo : Nat} : ∀ {l : List V} {cs : List Value} {fp : List Nat} (m : Nat), RBs ty w lo l cs fp → ∃ ce : List CO,
    All2 (fun e co => (∀ hp env, RO ty w hp env e.1 e.2 co) ∧ ∀ b, b ∈ co.fp → lo ≤ b) (adopt m l).2 ce ∧ ce.flatMap CO.fp = fp ∧ (∀ e, e ∈ (adopt m l).2 → ∃ t l, e.2 = .arr t l) ∧
    ∀ hp env, All2 (fun e co => look hp e.1 = some e.2 ∧ env e.1 = co) (adopt m l).2 ce → All2 (RA w hp env) (adopt m l).1 cs
  | [], [], fp, m, h => ⟨[], trivial, h.symm, by simp [adopt], fun _ _ _ => trivial⟩
  | v :: r, u :: us, fp, m, ⟨f, g, h1, h2, e⟩ => by
    obtain ⟨ce, k1, k2, k3, k4⟩ := adopt_ok (m + 1) h2
    cases v with
    | lit x =>
      refine ⟨ce, k1, by rw [k2, e, h1.2.2]; rfl, k3, fun hp env hh => ⟨⟨h1.1, h1.2.1⟩, k4 hp env hh⟩⟩
    | sl t l =>
      refine ⟨⟨u, f⟩ :: ce, ⟨⟨fun _ _ => RO.ofBld (Bld.mono h1 (Nat.zero_le _)), (Bld.own h1).ge⟩, k1⟩, by rw [List.flatMap_cons, k2, e], ?_, ?_⟩
      · intro e' he
        rcases List.mem_cons.1 he with rfl | he
        · exact ⟨t, l, rfl⟩
        · exact k3 e' he
      · rintro hp env ⟨⟨q1, q2⟩, hh⟩
        exact ⟨⟨⟨t, l, q1⟩, by rw [q2]⟩, k4 hp env hh⟩
    | _ => exact h1.elim
  | [], _ :: _, _, _, h => h.elim
  | _ :: _, [], _, _, h => h.elim
theorem adopt_len : ∀ {l : List V} (m : Nat), (adopt m l).1.length = l.length
  | [], _ => rfl
  | v :: r, m => by
    have := adopt_len (l := r) (m + 1)
    cases v <;> simp [adopt, this]
theorem adopt1_ok {w : World} {lo : Nat} {x : S1} {u : Value} {fp : List Nat} (m : Nat) (h : RB1 ty w lo x u fp) : ∃ ce : List CO,
    All2 (fun e co => (∀ hp env, RO ty w hp env e.1 e.2 co) ∧ ∀ b, b ∈ co.fp → lo ≤ b) (adopt1 m x).2 ce ∧ ce.flatMap CO.fp = fp ∧ (∀ e, e ∈ (adopt1 m x).2 → ∃ t l, e.2 = .arr t l) ∧
    ∀ hp env, All2 (fun e co => look hp e.1 = some e.2 ∧ env e.1 = co) (adopt1 m x).2 ce → RS1 w hp env (adopt1 m x).1 u := by
  cases x with
  | a v =>
    obtain ⟨ce, k1, k2, k3, k4⟩ := adopt_ok m (show RBs ty w lo [v] [u] fp from h)
    have hl := adopt_len (l := [v]) m
    simp only [adopt1]
    generalize adopt m [v] = q at *
    obtain ⟨vs, os⟩ := q
    match vs, hl with
    | [v'], _ => exact ⟨ce, k1, k2, k3, fun hp env hh => (k4 hp env hh).1⟩
  | agg l =>
    obtain ⟨cs, rfl, hh⟩ := h
    obtain ⟨ce, k1, k2, k3, k4⟩ := adopt_ok m hh
    exact ⟨ce, k1, k2, k3, fun hp env hh => ⟨cs, rfl, k4 hp env hh⟩⟩
theorem All2.unapp {α β : Type} {R : α → β → Prop} : ∀ {as as' : List α} {bs bs' : List β}, as.length = bs.length → All2 R (as ++ as') (bs ++ bs') → All2 R as bs ∧ All2 R as' bs'
  | [], _, [], _, _, h => ⟨trivial, h⟩
  | _ :: _, _, _ :: _, _, hl, ⟨h1, h⟩ => ⟨⟨h1, (All2.unapp (by simpa using hl) h).1⟩, (All2.unapp (by simpa using hl) h).2⟩
  | [], _, _ :: _, _, hl, _ => by simp at hl
  | _ :: _, _, [], _, hl, _ => by simp at hl
theorem adopts_ok {w : World} {lo : Nat} : ∀ {l : List S1} {us : List Value} {fp : List Nat} (m : Nat), RBl ty w lo l us fp → ∃ ce : List CO,
    All2 (fun e co => (∀ hp env, RO ty w hp env e.1 e.2 co) ∧ ∀ b, b ∈ co.fp → lo ≤ b) (adopts m l).2 ce ∧ ce.flatMap CO.fp = fp ∧ (∀ e, e ∈ (adopts m l).2 → ∃ t l, e.2 = .arr t l) ∧
    ∀ hp env, All2 (fun e co => look hp e.1 = some e.2 ∧ env e.1 = co) (adopts m l).2 ce → All2 (RS1 w hp env) (adopts m l).1 us
  | [], [], fp, m, h => ⟨[], trivial, h.symm, by simp [adopts], fun _ _ _ => trivial⟩
  | x :: r, u :: us, fp, m, ⟨f, g, h1, h2, e⟩ => by
    obtain ⟨c1, k1, k2, k3, k4⟩ := adopt1_ok m h1
    obtain ⟨c2, q1, q2, q3, q4⟩ := adopts_ok (m + 20) h2
    refine ⟨c1 ++ c2, All2.app k1 q1, by rw [List.flatMap_append, k2, q2, e], ?_, ?_⟩
    · intro e' he
      rcases List.mem_append.1 he with he | he
      · exact k3 e' he
      · exact q3 e' he
    · intro hp env hh
      obtain ⟨a1, a2⟩ := All2.unapp (by have := k1.len; exact this.symm) hh
      exact ⟨k4 hp env a1, q4 hp env a2⟩
  | [], _ :: _, _, _, h => h.elim
  | _ :: _, [], _, _, h => h.elim
theorem adopts_len : ∀ {l : List S1} (m : Nat), (adopts m l).1.length = l.length
  | [], _ => rfl
  | _ :: r, m => by simp [adopts, adopts_len (l := r) (m + 20)]

theorem RBs.all2 {w : World} {lo : Nat} {hp : Hp} {env : Env} : ∀ {Vs : List V} {us : List Value} {fp : List Nat}, RBs ty w lo Vs us fp → (∀ b, b ∈ fp → ¬ Ow hp env b) → All2 (RA w hp env) Vs us
  | [], [], _, _, _ => trivial
  | v :: Vs, u :: us, _, ⟨f, q, h1, h2, rfl⟩, h => by
    refine ⟨?_, RBs.all2 h2 fun b hb => h b (List.mem_append_right _ hb)⟩
    cases v with
    | lit x => exact ⟨h1.1, h1.2.1⟩
    | sl t l => exact ⟨f, Bld.sl h1, fun b hb => h b (List.mem_append_left _ hb)⟩
    | _ => exact h1.elim
  | [], _ :: _, _, h, _ => h.elim
  | _ :: _, [], _, h, _ => h.elim
theorem RB1.rs1 {w : World} {lo : Nat} {hp : Hp} {env : Env} {x : S1} {u : Value} {fp : List Nat} (h : RB1 ty w lo x u fp) (hd : ∀ b, b ∈ fp → ¬ Ow hp env b) : RS1 w hp env x u := by
  cases x with
  | a v => exact (RBs.all2 (show RBs ty w lo [v] [u] fp from h) hd).1
  | agg l => obtain ⟨cs, rfl, hh⟩ := h; exact ⟨cs, rfl, hh.all2 hd⟩
theorem RBl.all2 {w : World} {lo : Nat} {hp : Hp} {env : Env} : ∀ {Vs : List S1} {us : List Value} {fp : List Nat}, RBl ty w lo Vs us fp → (∀ b, b ∈ fp → ¬ Ow hp env b) → All2 (RS1 w hp env) Vs us
  | [], [], _, _, _ => trivial
  | v :: Vs, u :: us, _, ⟨f, q, h1, h2, rfl⟩, h => ⟨h1.rs1 fun b hb => h b (List.mem_append_left _ hb), RBl.all2 h2 fun b hb => h b (List.mem_append_right _ hb)⟩
  | [], _ :: _, _, h, _ => h.elim
  | _ :: _, [], _, h, _ => h.elim

section
variable {P : Program} {zb : Base} {st : St} {a : Act} {w : World} {env : Env} {Q : Exit → Act → World → Prop} {o : Oper}
/-- A call. -/
theorem wp_call {f : FuncId} {x0 : Operand} {xs : Array Operand} {ts : Array TypeId} (ho : o.op = .call ⟨.value x0, xs, ts⟩) (h0 : a.eval x0 = .func (.func f) #[] #[]) {as rs : List S1} (hS : Sound ty P f as rs) (g : Good ty zb st a.tmps w env) (ha : All2 (Arg1 w) as (xs.toList.map a.eval))
    {own : Bool} {m : Nat} {vc : List Prop} {out : Out} (hout : outs m ⟨own, rs⟩ vc = out) (hn : nodupk out.o = true) :
    o.wp P a w (Does ty st a w env o.dst out.v out.o) Q := by
  have hrun : (execOp a.eval o).run P w = .ok (.enter f (xs.map a.eval)) w := by
    unfold execOp
    simp [ho, resolve, invoke, Deferred.ofValue, h0, hS.1]
  unfold Oper.wp
  rw [hrun]
  simp only [Oper.upon]
  have hx : xs.map a.eval = (xs.toList.map a.eval).toArray := by rw [← List.map_toArray]
  rw [hx]
  refine (hS.2 w _ ha).mono ?_
  rintro e w' ⟨u, fp, rfl, hb, hown, hr⟩
  have hfr : ∀ b, b ∈ fp → ¬ Ow st.hp env b := fun b hb' ho' => by have := (g.ow ho').2; have := hown.ge b hb'; omega
  cases own with
  | false =>
    simp only [outs] at hout
    match rs, hr with
    | [r], hr =>
      subst hout
      exact ⟨u, env, rfl, News.none hb, RB1.rs1 hr hfr⟩
    | [], ⟨us, hu, hr⟩ => subst hout; exact ⟨u, env, rfl, News.none hb, us, hu, RBl.all2 hr hfr⟩
    | r :: r' :: rr, ⟨us, hu, hr⟩ => subst hout; exact ⟨u, env, rfl, News.none hb, us, hu, RBl.all2 hr hfr⟩
  | true =>
    match rs, hr with
    | [r], hr =>
      obtain ⟨ce, k1, k2, k3, k4⟩ := adopt1_ok m (show RB1 ty w' w.heap.size r u fp from hr)
      have : out = ⟨vc, .one (adopt1 m r).1, (adopt1 m r).2 ++ []⟩ := by rw [← hout]; rfl
      rw [List.append_nil] at this
      subst this
      obtain ⟨env', hN, hl⟩ := News.list (ty := ty) (hp := st.hp) (env := env) hb hn k1 (by rw [k2]; exact hown.nodup)
      exact ⟨u, env', rfl, hN, k4 _ _ (hl.mono fun e co _ hh => ⟨look_app_some hh.1, hh.2⟩)⟩
    | [], ⟨us, hu, hr⟩ =>
      subst hout
      cases us with
      | nil => exact ⟨u, env, rfl, News.none hb, [], hu, trivial⟩
      | cons _ _ => exact hr.elim
    | r :: r' :: rr, ⟨us, hu, hr⟩ =>
      obtain ⟨ce, k1, k2, k3, k4⟩ := adopts_ok m (show RBl ty w' w.heap.size (r :: r' :: rr) us fp from hr)
      have : out = ⟨vc, .tup (adopts m (r :: r' :: rr)).1, (adopts m (r :: r' :: rr)).2⟩ := by rw [← hout]; rfl
      subst this
      obtain ⟨env', hN, hl⟩ := News.list (ty := ty) (hp := st.hp) (env := env) hb hn k1 (by rw [k2]; exact hown.nodup)
      exact ⟨u, env', rfl, hN, us, hu, k4 _ _ (hl.mono fun e co _ hh => ⟨look_app_some hh.1, hh.2⟩)⟩
end
end Go.Proofs.Ythlflnplnajjiaa.G
