/-
  append to a slice of the call's own.
-/
import Derived.Test.YthlflnplnajjiaaG8
namespace Go.Proofs.Ythlflnplnajjiaa.G
set_option linter.all false
open Go.RowKit L D
variable {ty : Tag → Nat}
theorem sl_news {α : Type} {k : Nat} {E : ER α} (G : Fine k E) (hk : 0 < k) {w : World} {u : Value} {l : List α} {fp : List Nat} (h : Sl k E w u l fp) :
    ∃ (news : List Value) (fx : List (List Nat)), Src w u l.length news ∧ fx.length = l.length ∧ news.length = l.length * k ∧ (∀ i x f, l[i]? = some x → fx[i]? = some f → E w ((news.drop (i * k)).take k) x f) ∧ fx.flatten.Sublist fp := by
  obtain ⟨oa, cap, rfl, hc, hm, h3⟩ := h
  rcases h3 with ⟨rfl, rfl, hno⟩ | ⟨b, off, fps, rfl, hb, rfl, he⟩
  · refine ⟨[], [], ?_, rfl, by simp, by simp, by simp⟩
    cases oa with
    | none => exact Or.inl ⟨by simp [hno rfl], rfl, rfl⟩
    | some a => exact Or.inr ⟨a, cap, rfl, by simp⟩
  · have hcell : ∀ j, j < l.length * k → ∃ v, w.cell? ⟨b, off + j, none⟩ = some v := by
      intro j hj
      have hi : j / k < l.length := Nat.div_lt_of_lt_mul (by rw [Nat.mul_comm]; omega)
      obtain ⟨f, hf⟩ := fps_some he.1 (List.getElem?_eq_getElem hi)
      obtain ⟨cs, hr, hE⟩ := he.2 _ _ f (List.getElem?_eq_getElem hi) hf
      have hl := G.len hE
      have hml := Nat.mod_lt j hk
      have := hr (j % k) cs[j % k] (List.getElem?_eq_getElem (by omega))
      refine ⟨cs[j % k]'(by omega), ?_⟩
      rw [← this]
      congr 2
      have := Nat.div_add_mod j k
      have := Nat.mul_comm k (j / k)
      omega
    refine ⟨(List.range (l.length * k)).map fun j => (w.cell? ⟨b, off + j, none⟩).getD undef, fps, Or.inr ⟨_, cap, rfl, ?_⟩, he.1, by simp, ?_, List.sublist_cons_self _ _⟩
    · intro j u hu
      have hj : j < l.length * k := by have := (List.getElem?_eq_some_iff.1 hu).1; simpa using this
      obtain ⟨v, hv⟩ := hcell j hj
      simp [hj, hv] at hu
      rw [Addr.add_mid, hv, hu]
    · intro i x f hx hf
      obtain ⟨cs, hr, hE⟩ := he.2 i x f hx hf
      have hl := G.len hE
      have hi : i < l.length := (List.getElem?_eq_some_iff.1 hx).1
      have h5 : i * k + k ≤ l.length * k := by
        have := Nat.mul_le_mul_right k (show i + 1 ≤ l.length by omega)
        rw [Nat.add_mul] at this; omega
      have : (((List.range (l.length * k)).map fun j => (w.cell? ⟨b, off + j, none⟩).getD undef).drop (i * k)).take k = cs := by
        apply List.ext_getElem?
        intro j
        by_cases hj : j < k
        · rw [List.getElem?_take, if_pos hj, List.getElem?_drop]
          have h6 := hr j cs[j] (List.getElem?_eq_getElem (by omega))
          rw [List.getElem?_map, List.getElem?_range (by omega)]
          simp [← Nat.add_assoc, h6, show j < cs.length by omega]
        · rw [List.getElem?_take, if_neg hj, List.getElem?_eq_none (by omega)]
      rw [this]; exact hE
theorem RO.turn {ks kv : List Nat} {w w' : World} {hp hp' : Hp} {env env' : Env} (s : Turn ks kv w hp env w' hp' env') {n : Nat} {o : Obj} {co : CO}
    (hk : ∀ b, b ∈ co.fp → w'.heap[b]? = w.heap[b]?) (h : RO ty w hp env n o co) : RO ty w' hp' env' n (o.kills ks kv) co := by
  cases o with
  | box c =>
    obtain ⟨b, cs, e, rfl, hh, hc⟩ := h
    exact ⟨b, cs, e, rfl, by rw [hk b (by simp)]; exact hh, hc.map fun a u hr => RA.turn s hr⟩
  | arr t l => exact RO.agree h hk
/-- The objects ks have gone into a new one. -/
def St.gone (st : St) (ks : List Nat) (d : Nat) (t : Tag) (l : List (T t)) : St :=
  match ks with
  | [] => ⟨st.n, st.sl, (d, .arr t l) :: st.hp⟩
  | ks => ⟨st.n, st.sl.map fun e => (e.1, e.2.kills ks []), (d, .arr t l) :: hkills ks [] st.hp⟩
theorem V.kills_nil (v : V) : v.kills [] [] = v := by
  unfold V.kills; split <;> simp
theorem S1.kills_nil (x : S1) : x.kills [] [] = x := by
  cases x with
  | a v => simp [S1.kills, V.kills_nil]
  | agg l => simp only [S1.kills, S1.agg.injEq]; rw [List.map_congr_left (g := id) fun v _ => V.kills_nil v, List.map_id]
theorem SV.kills_nil (x : SV) : x.kills [] [] = x := by
  cases x with
  | one x => simp [SV.kills, S1.kills_nil]
  | tup l => simp only [SV.kills, SV.tup.injEq]; rw [List.map_congr_left (g := id) fun v _ => S1.kills_nil v, List.map_id]
  | cond p x => simp [SV.kills, S1.kills_nil]
theorem hkills_nil (hp : Hp) : hkills [] [] hp = hp := by
  unfold hkills
  rw [List.filter_eq_self.2 (by simp), List.map_congr_left (g := id), List.map_id]
  rintro ⟨n, o⟩ _
  cases o with
  | box c => simp only [Obj.kills, id]; rw [List.map_congr_left (g := id) fun v _ => V.kills_nil v, List.map_id]
  | arr t l => rfl
theorem St.gone_eq (st : St) (ks : List Nat) (d : Nat) (t : Tag) (l : List (T t)) : st.gone ks d t l = ⟨st.n, st.sl.map fun e => (e.1, e.2.kills ks []), (d, .arr t l) :: hkills ks [] st.hp⟩ := by
  unfold St.gone
  split
  · rw [hkills_nil, List.map_congr_left (g := id), List.map_id]
    rintro ⟨n, x⟩ _
    simp [SV.kills_nil]
  · rfl
section
variable {P : Program} {zb : Base} {st st' : St} {a : Act} {w : World} {env : Env} {Q : Exit → Act → World → Prop} {o : Oper}
theorem pinned_mem {ks : List Nat} (h : pinned ks = false) {n : Nat} (hn : n ∈ ks) : pin n = false := by
  unfold pinned at h
  rw [List.any_eq_false] at h
  simpa using h n hn
/-- The state behind an append: the objects of ks have gone into a new one. -/
theorem good_app (g : Good ty zb st a.tmps w env) (hB : zb.w.heap.size ≤ w.heap.size) {ks : List Nat} (hpk : pinned ks = false) {d : Nat} (hdp : pin d = false) (hd : look (hkills ks [] st.hp) d = none) {v v' : Value} {w' : World} {t : Tag} {l : List (T t)} {fp fx fp' : List Nat}
    (hfp : ∀ b, b ∈ fp ++ fx → ∃ i o, i ∈ ks ∧ look st.hp i = some o ∧ b ∈ (env i).fp) (hvb : ∀ b, v.ownBlock = some b → b ∈ fp)
    (hB' : Bld (kk t) (rd t) 0 (ty t) w' v' l fp') (hg : w.grownBy w' v.ownBlock) (hsub : ∀ b, b ∈ fp' → b ∈ fp ∨ b ∈ fx ∨ b = w.heap.size) :
    ∃ env', Good ty zb ⟨st.n, st.sl.map fun e => (e.1, e.2.kills ks []), (d, .arr t l) :: hkills ks [] st.hp⟩ a.tmps w' env' ∧ (env' d).v = v' := by
  refine ⟨fun n => if n = d then ⟨v', fp'⟩ else env n, ?_, by simp⟩
  have hlk : ∀ m o, look ((d, Obj.arr t l) :: hkills ks [] st.hp) m = some o → (m = d ∧ o = .arr t l) ∨ (m ≠ d ∧ m ∉ ks ∧ ∃ o', look st.hp m = some o' ∧ o = o'.kills ks []) := by
    intro m o hm
    by_cases hmd : m = d
    · subst hmd; rw [look_eq] at hm; simp only [Option.some.injEq] at hm; exact Or.inl ⟨rfl, hm.symm⟩
    · rw [look_ne hmd, hkills_look] at hm
      split at hm
      · cases hm
      · rename_i hks
        cases hq : look st.hp m with
        | none => rw [hq] at hm; cases hm
        | some o' => rw [hq] at hm; simp only [Option.map_some, Option.some.injEq] at hm; exact Or.inr ⟨hmd, hks, o', rfl, hm.symm⟩
  have how : ∀ b, b ∈ fp' → b < w.heap.size → ∃ i o, i ∈ ks ∧ look st.hp i = some o ∧ b ∈ (env i).fp := by
    intro b hb hlt
    rcases hsub b hb with h | h | h
    · exact hfp b (List.mem_append_left _ h)
    · exact hfp b (List.mem_append_right _ h)
    · omega
  have hnd : ∀ m o, m ∉ ks → look st.hp m = some o → m ≠ d := by
    rintro m o hks h1 rfl
    rw [hkills_look, if_neg hks, h1] at hd
    cases hd
  have hst : ∀ m o, m ∉ ks → look st.hp m = some o → ∀ b, b ∈ (env m).fp → w'.heap[b]? = w.heap[b]? := by
    intro m o hks h3 b hb
    refine hg.block b ((g.obj m o h3).blk b hb) fun e => ?_
    obtain ⟨i, oi, hi, h5, h6⟩ := hfp b (List.mem_append_left _ (hvb b e.symm))
    exact g.dis m i _ _ (fun e => hks (e ▸ hi)) h3 h5 b hb h6
  have s : Turn ks [] w st.hp env w' ((d, .arr t l) :: hkills ks [] st.hp) (fun n => if n = d then ⟨v', fp'⟩ else env n) := by
    refine ⟨fun b hb hno => hg.block b hb fun e => ?_, ?_, ?_, ?_⟩
    · obtain ⟨i, o', _, h1, h2⟩ := hfp b (List.mem_append_left _ (hvb b e.symm))
      exact hno ⟨i, o', h1, h2⟩
    · rintro b hb ⟨m, o', h1, h2⟩
      rcases hlk m o' h1 with ⟨rfl, rfl⟩ | ⟨hmd, hks, o'', h3, rfl⟩
      · simp at h2
        obtain ⟨i, o', _, h3, h4⟩ := how b h2 hb
        exact ⟨i, o', h3, h4⟩
      · simp [hmd] at h2
        exact ⟨m, o'', h3, h2⟩
    · intro m o' hks h1
      have hmd := hnd m o' hks h1
      refine ⟨o'.kills ks [], by rw [look_ne hmd, hkills_look, if_neg hks, h1]; rfl, by cases o' <;> simp [Obj.like, Obj.kills], by simp [hmd]⟩
    · rintro m t' l' ⟨hks, _⟩ h1
      have hmd := hnd m _ hks h1
      exact ⟨by rw [look_ne hmd, hkills_look, if_neg hks, h1]; rfl, by simp [hmd], hst m _ hks h1⟩
  refine g.turn s (fun m o' hm => ?_) (fun m m' o1 o2 hne h1 h2 b hb hb' => ?_) (fun m o' hm b hb => ?_) (fun m hm => ?_)
  · rcases hlk m o' hm with ⟨rfl, rfl⟩ | ⟨hmd, hks, o'', h3, rfl⟩
    · simp only [if_true]; exact RO.ofBld hB'
    · simp only [if_neg hmd]
      have hro := g.obj m o'' h3
      exact hro.turn s (hst m o'' hks h3)
  · rcases hlk m o1 h1 with ⟨e1, _⟩ | ⟨hmd, hks, q1, h3, _⟩ <;> rcases hlk m' o2 h2 with ⟨e2, _⟩ | ⟨hmd', hks', q2, h4, _⟩
    · exact hne (e1.trans e2.symm)
    · simp only [if_pos e1] at hb
      simp only [if_neg hmd'] at hb'
      have hlt := (g.obj m' q2 h4).blk b hb'
      obtain ⟨i, oi, hi, h5, h6⟩ := how b hb hlt
      exact g.dis m' i _ _ (fun e => hks' (e ▸ hi)) h4 h5 b hb' h6
    · simp only [if_pos e2] at hb'
      simp only [if_neg hmd] at hb
      have hlt := (g.obj m q1 h3).blk b hb
      obtain ⟨i, oi, hi, h5, h6⟩ := how b hb' hlt
      exact g.dis m i _ _ (fun e => hks (e ▸ hi)) h3 h5 b hb h6
    · simp only [if_neg hmd] at hb
      simp only [if_neg hmd'] at hb'
      exact g.dis m m' _ _ hne h3 h4 b hb hb'
  · rcases hlk m o' hm with ⟨e1, _⟩ | ⟨hmd, hks, q1, h3, _⟩
    · simp only [if_pos e1] at hb
      by_cases hlt : b < w.heap.size
      · obtain ⟨i, oi, hi, h5, h6⟩ := how b hb hlt
        exact g.dom i oi h5 b h6
      · exact Or.inr (by omega)
    · simp only [if_neg hmd] at hb
      exact g.dom m q1 h3 b hb
  · have : m ≠ d := by rintro rfl; rw [hdp] at hm; cases hm
    simp only [if_neg this]
    exact g.pins m hm
end
/-- Where append puts. -/
def appDst (st : St) (t : Tag) : S1 → Option (List (T t) × List Nat)
  | .a (.own n) => match look st.hp n with
    | some (.arr t' l) => match castL t t' l with | some l => some (l, [n]) | none => none
    | _ => none
  | .a (.lit (.slice none 0 0)) => some ([], [])
  | _ => none
/-- What append puts. -/
def appSrc (st : St) (t : Tag) : S1 → Option (List (T t) × List Nat)
  | .a (.own n) => match look st.hp n with
    | some (.arr t' l) => match castL t t' l with | some l => some (l, match flat t with | true => [] | false => [n]) | none => none
    | _ => none
  | .a (.sl t' l) => match flat t, castL t t' l with
    | true, some l => some (l, [])
    | _, _ => none
  | .a (.vw _ _ t' l) => match flat t, castL t t' l with
    | true, some l => some (l, [])
    | _, _ => none
  | .a (.lit (.slice none 0 0)) => some ([], [])
  | _ => none
/-- Two lists after one another, written out where short. -/
def app1 {α : Type} : List α → List α → List α
  | [], l => l
  | [x], l => x :: l
  | k, l => k ++ l
theorem app1_eq {α : Type} (k l : List α) : app1 k l = k ++ l := by
  unfold app1; split <;> rfl
def notin (k m : List Nat) : Bool := k.all fun x => !m.any fun y => Nat.beq x y
def eapp (P : Program) (ty : Tag → Nat) (Γ : Nat → TK) (st : St) (m0 : Nat) : Op → Option (List Prop × St × SV)
  | .call ⟨.builtin .append, xs, ts⟩ => match xs.toList, ts.toList with
    | [s, x], [t1, t2] => match Γ t1, Nat.beq t1 t2 with
      | .sl t e, true => match Nat.beq e (ty t), opv st [] s, opv st [] x with
        | true, some vs, some vx => match appDst st t vs, appSrc st t vx with
          | some (l, k), some (lx, m) => match notin k m && !pinned (app1 k m) && !pin m0, look (hkills (app1 k m) [] st.hp) m0 with
            | true, none => some ([El P ty t, (l.length + lx.length) * byt t ≤ 140737488355328 ∧ l.length + lx.length ≤ maxLen],
                st.gone (app1 k m) m0 t (l ++ lx), .one (.a (.own m0)))
            | _, _ => none
          | _, _ => none
        | _, _, _ => none
      | _, _ => none
    | _, _ => none
  | _ => none
section
variable {P : Program} {zb : Base} {st : St} {a : Act} {w : World} {env : Env} {Q : Exit → Act → World → Prop} {o : Oper}
theorem appDst_ok (g : Good ty zb st a.tmps w env) {t : Tag} {x : S1} {u : Value} {l : List (T t)} {k : List Nat} (hr : RS1 w st.hp env x u) (h : appDst st t x = some (l, k)) :
    pinned k = false → ∃ fp, Bld (kk t) (rd t) 0 (ty t) w u l fp ∧ (∀ b, b ∈ fp → ∃ i o, i ∈ k ∧ look st.hp i = some o ∧ b ∈ (env i).fp) 
    := by
  intro hpk
  unfold appDst at h
  split at h
  · rename_i n
    split at h
    · rename_i t' l' hl
      split at h
      · rename_i l2 hc
        simp only [Option.some.injEq, Prod.mk.injEq] at h
        obtain ⟨rfl, rfl⟩ := h
        obtain ⟨e, rfl⟩ := castL_ok hc
        subst e
        obtain ⟨_, rfl⟩ := hr
        exact ⟨(env n).fp, RO.bld (pinned_mem hpk (by simp)) (g.obj n _ hl), fun b hb => ⟨n, _, by simp, hl, hb⟩⟩
      · cases h
    · cases h
  · simp only [Option.some.injEq, Prod.mk.injEq] at h
    obtain ⟨rfl, rfl⟩ := h
    have hu := (show RS1 w st.hp env (.a (.lit nilv)) u from hr).lit
    subst hu
    exact ⟨[], Bld.nil _ _ _ _ _, by simp⟩
  · cases h
theorem flat_src {t : Tag} (hf : flat t = true) {u : Value} {l : List (T t)} {fp : List Nat} (hs : Sl (kk t) (rd t) w u l fp) :
    ∃ (news : List Value) (fx : List (List Nat)), Src w u l.length news ∧ fx.length = l.length ∧ news.length = l.length * kk t ∧ (∀ i x f, l[i]? = some x → fx[i]? = some f → rd t w ((news.drop (i * kk t)).take (kk t)) x f) ∧ fx.flatten = [] := by
  obtain ⟨news, fx, h1, h2, h3, h4, h5⟩ := sl_news (fine t) (kk_pos t) hs
  refine ⟨news, fx, h1, h2, h3, h4, ?_⟩
  rw [List.flatten_eq_nil_iff]
  intro f hf'
  obtain ⟨i, hi⟩ := List.getElem?_of_mem hf'
  have hil : i < l.length := by have := (List.getElem?_eq_some_iff.1 hi).1; omega
  exact flat_ok t hf (h4 i _ f (List.getElem?_eq_getElem hil) hi)
theorem appSrc_ok (g : Good ty zb st a.tmps w env) {t : Tag} {x : S1} {u : Value} {l : List (T t)} {k : List Nat} (hr : RS1 w st.hp env x u) (h : appSrc st t x = some (l, k)) :
    ∃ (news : List Value) (fx : List (List Nat)), Src w u l.length news ∧ fx.length = l.length ∧ news.length = l.length * kk t ∧ (∀ i x f, l[i]? = some x → fx[i]? = some f → rd t w ((news.drop (i * kk t)).take (kk t)) x f) ∧
      (∀ b, b ∈ fx.flatten → ∃ i o, i ∈ k ∧ look st.hp i = some o ∧ b ∈ (env i).fp) ∧ Own 0 w fx.flatten := by
  unfold appSrc at h
  split at h
  · rename_i n
    split at h
    · rename_i t' l' hl
      split at h
      · rename_i l2 hc
        simp only [Option.some.injEq, Prod.mk.injEq] at h
        obtain ⟨rfl, hk⟩ := h
        obtain ⟨e, rfl⟩ := castL_ok hc
        subst e
        obtain ⟨_, rfl⟩ := hr
        have hb := RO.sl (g.obj n _ hl)
        split at hk
        · rename_i hf
          subst hk
          obtain ⟨news, fx, h1, h2, h3, h4, h5⟩ := flat_src hf hb
          exact ⟨news, fx, h1, h2, h3, h4, by simp [h5], by rw [h5]; exact Own.nil _ _⟩
        · subst hk
          obtain ⟨news, fx, h1, h2, h3, h4, h5⟩ := sl_news (fine t') (kk_pos t') hb
          have ho := RO.own (g.obj n _ hl)
          exact ⟨news, fx, h1, h2, h3, h4, fun b hb => ⟨n, _, by simp, hl, h5.subset hb⟩, ⟨h5.nodup ho.nodup, fun b hb => ho.ge b (h5.subset hb), fun b hb => ho.kind b (h5.subset hb)⟩⟩
      · cases h
    · cases h
  · rename_i t' l'
    split at h
    · rename_i l2 hf hc
      simp only [Option.some.injEq, Prod.mk.injEq] at h
      obtain ⟨rfl, rfl⟩ := h
      obtain ⟨e, rfl⟩ := castL_ok hc
      subst e
      obtain ⟨fp, hs, _⟩ := hr
      obtain ⟨news, fx, h1, h2, h3, h4, h5⟩ := flat_src hf hs
      exact ⟨news, fx, h1, h2, h3, h4, by simp [h5], by rw [h5]; exact Own.nil _ _⟩
    · cases h
  · rename_i t' l'
    split at h
    · rename_i l2 hf hc
      simp only [Option.some.injEq, Prod.mk.injEq] at h
      obtain ⟨rfl, rfl⟩ := h
      obtain ⟨e, rfl⟩ := castL_ok hc
      subst e
      obtain ⟨_, ⟨fp, hs, _⟩, _⟩ := hr
      obtain ⟨news, fx, h1, h2, h3, h4, h5⟩ := flat_src hf hs
      exact ⟨news, fx, h1, h2, h3, h4, by simp [h5], by rw [h5]; exact Own.nil _ _⟩
    · cases h
  · simp only [Option.some.injEq, Prod.mk.injEq] at h
    obtain ⟨rfl, rfl⟩ := h
    have hu := (show RS1 w st.hp env (.a (.lit nilv)) u from hr).lit
    subst hu
    exact ⟨[], [], Or.inl ⟨rfl, rfl, rfl⟩, rfl, by simp, by simp, by simp, Own.nil _ _⟩
  · cases h
theorem eapp_ok {Γ : Nat → TK} (C : ∀ t, TKok P t (Γ t)) {m0 : Nat} {vc : List Prop} {st' : St} {v : SV} (h : eapp P ty Γ st m0 o.op = some (vc, st', v)) (g : Good ty zb st a.tmps w env) (hB : zb.w.heap.size ≤ w.heap.size) (hv : ∀ q, q ∈ vc → q) :
    o.wp P a w (fun a' w' => ∃ u env', a' = a.put o.dst u ∧ Kept zb w w' ∧ Good ty zb st' a.tmps w' env' ∧ st'.n = st.n ∧ RSV w' st'.hp env' a.tmps v u) Q := by
  have hop : ∀ {x v}, opv st [] x = some v → RS1 w st.hp env v (a.eval x) := fun hx => opv_ok g (fun e he => by simp at he) hx
  generalize hoo : o.op = op at h
  cases op with
  | call c =>
    obtain ⟨callee, xs, ts⟩ := c
    cases callee with
    | builtin b =>
      cases b with
      | append =>
        simp only [eapp] at h
        split at h
        · rename_i s x t1 t2 hxl htl
          obtain rfl : xs = #[s, x] := by cases xs; simp_all
          obtain rfl : ts = #[t1, t2] := by cases ts; simp_all
          split at h
          · rename_i t e hk ht12
            have ht12 := Nat.eq_of_beq_eq_true ht12
            subst ht12
            split at h
            · rename_i vs vx he hs hx
              have he := Nat.eq_of_beq_eq_true he
              split at h
              · rename_i l k lx m hds hsr
                split at h
                · rename_i hno hlk
                  simp only [Bool.and_eq_true, Bool.not_eq_true'] at hno
                  obtain ⟨⟨hno, hpk⟩, hpm⟩ := hno
                  rw [app1_eq] at hpk
                  have hpk1 : pinned k = false := by
                    unfold pinned at hpk ⊢
                    rw [List.any_append, Bool.or_eq_false_iff] at hpk
                    exact hpk.1
                  simp only [Option.some.injEq, Prod.mk.injEq, app1_eq] at h
                  rw [app1_eq] at hlk
                  obtain ⟨rfl, h2, rfl⟩ := h
                  rw [St.gone_eq] at h2
                  subst h2
                  have hEl : El P ty t := hv _ (by simp)
                  obtain ⟨hb1, hb2⟩ : (l.length + lx.length) * byt t ≤ 140737488355328 ∧ l.length + lx.length ≤ maxLen := hv _ (by simp)
                  obtain ⟨fp, hD, hDk⟩ := appDst_ok g (hop hs) hds hpk1
                  obtain ⟨news, fx, n1, n2, n3, n4, n5, n6⟩ := appSrc_ok g (hop hx) hsr
                  have hC := C t1
                  rw [hk] at hC
                  have hOwn : Own 0 w (fp ++ fx.flatten) := by
                    have ho := hD.own
                    refine ⟨List.nodup_append.2 ⟨ho.nodup, n6.nodup, ?_⟩, fun b hb => ?_, fun b hb => ?_⟩
                    · rintro b hb c hc rfl
                      obtain ⟨i, oi, hi, h1, h2⟩ := hDk b hb
                      obtain ⟨j, oj, hj, h3, h4⟩ := n5 b hc
                      have hij : i ≠ j := by
                        rintro rfl
                        simp only [notin, List.all_eq_true, Bool.not_eq_true', List.any_eq_false] at hno
                        exact hno i hi i hj (by simp)
                      exact g.dis i j _ _ hij h1 h3 b h2 h4
                    · rcases List.mem_append.1 hb with hb | hb
                      · exact ho.ge b hb
                      · exact n6.ge b hb
                    · rcases List.mem_append.1 hb with hb | hb
                      · exact ho.kind b hb
                      · exact n6.kind b hb
                  refine wp_app' s x t1 hoo (fine t) (kk_pos t) 0 (ty t) (zval t) (byt t) (by rw [← he]; exact hC.1) hEl (zval_cells t) _ l fp rfl hD _ rfl lx news fx n1 n2 n3 n4 hOwn hb2 hb1 (Nat.zero_le _) ?_
                  intro v' w' fp' k1 k2 k3 k4 k5
                  obtain ⟨env', hg', hv'⟩ := good_app (ty := ty) g hB (ks := k ++ m) hpk hpm hlk (v := a.eval s) (fp := fp) (fx := fx.flatten)
                    (by
                      intro b hb
                      rcases List.mem_append.1 hb with hb | hb
                      · obtain ⟨i, oi, hi, h1⟩ := hDk b hb; exact ⟨i, oi, List.mem_append_left _ hi, h1⟩
                      · obtain ⟨i, oi, hi, h1⟩ := n5 b hb; exact ⟨i, oi, List.mem_append_right _ hi, h1⟩)
                    (by
                      intro b hb
                      obtain ⟨xs, fps, _, _, _, hfp, _⟩ := hD
                      rw [hfp, hb]; simp)
                    k1 k2 k4
                  refine ⟨v', env', rfl, ⟨k2.os, k2.tape, k2.output, k2.size, fun b hb hn => k2.block b (by omega) fun e => ?_, k5⟩, hg', rfl, ⟨t, _, look_eq⟩, hv'.symm⟩
                  have hbf : b ∈ fp := by
                    obtain ⟨xs, fps, _, _, _, hfp, _⟩ := hD
                    rw [hfp, ← e]; simp
                  obtain ⟨i, oi, hi, h1, h2⟩ := hDk b hbf
                  rcases g.dom i oi h1 b h2 with h | h
                  · exact hn h
                  · omega
                · cases h
              · cases h
            · cases h
          · cases h
        · cases h
      | _ => simp [eapp] at h
    | _ => simp [eapp] at h
  | _ => simp [eapp] at h
end
end Go.Proofs.Ythlflnplnajjiaa.G
