/-
  Stores into the elements of slices that the call owns, or that were lent to it.
-/
import Derived.Test.YthlflnplnajjiaaG10
import Derived.Test.YthlflnplnajjiaaL6
namespace Go.Proofs.Ythlflnplnajjiaa.G
set_option linter.all false
open Go.RowKit L D
variable {ty : Tag → Nat}
theorem rangeAt_app {w : World} {b o : Nat} {x y : List Value} (hx : w.rangeAt b o x) (hy : w.rangeAt b (o + x.length) y) : w.rangeAt b o (x ++ y) := by
  intro j v hv
  by_cases hj : j < x.length
  · rw [List.getElem?_append_left hj] at hv; exact hx j v hv
  · rw [List.getElem?_append_right (by omega)] at hv
    have := hy _ v hv
    rwa [show o + x.length + (j - x.length) = o + j by omega] at this
theorem rangeAt_take {w : World} {b o n : Nat} {cs : List Value} (h : w.rangeAt b o cs) : w.rangeAt b o (cs.take n) := by
  intro j v hv
  rw [List.getElem?_take] at hv
  split at hv
  · exact h j v hv
  · cases hv
theorem rangeAt_drop {w : World} {b o n : Nat} {cs : List Value} (h : w.rangeAt b o cs) : w.rangeAt b (o + n) (cs.drop n) := by
  intro j v hv
  rw [List.getElem?_drop] at hv
  have := h _ v hv
  rwa [show o + n + j = o + (n + j) by omega]
/-- A part of a range is stored anew. -/
theorem rangeAt_splice {w : World} {b o off : Nat} {cs us : List Value} (h : w.rangeAt b o cs) (hl : off + us.length ≤ cs.length) (ht : w.there b (o + off) us.length) :
    (w.setCells b (o + off) us).rangeAt b o (cs.take off ++ (us ++ cs.drop (off + us.length))) := by
  have l1 : (cs.take off).length = off := by rw [List.length_take]; omega
  refine rangeAt_app (World.rangeAt_setCells_apart (rangeAt_take h) _ _ _ (Or.inr (Or.inl (by rw [l1]; exact Nat.le_refl _)))) ?_
  rw [l1]
  refine rangeAt_app (World.rangeAt_setCells_same w b _ us ht) ?_
  rw [Nat.add_assoc]
  exact World.rangeAt_setCells_apart (rangeAt_drop h) _ _ _ (Or.inr (Or.inr (by omega)))
theorem RIs.app3 {w : World} {x y z : List V} {us vs ts : List Value} {f g h : List Nat} (a : RIs w x us f) (b : RIs w y vs g) (c : RIs w z ts h) : RIs w (x ++ (y ++ z)) (us ++ (vs ++ ts)) (f ++ (g ++ h)) := RIs.app a (RIs.app b c)
theorem RIs.split {w : World} : ∀ (n : Nat) {c : List V} {cs : List Value} {f : List Nat}, RIs w c cs f → ∃ f1 f2, f = f1 ++ f2 ∧ RIs w (c.take n) (cs.take n) f1 ∧ RIs w (c.drop n) (cs.drop n) f2
  | 0, c, cs, f, h => ⟨[], f, rfl, by simp [RIs], by simpa using h⟩
  | n + 1, [], [], f, h => ⟨[], f, rfl, by simp [RIs], by simpa using h⟩
  | n + 1, v :: r, u :: us, f, ⟨f1, f2, h1, h2, e⟩ => by
    obtain ⟨g1, g2, k1, k2, k3⟩ := RIs.split n h2
    exact ⟨f1 ++ g1, g2, by rw [e, k1, List.append_assoc], ⟨f1, g1, h1, k2, rfl⟩, by simpa using k3⟩
  | _ + 1, [], _ :: _, _, h => h.elim
  | _ + 1, _ :: _, [], _, h => h.elim
/-- A part of cells is another. -/
theorem RIs.spl {w : World} {c d vs : List V} {cs us : List Value} {f g : List Nat} {off : Nat} (h : RIs w c cs f) (hv : RIs w vs us g) (hs : G.spl c off vs = some d) :
    ∃ f1 f2 f3, f = f1 ++ (f2 ++ f3) ∧ RIs w d (cs.take off ++ (us ++ cs.drop (off + us.length))) (f1 ++ (g ++ f3)) ∧ off + us.length ≤ cs.length := by
  unfold G.spl at hs
  split at hs
  · rename_i hb
    have hb := Nat.le_of_ble_eq_true hb
    simp only [Option.some.injEq] at hs
    subst hs
    obtain ⟨f1, f', e1, k1, k2⟩ := RIs.split off h
    obtain ⟨f2, f3, e2, _, k4⟩ := RIs.split us.length k2
    have h1 := h.len
    have h2 := hv.len
    refine ⟨f1, f2, f3, by rw [e1, e2], ?_, by omega⟩
    have := RIs.app3 k1 hv k4
    rw [List.drop_drop, List.drop_drop] at this
    rw [← h2]
    exact this
  · cases hs
theorem fps_set_mem {fps : List (List Nat)} {i : Nat} {f' : List Nat} {b : Nat} (h : b ∈ (fps.set i f').flatten) : b ∈ f' ∨ ∃ j f, j ≠ i ∧ fps[j]? = some f ∧ b ∈ f := by
  obtain ⟨f, hf, hb⟩ := List.mem_flatten.1 h
  obtain ⟨j, hj⟩ := List.getElem?_of_mem hf
  by_cases hji : j = i
  · subst hji
    have hlt := (List.getElem?_eq_some_iff.1 hj).1
    rw [List.length_set] at hlt
    rw [List.getElem?_set_self hlt] at hj
    simp only [Option.some.injEq] at hj
    subst hj
    exact Or.inl hb
  · rw [List.getElem?_set_ne (Ne.symm hji)] at hj
    exact Or.inr ⟨j, f, hji, hj, hb⟩
theorem fps_set_nodup {fps : List (List Nat)} {i : Nat} {f' : List Nat} (h : fps.flatten.Nodup) (hf : f'.Nodup) (hd : ∀ j f, j ≠ i → fps[j]? = some f → ∀ b, b ∈ f → b ∉ f') : (fps.set i f').flatten.Nodup := by
  have h1 := List.pairwise_flatten.1 h
  refine List.pairwise_flatten.2 ⟨fun l hl => ?_, ?_⟩
  · obtain ⟨j, hj⟩ := List.getElem?_of_mem hl
    by_cases hji : j = i
    · subst hji
      have hlt := (List.getElem?_eq_some_iff.1 hj).1
      rw [List.length_set] at hlt
      rw [List.getElem?_set_self hlt] at hj
      simp only [Option.some.injEq] at hj
      subst hj
      exact hf
    · rw [List.getElem?_set_ne (Ne.symm hji)] at hj
      exact h1.1 _ (List.mem_of_getElem? hj)
  · have h2 := List.pairwise_iff_getElem.1 h1.2
    rw [List.pairwise_iff_getElem]
    intro p q hp hq hpq x hx y hy e
    subst e
    rw [List.length_set] at hp hq
    rw [List.getElem_set] at hx hy
    split at hx <;> split at hy
    · omega
    · rename_i e1 e2
      subst e1
      exact hd q _ (by omega) (List.getElem?_eq_getElem hq) x hy hx
    · rename_i e1 e2
      subst e2
      exact hd p _ (by omega) (List.getElem?_eq_getElem hp) x hx hy
    · exact h2 p q hp hq hpq x hx x hy rfl
/-- An element of a slice in memory is another, its cells stored anew. -/
theorem elems_put {α : Type} {k : Nat} {E : ER α} (G : Fine k E) {w w' : World} {b off : Nat} {l : List α} {fps : List (List Nat)} (h : Elems k E w b off l fps) {i : Nat} {x' : α} {f' : List Nat} {cs' : List Value}
    (hr : w'.rangeAt b (off + i * k) cs') (hE : E w' cs' x' f') (ho : ∀ j cs, j ≠ i → cs.length = k → w.rangeAt b (off + j * k) cs → w'.rangeAt b (off + j * k) cs) (ha : ∀ j f, j ≠ i → fps[j]? = some f → Agree w w' f) :
    Elems k E w' b off (l.set i x') (fps.set i f') := by
  refine ⟨by rw [List.length_set, List.length_set]; exact h.1, fun j y fy hy hfy => ?_⟩
  by_cases hj : i = j
  · subst hj
    have hi := (List.getElem?_eq_some_iff.1 hy).1
    rw [List.length_set] at hi
    have hi2 := (List.getElem?_eq_some_iff.1 hfy).1
    rw [List.length_set] at hi2
    rw [List.getElem?_set_self hi] at hy
    rw [List.getElem?_set_self hi2] at hfy
    simp only [Option.some.injEq] at hy hfy
    subst hy; subst hfy
    exact ⟨cs', hr, hE⟩
  · rw [List.getElem?_set_ne hj] at hy hfy
    obtain ⟨cy, hry, hEy⟩ := h.2 j y fy hy hfy
    exact ⟨cy, ho j cy (Ne.symm hj) (G.len hEy) hry, G.agree hEy (ha j fy (Ne.symm hj) hfy)⟩
/-- A slice that was built is built still, if its value is the same and its block has kept its shape. -/
theorem bld_of {α : Type} {k : Nat} {E : ER α} (G : Fine k E) {e : Nat} {w w' : World} {v : Value} {l l' : List α} {fp fp' : List Nat} (h : Bld k E 0 e w v l fp) (hs : Shape w w') (h' : Sl k E w' v l' fp') (ho : Own 0 w' fp') (hsub : ∀ b, b ∈ fp' → b ∈ fp) :
    ∃ fp2, Bld k E 0 e w' v l' fp2 ∧ ∀ b, b ∈ fp2 → b ∈ fp := by
  rcases h.part with ⟨rfl, rfl, rfl⟩ | ⟨g, n, fps, rfl, hn, rfl, hp⟩
  · obtain ⟨oa, cap, hv, _, _, h3⟩ := h'
    simp only [Value.slice.injEq] at hv
    obtain ⟨rfl, hl, rfl⟩ := hv
    have : l' = [] := List.eq_nil_of_length_eq_zero hl.symm
    subst this
    exact ⟨[], Bld.nil _ _ _ _ _, by simp⟩
  · obtain ⟨oa, cap, hv, hc, hm, h3⟩ := h'
    simp only [Value.slice.injEq] at hv
    obtain ⟨rfl, hl, rfl⟩ := hv
    obtain ⟨c, hc1, hc2⟩ := hp.blk
    obtain ⟨c', hs1, hs2⟩ := hs g c e hc1
    rcases h3 with ⟨rfl, rfl, _⟩ | ⟨b, off, fps', hb, hblt, rfl, hE⟩
    · rw [hl]
      refine ⟨[g], Part.bld G (l := []) (fps := []) ⟨⟨c', hs1, by rw [hs2, hc2]⟩, ⟨rfl, by simp⟩, ⟨by simp, by simp, fun b hb => ?_⟩, hm⟩ (Nat.zero_le _), by simp⟩
      simp only [List.flatten_nil, List.mem_singleton] at hb
      exact ⟨_, _, by rw [hb]; exact hs1⟩
    · simp only [Option.some.injEq, Addr.mk.injEq, and_true] at hb
      obtain ⟨rfl, rfl⟩ := hb
      rw [hl]
      exact ⟨_, Part.bld G ⟨⟨c', hs1, by rw [hs2, hc2]⟩, hE, ho, hm⟩ hc, hsub⟩
/-- May the value be stored as one of that type? -/
def fits : TK → S1 → Bool
  | .st z _ _, .agg c => Nat.beq c.length z.length
  | .st _ _ _, _ => false
  | .other, _ => false
  | _, .a _ => true
  | _, _ => false
theorem fits_agg {k : TK} {c : List V} (h : fits k (.agg c) = true) : ∃ z tg fo, k = .st z tg fo ∧ Nat.beq c.length z.length = true := by
  cases k with
  | st z tg fo => exact ⟨z, tg, fo, rfl, h⟩
  | _ => cases h
theorem fits_one {k : TK} {v : V} (h : fits k (.a v) = true) : (∀ z tg fo, k ≠ .st z tg fo) ∧ k ≠ .other := by
  cases k with
  | st z tg fo => cases h
  | other => cases h
  | _ => exact ⟨fun _ _ _ e => (by cases e), fun e => (by cases e)⟩
/-- An object is another; the objects ms have gone into it. -/
def St.turned (st : St) (ms : List Nat) (n : Nat) (t : Tag) (l : List (T t)) : St := ⟨st.n, st.sl.map fun e => (e.1, e.2.kills ms [n]), (n, .arr t l) :: hkills ms [n] st.hp⟩
def okput (n : Nat) (ms : List Nat) : Bool := nodupn (n :: ms) && !pinned ms && (match ms with | [] => true | _ => !pin n)
def eput (Γ : Nat → TK) (st : St) : Op → Option (List Prop × St)
  | .store t x y => match opv st [] x, opv st [] y with
    | some (.a (.eptr n i off)), some v => match look st.hp n with
      | some (.arr g l) => match fits (Γ t) v, takes st (cellsOf v) with
        | true, some (c, ms) => match spl (dec g (l.getD i (dfl g))) off c with
          | some d => match enc g d, okput n ms with
            | some (vc, y'), true => some ((i < l.length) :: vc, st.turned ms n g (l.set i y'))
            | _, _ => none
          | none => none
        | _, _ => none
      | _ => none
    | _, _ => none
  | _ => none
section
variable {P : Program} {zb : Base} {st st' : St} {a : Act} {w : World} {env : Env} {Q : Exit → Act → World → Prop} {o : Oper}
/-- An object has turned. -/
theorem good_turned (g : Good ty zb st a.tmps w env) {n : Nat} {t : Tag} {l l' : List (T t)} (hl : look st.hp n = some (.arr t l)) {ms : List Nat} (hok : okput n ms = true) {w' : World} {fp' fx : List Nat}
    (hfx : ∀ b, b ∈ fx → ∃ i o, i ∈ ms ∧ look st.hp i = some o ∧ b ∈ (env i).fp) (hsub : ∀ b, b ∈ fp' → b ∈ (env n).fp ∨ b ∈ fx) (hpin : pin n = true → ∀ b, b ∈ fp' → b ∈ (env n).fp)
    (hk : ∀ b, b ∉ (env n).fp → b ∉ fx → b < w.heap.size → w'.heap[b]? = w.heap[b]?) (hro' : RArr ty w' n t l' ⟨(env n).v, fp'⟩) :
    ∃ env', Good ty zb (st.turned ms n t l') a.tmps w' env' ∧ (env' n).v = (env n).v := by
  simp only [okput, Bool.and_eq_true, Bool.not_eq_true'] at hok
  obtain ⟨⟨hnd, hpk⟩, hpn⟩ := hok
  have hnd := nodupn_ok hnd
  have hnm : n ∉ ms := (List.nodup_cons.1 hnd).1
  refine ⟨fun m => if m = n then ⟨(env n).v, fp'⟩ else env m, ?_, by simp⟩
  have hlk : ∀ m o, look ((n, Obj.arr t l') :: hkills ms [n] st.hp) m = some o → (m = n ∧ o = .arr t l') ∨ (m ≠ n ∧ m ∉ ms ∧ ∃ o', look st.hp m = some o' ∧ o = o'.kills ms [n]) := by
    intro m o hm
    by_cases hmd : m = n
    · subst hmd; rw [look_eq] at hm; simp only [Option.some.injEq] at hm; exact Or.inl ⟨rfl, hm.symm⟩
    · rw [look_ne hmd, hkills_look] at hm
      split at hm
      · cases hm
      · rename_i hks
        cases hq : look st.hp m with
        | none => rw [hq] at hm; cases hm
        | some o' => rw [hq] at hm; simp only [Option.map_some, Option.some.injEq] at hm; exact Or.inr ⟨hmd, hks, o', rfl, hm.symm⟩
  have how : ∀ b, b ∈ fp' → ∃ i o, (i = n ∨ i ∈ ms) ∧ look st.hp i = some o ∧ b ∈ (env i).fp := by
    intro b hb
    rcases hsub b hb with h | h
    · exact ⟨n, _, Or.inl rfl, hl, h⟩
    · obtain ⟨i, o, h1, h2, h3⟩ := hfx b h; exact ⟨i, o, Or.inr h1, h2, h3⟩
  have hst : ∀ m o, m ≠ n → m ∉ ms → look st.hp m = some o → ∀ b, b ∈ (env m).fp → w'.heap[b]? = w.heap[b]? := by
    intro m o hmn hks h3 b hb
    refine hk b (fun h => g.dis m n _ _ hmn h3 hl b hb h) (fun h => ?_) ((g.obj m o h3).blk b hb)
    obtain ⟨i, oi, hi, h5, h6⟩ := hfx b h
    exact g.dis m i _ _ (fun e => hks (e ▸ hi)) h3 h5 b hb h6
  have s : Turn ms [n] w st.hp env w' ((n, .arr t l') :: hkills ms [n] st.hp) (fun m => if m = n then ⟨(env n).v, fp'⟩ else env m) := by
    refine ⟨fun b hb hno => hk b (fun h => hno ⟨n, _, hl, h⟩) (fun h => ?_) hb, ?_, ?_, ?_⟩
    · obtain ⟨i, oi, hi, h5, h6⟩ := hfx b h
      exact hno ⟨i, oi, h5, h6⟩
    · rintro b hb ⟨m, o', h1, h2⟩
      rcases hlk m o' h1 with ⟨rfl, rfl⟩ | ⟨hmd, hks, o'', h3, rfl⟩
      · simp at h2
        obtain ⟨i, o', _, h3, h4⟩ := how b h2
        exact ⟨i, o', h3, h4⟩
      · simp [hmd] at h2
        exact ⟨m, o'', h3, h2⟩
    · intro m o' hks h1
      by_cases hmn : m = n
      · subst hmn
        rw [hl] at h1
        simp only [Option.some.injEq] at h1
        subst h1
        exact ⟨_, look_eq, rfl, by simp⟩
      · exact ⟨o'.kills ms [n], by rw [look_ne hmn, hkills_look, if_neg hks, h1]; rfl, by cases o' <;> simp [Obj.like, Obj.kills], by simp [hmn]⟩
    · rintro m t' l2 ⟨hks, hmn⟩ h1
      have hmn : m ≠ n := by simpa using hmn
      exact ⟨by rw [look_ne hmn, hkills_look, if_neg hks, h1]; rfl, by simp [hmn], hst m _ hmn hks h1⟩
  refine g.turn s (fun m o' hm => ?_) (fun m m' o1 o2 hne h1 h2 b hb hb' => ?_) (fun m o' hm b hb => ?_) (fun m hm => ?_)
  · rcases hlk m o' hm with ⟨rfl, rfl⟩ | ⟨hmd, hks, o'', h3, rfl⟩
    · simp only [if_true]; exact hro'
    · simp only [if_neg hmd]
      exact (g.obj m o'' h3).turn s (hst m o'' hmd hks h3)
  · rcases hlk m o1 h1 with ⟨e1, _⟩ | ⟨hmd, hks, q1, h3, _⟩ <;> rcases hlk m' o2 h2 with ⟨e2, _⟩ | ⟨hmd', hks', q2, h4, _⟩
    · exact hne (e1.trans e2.symm)
    · simp only [if_pos e1] at hb
      simp only [if_neg hmd'] at hb'
      obtain ⟨i, oi, hi, h5, h6⟩ := how b hb
      refine g.dis m' i _ _ (fun e => ?_) h4 h5 b hb' h6
      rcases hi with hi | hi
      · exact hmd' (e.trans hi)
      · exact hks' (e ▸ hi)
    · simp only [if_pos e2] at hb'
      simp only [if_neg hmd] at hb
      obtain ⟨i, oi, hi, h5, h6⟩ := how b hb'
      refine g.dis m i _ _ (fun e => ?_) h3 h5 b hb h6
      rcases hi with hi | hi
      · exact hmd (e.trans hi)
      · exact hks (e ▸ hi)
    · simp only [if_neg hmd] at hb
      simp only [if_neg hmd'] at hb'
      exact g.dis m m' _ _ hne h3 h4 b hb hb'
  · rcases hlk m o' hm with ⟨e1, _⟩ | ⟨hmd, hks, q1, h3, _⟩
    · simp only [if_pos e1] at hb
      obtain ⟨i, oi, _, h5, h6⟩ := how b hb
      exact g.dom i oi h5 b h6
    · simp only [if_neg hmd] at hb
      exact g.dom m q1 h3 b hb
  · by_cases hmn : m = n
    · subst hmn
      simp only [if_true]
      exact ⟨(g.pins m hm).1, fun b hb => (g.pins m hm).2 b (hpin hm b hb)⟩
    · simp only [if_neg hmn]
      exact g.pins m hm
theorem eput_ok {Γ : Nat → TK} (C : ∀ t, TKok P t (Γ t)) (Z : ∀ t, (∀ z tg fo, Γ t ≠ .st z tg fo) → Γ t ≠ .other → (P.info? t).map (·.size) = some 1) {vc : List Prop} (h : eput Γ st o.op = some (vc, st')) (g : Good ty zb st a.tmps w env) (hv : ∀ q, q ∈ vc → q) :
    o.wp P a w (fun a' w' => ∃ env', a' = a.put o.dst undef ∧ Kept zb w w' ∧ Good ty zb st' a.tmps w' env' ∧ st'.n = st.n) Q := by
  have hop : ∀ {x v}, opv st [] x = some v → RS1 w st.hp env v (a.eval x) := fun hx => opv_ok g (fun e he => by simp at he) hx
  generalize hoo : o.op = op at h
  cases op with
  | store t x y =>
    simp only [eput] at h
    split at h
    · rename_i n i off v hx hy
      have hx := hop hx
      have hy := hop hy
      split at h
      · rename_i gt l hl
        split at h
        · rename_i c ms hfit htk
          split at h
          · rename_i d hs
            split at h
            · rename_i vc1 y' he hok
              simp only [Option.some.injEq, Prod.mk.injEq] at h
              obtain ⟨rfl, rfl⟩ := h
              have hi : i < l.length := hv _ (by simp)
              have hok' := hok
              simp only [okput, Bool.and_eq_true, Bool.not_eq_true'] at hok'
              obtain ⟨⟨hnd, hpk⟩, hpn⟩ := hok'
              have hnd := nodupn_ok hnd
              have hnm : n ∉ ms := (List.nodup_cons.1 hnd).1
              -- where the element lies
              obtain ⟨t1, l1, hl1, b2, o2, len1, cap1, hv1, hu⟩ := hx
              rw [hl] at hl1
              simp only [Option.some.injEq, Obj.arr.injEq] at hl1
              obtain ⟨rfl, _⟩ := hl1
              have hro := g.obj n _ hl
              obtain ⟨oa, cap, hsv, hc1, hc2, h3⟩ := RO.sl hro
              have hown := RO.own hro
              rcases h3 with ⟨rfl, _⟩ | ⟨b, o1, fps, hoa, hb2, hfp, hE⟩
              · simp at hi
              rw [hsv, hoa] at hv1
              simp only [Value.slice.injEq, Option.some.injEq, Addr.mk.injEq, and_true] at hv1
              obtain ⟨⟨rfl, rfl⟩, rfl, rfl⟩ := hv1
              have hxi : l[i]? = some (l.getD i (dfl gt)) := by rw [List.getD_eq_getElem?_getD, List.getElem?_eq_getElem hi]; rfl
              obtain ⟨f, hf⟩ := fps_some hE.1 hxi
              obtain ⟨cs, hra, hEi⟩ := hE.2 _ _ f hxi hf
              have hlen := (fine gt).len hEi
              rw [hfp] at hown
              have hnd2 := List.nodup_cons.1 hown.nodup
              -- what is stored
              obtain ⟨fx, hri, hox, hfx⟩ := takes_ok g (cellsOf_ok g hy (takes_noany htk)) htk (List.nodup_cons.1 hnd).2
              obtain ⟨f1, f2, f3, hff, hrd, hlo⟩ := RIs.spl (reads gt hEi) hri hs
              have hEn := enc_ok gt he (fun q hq => hv q (by simp [hq])) hrd
              have hsz : (P.info? t).map (·.size) = some (a.eval y).cells.toList.length ∧ ∀ u, u ∈ (a.eval y).cells.toList → u.oneCell' = true := by
                refine ⟨?_, all2_ones g (cellsOf_ok g hy (takes_noany htk)) (noany_mem (takes_noany htk))⟩
                cases v with
                | agg c' =>
                  have hk : ∃ z tg fo, Γ t = .st z tg fo ∧ Nat.beq c'.length z.length = true := by
                    exact fits_agg hfit
                  obtain ⟨z, tg, fo, hk, hfit⟩ := hk
                  have hC := C t
                  rw [hk] at hC
                  obtain ⟨fs, _, hi2, _⟩ := hC
                  obtain ⟨us, hus, hul⟩ := hy
                  have := Nat.eq_of_beq_eq_true hfit
                  have hl3 := hul.len
                  rw [hus]
                  cases hq : P.info? t with
                  | none => simp [hq] at hi2
                  | some inf => simp [hq] at hi2; simp [hi2.1, Value.cells, hl3, this]
                | a v' =>
                  have hk : (∀ z tg fo, Γ t ≠ .st z tg fo) ∧ Γ t ≠ .other := by
                    exact fits_one hfit
                  have hne : v' ≠ .any := by rintro rfl; simp [cellsOf, takes] at htk
                  have := one_cells g (show RA w st.hp env v' (a.eval y) from hy) hne
                  rw [this]
                  exact Z t hk.1 hk.2
              -- the block
              obtain ⟨cb, eb, hblk⟩ := hown.kind b (by simp)
              have hth : w.there b (o1 + i * kk gt + off) (a.eval y).cells.toList.length := by
                refine thereB hblk _ _ ?_
                have hcl : o1 + i * kk gt + cs.length ≤ cb.size := by
                  have hk0 := kk_pos gt
                  have := hra (cs.length - 1) _ (List.getElem?_eq_getElem (by omega))
                  rw [cellB hblk] at this
                  have := (Array.getElem?_eq_some_iff.1 this).1
                  omega
                omega
              have hkeep : ∀ x, x ≠ b → (w.setCells b (o1 + i * kk gt + off) (a.eval y).cells.toList).heap[x]? = w.heap[x]? := fun x hx => setCells_other b _ _ w x hx
              have hbx : ∀ x, x ∈ fx → x ≠ b := by
                rintro x hx rfl
                obtain ⟨m, om, hm, h5, h6⟩ := hfx x hx
                exact g.dis n m _ _ (fun e => hnm (e ▸ hm)) hl h5 x (by rw [hfp]; simp) h6
              have hbf : ∀ x, x ∈ fps.flatten → x ≠ b := fun x hx e => hnd2.1 (e ▸ hx)
              have hsubf : ∀ x, x ∈ f1 ++ (fx ++ f3) → x ∈ f ∨ x ∈ fx := by
                intro x hx
                rw [hff]
                rcases List.mem_append.1 hx with hx | hx
                · exact Or.inl (List.mem_append_left _ hx)
                · rcases List.mem_append.1 hx with hx | hx
                  · exact Or.inr hx
                  · exact Or.inl (List.mem_append_right _ (List.mem_append_right _ hx))
              have hne' : ∀ x, x ∈ f1 ++ (fx ++ f3) → x ≠ b := by
                intro x hx
                rcases hsubf x hx with h | h
                · exact hbf x (mem_fps hf h)
                · exact hbx x h
              have hagf : Agree w (w.setCells b (o1 + i * kk gt + off) (a.eval y).cells.toList) (f1 ++ (fx ++ f3)) := fun x hx => hkeep x (hne' x hx)
              have hEl' := elems_put (fine gt) (w' := w.setCells b (o1 + i * kk gt + off) (a.eval y).cells.toList) hE (i := i) (x' := y') (f' := f1 ++ (fx ++ f3))
                (rangeAt_splice hra hlo hth) ((fine gt).agree hEn hagf)
                (fun j cs' hj hcl hr => World.rangeAt_setCells_apart hr _ _ _ (Or.inr (by
                  rw [hcl]
                  rcases Nat.lt_or_ge j i with h1 | h1
                  · left
                    have := Nat.mul_le_mul_right (kk gt) (show j + 1 ≤ i by omega)
                    rw [Nat.add_mul] at this; omega
                  · right
                    have := Nat.mul_le_mul_right (kk gt) (show i + 1 ≤ j by omega)
                    rw [Nat.add_mul] at this; omega)))
                (fun j f' _ hf' x hx => hkeep x (hbf x (mem_fps hf' hx)))
              have hndf : (f1 ++ (fx ++ f3)).Nodup := by
                have h1 := (List.pairwise_flatten.1 hnd2.2).1 f (List.mem_of_getElem? hf)
                rw [hff] at h1
                obtain ⟨h2, h3, h4⟩ := List.nodup_append.1 h1
                obtain ⟨_, h6, _⟩ := List.nodup_append.1 h3
                have hap : ∀ x, x ∈ fx → x ∉ f := by
                  intro x hx hxf
                  obtain ⟨m, om, hm, h5, h7⟩ := hfx x hx
                  exact g.dis n m _ _ (fun e => hnm (e ▸ hm)) hl h5 x (by rw [hfp]; exact List.mem_cons_of_mem _ (mem_fps hf hxf)) h7
                rw [hff] at hap
                refine List.nodup_append.2 ⟨h2, List.nodup_append.2 ⟨hox.nodup, h6, ?_⟩, ?_⟩
                · rintro x hx z hz rfl
                  exact hap x hx (by simp [hz])
                · rintro x hx z hz rfl
                  rcases List.mem_append.1 hz with hz | hz
                  · exact hap x hz (by simp [hx])
                  · exact h4 x hx x (by simp [hz]) rfl
              have hmem : ∀ x, x ∈ (fps.set i (f1 ++ (fx ++ f3))).flatten → x ∈ fps.flatten ∨ x ∈ fx := by
                intro x hx
                rcases fps_set_mem hx with h | ⟨j, f', _, hj, h⟩
                · rcases hsubf x h with h | h
                  · exact Or.inl (mem_fps hf h)
                  · exact Or.inr h
                · exact Or.inl (mem_fps hj h)
              have hO' : Own 0 (w.setCells b (o1 + i * kk gt + off) (a.eval y).cells.toList) (b :: (fps.set i (f1 ++ (fx ++ f3))).flatten) := by
                refine ⟨List.nodup_cons.2 ⟨fun hm => ?_, fps_set_nodup hnd2.2 hndf fun j f' hj hf' x hx hx' => ?_⟩, fun _ _ => Nat.zero_le _, fun x hx => ?_⟩
                · rcases hmem b hm with h | h
                  · exact hnd2.1 h
                  · exact hbx b h rfl
                · rcases hsubf x hx' with h | h
                  · exact fps_apart hnd2.2 hf' hf hj x hx h
                  · obtain ⟨m, om, hm, h5, h7⟩ := hfx x h
                    exact g.dis n m _ _ (fun e => hnm (e ▸ hm)) hl h5 x (by rw [hfp]; exact List.mem_cons_of_mem _ (mem_fps hf' hx)) h7
                · rcases List.mem_cons.1 hx with rfl | hx
                  · obtain ⟨c', q1, _⟩ := setCells_blk x eb (a.eval y).cells.toList (o1 + i * kk gt + off) w cb hblk
                    exact ⟨_, _, q1⟩
                  · rcases hmem x hx with h | h
                    · rw [hkeep x (hbf x h)]; exact hown.kind x (List.mem_cons_of_mem _ h)
                    · rw [hkeep x (hbx x h)]; exact hox.kind x h
              have hSl' : Sl (kk gt) (rd gt) (w.setCells b (o1 + i * kk gt + off) (a.eval y).cells.toList) (env n).v (l.set i y') (b :: (fps.set i (f1 ++ (fx ++ f3))).flatten) := by
                refine ⟨some ⟨b, o1, none⟩, cap, by rw [hsv, hoa, List.length_set], by rw [List.length_set]; exact hc1, hc2, Or.inr ⟨b, o1, _, rfl, ?_, rfl, hEl'⟩⟩
                rw [setCells_size]; exact hb2
              have hM := g.dom n _ hl b (by rw [hfp]; simp)
              have hKept := kept_set hM hblk (o1 + i * kk gt + off) (a.eval y).cells.toList
              have hrun : (storeVar t ⟨b, o1 + i * kk gt + off, none⟩ (a.eval y)).run P w = .ok () (w.setCells b (o1 + i * kk gt + off) (a.eval y).cells.toList) := run_storeVar (by simp) hth hsz.1 hsz.2
              have hfin : ∃ fp', (∀ x, x ∈ fp' → x ∈ (env n).fp ∨ x ∈ fx) ∧ (pin n = true → ∀ x, x ∈ fp' → x ∈ (env n).fp) ∧ RArr ty (w.setCells b (o1 + i * kk gt + off) (a.eval y).cells.toList) n gt (l.set i y') ⟨(env n).v, fp'⟩ := by
                have hall : ∀ x, x ∈ b :: (fps.set i (f1 ++ (fx ++ f3))).flatten → x ∈ (env n).fp ∨ x ∈ fx := by
                  intro x hx
                  rw [hfp]
                  rcases List.mem_cons.1 hx with rfl | hx
                  · exact Or.inl (by simp)
                  · rcases hmem x hx with h | h
                    · exact Or.inl (List.mem_cons_of_mem _ h)
                    · exact Or.inr h
                cases hp : pin n with
                | true =>
                  refine ⟨_, hall, fun _ x hx => ?_, by unfold RArr; rw [hp]; exact ⟨hSl', hO'⟩⟩
                  rcases hall x hx with h | h
                  · exact h
                  · obtain ⟨m, om, hm, _⟩ := hfx x h
                    cases ms with
                    | nil => simp at hm
                    | cons _ _ => rw [hp] at hpn; simp at hpn
                | false =>
                  obtain ⟨c', e', hbl⟩ : ∃ xs fps0, w.ownsRow 0 (ty gt) (kk gt) (env n).v l.length xs ∧ fps0 = fps := by
                    obtain ⟨xs, fps0, h1, _⟩ := RO.bld hp hro
                    exact ⟨xs, fps, h1, rfl⟩
                  have hB := RO.bld hp hro
                  -- build it again
                  have hB2 : Bld (kk gt) (rd gt) 0 (ty gt) (w.setCells b (o1 + i * kk gt + off) (a.eval y).cells.toList) (env n).v (l.set i y') (b :: (fps.set i (f1 ++ (fx ++ f3))).flatten) := by
                    rcases hB.part with ⟨h1, rfl, _⟩ | ⟨g0, n0, fps0, h1, hn0, h2, hp0⟩
                    · simp at hi
                    · rw [hsv, hoa] at h1
                      simp only [Value.slice.injEq, Option.some.injEq, Addr.mk.injEq, and_true, true_and] at h1
                      obtain ⟨⟨rfl, rfl⟩, rfl⟩ := h1
                      obtain ⟨cc, q1, q2⟩ := hp0.blk
                      obtain ⟨cc', q3, q4⟩ := setCells_blk b (ty gt) (a.eval y).cells.toList (0 + i * kk gt + off) w cc q1
                      rw [hsv, hoa, ← List.length_set (as := l) (i := i) (a := y')]
                      exact Part.bld (fine gt) ⟨⟨cc', q3, by rw [q4, q2]⟩, hEl', hO', hc2⟩ (by rw [List.length_set]; exact hc1)
                  refine ⟨_, hall, ?_, ?_⟩
                  · intro h; cases h
                  · unfold RArr; rw [hp]; exact hB2
              obtain ⟨fp', k1, k2, k3⟩ := hfin
              obtain ⟨env', hg', hv'⟩ := good_turned g hl hok (w' := w.setCells b (o1 + i * kk gt + off) (a.eval y).cells.toList) hfx k1 k2 (fun x hx _ _ => hkeep x (fun e => hx (by rw [e, hfp]; simp))) k3
              unfold Oper.wp execOp
              simp only [hoo, hu, Instr.storeAt, Instr.sureAddr, Sem.run_bind, Sem.run_pure, Result.andThen_ok, hrun]
              exact ⟨env', rfl, hKept, hg', rfl⟩
            · cases h
          · cases h
        · cases h
      · cases h
    · cases h
  | _ => simp [eput] at h
end
end Go.Proofs.Ythlflnplnajjiaa.G
