/-
  Operations that turn the call's own memory: stores into variables. What must be struck behind a turn.
-/
import Derived.Test.YthlflnplnajjiaaG7
import Derived.Test.YthlflnplnajjiaaU2
namespace Go.Proofs.Ythlflnplnajjiaa.G
set_option linter.all false
open Go.RowKit L D
variable {ty : Tag → Nat}
def V.kills (ks kv : List Nat) (v : V) : V := match v.name with
  | some m => match ks.any (Nat.beq m) with
    | true => .any
    | false => match kv with
      | [] => v
      | kv => match v.view with
        | some _ => match kv.any (Nat.beq m) with | true => .any | false => v
        | none => v
  | none => v
def S1.kills (ks kv : List Nat) : S1 → S1
  | .a v => .a (v.kills ks kv)
  | .agg l => .agg (l.map (V.kills ks kv))
def SV.kills (ks kv : List Nat) : SV → SV
  | .one x => .one (x.kills ks kv)
  | .tup l => .tup (l.map (S1.kills ks kv))
  | .cond p x => .cond p (x.kills ks kv)
def Obj.kills (ks kv : List Nat) : Obj → Obj
  | .box c => .box (c.map (V.kills ks kv))
  | .arr t l => .arr t l
def hkills (ks kv : List Nat) (hp : Hp) : Hp := (hp.filter fun e => !ks.any (Nat.beq e.1)).map fun e => (e.1, e.2.kills ks kv)
def pinned (ks : List Nat) : Bool := ks.any pin
theorem V.kills_name {ks kv : List Nat} {v : V} : (v.kills ks kv).hangs (fun n => n ∉ ks) (fun n => n ∉ ks ∧ n ∉ kv) := by
  have hx : ∀ {l : List Nat} {m : Nat}, (l.any (Nat.beq m)) = false → m ∉ l := by
    intro l m h hm
    rw [List.any_eq_false] at h
    exact h m hm (by simp)
  unfold V.kills
  split
  · rename_i m hm
    split
    · exact ⟨fun _ h => by simp [V.name] at h, fun _ h => by simp [V.view] at h⟩
    · rename_i hk
      have hk := hx hk
      have hn : ∀ n, v.name = some n → n ∉ ks := by
        intro n h; rw [hm] at h; simp only [Option.some.injEq] at h; subst h; exact hk
      split
      · exact ⟨hn, fun n h => ⟨hn n (V.view_name h), by simp⟩⟩
      · split
        · split
          · exact ⟨fun _ h => by simp [V.name] at h, fun _ h => by simp [V.view] at h⟩
          · rename_i hv
            have hv := hx hv
            refine ⟨hn, fun n h => ⟨hn n (V.view_name h), ?_⟩⟩
            have := V.view_name h
            rw [hm] at this; simp only [Option.some.injEq] at this; subst this; exact hv
        · rename_i hnv
          exact ⟨hn, fun n h => by rw [hnv] at h; cases h⟩
  · rename_i hm
    refine ⟨fun n h => ?_, fun n h => ?_⟩
    · rw [hm] at h; cases h
    · have := V.view_name h; rw [hm] at this; cases this
theorem RA.kills {w : World} {hp : Hp} {env : Env} {ks kv : List Nat} {v : V} {u : Value} (h : RA w hp env v u) : RA w hp env (v.kills ks kv) u := by
  unfold V.kills
  repeat' split
  all_goals first
    | trivial
    | exact h
/-- The step that a turn makes: the names of ks are gone, the memory of kv is another. -/
abbrev Turn (ks kv : List Nat) (w : World) (hp : Hp) (env : Env) (w' : World) (hp' : Hp) (env' : Env) : Prop := Step (fun n => n ∉ ks) (fun n => n ∉ ks ∧ n ∉ kv) w hp env w' hp' env'
section
variable {ks kv : List Nat} {w w' : World} {hp hp' : Hp} {env env' : Env}
theorem RA.turn (s : Turn ks kv w hp env w' hp' env') {v : V} {u : Value} (h : RA w hp env v u) : RA w' hp' env' (v.kills ks kv) u :=
  RA.step s V.kills_name h.kills
theorem All2.map {α β γ : Type} {R : α → β → Prop} {R' : γ → β → Prop} {f : α → γ} : ∀ {as : List α} {bs : List β}, (∀ a b, R a b → R' (f a) b) → All2 R as bs → All2 R' (as.map f) bs
  | [], [], _, _ => trivial
  | a :: as, b :: bs, h, ⟨h1, h2⟩ => ⟨h a b h1, All2.map h h2⟩
  | [], _ :: _, _, h => h.elim
  | _ :: _, [], _, h => h.elim
theorem RS1.turn (s : Turn ks kv w hp env w' hp' env') {x : S1} {u : Value} (h : RS1 w hp env x u) : RS1 w' hp' env' (x.kills ks kv) u := by
  cases x with
  | a v => exact RA.turn s h
  | agg l => obtain ⟨cs, hu, hl⟩ := h; exact ⟨cs, hu, hl.map fun a b hr => RA.turn s hr⟩
theorem RSV.turn (s : Turn ks kv w hp env w' hp' env') {tmps : Array Value} {x : SV} {u : Value} (h : RSV w hp env tmps x u) : RSV w' hp' env' tmps (x.kills ks kv) u := by
  cases x with
  | one x => exact RS1.turn s h
  | tup l => obtain ⟨us, hu, hl⟩ := h; exact ⟨us, hu, hl.map fun a b hr => RS1.turn s hr⟩
  | cond p x => exact ⟨fun hh => RS1.turn s (h.1 hh), h.2⟩
theorem Good.turn {zb : Base} {st : St} {tmps : Array Value} (g : Good ty zb st tmps w env) (s : Turn ks kv w st.hp env w' hp' env')
    (ho : ∀ n o, look hp' n = some o → RO ty w' hp' env' n o (env' n)) (hd : ∀ n m o o', n ≠ m → look hp' n = some o → look hp' m = some o' → ∀ b, b ∈ (env' n).fp → b ∉ (env' m).fp)
    (hm : ∀ n o, look hp' n = some o → ∀ b, b ∈ (env' n).fp → b ∈ zb.L ∨ zb.w.heap.size ≤ b) (hp : ∀ n, pin n = true → (env' n).v = (zb.pv n).v ∧ ∀ b, b ∈ (env' n).fp → b ∈ (zb.pv n).fp) :
    Good ty zb ⟨st.n, st.sl.map fun e => (e.1, e.2.kills ks kv), hp'⟩ tmps w' env' := by
  refine ⟨ho, hd, fun t v hl => ?_, hm, hp⟩
  have hl : look (st.sl.map fun e => (e.1, e.2.kills ks kv)) t = some v := hl
  rw [look_map (α := SV) (f := fun e : Nat × SV => e.2.kills ks kv)] at hl
  cases hq : look st.sl t with
  | none => rw [hq] at hl; cases hl
  | some y =>
    rw [hq] at hl
    simp only [Option.map_some, Option.some.injEq] at hl
    subst hl
    exact RSV.turn s (g.slot t y hq)
end
theorem hkills_look {ks kv : List Nat} {hp : Hp} {n : Nat} : look (hkills ks kv hp) n = if n ∈ ks then none else (look hp n).map (Obj.kills ks kv) := by
  unfold hkills
  rw [look_map (α := Obj) (f := fun e : Nat × Obj => e.2.kills ks kv)]
  have : look (hp.filter fun e => !ks.any (Nat.beq e.1)) n = if n ∈ ks then none else look hp n := by
    induction hp with
    | nil => simp [look]
    | cons e r ih =>
      obtain ⟨j, x⟩ := e
      by_cases hj : j ∈ ks
      · have : (ks.any (Nat.beq j)) = true := List.any_eq_true.2 ⟨j, hj, by simp⟩
        rw [List.filter_cons_of_neg (by simp [this]), ih]
        by_cases hn : n ∈ ks
        · simp [hn]
        · have : n ≠ j := by rintro rfl; exact hn hj
          rw [look_ne this]
      · have : (ks.any (Nat.beq j)) = false := List.any_eq_false.2 fun y hy hb => hj (by have := Nat.eq_of_beq_eq_true hb; rw [this]; exact hy)
        rw [List.filter_cons_of_pos (by simp [this])]
        by_cases hn : n = j
        · subst hn; rw [look_eq, look_eq, if_neg hj]
        · rw [look_ne hn, look_ne hn, ih]
  rw [this]
  split <;> rfl

theorem noany_mem : ∀ {l : List V}, noany l = true → ∀ v, v ∈ l → v ≠ .any
  | x :: r, h, v, hv => by
    cases x with
    | any => simp [noany] at h
    | _ =>
      rcases List.mem_cons.1 hv with rfl | hv
      · exact fun e => by cases e
      · exact noany_mem (l := r) (by simpa [noany] using h) v hv
/-- A variable is written. -/
def estore (Γ : Nat → TK) (st : St) : Op → Option St
  | .store t x y => match opv st [] x, opv st [] y with
    | some (.a (.ptr n off)), some v => match look st.hp n with
      | some (.box c) => match Γ t, v with
        | .st z _ _, .agg l => match Nat.beq l.length z.length && noany l, spl c off l with
          | true, some c' => some ⟨st.n, st.sl, (n, .box c') :: st.hp⟩
          | _, _ => none
        | .st _ _ _, .a _ => none
        | .other, _ => none
        | _, .a .any => none
        | _, .a v => match spl c off [v] with
          | some c' => some ⟨st.n, st.sl, (n, .box c') :: st.hp⟩
          | none => none
        | _, _ => none
      | _ => none
    | _, _ => none
  | _ => none
section
variable {P : Program} {zb : Base} {st st' : St} {a : Act} {w : World} {env : Env} {Q : Exit → Act → World → Prop} {o : Oper}
theorem RA.one (g : Good ty zb st a.tmps w env) {v : V} {u : Value} (h : RA w st.hp env v u) (hv : v ≠ .any) : u.oneCell' = true := by
  cases v with
  | any => exact absurd rfl hv
  | lit x => obtain ⟨rfl, h1⟩ := h; exact h1
  | sl t l => obtain ⟨fp, ⟨oa, cap, rfl, _⟩, _⟩ := h; rfl
  | own n =>
    obtain ⟨⟨t, l, hl⟩, rfl⟩ := h
    obtain ⟨oa, cap, h, _⟩ := RO.sl (g.obj n _ hl)
    rw [h]; rfl
  | ptr n off => obtain ⟨_, b, _, rfl⟩ := h; rfl
  | eptr n i off => obtain ⟨t, l, _, b, o, len, cap, _, rfl⟩ := h; rfl
  | ip t x off => obtain ⟨b, o, cs, fp, rfl, _⟩ := h; rfl
  | vw n p t l => obtain ⟨_, ⟨fp, ⟨oa, cap, rfl, _⟩, _⟩, _⟩ := h; rfl
  | vip n t x off => obtain ⟨_, b, o, cs, fp, rfl, _⟩ := h; rfl
theorem all2_ones (g : Good ty zb st a.tmps w env) : ∀ {l : List V} {us : List Value}, All2 (RA w st.hp env) l us → (∀ v, v ∈ l → v ≠ .any) → ∀ u, u ∈ us → u.oneCell' = true
  | v :: l, u :: us, ⟨h1, h2⟩, hn, x, hx => by
    rcases List.mem_cons.1 hx with rfl | hx
    · exact RA.one g h1 (hn v (by simp))
    · exact all2_ones g h2 (fun y hy => hn y (by simp [hy])) x hx
  | [], _ :: _, h, _, _, _ => h.elim
theorem good_box (g : Good ty zb st a.tmps w env) {n : Nat} {c c' : List V} (hl : look st.hp n = some (.box c)) {b : Nat} {cs us : List Value} {e : TypeId} {off : Nat} (hco : env n = ⟨.pointer (some ⟨b, 0, none⟩), [b]⟩) (hh : w.heap[b]? = some (.cells (Array.mk cs) e (0, 0)))
    (hlen : off + us.length ≤ cs.length) (hc : All2 (RA w st.hp env) c' (cs.take off ++ (us ++ cs.drop (off + us.length)))) :
    Good ty zb ⟨st.n, st.sl, (n, .box c') :: st.hp⟩ a.tmps (w.setCells b off us) env := by
  have hk : ∀ x, x ≠ b → (w.setCells b off us).heap[x]? = w.heap[x]? := fun x hx => setCells_other b us off w x hx
  have hlk : ∀ m o, look ((n, Obj.box c') :: st.hp) m = some o → (m = n ∧ o = .box c') ∨ (m ≠ n ∧ look st.hp m = some o) := by
    intro m o hm
    by_cases hmn : m = n
    · subst hmn; rw [look_eq] at hm; simp only [Option.some.injEq] at hm; exact Or.inl ⟨rfl, hm.symm⟩
    · rw [look_ne hmn] at hm; exact Or.inr ⟨hmn, hm⟩
  have how : Ow st.hp env b := ⟨n, _, hl, by rw [hco]; simp⟩
  have s : Step (fun _ => True) (fun _ => True) w st.hp env (w.setCells b off us) ((n, .box c') :: st.hp) env := by
    refine ⟨fun x _ hx => hk x (fun e => hx (e ▸ how)), ?_, ?_, ?_⟩
    · rintro x _ ⟨m, o, h1, h2⟩
      rcases hlk m o h1 with ⟨rfl, rfl⟩ | ⟨_, h1⟩
      · exact ⟨m, _, hl, h2⟩
      · exact ⟨m, o, h1, h2⟩
    · intro m o _ h1
      by_cases hmn : m = n
      · subst hmn
        rw [hl] at h1
        simp only [Option.some.injEq] at h1
        subst h1
        exact ⟨_, look_eq, trivial, rfl⟩
      · exact ⟨o, by rw [look_ne hmn]; exact h1, by cases o <;> simp [Obj.like], rfl⟩
    · intro m t l _ h1
      have hmn : m ≠ n := by rintro rfl; rw [hl] at h1; cases h1
      refine ⟨by rw [look_ne hmn]; exact h1, rfl, fun x hx => hk x ?_⟩
      rintro rfl
      exact g.dis m n _ _ hmn h1 hl x hx (by rw [hco]; simp)
  refine ⟨fun m o hm => ?_, fun m m' o o' hne h1 h2 => ?_, fun t v hv => RSV.step s (fun v _ => v.hangs_all) (g.slot t v hv), fun m o hm b hb => ?_, g.pins⟩
  · rcases hlk m o hm with ⟨rfl, rfl⟩ | ⟨hmn, hm⟩
    · refine ⟨b, _, e, hco, ?_, hc.mono fun v u _ h => RA.step s v.hangs_all h⟩
      rw [setcs_same hh, splice_list us cs off hlen]
    · have hro := g.obj m o hm
      refine hro.step s (fun _ _ v _ => v.hangs_all) fun x hx => hk x ?_
      rintro rfl
      exact g.dis m n o _ hmn hm hl x hx (by rw [hco]; simp)
  · rcases hlk m o h1 with ⟨e1, e2⟩ | ⟨_, k1⟩ <;> rcases hlk m' o' h2 with ⟨e3, e4⟩ | ⟨_, k2⟩
    · exact absurd (e1.trans e3.symm) hne
    · exact g.dis m m' _ _ hne (e1 ▸ hl) k2
    · exact g.dis m m' _ _ hne k1 (e3 ▸ hl)
    · exact g.dis m m' _ _ hne k1 k2
  · rcases hlk m o hm with ⟨e1, _⟩ | ⟨_, k1⟩
    · subst e1; exact g.dom m _ hl b hb
    · exact g.dom m o k1 b hb
/-- Writing into a block that may be written. -/
theorem kept_set {b : Nat} (hb : b ∈ zb.L ∨ zb.w.heap.size ≤ b) {c : Array Value} {e : TypeId} (hh : w.heap[b]? = some (.cells c e (0, 0))) (off : Nat) (us : List Value) : Kept zb w (w.setCells b off us) := by
  have h0 := below_setCells (B := 0) (w := w) (Below.refl 0 w) (Nat.zero_le b) off us
  refine ⟨h0.os, h0.tape, h0.output, h0.size, fun x hx hn => setCells_other b us off w x ?_, fun x c' e' hx => ?_⟩
  · rintro rfl
    rcases hb with h | h
    · exact hn h
    · omega
  · by_cases hxb : x = b
    · subst hxb
      rw [hh] at hx
      simp only [Option.some.injEq, Go.Obj.cells.injEq, and_true] at hx
      obtain ⟨rfl, rfl⟩ := hx
      obtain ⟨c2, h1, h2⟩ := setCells_blk x e us off w c hh
      exact ⟨c2, h1, h2⟩
    · exact ⟨c', by rw [setCells_other b us off w x hxb]; exact hx, rfl⟩
theorem run_storeVar {t b off : Nat} {v : Value} {us : List Value} (hv : v.cells = us.toArray) (ht : w.there b off us.length) (hi : (P.info? t).map (·.size) = some us.length) (h1 : ∀ u, u ∈ us → u.oneCell' = true) :
    (storeVar t ⟨b, off, none⟩ v).run P w = .ok () (w.setCells b off us) := by
  have := run_storeVar_mid (P := P) w b off t us.toArray (by simpa using ht) (by simpa using hi) (all_oneCell_toArray h1)
  unfold storeVar at this ⊢
  rw [hv]
  exact this
theorem estore_ok {Γ : Nat → TK} (C : ∀ t, TKok P t (Γ t)) (Z : ∀ t, (∀ z tg fo, Γ t ≠ .st z tg fo) → Γ t ≠ .other → (P.info? t).map (·.size) = some 1) (h : estore Γ st o.op = some st') (g : Good ty zb st a.tmps w env) :
    o.wp P a w (fun a' w' => a' = a.put o.dst undef ∧ Kept zb w w' ∧ Good ty zb st' a.tmps w' env ∧ st'.n = st.n ∧ st'.sl = st.sl) Q := by
  have hop : ∀ {x v}, opv st [] x = some v → RS1 w st.hp env v (a.eval x) := fun hx => opv_ok g (fun e he => by simp at he) hx
  generalize hoo : o.op = op at h
  cases op with
  | store t x y =>
    simp only [estore] at h
    split at h
    · rename_i n off v hx hy
      have hx := hop hx
      have hy := hop hy
      split at h
      · rename_i c hl
        obtain ⟨_, b, hb, hu⟩ := hx
        obtain ⟨b', cs, e, hco, hh, hc⟩ := g.obj n _ hl
        have hM := g.dom n _ hl b' (by rw [hco]; simp)
        have hbb : b = b' := by rw [hco] at hb; simpa using hb.symm
        subst hbb
        have fin : ∀ {us : List Value} {c' : List V}, (a.eval y).cells = us.toArray → (P.info? t).map (·.size) = some us.length → (∀ u, u ∈ us → u.oneCell' = true) → off + us.length ≤ cs.length → All2 (RA w st.hp env) c' (cs.take off ++ (us ++ cs.drop (off + us.length))) → st' = ⟨st.n, st.sl, (n, .box c') :: st.hp⟩ →
            o.wp P a w (fun a' w' => a' = a.put o.dst undef ∧ Kept zb w w' ∧ Good ty zb st' a.tmps w' env ∧ st'.n = st.n ∧ st'.sl = st.sl) Q := by
          intro us c' h1 h2 h3 h4 h5 h6
          subst h6
          unfold Oper.wp execOp
          simp only [hoo, hu, Instr.storeAt, Instr.sureAddr, Sem.run_bind, Sem.run_pure, Result.andThen_ok, run_storeVar h1 (thereB hh off us.length h4) h2 h3]
          exact ⟨by trivial, kept_set hM hh off us, good_box g hl hco hh h4 h5, by trivial, by trivial⟩
        split at h
        · rename_i z tg fo l hk _
          split at h
          · rename_i c' hlen hs
            simp only [Option.some.injEq] at h
            obtain ⟨us, hus, hul⟩ := hy
            obtain ⟨k1, k2⟩ := spl_all hc hul hs
            have hC := C t
            rw [hk] at hC
            obtain ⟨fs, _, hi, _⟩ := hC
            simp only [Bool.and_eq_true] at hlen
            have hll := Nat.eq_of_beq_eq_true hlen.1
            refine fin (us := us) (by rw [hus]; rfl) ?_ ?_ k1 k2 h.symm
            · rw [hul.len, hll]
              cases hq : P.info? t with
              | none => simp [hq] at hi
              | some i => simp [hq] at hi; simp [hi.1]
            · exact all2_ones g hul (noany_mem hlen.2)
          · cases h
        · cases h
        · cases h
        · cases h
        · rename_i v k1 k2 k3 _
          split at h
          · rename_i c' hs
            simp only [Option.some.injEq] at h
            obtain ⟨q1, q2⟩ := spl_all (vs := [v]) (us := [a.eval y]) hc ⟨hy, trivial⟩ hs
            have hne : v ≠ .any := fun e => k1 e
            refine fin (us := [a.eval y]) (one_cells g hy hne) (Z t (fun z tg fo hz => k2 z tg fo hz) k3) ?_ q1 q2 h.symm
            intro u hu'
            rw [List.mem_singleton.1 hu']
            exact RA.one g hy hne
          · cases h
        · cases h
      · cases h
    · cases h
  | _ => simp [estore] at h
end
end Go.Proofs.Ythlflnplnajjiaa.G
