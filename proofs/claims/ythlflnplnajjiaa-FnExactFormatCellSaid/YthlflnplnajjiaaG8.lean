/-
  Operations that turn the call's own memory: stores into variables. What must be struck behind a turn.
-/
import Derived.Test.YthlflnplnajjiaaG7
import Derived.Test.YthlflnplnajjiaaU2
namespace Go.Proofs.Ythlflnplnajjiaa.G
open Go.RowKit L D
variable {ty : Tag → Nat}
def V.kills (ks : List Nat) (v : V) : V := match v.name with
  | some m => match ks.any (Nat.beq m) with | true => .any | false => v
  | none => v
def S1.kills (ks : List Nat) : S1 → S1
  | .a v => .a (v.kills ks)
  | .agg l => .agg (l.map (V.kills ks))
def SV.kills (ks : List Nat) : SV → SV
  | .one x => .one (x.kills ks)
  | .tup l => .tup (l.map (S1.kills ks))
  | .cond p x => .cond p (x.kills ks)
def Obj.kills (ks : List Nat) : Obj → Obj
  | .box c => .box (c.map (V.kills ks))
  | .arr t l => .arr t l
def hkills (ks : List Nat) (hp : Hp) : Hp := (hp.filter fun e => !ks.any (Nat.beq e.1)).map fun e => (e.1, e.2.kills ks)
def St.kills (ks : List Nat) (st : St) : St := ⟨st.n, st.sl.map fun e => (e.1, e.2.kills ks), hkills ks st.hp⟩
theorem V.kills_name {ks : List Nat} {v : V} {n : Nat} (h : (v.kills ks).name = some n) : n ∉ ks ∧ v.name = some n := by
  unfold V.kills at h
  split at h
  · rename_i m hm
    split at h
    · cases h
    · rename_i hk
      rw [hm] at h
      simp only [Option.some.injEq] at h
      subst h
      rw [List.any_eq_false] at hk
      exact ⟨fun hin => hk m hin (by simp), hm⟩
  · rename_i hm
    rw [hm] at h; cases h
theorem RA.kills {w : World} {hp : Hp} {env : Env} {ks : List Nat} {v : V} {u : Value} (h : RA w hp env v u) : RA w hp env (v.kills ks) u := by
  unfold V.kills
  split
  · split
    · trivial
    · exact h
  · exact h
theorem RA.turn {ks : List Nat} {w w' : World} {hp hp' : Hp} {env env' : Env} (s : Step (fun n => n ∉ ks) w hp env w' hp' env') {v : V} {u : Value} (h : RA w hp env v u) : RA w' hp' env' (v.kills ks) u :=
  RA.step s (fun _ hn => (V.kills_name hn).1) h.kills
theorem All2.map {α β γ : Type} {R : α → β → Prop} {R' : γ → β → Prop} {f : α → γ} : ∀ {as : List α} {bs : List β}, (∀ a b, R a b → R' (f a) b) → All2 R as bs → All2 R' (as.map f) bs
  | [], [], _, _ => trivial
  | a :: as, b :: bs, h, ⟨h1, h2⟩ => ⟨h a b h1, All2.map h h2⟩
  | [], _ :: _, _, h => h.elim
  | _ :: _, [], _, h => h.elim
theorem RS1.turn {ks : List Nat} {w w' : World} {hp hp' : Hp} {env env' : Env} (s : Step (fun n => n ∉ ks) w hp env w' hp' env') {x : S1} {u : Value} (h : RS1 w hp env x u) : RS1 w' hp' env' (x.kills ks) u := by
  cases x with
  | a v => exact RA.turn s h
  | agg l => obtain ⟨cs, hu, hl⟩ := h; exact ⟨cs, hu, hl.map fun a b hr => RA.turn s hr⟩
theorem RSV.turn {ks : List Nat} {w w' : World} {hp hp' : Hp} {env env' : Env} (s : Step (fun n => n ∉ ks) w hp env w' hp' env') {tmps : Array Value} {x : SV} {u : Value} (h : RSV w hp env tmps x u) : RSV w' hp' env' tmps (x.kills ks) u := by
  cases x with
  | one x => exact RS1.turn s h
  | tup l => obtain ⟨us, hu, hl⟩ := h; exact ⟨us, hu, hl.map fun a b hr => RS1.turn s hr⟩
  | cond p x => exact ⟨fun hh => RS1.turn s (h.1 hh), h.2⟩
theorem Good.turn {ks : List Nat} {B : Nat} {st : St} {tmps : Array Value} {w w' : World} {env env' : Env} {hp' : Hp} (g : Good ty B st tmps w env) (s : Step (fun n => n ∉ ks) w st.hp env w' hp' env')
    (ho : ∀ n o, look hp' n = some o → RO ty w' hp' env' B o (env' n)) (hd : ∀ n m o o', n ≠ m → look hp' n = some o → look hp' m = some o' → ∀ b, b ∈ (env' n).fp → b ∉ (env' m).fp) :
    Good ty B ⟨st.n, st.sl.map fun e => (e.1, e.2.kills ks), hp'⟩ tmps w' env' := by
  refine ⟨ho, hd, fun t v hl => ?_⟩
  have hl : look (st.sl.map fun e => (e.1, e.2.kills ks)) t = some v := hl
  rw [look_map (α := SV) (f := fun e : Nat × SV => e.2.kills ks)] at hl
  cases hq : look st.sl t with
  | none => rw [hq] at hl; cases hl
  | some y =>
    rw [hq] at hl
    simp only [Option.map_some, Option.some.injEq] at hl
    subst hl
    exact RSV.turn s (g.slot t y hq)
theorem hkills_look {ks : List Nat} {hp : Hp} {n : Nat} : look (hkills ks hp) n = if n ∈ ks then none else (look hp n).map (Obj.kills ks) := by
  unfold hkills
  rw [look_map (α := Obj) (f := fun e : Nat × Obj => e.2.kills ks)]
  have : look (hp.filter fun e => !ks.any (Nat.beq e.1)) n = if n ∈ ks then none else look hp n := by
    induction hp with
    | nil => simp [look]
    | cons e r ih =>
      obtain ⟨j, x⟩ := e
      by_cases hj : j ∈ ks
      · have : (ks.any (Nat.beq j)) = true := List.any_eq_true.2 ⟨j, hj, by simp⟩
        rw [List.filter_cons_of_neg (by simp [this]), ih]
        by_cases hn : n ∈ ks
        · simp [hn]
        · have : n ≠ j := by rintro rfl; exact hn hj
          rw [look_ne this]
      · have : (ks.any (Nat.beq j)) = false := List.any_eq_false.2 fun y hy hb => hj (by have := Nat.eq_of_beq_eq_true hb; rw [this]; exact hy)
        rw [List.filter_cons_of_pos (by simp [this])]
        by_cases hn : n = j
        · subst hn; rw [look_eq, look_eq, if_neg hj]
        · rw [look_ne hn, look_ne hn, ih]
  rw [this]
  split <;> rfl

/-- Some of a list's places, written. -/
def spl (c : List V) (off : Nat) (vs : List V) : Option (List V) := match Nat.ble (off + vs.length) c.length with
  | true => some (c.take off ++ (vs ++ c.drop (off + vs.length)))
  | false => none
theorem splice_list : ∀ (vs : List Value) (cs : List Value) (o : Nat), o + vs.length ≤ cs.length → splice (Array.mk cs) o vs = Array.mk (cs.take o ++ (vs ++ cs.drop (o + vs.length)))
  | [], cs, o, h => by simp [splice, List.take_append_drop]
  | v :: r, cs, o, h => by
    simp only [List.length_cons] at h
    have e0 : cs.set o v = cs.take o ++ v :: cs.drop (o + 1) := by
      rw [List.set_eq_take_append_cons_drop, if_pos (by omega)]
    have hl : (cs.take o).length = o := by rw [List.length_take]; omega
    have t1 : (cs.take o ++ v :: cs.drop (o + 1)).take (o + 1) = cs.take o ++ [v] := by
      rw [List.take_append, hl, show o + 1 - o = 1 by omega, List.take_of_length_le (by rw [hl]; omega)]; rfl
    have t2 : (cs.take o ++ v :: cs.drop (o + 1)).drop (o + 1 + r.length) = cs.drop (o + 1 + r.length) := by
      rw [List.drop_append, hl, show o + 1 + r.length - o = r.length + 1 by omega, List.drop_succ_cons, List.drop_drop, List.drop_eq_nil_of_le (as := cs.take o) (by rw [hl]; omega), List.nil_append]
    rw [splice, List.setIfInBounds_toArray, splice_list r _ _ (by simp; omega), e0, t1, t2, List.append_assoc, List.length_cons, show o + (r.length + 1) = o + 1 + r.length by omega]
    rfl
theorem spl_all {R : V → Value → Prop} {c c' vs : List V} {cs us : List Value} {off : Nat} (h : All2 R c cs) (hv : All2 R vs us) (hs : spl c off vs = some c') : off + us.length ≤ cs.length ∧ All2 R c' (cs.take off ++ (us ++ cs.drop (off + us.length))) := by
  unfold spl at hs
  split at hs
  · rename_i hb
    have hb := Nat.le_of_ble_eq_true hb
    simp only [Option.some.injEq] at hs
    subst hs
    have h1 := h.len
    have h2 := hv.len
    refine ⟨by omega, All2.app (h.take off) (All2.app hv ?_)⟩
    rw [h2]; exact h.drop _
  · cases hs
def noany : List V → Bool
  | [] => true
  | .any :: _ => false
  | _ :: r => noany r
theorem noany_mem : ∀ {l : List V}, noany l = true → ∀ v, v ∈ l → v ≠ .any
  | x :: r, h, v, hv => by
    cases x with
    | any => simp [noany] at h
    | _ =>
      rcases List.mem_cons.1 hv with rfl | hv
      · exact fun e => by cases e
      · exact noany_mem (l := r) (by simpa [noany] using h) v hv
/-- A variable is written. -/
def estore (Γ : Nat → TK) (st : St) : Op → Option St
  | .store t x y => match opv st [] x, opv st [] y with
    | some (.a (.ptr n off)), some v => match look st.hp n with
      | some (.box c) => match Γ t, v with
        | .st z _ _, .agg l => match Nat.beq l.length z.length && noany l, spl c off l with
          | true, some c' => some ⟨st.n, st.sl, (n, .box c') :: st.hp⟩
          | _, _ => none
        | .st _ _ _, .a _ => none
        | .other, _ => none
        | _, .a .any => none
        | _, .a v => match spl c off [v] with
          | some c' => some ⟨st.n, st.sl, (n, .box c') :: st.hp⟩
          | none => none
        | _, _ => none
      | _ => none
    | _, _ => none
  | _ => none
section
variable {P : Program} {B : Nat} {st st' : St} {a : Act} {w : World} {env : Env} {Q : Exit → Act → World → Prop} {o : Oper}
theorem RA.one (g : Good ty B st a.tmps w env) {v : V} {u : Value} (h : RA w st.hp env v u) (hv : v ≠ .any) : u.oneCell' = true := by
  cases v with
  | any => exact absurd rfl hv
  | lit x => obtain ⟨rfl, h1⟩ := h; exact h1
  | sl t l => obtain ⟨fp, ⟨oa, cap, rfl, _⟩, _⟩ := h; rfl
  | own n =>
    obtain ⟨⟨t, l, hl⟩, rfl⟩ := h
    rcases bld_slice (show Bld (kk t) (rd t) B (ty t) w (env n).v l (env n).fp from g.obj n _ hl) with ⟨h, _⟩ | ⟨b, cap, h⟩ <;> rw [h] <;> rfl
  | ptr n off => obtain ⟨_, b, _, rfl⟩ := h; rfl
  | eptr n i off => obtain ⟨t, l, _, b, len, cap, _, rfl⟩ := h; rfl
  | ip t x off => obtain ⟨b, o, cs, fp, rfl, _⟩ := h; rfl
theorem all2_ones (g : Good ty B st a.tmps w env) : ∀ {l : List V} {us : List Value}, All2 (RA w st.hp env) l us → (∀ v, v ∈ l → v ≠ .any) → ∀ u, u ∈ us → u.oneCell' = true
  | v :: l, u :: us, ⟨h1, h2⟩, hn, x, hx => by
    rcases List.mem_cons.1 hx with rfl | hx
    · exact RA.one g h1 (hn v (by simp))
    · exact all2_ones g h2 (fun y hy => hn y (by simp [hy])) x hx
  | [], _ :: _, h, _, _, _ => h.elim
theorem good_box (g : Good ty B st a.tmps w env) {n : Nat} {c c' : List V} (hl : look st.hp n = some (.box c)) {b : Nat} {cs us : List Value} {e : TypeId} {off : Nat} (hco : env n = ⟨.pointer (some ⟨b, 0, none⟩), [b]⟩) (hB : B ≤ b) (hh : w.heap[b]? = some (.cells (Array.mk cs) e (0, 0)))
    (hlen : off + us.length ≤ cs.length) (hc : All2 (RA w st.hp env) c' (cs.take off ++ (us ++ cs.drop (off + us.length)))) :
    Good ty B ⟨st.n, st.sl, (n, .box c') :: st.hp⟩ a.tmps (w.setCells b off us) env := by
  have hk : ∀ x, x ≠ b → (w.setCells b off us).heap[x]? = w.heap[x]? := fun x hx => setCells_other b us off w x hx
  have hlk : ∀ m o, look ((n, Obj.box c') :: st.hp) m = some o → (m = n ∧ o = .box c') ∨ (m ≠ n ∧ look st.hp m = some o) := by
    intro m o hm
    by_cases hmn : m = n
    · subst hmn; rw [look_eq] at hm; simp only [Option.some.injEq] at hm; exact Or.inl ⟨rfl, hm.symm⟩
    · rw [look_ne hmn] at hm; exact Or.inr ⟨hmn, hm⟩
  have how : Ow st.hp env b := ⟨n, _, hl, by rw [hco]; simp⟩
  have s : Step (fun _ => True) w st.hp env (w.setCells b off us) ((n, .box c') :: st.hp) env := by
    refine ⟨fun x _ hx => hk x (fun e => hx (e ▸ how)), ?_, ?_⟩
    · rintro x _ ⟨m, o, h1, h2⟩
      rcases hlk m o h1 with ⟨rfl, rfl⟩ | ⟨_, h1⟩
      · exact ⟨m, _, hl, h2⟩
      · exact ⟨m, o, h1, h2⟩
    · intro m o _ h1
      by_cases hmn : m = n
      · subst hmn
        rw [hl] at h1
        simp only [Option.some.injEq] at h1
        subst h1
        exact ⟨_, look_eq, trivial, rfl⟩
      · exact ⟨o, by rw [look_ne hmn]; exact h1, by cases o <;> simp [Obj.like], rfl⟩
  refine ⟨fun m o hm => ?_, fun m m' o o' hne h1 h2 => ?_, fun t v hv => RSV.step s (fun _ _ => trivial) (g.slot t v hv)⟩
  · rcases hlk m o hm with ⟨rfl, rfl⟩ | ⟨hmn, hm⟩
    · refine ⟨b, _, e, hco, hB, ?_, hc.mono fun v u _ h => RA.step s (fun _ _ => trivial) h⟩
      rw [setcs_same hh, splice_list us cs off hlen]
    · have hro := g.obj m o hm
      refine hro.step s (fun _ _ _ _ _ _ => trivial) fun x hx => hk x ?_
      rintro rfl
      exact g.dis m n o _ hmn hm hl x hx (by rw [hco]; simp)
  · rcases hlk m o h1 with ⟨e1, e2⟩ | ⟨_, k1⟩ <;> rcases hlk m' o' h2 with ⟨e3, e4⟩ | ⟨_, k2⟩
    · exact absurd (e1.trans e3.symm) hne
    · exact g.dis m m' _ _ hne (e1 ▸ hl) k2
    · exact g.dis m m' _ _ hne k1 (e3 ▸ hl)
    · exact g.dis m m' _ _ hne k1 k2
theorem run_storeVar {t b off : Nat} {v : Value} {us : List Value} (hv : v.cells = us.toArray) (ht : w.there b off us.length) (hi : (P.info? t).map (·.size) = some us.length) (h1 : ∀ u, u ∈ us → u.oneCell' = true) :
    (storeVar t ⟨b, off, none⟩ v).run P w = .ok () (w.setCells b off us) := by
  have := run_storeVar_mid (P := P) w b off t us.toArray (by simpa using ht) (by simpa using hi) (all_oneCell_toArray h1)
  unfold storeVar at this ⊢
  rw [hv]
  exact this
theorem estore_ok {Γ : Nat → TK} (C : ∀ t, TKok P t (Γ t)) (Z : ∀ t, (∀ z tg fo, Γ t ≠ .st z tg fo) → Γ t ≠ .other → (P.info? t).map (·.size) = some 1) (h : estore Γ st o.op = some st') (g : Good ty B st a.tmps w env) (hB : B ≤ w.heap.size) :
    o.wp P a w (fun a' w' => a' = a.put o.dst undef ∧ Below B w w' ∧ Good ty B st' a.tmps w' env ∧ st'.n = st.n ∧ st'.sl = st.sl) Q := by
  have hop : ∀ {x v}, opv st [] x = some v → RS1 w st.hp env v (a.eval x) := fun hx => opv_ok g (fun e he => by simp at he) hx
  generalize hoo : o.op = op at h
  cases op with
  | store t x y =>
    simp only [estore] at h
    split at h
    · rename_i n off v hx hy
      have hx := hop hx
      have hy := hop hy
      split at h
      · rename_i c hl
        obtain ⟨_, b, hb, hu⟩ := hx
        obtain ⟨b', cs, e, hco, hBb, hh, hc⟩ := g.obj n _ hl
        have hbb : b = b' := by rw [hco] at hb; simpa using hb.symm
        subst hbb
        have fin : ∀ {us : List Value} {c' : List V}, (a.eval y).cells = us.toArray → (P.info? t).map (·.size) = some us.length → (∀ u, u ∈ us → u.oneCell' = true) → off + us.length ≤ cs.length → All2 (RA w st.hp env) c' (cs.take off ++ (us ++ cs.drop (off + us.length))) → st' = ⟨st.n, st.sl, (n, .box c') :: st.hp⟩ →
            o.wp P a w (fun a' w' => a' = a.put o.dst undef ∧ Below B w w' ∧ Good ty B st' a.tmps w' env ∧ st'.n = st.n ∧ st'.sl = st.sl) Q := by
          intro us c' h1 h2 h3 h4 h5 h6
          subst h6
          unfold Oper.wp execOp
          simp only [hoo, hu, Instr.storeAt, Instr.sureAddr, Sem.run_bind, Sem.run_pure, Result.andThen_ok, run_storeVar h1 (thereB hh off us.length h4) h2 h3]
          exact ⟨by trivial, below_setCells (Below.refl _ _) hBb off us, good_box g hl hco hBb hh h4 h5, by trivial, by trivial⟩
        split at h
        · rename_i z tg fo l hk _
          split at h
          · rename_i c' hlen hs
            simp only [Option.some.injEq] at h
            obtain ⟨us, hus, hul⟩ := hy
            obtain ⟨k1, k2⟩ := spl_all hc hul hs
            have hC := C t
            rw [hk] at hC
            obtain ⟨fs, _, hi, _⟩ := hC
            simp only [Bool.and_eq_true] at hlen
            have hll := Nat.eq_of_beq_eq_true hlen.1
            refine fin (us := us) (by rw [hus]; rfl) ?_ ?_ k1 k2 h.symm
            · rw [hul.len, hll]
              cases hq : P.info? t with
              | none => simp [hq] at hi
              | some i => simp [hq] at hi; simp [hi.1]
            · exact all2_ones g hul (noany_mem hlen.2)
          · cases h
        · cases h
        · cases h
        · cases h
        · rename_i v k1 k2 k3 _
          split at h
          · rename_i c' hs
            simp only [Option.some.injEq] at h
            obtain ⟨q1, q2⟩ := spl_all (vs := [v]) (us := [a.eval y]) hc ⟨hy, trivial⟩ hs
            have hne : v ≠ .any := fun e => k1 e
            refine fin (us := [a.eval y]) (one_cells g hy hne) (Z t (fun z tg fo hz => k2 z tg fo hz) k3) ?_ q1 q2 h.symm
            intro u hu'
            rw [List.mem_singleton.1 hu']
            exact RA.one g hy hne
          · cases h
        · cases h
      · cases h
    · cases h
  | _ => simp [estore] at h
end
end Go.Proofs.Ythlflnplnajjiaa.G
