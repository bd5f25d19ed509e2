/-
  Regions in the text's order; statements; calls.
-/
import Derived.Test.YthlflnplnajjiaaGC
namespace Go.Proofs.Ythlflnplnajjiaa.G
set_option linter.all false
open Go.RowKit L D
variable {ty : Tag → Nat}
/-- Written out. -/
def fV : V → Option V
  | .any => some .any
  | .lit (.int k n) => some (.lit (.int k n))
  | .lit (.bool b) => some (.lit (.bool b))
  | .lit (.string s) => some (.lit (.string s))
  | .lit v => some (.lit v)
  | .sl t l => some (.sl t l)
  | .own n => some (.own n)
  | .ptr n o => some (.ptr n o)
  | .eptr n i o => some (.eptr n i o)
  | .ip t x o => some (.ip t x o)
  | .vw n p t l => some (.vw n p t l)
  | .vip n t x o => some (.vip n t x o)
theorem fV_eq (v : V) : fV v = some v := by
  unfold fV; split <;> rfl
def fVs : List V → Option (List V)
  | [] => some []
  | v :: r => match fV v, fVs r with
    | some x, some y => some (x :: y)
    | _, _ => none
theorem fVs_eq : ∀ l : List V, fVs l = some l
  | [] => rfl
  | v :: r => by simp [fVs, fV_eq, fVs_eq r]
def fS : SV → Option SV
  | .one (.a v) => match fV v with | some v => some (.one (.a v)) | none => none
  | .one (.agg l) => match fVs l with | some l => some (.one (.agg l)) | none => none
  | .tup l => some (.tup l)
  | .cond p (.a v) => match fV v with | some v => some (.cond p (.a v)) | none => none
  | .cond p (.agg l) => match fVs l with | some l => some (.cond p (.agg l)) | none => none
theorem fS_eq {x y : SV} (h : fS x = some y) : y = x := by
  unfold fS at h
  split at h <;> simp_all [fV_eq, fVs_eq]
def fO : Obj → Option Obj
  | .box c => match fVs c with | some c => some (.box c) | none => none
  | .arr t l => some (.arr t l)
theorem fO_eq {x y : Obj} (h : fO x = some y) : y = x := by
  unfold fO at h
  split at h <;> simp_all [fVs_eq]
def fSl : List (Nat × SV) → Option (List (Nat × SV))
  | [] => some []
  | (n, x) :: r => match fS x, fSl r with
    | some x, some r => some ((n, x) :: r)
    | _, _ => none
theorem fSl_eq : ∀ {l m : List (Nat × SV)}, fSl l = some m → m = l
  | [], m, h => by simp only [fSl, Option.some.injEq] at h; exact h.symm
  | (n, x) :: r, m, h => by
    simp only [fSl] at h
    split at h
    · rename_i y r' h1 h2
      simp only [Option.some.injEq] at h
      rw [← h, fS_eq h1, fSl_eq h2]
    · cases h
def fHp : Hp → Option Hp
  | [] => some []
  | (n, x) :: r => match fO x, fHp r with
    | some x, some r => some ((n, x) :: r)
    | _, _ => none
theorem fHp_eq : ∀ {l m : Hp}, fHp l = some m → m = l
  | [], m, h => by simp only [fHp, Option.some.injEq] at h; exact h.symm
  | (n, x) :: r, m, h => by
    simp only [fHp] at h
    split at h
    · rename_i y r' h1 h2
      simp only [Option.some.injEq] at h
      rw [← h, fO_eq h1, fHp_eq h2]
    · cases h
/-- A state written out. -/
def fSt : St → Option St
  | ⟨n, sl, hp⟩ => match fSl sl, fHp hp with
    | some sl, some hp => some ⟨n, sl, hp⟩
    | _, _ => none
theorem fSt_eq {s s' : St} (h : fSt s = some s') : s' = s := by
  obtain ⟨n, sl, hp⟩ := s
  simp only [fSt] at h
  split at h
  · rename_i a b h1 h2
    simp only [Option.some.injEq] at h
    rw [← h, fSl_eq h1, fHp_eq h2]
  · cases h
/-- An operation that turns memory, and has a value. -/
def eturn (P : Program) (ty : Tag → Nat) (Γ : Nat → TK) (cr : List (Nat × CR)) (st : St) (m : Nat) (d : Option Nat) (op : Op) : Option (List Prop × St × SV) :=
  match eapp P ty Γ st m op with
  | some r => some r
  | none => match ebuild P ty Γ st m op with
    | some r => some r
    | none => match eio P ty Γ cr st d op with
      | some r => some r
      | none => eiv P ty cr st d op
/-- One operation. -/
def step (P : Program) (ty : Tag → Nat) (Γ : Nat → TK) (ren : List (Nat × Nat)) (cr : List (Nat × CR)) (ops : List Oper) (st : St) (o : Oper) : Option (List Prop × St) :=
  match qstep Γ (Elt P ty) (Sound ty P) ren cr ops st o with
  | some r => some r
  | none => match o.guard, dstok st o.dst, nmOf ren o.dst with
    | none, true, some m => match estore Γ st o.op with
      | some st' => match o.dst with | none => some ([], st') | some _ => none
      | none => match eput Γ st o.op with
        | some (vc, st') => match o.dst, fSt st' with | none, some st' => some (vc, st') | _, _ => none
        | none => match eturn P ty Γ cr st m o.dst o.op with
          | some (vc, st', v) => match fSt st' with | some st' => some (vc, st'.put o.dst v) | none => none
          | none => none
    | _, _, _ => none
def run (P : Program) (ty : Tag → Nat) (Γ : Nat → TK) (ren : List (Nat × Nat)) (cr : List (Nat × CR)) (ops : List Oper) : List Oper → St → List Prop → Option (List Prop × St)
  | [], st, acc => some (acc, st)
  | o :: r, st, acc => match step P ty Γ ren cr ops st o with
    | some ([], ⟨n, sl, hp⟩) => run P ty Γ ren cr ops r ⟨n, sl, hp⟩ acc
    | some ([p], ⟨n, sl, hp⟩) => run P ty Γ ren cr ops r ⟨n, sl, hp⟩ (p :: acc)
    | some ([p, q], ⟨n, sl, hp⟩) => run P ty Γ ren cr ops r ⟨n, sl, hp⟩ (p :: q :: acc)
    | some (l, ⟨n, sl, hp⟩) => run P ty Γ ren cr ops r ⟨n, sl, hp⟩ (l ++ acc)
    | none => none
def AllP : List Prop → Prop
  | [] => True
  | p :: r => p ∧ AllP r
theorem AllP.out : ∀ {l : List Prop}, AllP l → ∀ q, q ∈ l → q
  | p :: r, h, q, hq => by
    rcases List.mem_cons.1 hq with rfl | hq
    · exact h.1
    · exact AllP.out h.2 q hq
section
variable {P : Program} {zb : Base} {st st' : St} {a : Act} {w : World} {Q : Exit → Act → World → Prop} {o : Oper}
theorem no_mentions {v : SV} {d : Nat} (h : ∃ x, v = .one x) : v.mentions d = false := by
  obtain ⟨x, rfl⟩ := h; rfl
theorem Runs.mono {ops : Array Oper} {K K' : Act → World → Prop} (h : ∀ a w, K a w → K' a w) (hr : Runs P ops o a w K Q) : Runs P ops o a w K' Q := by
  unfold Runs at *
  split
  · rename_i hw; rw [if_pos hw] at hr; exact hr.imp (Oper.wp_mono h) id
  · rename_i hw; rw [if_neg hw] at hr; exact h _ _ hr
theorem eturn_ok {Γ : Nat → TK} (C : ∀ t, TKok P t (Γ t)) {cr : List (Nat × CR)} {m : Nat} {vc : List Prop} {v : SV} {env : Env} {d : Option Nat} (h : eturn P ty Γ cr st m d o.op = some (vc, st', v)) (g : Good ty zb st a.tmps w env) (hB : zb.w.heap.size ≤ w.heap.size) (hv : ∀ q, q ∈ vc → q) :
    (∃ x, v = .one x) ∧ o.wp P a w (fun a' w' => ∃ u env', a' = a.put o.dst u ∧ Kept zb w w' ∧ Good ty zb st' a.tmps w' env' ∧ st'.n = st.n ∧ RSV w' st'.hp env' a.tmps v u) Q := by
  unfold eturn at h
  split at h
  · rename_i r he
    simp only [Option.some.injEq] at h
    subst h
    refine ⟨?_, eapp_ok C he g hB hv⟩
    unfold eapp at he
    repeat' split at he
    all_goals first
      | (cases he; done)
      | (simp only [Option.some.injEq, Prod.mk.injEq] at he; exact ⟨_, he.2.2.symm⟩)
  · split at h
    · rename_i r he
      simp only [Option.some.injEq] at h
      subst h
      refine ⟨?_, ebuild_ok C he g hB hv⟩
      unfold ebuild at he
      repeat' split at he
      all_goals first
        | (cases he; done)
        | (simp only [Option.some.injEq, Prod.mk.injEq] at he; exact ⟨_, he.2.2.symm⟩)
    · split at h
      · rename_i r he
        simp only [Option.some.injEq] at h
        subst h
        refine ⟨?_, eio_ok he g hB hv⟩
        unfold eio at he
        repeat' split at he
        all_goals first
          | (cases he; done)
          | (simp only [Option.some.injEq, Prod.mk.injEq] at he; exact ⟨_, he.2.2.symm⟩)
      · refine ⟨?_, eiv_ok (Γ := Γ) h g hB hv⟩
        unfold eiv at h
        repeat' split at h
        all_goals first
          | (cases h; done)
          | (simp only [Option.some.injEq, Prod.mk.injEq] at h; exact ⟨_, h.2.2.symm⟩)
theorem step_ok {Γ : Nat → TK} (C : ∀ t, TKok P t (Γ t)) (Z : ∀ t, (∀ z tg fo, Γ t ≠ .st z tg fo) → Γ t ≠ .other → (P.info? t).map (·.size) = some 1) {ren : List (Nat × Nat)} {cr : List (Nat × CR)} {ops : List Oper} {vc : List Prop} (h : step P ty Γ ren cr ops st o = some (vc, st')) (iv : Inv ty zb st a w) (hv : ∀ q, q ∈ vc → q) :
    Runs P ops.toArray o a w (fun a' w' => Inv ty zb st' a' w') Q := by
  simp only [step] at h
  split at h
  · rename_i r hq
    simp only [Option.some.injEq] at h
    subst h
    exact qstep_ok C hq iv hv
  · split at h
    · rename_i m hg hd _
      have hdl := dst_lt iv hd
      obtain ⟨env, g⟩ := iv.good
      have hBz := iv.kept.size
      split at h
      · rename_i s1 hs
        split at h
        · rename_i hdst
          simp only [Option.some.injEq, Prod.mk.injEq] at h
          obtain ⟨rfl, rfl⟩ := h
          refine guard_none hg (Oper.wp_mono ?_ (estore_ok (Q := Q) C Z hs g))
          rintro a' w' ⟨rfl, hb, hg', hn, hsl⟩
          rw [hdst]
          exact ⟨by rw [put_size, hn]; exact iv.size, by rw [put_defers]; exact iv.defers, iv.kept.trans hb, env, hg'⟩
        · cases h
      · split at h
        · rename_i vc1 s1 hs
          split at h
          · rename_i s2 hdst hfs
            have hfs := fSt_eq hfs
            subst hfs
            simp only [Option.some.injEq, Prod.mk.injEq] at h
            obtain ⟨rfl, rfl⟩ := h
            refine guard_none hg (Oper.wp_mono ?_ (eput_ok (Q := Q) C Z hs g hv))
            rintro a' w' ⟨env', rfl, hb, hg', hn⟩
            rw [hdst]
            exact ⟨by rw [put_size, hn]; exact iv.size, by rw [put_defers]; exact iv.defers, iv.kept.trans hb, env', hg'⟩
          · cases h
        · split at h
          · rename_i vc1 s1 v he
            split at h
            case h_2 => cases h
            rename_i s2 hfs
            have hfs := fSt_eq hfs
            subst hfs
            simp only [Option.some.injEq, Prod.mk.injEq] at h
            obtain ⟨rfl, rfl⟩ := h
            obtain ⟨hv1, hwp⟩ := eturn_ok (Q := Q) C he g hBz hv
            refine guard_none hg (Oper.wp_mono ?_ hwp)
            rintro a' w' ⟨u, env', rfl, hb, hg', hn, hr⟩
            refine ⟨by rw [put_size, put_n, hn]; exact iv.size, by rw [put_defers]; exact iv.defers, iv.kept.trans hb, env', put_good hg' hdl hr fun d _ => no_mentions hv1⟩
          · cases h
    · cases h
theorem run_split {Γ : Nat → TK} {ren : List (Nat × Nat)} {cr : List (Nat × CR)} {ops : List Oper} {r : List Oper} {acc vcs : List Prop} {st2 : St} (h : run P ty Γ ren cr ops (o :: r) st acc = some (vcs, st2)) :
    ∃ vc st1, step P ty Γ ren cr ops st o = some (vc, st1) ∧ run P ty Γ ren cr ops r st1 (vc ++ acc) = some (vcs, st2) := by
  simp only [run] at h
  split at h
  · rename_i n sl hp hs; exact ⟨[], ⟨n, sl, hp⟩, hs, h⟩
  · rename_i p n sl hp hs; exact ⟨[p], ⟨n, sl, hp⟩, hs, h⟩
  · rename_i p q n sl hp hs; exact ⟨[p, q], ⟨n, sl, hp⟩, hs, h⟩
  · rename_i l n sl hp _ _ _ hs; exact ⟨_, ⟨n, sl, hp⟩, hs, h⟩
  · cases h
theorem run_acc {Γ : Nat → TK} {ren : List (Nat × Nat)} {cr : List (Nat × CR)} {ops : List Oper} : ∀ {l : List Oper} {st st2 : St} {acc vcs : List Prop}, run P ty Γ ren cr ops l st acc = some (vcs, st2) → ∀ q, q ∈ acc → q ∈ vcs
  | [], st, st2, acc, vcs, h, q, hq => by
    simp only [run, Option.some.injEq, Prod.mk.injEq] at h
    rw [← h.1]; exact hq
  | o :: r, st, st2, acc, vcs, h, q, hq => by
    obtain ⟨vc, st1, _, h2⟩ := run_split h
    exact run_acc h2 q (List.mem_append_right _ hq)
theorem run_ok {Γ : Nat → TK} (C : ∀ t, TKok P t (Γ t)) (Z : ∀ t, (∀ z tg fo, Γ t ≠ .st z tg fo) → Γ t ≠ .other → (P.info? t).map (·.size) = some 1) {ren : List (Nat × Nat)} {cr : List (Nat × CR)} {ops : List Oper} {st2 : St} {vcs : List Prop}
    (hQ : ∀ a w, Inv ty zb st2 a w → Q .normal a w) : ∀ {l : List Oper} {st : St} {acc : List Prop} {a : Act} {w : World}, run P ty Γ ren cr ops l st acc = some (vcs, st2) → (∀ q, q ∈ vcs → q) → Inv ty zb st a w → wpList P ops.toArray Q l a w
  | [], st, acc, a, w, h, hv, iv => by
    simp only [run, Option.some.injEq, Prod.mk.injEq] at h
    obtain ⟨_, rfl⟩ := h
    exact hQ a w iv
  | o :: r, st, acc, a, w, h, hv, iv => by
    obtain ⟨vc, st1, h1, h2⟩ := run_split h
    have := step_ok (Q := Q) C Z h1 iv (fun q hq => hv q (run_acc h2 q (List.mem_append_left _ hq)))
    exact this.mono fun a' w' iv' => run_ok C Z hQ h2 hv iv'
end

/-! ### Statements -/
/-- The exits of a statement, by states. -/
abbrev Post := Exit → St → Prop
def Lift (ty : Tag → Nat) (zb : Base) (Q : Post) : Exit → Act → World → Prop := fun e a w => ∃ st, Inv ty zb st a w ∧ Q e st
/-- From every place that the state speaks of, the statement comes to the post. -/
def W (P : Program) (ty : Tag → Nat) (zb : Base) (c : Code) (Q : Post) (st : St) : Prop := ∀ a w, Inv ty zb st a w → c.wp P (Lift ty zb Q) a w
def Post.then (next : St → Prop) (Q : Post) : Post
  | .normal, st => next st
  | e, st => Q e st
def Post.inBlock (id : Nat) (Q : Post) : Post
  | .exit i, st => if i = id then Q .normal st else Q (.exit i) st
  | e, st => Q e st
/-- Slots and objects that are kept. -/
def keepS (sl : List (Nat × SV)) : List Nat → Option (List (Nat × SV))
  | [] => some []
  | s :: r => match look sl s with
    | some x => match fS x, keepS sl r with
      | some x, some l => some ((s, x) :: l)
      | _, _ => none
    | none => none
def keepH (hp : Hp) : List Nat → Option Hp
  | [] => some []
  | s :: r => match look hp s with
    | some x => match fO x, keepH hp r with
      | some x, some l => some ((s, x) :: l)
      | _, _ => none
    | none => none
/-- Whatever is mentioned is there. -/
def nameok (hp : Hp) (v : V) : Bool := match v.name with | some n => (match look hp n with | some _ => true | none => false) | none => true
def nameok1 (hp : Hp) : S1 → Bool
  | .a v => nameok hp v
  | .agg l => l.all (nameok hp)
def nameokS (hp : Hp) : SV → Bool
  | .one x => nameok1 hp x
  | .tup l => l.all (nameok1 hp)
  | .cond _ x => nameok1 hp x
def nameokO (hp : Hp) : Obj → Bool
  | .box c => c.all (nameok hp)
  | .arr _ _ => true
def closedk (sl : List (Nat × SV)) (hp : Hp) : Bool := (sl.all fun e => nameokS hp e.2) && hp.all fun e => nameokO hp e.2
def V.nms (v : V) : List Nat := match v.name with | some n => [n] | none => []
def SV.nms : SV → List Nat
  | .one (.a v) => v.nms
  | .one (.agg l) => l.flatMap V.nms
  | .tup l => l.flatMap fun x => (match x with | .a v => v.nms | .agg l => l.flatMap V.nms)
  | .cond _ (.a v) => v.nms
  | .cond _ (.agg l) => l.flatMap V.nms
/-- What is reached from names. -/
def closeH : Nat → Hp → List Nat → List Nat → List Nat
  | 0, _, _, acc => acc
  | _, _, [], acc => acc
  | f + 1, hp, n :: r, acc => match acc.any (Nat.beq n) with
    | true => closeH f hp r acc
    | false => closeH f hp (match look hp n with | some (.box c) => c.flatMap V.nms ++ r | _ => r) (acc ++ [n])
def slotNms (sl : List (Nat × SV)) : List Nat → List Nat
  | [] => []
  | s :: r => match look sl s with | some x => x.nms ++ slotNms sl r | none => slotNms sl r
/-- The objects that are kept: those named, or, if none is, all that the kept slots reach. -/
def autoH (sl : List (Nat × SV)) (hp : Hp) (ks : List Nat) : List Nat → List Nat
  | [] => closeH 300 hp (slotNms sl ks ++ (hp.map Prod.fst).filter pin) []
  | hs => hs
/-- A region: its state behind, of the slots ks and the objects hs. -/
def reg (P : Program) (ty : Tag → Nat) (Γ : Nat → TK) (ren : List (Nat × Nat)) (cr : List (Nat × CR)) (ks hs : List Nat) (ops : List Oper) : St → Option (List Prop × St)
  | ⟨n, sl0, hp0⟩ => match run P ty Γ ren cr ops ops ⟨n, sl0, hp0⟩ [] with
  | some (vc, st') => match keepS st'.sl ks, keepH st'.hp (autoH st'.sl st'.hp ks hs) with
    | some sl, some hp => match closedk sl hp, Nat.beq st'.n n with
      | true, true => some (vc, ⟨n, sl, hp⟩)
      | _, _ => none
    | _, _ => none
  | none => none
theorem keepS_look {sl : List (Nat × SV)} : ∀ {ks : List Nat} {l : List (Nat × SV)}, keepS sl ks = some l → ∀ s v, look l s = some v → look sl s = some v
  | [], l, h, s, v, hl => by
    simp only [keepS, Option.some.injEq] at h
    subst h; cases hl
  | k :: r, l, h, s, v, hl => by
    simp only [keepS] at h
    split at h
    · rename_i x0 h1
      split at h
      · rename_i x l' hf h2
        simp only [Option.some.injEq] at h
        subst h
        by_cases hs : s = k
        · subst hs; rw [look_eq] at hl; rw [← hl, fS_eq hf]; exact h1
        · rw [look_ne hs] at hl; exact keepS_look h2 s v hl
      · cases h
    · cases h
theorem keepH_look {hp : Hp} : ∀ {ks : List Nat} {l : Hp}, keepH hp ks = some l → ∀ s v, look l s = some v → look hp s = some v
  | [], l, h, s, v, hl => by
    simp only [keepH, Option.some.injEq] at h
    subst h; cases hl
  | k :: r, l, h, s, v, hl => by
    simp only [keepH] at h
    split at h
    · rename_i x0 h1
      split at h
      · rename_i x l' hf h2
        simp only [Option.some.injEq] at h
        subst h
        by_cases hs : s = k
        · subst hs; rw [look_eq] at hl; rw [← hl, fO_eq hf]; exact h1
        · rw [look_ne hs] at hl; exact keepH_look h2 s v hl
      · cases h
    · cases h
theorem nameok_ok {hp : Hp} {v : V} (h : nameok hp v = true) : ∀ n, v.name = some n → look hp n ≠ none := by
  intro n hn hl
  simp [nameok, hn, hl] at h
theorem nameok1_ok {hp : Hp} {x : S1} (h : nameok1 hp x = true) : ∀ v, v ∈ x.vs → nameok hp v = true := by
  intro v hv
  cases x with
  | a y => simp only [S1.vs, List.mem_singleton] at hv; subst hv; exact h
  | agg l => exact List.all_eq_true.1 h v hv
theorem nameokS_ok {hp : Hp} {x : SV} (h : nameokS hp x = true) : ∀ v, v ∈ x.vs → nameok hp v = true := by
  intro v hv
  cases x with
  | one x => exact nameok1_ok h v hv
  | tup l =>
    simp only [SV.vs, List.mem_flatMap] at hv
    obtain ⟨y, hy, hv⟩ := hv
    exact nameok1_ok (List.all_eq_true.1 h y hy) v hv
  | cond p x => exact nameok1_ok h v hv
theorem Good.weaken {zb : Base} {st st' : St} {tmps : Array Value} {w : World} {env : Env} (g : Good ty zb st tmps w env) (hs : ∀ s v, look st'.sl s = some v → look st.sl s = some v) (hh : ∀ n o, look st'.hp n = some o → look st.hp n = some o)
    (hc1 : ∀ s v, look st'.sl s = some v → ∀ x, x ∈ v.vs → nameok st'.hp x = true) (hc2 : ∀ m c, look st'.hp m = some (.box c) → ∀ v, v ∈ c → nameok st'.hp v = true) : Good ty zb st' tmps w env := by
  have s : Step (fun n => look st'.hp n ≠ none) (fun n => look st'.hp n ≠ none) w st.hp env w st'.hp env := by
    refine ⟨fun _ _ _ => rfl, ?_, ?_, ?_⟩
    · rintro b _ ⟨n, o, h1, h2⟩; exact ⟨n, o, hh n o h1, h2⟩
    · intro n o hK h1
      cases hq : look st'.hp n with
      | none => exact absurd hq hK
      | some o' =>
        have := hh n o' hq
        rw [h1] at this
        simp only [Option.some.injEq] at this
        subst this
        exact ⟨o, rfl, by cases o <;> simp [Obj.like], rfl⟩
    · intro n t l hK h1
      cases hq : look st'.hp n with
      | none => exact absurd hq hK
      | some o' =>
        have := hh n o' hq
        rw [h1] at this
        simp only [Option.some.injEq] at this
        subst this
        exact ⟨rfl, rfl, fun _ _ => rfl⟩
  have hang : ∀ v, nameok st'.hp v = true → v.hangs (fun n => look st'.hp n ≠ none) (fun n => look st'.hp n ≠ none) := fun v h => ⟨fun n hn => nameok_ok h n hn, fun n hn => nameok_ok h n (V.view_name hn)⟩
  refine ⟨fun n o hl => ?_, fun n m o o' hne h1 h2 => g.dis n m o o' hne (hh n o h1) (hh m o' h2), fun t v hl => RSV.step s (fun x hx => hang x (hc1 t v hl x hx)) (g.slot t v (hs t v hl)), fun n o hl => g.dom n o (hh n o hl), g.pins⟩
  exact (g.obj n o (hh n o hl)).step s (fun c hc v hv => hang v (hc2 n c (by rw [hl, hc]) v hv)) (fun _ _ => rfl)
theorem closedk_ok {sl : List (Nat × SV)} {hp : Hp} (h : closedk sl hp = true) : (∀ s v, look sl s = some v → ∀ x, x ∈ v.vs → nameok hp x = true) ∧ (∀ m c, look hp m = some (.box c) → ∀ v, v ∈ c → nameok hp v = true) := by
  simp only [closedk, Bool.and_eq_true, List.all_eq_true] at h
  refine ⟨fun s v hl => nameokS_ok (h.1 _ (look_mem hl)), fun m c hl v hv => ?_⟩
  have := h.2 _ (look_mem hl)
  exact List.all_eq_true.1 this v hv
theorem Inv.weaken {zb : Base} {st st' : St} {a : Act} {w : World} (iv : Inv ty zb st a w) (hn : st'.n = st.n) (hs : ∀ s v, look st'.sl s = some v → look st.sl s = some v) (hh : ∀ n o, look st'.hp n = some o → look st.hp n = some o) (hc : closedk st'.sl st'.hp = true) : Inv ty zb st' a w := by
  obtain ⟨env, g⟩ := iv.good
  obtain ⟨c1, c2⟩ := closedk_ok hc
  exact ⟨by rw [iv.size, hn], iv.defers, iv.kept, env, g.weaken hs hh c1 c2⟩
/-- What a program's types and functions are, for the walk. -/
structure Ctx (P : Program) (ty : Tag → Nat) (Γ : Nat → TK) : Prop where
  kind : ∀ t, TKok P t (Γ t)
  one : ∀ t, (∀ z tg fo, Γ t ≠ .st z tg fo) → Γ t ≠ .other → (P.info? t).map (·.size) = some 1
section
variable {P : Program} {Γ : Nat → TK} {zb : Base} {Q : Post} {st : St}
theorem reg_split {ren : List (Nat × Nat)} {cr : List (Nat × CR)} {ks hs : List Nat} {ops : List Oper} {vc : List Prop} {st' : St} (h : reg P ty Γ ren cr ks hs ops st = some (vc, st')) : ∃ s1, run P ty Γ ren cr ops ops st [] = some (vc, s1) ∧
    ∀ a w, Inv ty zb s1 a w → Inv ty zb st' a w := by
  obtain ⟨n, sl0, hp0⟩ := st
  simp only [reg] at h
  split at h
  · rename_i vc1 s1 hr
    split at h
    · rename_i sl hp h1 h2
      split at h
      · rename_i hc hn
        simp only [Option.some.injEq, Prod.mk.injEq] at h
        obtain ⟨rfl, rfl⟩ := h
        exact ⟨s1, hr, fun a w iv => iv.weaken (Nat.eq_of_beq_eq_true hn).symm (keepS_look h1) (keepH_look h2) hc⟩
      · cases h
    · cases h
  · cases h
theorem W.reg (X : Ctx P ty Γ) (ren : List (Nat × Nat)) (cr : List (Nat × CR)) (ks hs : List Nat) {id : Nat} {ops : List Oper} {vc : List Prop} {st' : St} (h : reg P ty Γ ren cr ks hs ops st = some (vc, st')) (hv : AllP vc) (k : Q .normal st') : W P ty zb (.region id ops.toArray false) Q st := by
  intro a w iv
  obtain ⟨s1, h1, h2⟩ := reg_split (zb := zb) h
  exact wp_region_lit (run_ok X.kind X.one (fun a w iv' => ⟨st', h2 a w iv', k⟩) h1 hv.out iv)
theorem W.seq {x y : Code} (h : W P ty zb x (Post.then (W P ty zb y Q) Q) st) : W P ty zb (.seq x y) Q st := by
  intro a w iv
  refine wp_seq (wp_mono (h a w iv) ?_)
  rintro e a' w' ⟨st', iv', hq⟩
  cases e with
  | normal => exact hq a' w' iv'
  | _ => exact ⟨st', iv', hq⟩
theorem W.skip (h : Q .normal st) : W P ty zb .skip Q st := fun _ _ iv => wp_skip ⟨st, iv, h⟩
theorem W.exit {id : Nat} (h : Q (.exit id) st) : W P ty zb (.exit id) Q st := fun _ _ iv => wp_exit ⟨st, iv, h⟩
theorem W.ret (h : Q .ret st) : W P ty zb .ret Q st := fun _ _ iv => wp_ret ⟨st, iv, h⟩
theorem W.block {id : Nat} {c : Code} (h : W P ty zb c (Post.inBlock id Q) st) : W P ty zb (.block id c) Q st := by
  intro a w iv
  refine wp_block (wp_mono (h a w iv) ?_)
  rintro e a' w' ⟨st', iv', hq⟩
  cases e with
  | exit i =>
    simp only [Post.inBlock] at hq
    simp only [Exit.inBlock]
    split
    · rename_i hi; rw [if_pos hi] at hq; exact ⟨st', iv', hq⟩
    · rename_i hi; rw [if_neg hi] at hq; exact ⟨st', iv', hq⟩
  | _ => exact ⟨st', iv', hq⟩
theorem W.cond {c : Operand} {x y : Code} {b : Bool} (hc : opv st [] c = some (.a (.lit (.bool b)))) (h1 : b = true → W P ty zb x Q st) (h2 : b = false → W P ty zb y Q st) : W P ty zb (.cond c x y) Q st := by
  intro a w iv
  obtain ⟨env, g⟩ := iv.good
  have := (opv_ok g (fun e he => by simp at he) hc).lit
  exact wp_cond_split this (fun hb => h1 hb a w iv) (fun hb => h2 hb a w iv)
theorem Inv.of_eq {st st' : St} (h : st' = st) : ∀ a w, Inv ty zb st a w → Inv ty zb st' a w := fun _ _ iv => h ▸ iv
/-- A loop: its states by an index; a measure. -/
theorem W.loop {ι : Type} (p : ι → Prop) (I : ι → St) (μ : ι → Nat) (i : ι) {c : Code} (hp : p i) (h0 : ∀ a w, Inv ty zb st a w → Inv ty zb (I i) a w)
    (round : ∀ i, p i → W P ty zb c (Post.then (fun st' => ∃ j, p j ∧ μ j < μ i ∧ ∀ a w, Inv ty zb st' a w → Inv ty zb (I j) a w) Q) (I i)) : W P ty zb (.loop c) Q st := by
  intro a w iv b k cs
  have key : ∀ n i a w, μ i = n → p i → Inv ty zb (I i) a w → ∃ e a' w', Lift ty zb Q e a' w' ∧ Arrives P (lone (b.at a (.code c :: .inLoop c :: k)) cs w) b k cs e a' w' := by
    intro n
    induction n using Nat.strongRecOn with
    | _ n ih =>
      intro i a w hn hpi iv
      obtain ⟨e, a₁, w₁, ⟨st', iv', hq⟩, harr⟩ := round i hpi a w iv b (.inLoop c :: k) cs
      cases e with
      | normal =>
        obtain ⟨j, hpj, hlt, hj⟩ := hq
        obtain ⟨e₂, a₂, w₂, hq₂, harr₂⟩ := ih (μ j) (hn ▸ hlt) j a₁ w₁ rfl hpj (hj _ _ iv')
        exact ⟨e₂, a₂, w₂, hq₂, .of_steps (Steps.trans harr (.one step_inLoop)) harr₂⟩
      | exit id => exact ⟨_, a₁, w₁, ⟨st', iv', hq⟩, .pass (x := .inLoop c) rfl (fun _ _ => .inl (by simp)) harr⟩
      | goto l => exact ⟨_, a₁, w₁, ⟨st', iv', hq⟩, .pass (x := .inLoop c) rfl (fun _ _ => .inl (by simp)) harr⟩
      | ret => exact ⟨_, a₁, w₁, ⟨st', iv', hq⟩, .pass (x := .inLoop c) rfl (fun _ _ => .inl (by simp)) harr⟩
      | panic ch => exact ⟨_, a₁, w₁, ⟨st', iv', hq⟩, .pass (x := .inLoop c) rfl (fun _ _ => .inl (by simp)) harr⟩
      | outgrown => exact ⟨_, a₁, w₁, ⟨st', iv', hq⟩, .pass (x := .inLoop c) rfl (fun _ _ => .inl (by simp)) harr⟩
  obtain ⟨e, a', w', hq, harr⟩ := key _ i a w rfl hp (h0 a w iv)
  exact ⟨e, a', w', hq, .of_steps (.one step_loop) harr⟩
/-- Two ways meet in one state. -/
theorem W.seqJ {x y : Code} (st1 : St) (h : W P ty zb x (Post.then (fun st' => st' = st1) Q) st) (k : W P ty zb y Q st1) : W P ty zb (.seq x y) Q st := by
  intro a w iv
  refine wp_seq (wp_mono (h a w iv) ?_)
  rintro e a' w' ⟨st', iv', hq⟩
  cases e with
  | normal => obtain rfl : st' = st1 := hq; exact k a' w' iv'
  | _ => exact ⟨st', iv', hq⟩
/-- A state with some slots and objects others. -/
def overS : List (Nat × SV) → List (Nat × SV) → Option (List (Nat × SV))
  | [], _ => some []
  | (s, x) :: r, ov => match fS (match look ov s with | some y => y | none => x), overS r ov with
    | some x, some l => some ((s, x) :: l)
    | _, _ => none
def overH : Hp → Hp → Option Hp
  | [], _ => some []
  | (s, x) :: r, ov => match fO (match look ov s with | some y => y | none => x), overH r ov with
    | some x, some l => some ((s, x) :: l)
    | _, _ => none
def over : St → List (Nat × SV) → Hp → Option St
  | ⟨n, sl, hp⟩, ov, oh => match overS sl ov, overH hp oh with
    | some sl, some hp => some ⟨n, sl, hp⟩
    | _, _ => none
/-- A loop: what its slots and objects hold, by an index. -/
theorem W.loopO {ι : Type} (p : ι → Prop) (ov : ι → List (Nat × SV)) (oh : ι → Hp) (μ : ι → Nat) (i : ι) {c : Code} {I : ι → St} (_hI : ∀ k, over st (ov k) (oh k) = some (I k)) (hp : p i) (h0 : I i = st)
    (round : ∀ i, p i → W P ty zb c (Post.then (fun st' => ∃ j, p j ∧ μ j < μ i ∧ st' = I j) Q) (I i)) : W P ty zb (.loop c) Q st := by
  refine W.loop p I μ i hp (fun a w iv => by rw [h0]; exact iv) fun i hi => ?_
  intro a w iv
  refine wp_mono (round i hi a w iv) ?_
  rintro e a' w' ⟨st', iv', hq⟩
  cases e with
  | normal =>
    obtain ⟨j, h1, h2, rfl⟩ := hq
    exact ⟨_, iv', j, h1, h2, fun a w h => h⟩
  | _ => exact ⟨st', iv', hq⟩
end
end Go.Proofs.Ythlflnplnajjiaa.G
