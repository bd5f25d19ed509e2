/-
  A slice compared with nil: the machine cannot tell; both ways are walked, and where the answer is yes the slice has no elements. An empty slice of nobody's memory is taken as the call's own.
-/
import Derived.Test.YthlflnplnajjiaaG18
namespace Go.Proofs.Ythlflnplnajjiaa.G
set_option linter.all false
open Go.RowKit L D
variable {ty : Tag → Nat}
def splitLast (l : List Oper) : Option (List Oper × Oper) := match l.reverse with
  | [] => none
  | o :: r => some (r.reverse, o)
theorem splitLast_ok {l p : List Oper} {q : Oper} (h : splitLast l = some (p, q)) : l = p ++ [q] := by
  unfold splitLast at h
  split at h
  · cases h
  · rename_i o r he
    simp only [Option.some.injEq, Prod.mk.injEq] at h
    obtain ⟨rfl, rfl⟩ := h
    have := congrArg List.reverse he
    rw [List.reverse_reverse, List.reverse_cons] at this
    exact this
def nilProp (Γ : Nat → TK) (st : St) (o : Oper) : Option (Nat × Prop) := match o.guard, o.dst, o.op with
  | none, some d, .binOp .eql t (.tmp s) (.const (.slice none 0 0)) _ => match Γ t, look st.sl s, Nat.blt d st.n with
    | .sl _ _, some (.one (.a (.sl _ l))), true => some (d, l = [])
    | .sl _ _, some (.one (.a (.vw _ _ _ l))), true => some (d, l = [])
    | .sl _ _, some (.one (.a (.own n))), true => match look st.hp n with
      | some (.arr _ l) => some (d, l = [])
      | _ => none
    | _, _, _ => none
  | _, _, _ => none
def keepC (n : Nat) (st' : St) (ks : List Nat) : Option St := match keepS st'.sl ks, keepH st'.hp (autoH st'.sl st'.hp ks []) with
  | some sl, some hp => match closedk sl hp with
    | true => some ⟨n, sl, hp⟩
    | false => none
  | _, _ => none
def keepB (st1 : St) (ks : List Nat) (d : Nat) (b : Bool) : Option St := keepC st1.n (st1.put (some d) (.one (.a (.lit (.bool b))))) ks
def regNil (P : Program) (ty : Tag → Nat) (Γ : Nat → TK) (ren : List (Nat × Nat)) (cr : List (Nat × CR)) (ks : List Nat) (ops : List Oper) (st : St) : Option (List Prop × Prop × St × St) :=
  match splitLast ops with
  | some (pre, o) => match run P ty Γ ren cr ops pre st [] with
    | some (vc, st1) => match nilProp Γ st1 o with
      | some (d, p) => match keepB st1 ks d true, keepB st1 ks d false with
        | some a, some b => some (vc, p, a, b)
        | _, _ => none
      | none => none
    | none => none
  | none => none
section
variable {P : Program} {Γ : Nat → TK} {zb : Base} {Q : Post} {st : St}
theorem run_ok2 (C : ∀ t, TKok P t (Γ t)) (Z : ∀ t, (∀ z tg fo, Γ t ≠ .st z tg fo) → Γ t ≠ .other → (P.info? t).map (·.size) = some 1) {ren : List (Nat × Nat)} {cr : List (Nat × CR)} {ops : List Oper} {st2 : St} {vcs : List Prop} {Q : Exit → Act → World → Prop} {tail : List Oper}
    (hQ : ∀ a w, Inv ty zb st2 a w → wpList P ops.toArray Q tail a w) : ∀ {l : List Oper} {st : St} {acc : List Prop} {a : Act} {w : World}, run P ty Γ ren cr ops l st acc = some (vcs, st2) → (∀ q, q ∈ vcs → q) → Inv ty zb st a w → wpList P ops.toArray Q (l ++ tail) a w
  | [], st, acc, a, w, h, hv, iv => by
    simp only [run, Option.some.injEq, Prod.mk.injEq] at h
    obtain ⟨_, rfl⟩ := h
    exact hQ a w iv
  | o :: r, st, acc, a, w, h, hv, iv => by
    obtain ⟨vc, st1, h1, h2⟩ := run_split h
    have := step_ok (Q := Q) C Z h1 iv (fun q hq => hv q (run_acc h2 q (List.mem_append_left _ hq)))
    exact this.mono fun a' w' iv' => run_ok2 C Z hQ h2 hv iv'
theorem equalIn_nil {w : World} {t e : Nat} (d : Nat) (hu : P.underlying t = some (.slice e)) {oa : Option Addr} {n cap : Nat} : (Op.equalIn (d + 1) t (.slice oa n cap) (.slice none 0 0)).run P w = .ok oa.isNone w := by
  cases oa <;> simp [Op.equalIn, run_underlying hu]
theorem nil_wp {o : Oper} {a : Act} {w : World} {K : Act → World → Prop} {Q : Exit → Act → World → Prop} {t s e ge : Nat} {ty2 : TypeId} (ho : o.op = .binOp .eql t (.tmp s) (.const (.slice none 0 0)) ty2) (hu : P.underlying t = some (.slice e)) {oa : Option Addr} {n cap : Nat} (hs : a.tmps.getD s undef = .slice oa n cap)
    (h : K (a.put o.dst (.bool oa.isNone)) w) : o.wp P a w K Q := by
  have hx : a.eval (.tmp s) = .slice oa n cap := hs
  have hrun : (execOp a.eval o).run P w = .ok (.value (.bool oa.isNone)) w := by
    have hy : a.eval (.const (.slice none 0 0)) = .slice none 0 0 := rfl
    unfold execOp
    simp only [ho, hx, hy]
    have he : (Op.equal t (.slice oa n cap) (.slice none 0 0)).run P w = .ok oa.isNone w := equalIn_nil 9999 hu
    have hb : (binOp .eql t (.slice oa n cap) (.slice none 0 0)).run P w = .ok (.bool oa.isNone) w := by
      show (do pure (.bool (← Op.equal t (.slice oa n cap) (.slice none 0 0))) : Sem Value).run P w = _
      simp only [Sem.run_bind, he, Result.andThen_ok, Sem.run_pure]
    have hg : (eqGuard .eql t (.tmp s) (.const (.slice none 0 0)) (.slice oa n cap) (.slice none 0 0)).run P w = .ok () w := by simp [eqGuard]
    simp only [Sem.run_bind, hg, hb, Result.andThen_ok, Sem.run_pure]
  unfold Oper.wp
  rw [hrun]
  exact h
theorem keepB_ok {st1 st' : St} {ks : List Nat} {d : Nat} {b : Bool} (h : keepB st1 ks d b = some st') {a : Act} {w : World} (iv : Inv ty zb st1 a w) (hd : Nat.blt d st1.n = true) : Inv ty zb st' (a.put (some d) (.bool b)) w := by
  have iv2 : Inv ty zb (st1.put (some d) (.one (.a (.lit (.bool b))))) (a.put (some d) (.bool b)) w := by
    obtain ⟨env, g⟩ := iv.good
    have hlt : ∀ d', some d = some d' → d' < a.tmps.size := by
      intro d' e
      simp only [Option.some.injEq] at e
      subst e
      rw [iv.size]
      exact Nat.le_of_ble_eq_true hd
    exact ⟨by rw [put_size, put_n]; exact iv.size, by rw [put_defers]; exact iv.defers, iv.kept, env, put_good (dst := some d) g hlt (u := .bool b) (show RSV w st1.hp env a.tmps (.one (.a (.lit (.bool b)))) (.bool b) from ⟨rfl, rfl⟩) fun d _ => no_mentions ⟨_, rfl⟩⟩
  unfold keepB keepC at h
  split at h
  · rename_i sl hp h1 h2
    split at h
    · rename_i hc
      simp only [Option.some.injEq] at h
      subst h
      exact iv2.weaken (by rw [put_n]) (keepS_look h1) (keepH_look h2) hc
    · cases h
  · cases h
theorem W.isNil (X : Ctx P ty Γ) (ren : List (Nat × Nat)) (cr : List (Nat × CR)) (ks : List Nat) {id : Nat} {ops : List Oper} {vc : List Prop} {p : Prop} {sT sF : St} (h : regNil P ty Γ ren cr ks ops st = some (vc, p, sT, sF)) (hv : AllP vc) (kT : p → Q .normal sT) (kF : Q .normal sF) :
    W P ty zb (.region id ops.toArray false) Q st := by
  intro a w iv
  unfold regNil at h
  split at h
  case h_2 => cases h
  rename_i pre o hsp
  split at h
  case h_2 => cases h
  rename_i vc1 st1 hrun
  split at h
  case h_2 => cases h
  rename_i d p1 hnp
  split at h
  case h_2 => cases h
  rename_i sa sb hT hF
  simp only [Option.some.injEq, Prod.mk.injEq] at h
  obtain ⟨rfl, rfl, rfl, rfl⟩ := h
  refine wp_region_lit ?_
  rw [show wpList P ops.toArray (Lift ty zb Q) ops a w = wpList P ops.toArray (Lift ty zb Q) (pre ++ [o]) a w by rw [← splitLast_ok hsp]]
  refine run_ok2 X.kind X.one (fun a w iv => ?_) hrun hv.out iv
  obtain ⟨env, g⟩ := iv.good
  unfold nilProp at hnp
  split at hnp
  case h_2 => cases hnp
  rename_i d0 t s ty2 hg hd hop
  have fin : ∀ {oa : Option Addr} {n cap : Nat} {e ge : Nat}, P.underlying t = some (.slice e) → a.tmps.getD s undef = .slice oa n cap → (oa = none → p1) → d0 = d → Nat.blt d0 st1.n = true → wpList P ops.toArray (Lift ty zb Q) [o] a w := by
    intro oa n cap e ge hu hs hn hdd hlt
    subst hdd
    have hk : ∀ a' w', (fun a' w' => a' = a.put (some d0) (.bool oa.isNone) ∧ w' = w) a' w' → wpList P ops.toArray (Lift ty zb Q) [] a' w' := by
      rintro a' w' ⟨rfl, rfl⟩
      refine wpList_nil ?_
      cases oa with
      | none => exact ⟨sa, keepB_ok hT iv hlt, kT (hn rfl)⟩
      | some x => exact ⟨sb, keepB_ok hF iv hlt, kF⟩
    have hR : Runs P ops.toArray o a w (fun a' w' => a' = a.put (some d0) (.bool oa.isNone) ∧ w' = w) (Lift ty zb Q) := guard_none hg (nil_wp (ge := ge) hop hu hs ⟨by rw [hd], rfl⟩)
    exact hR.mono hk
  split at hnp
  · rename_i g1 e1 t1 l hk hl hlt
    simp only [Option.some.injEq, Prod.mk.injEq] at hnp
    have hC := X.kind t
    rw [hk] at hC
    obtain ⟨fp, hsl, _⟩ := g.slot s _ hl
    obtain ⟨oa, cap, hv0, _, _, h3⟩ := hsl
    refine fin (ge := 0) hC.1 hv0 (fun hn => ?_) hnp.1 hlt
    rw [← hnp.2]
    rcases h3 with ⟨h3, _⟩ | ⟨b, off, fps, rfl, _⟩
    · exact h3
    · cases hn
  · rename_i g1 e1 n1 p2 t1 l hk hl hlt
    simp only [Option.some.injEq, Prod.mk.injEq] at hnp
    have hC := X.kind t
    rw [hk] at hC
    obtain ⟨_, ⟨fp, hsl, _⟩, _⟩ := g.slot s _ hl
    obtain ⟨oa, cap, hv0, _, _, h3⟩ := hsl
    refine fin (ge := 0) hC.1 hv0 (fun hn => ?_) hnp.1 hlt
    rw [← hnp.2]
    rcases h3 with ⟨h3, _⟩ | ⟨b, off, fps, rfl, _⟩
    · exact h3
    · cases hn
  · rename_i g1 e1 n1 hk hl hlt
    split at hnp
    · rename_i t1 l hobj
      simp only [Option.some.injEq, Prod.mk.injEq] at hnp
      have hC := X.kind t
      rw [hk] at hC
      obtain ⟨_, hu⟩ := g.slot s _ hl
      obtain ⟨oa, cap, hv0, _, _, h3⟩ := RO.sl (g.obj n1 _ hobj)
      refine fin (ge := 0) hC.1 (hu.trans hv0) (fun hn => ?_) hnp.1 hlt
      rw [← hnp.2]
      rcases h3 with ⟨h3, _⟩ | ⟨b, off, fps, rfl, _⟩
      · exact h3
      · cases hn
    · cases hnp
  · cases hnp
end
end Go.Proofs.Ythlflnplnajjiaa.G
