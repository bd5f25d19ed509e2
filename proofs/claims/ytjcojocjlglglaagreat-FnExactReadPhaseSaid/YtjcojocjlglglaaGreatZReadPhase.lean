/-
  FnExactReadPhase: the law returns true for every argument: the program and the reference agree on ReadPhase, arguments are left as they were, and what is returned is memory of its own. No condition.
-/
import Derived.Test.YtjcojocjlglglaaGreatZReadPhaseM11
import Derived.Test.YtjcojocjlglglaaGreatZReadPhaseM13
import Derived.Test.YtjcojocjlglglaaGreatZReadPhaseM14
import Derived.ProofKit
import Derived.ChangeOld
namespace Go.Proofs.YtjcojocjlglglaaGreat.fnExactReadPhase
open Go.ChangeShapes Go.WideShapes Go.ChangeAt Go.RowKit L D C
set_option linter.all false
theorem walk(w:World)(cs0:List Value)(x0:b7)(N2:List Nat)(e0:BR w cs0 x0 N2)(Pf:BQ x0):
  Calls Tryz.prog 3 #[.agg cs0.toArray] w (JP w (.bool true)):=
 G.He (G.pe x0 Pf) ⟨G.Js (G.xC e0),⟨⟩⟩
set_option maxRecDepth 100000 in
theorem lifted(os:Os)(started:os.Started)(H:Type)(enc:TypeId×Value→H):
  ReturnsInHanded {} Tryz.checked os 3 .any (Rows.fnExactReadPhaseSpec.pre6 enc Tryz.prog Tryz.f3 Rows.fnExactReadPhaseRow.domain false) (Rows.fnExactReadPhaseSpec.post enc Tryz.prog Tryz.f3 false true false false):=by
 refine returnsInHanded_of_change (C:=Tryz.checked) K.own started (by as_aux_lemma=>kernel_rfl) Tryz.func3
  (ChangeSpec.witness6 (enc:=enc) (C:=Tryz.checked) false ⟨#[],#[.agg #[.int .i64 0, .slice none 0 0, .slice none 0 0, .int .i64 0, .slice none 0 0, .int .i64 0, .int .i64 0, .int .i64 0, .slice none 0 0, .int .i64 0]],[]⟩ 8 (by as_aux_lemma=>kernel_rfl) (by as_aux_lemma=>kernel_rfl) (by as_aux_lemma=>kernel_rfl) (by as_aux_lemma=>kernel_rfl)) ?_
 intro W base args ds gs before Ko hW Rk _
 have hval: ∀(j:Nat) t v,Tryz.f3.params[j]? =some t→args[j]? =some v→Value.okWide Tryz.prog W .any base t v:=Ko
 have Rl:=hW
 obtain⟨p,q,P1,hV,rfl,hfz,hnd⟩:=hW
 have hA:DataW.TrodAll enc Tryz.prog W 0 (fun _=>true) true Tryz.f3.params.toList args.toList ds p:=P1
 rw[Tryz.params3]at hA hval
 obtain⟨v0,RQ,d0,RR,p0,q0,hargs,rfl,rfl,h0,r0⟩:=trodAll_cons hA
 obtain⟨rfl,rfl,rfl⟩:=trodAll_nil r0
 obtain rfl:args= #[v0]:=by cases args;simp_all
 obtain⟨rfl,rfl⟩:=trodVars_none hV
 have k0:=h0
 have Rm: ∀x∈p0,x.block<W.heap.size:=by obtain⟨m,hm⟩:=k0;exact DataW.trod_lt m _ _ _ hm
 obtain⟨P2,OB⟩:=h0
 obtain⟨cs0,rfl,Rn⟩:=okWide_struct Tryz.underlying29 (hval 0 29 v0 rfl rfl)
 obtain⟨x0,N2,e0,Pf⟩:=Fc _ _ _ OB
 have e0:BR W cs0.toList x0 N2:=e0
 clear P1 Ko
 refine(walk W cs0.toList x0 N2 e0 Pf).mono fun e W' ⟨he,O4⟩=> ?_
 subst he
 exact⟨_,rfl,_,_,_,[],_,[],Rl,trodAll_mk1 (shut_bool Tryz.underlying4 _),(trodAll_cons_mk (Below.trod K.laid (by as_aux_lemma=>kernel_rfl) (of_decide_eq_true (by as_aux_lemma=>kernel_rfl)) k0 O4 Rm) trodAll_mk0),rfl,O4.frame _,fun h=>by cases h⟩
set_option maxHeartbeats 4000000 in
theorem closed:joinedFacts Tryz.prog 3 Tryz.f3 Rows.fnExactReadPhaseSpec Rows.fnExactReadPhaseRow=true:=by
 unfold joinedFacts
 repeat' (with_reducible refine K.Pe ?_ ?_)
 ·as_aux_lemma=>kernel_rfl
 ·exact K.laid
 ·exact K.NI
 ·as_aux_lemma=>kernel_rfl
 ·as_aux_lemma=>kernel_rfl
 ·as_aux_lemma=>kernel_rfl
 ·exact K.stops
 ·as_aux_lemma=>kernel_rfl
 ·exact K.stopKnobs
 ·as_aux_lemma=>kernel_rfl
 ·as_aux_lemma=>kernel_rfl
 ·as_aux_lemma=>kernel_rfl
 ·as_aux_lemma=>kernel_rfl
 ·as_aux_lemma=>kernel_rfl
 ·as_aux_lemma=>kernel_rfl
 ·as_aux_lemma=>kernel_rfl
 ·as_aux_lemma=>kernel_rfl
 ·as_aux_lemma=>kernel_rfl
 ·as_aux_lemma=>kernel_rfl
 ·as_aux_lemma=>kernel_rfl
 ·as_aux_lemma=>kernel_rfl
 ·as_aux_lemma=>kernel_rfl
 ·exact K.plainKeys
 ·as_aux_lemma=>kernel_rfl
 ·exact K.stopsHeard
 ·exact K.mayEnter
 ·exact K.lifted
 ·exact K.make
 ·as_aux_lemma=>kernel_rfl
 ·as_aux_lemma=>kernel_rfl
 ·as_aux_lemma=>kernel_rfl
 ·as_aux_lemma=>kernel_rfl
theorem K5:Rows.fnExactReadPhaseRow.holds Tryz.pinned (OpenSpec.ofChange Rows.fnExactReadPhaseSpec):=
 OpenClaim.holds_of_wide 3 Tryz.f3 rfl rfl rfl rfl rfl rfl rfl ⟨rfl,rfl,rfl,rfl,rfl⟩ rfl rfl rfl rfl rfl (by as_aux_lemma=>kernel_rfl) Tryz.func3 closed
  (of_decide_eq_true (by as_aux_lemma=>kernel_rfl)) (by unfold Func.isWrapper;first| (rw[if_pos (by decide+kernel)];kernel_rfl)| (rw[if_neg (by decide+kernel)];exact⟨rfl,rfl⟩))
  (fun os started H enc _=>lifted os started H enc)
theorem proved:Rows.FnExactReadPhaseSaid:=K5
#print axioms proved
end Go.Proofs.YtjcojocjlglglaaGreat.fnExactReadPhase
