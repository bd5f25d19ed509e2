/-
  FnExactCountCollided: the law returns true for every argument: the program and the reference agree on CountCollided, arguments are left as they were, and what is returned is memory of its own. No condition.
-/
import Derived.ChangeOld
import Derived.Test.YteodajeiagmekaaGreatP12
import Derived.Test.YteodajeiagmekaaGreatP14
import Derived.Test.YteodajeiagmekaaGreatP15
namespace Go.Proofs.YteodajeiagmekaaGreat.fnExactCountCollided
open Go.ChangeShapes Go.WideShapes Go.ChangeAt Go.RowKit L D C
section
set_option linter.all false
theorem walk(w:World)(cs0:List Value)(x0:cX)(Hw:List Nat)(e0:vF w cs0 x0 Hw)(Iw:vE x0):
  Calls Tryz.prog 12 #[.agg cs0.toArray] w (DI w (.bool true)):=
 G.BF (G.ia x0 Iw) ⟨G.Dv (G.qH e0),⟨⟩⟩
set_option maxRecDepth 100000 in
theorem lifted(os:Os)(started:os.Started)(H:Type)(enc:TypeId×Value→H):
  ReturnsInHanded {} Tryz.checked os 12 .any (Rows.fnExactCountCollidedSpec.pre6 enc Tryz.prog Tryz.f12 Rows.fnExactCountCollidedRow.domain false) (Rows.fnExactCountCollidedSpec.post enc Tryz.prog Tryz.f12 false true false false):=by
 refine returnsInHanded_of_change (C:=Tryz.checked) K.own started (by as_aux_lemma=>kernel_rfl) Tryz.func12
  (ChangeSpec.witness6 (enc:=enc) (C:=Tryz.checked) false ⟨#[],#[.agg #[.int .i64 0, .slice none 0 0, .slice none 0 0, .int .i64 0, .slice none 0 0, .int .i64 0, .int .i64 0, .int .i64 0, .slice none 0 0, .int .i64 0]],[]⟩ 8 (by as_aux_lemma=>kernel_rfl) (by as_aux_lemma=>kernel_rfl) (by as_aux_lemma=>kernel_rfl) (by as_aux_lemma=>kernel_rfl)) ?_
 intro W base args ds gs before D7 hW Kt _
 have hval: ∀(j:Nat) t v,Tryz.f12.params[j]? =some t→args[j]? =some v→Value.okWide Tryz.prog W .any base t v:=D7
 have Ku:=hW
 obtain⟨p,q,Jg,hV,rfl,hfz,hnd⟩:=hW
 have hA:DataW.TrodAll enc Tryz.prog W 0 (fun _=>true) true Tryz.f12.params.toList args.toList ds p:=Jg
 rw[Tryz.params12]at hA hval
 obtain⟨v0,KP,d0,KQ,p0,q0,hargs,rfl,rfl,h0,r0⟩:=trodAll_cons hA
 obtain⟨rfl,rfl,rfl⟩:=trodAll_nil r0
 obtain rfl:args= #[v0]:=by cases args;simp_all
 obtain⟨rfl,rfl⟩:=trodVars_none hV
 have k0:=h0
 have Kv: ∀x∈p0,x.block<W.heap.size:=by obtain⟨m,hm⟩:=k0;exact DataW.trod_lt m _ _ _ hm
 obtain⟨Jh,Ie⟩:=h0
 obtain⟨cs0,rfl,Kw⟩:=okWide_struct Tryz.underlying111 (hval 0 111 v0 rfl rfl)
 obtain⟨x0,Hw,e0,Iw⟩:=zy _ _ _ Ie
 have e0:vF W cs0.toList x0 Hw:=e0
 clear Jg D7
 refine(walk W cs0.toList x0 Hw e0 Iw).mono fun e W' ⟨he,Ji⟩=> ?_
 subst he
 exact⟨_,rfl,_,_,_,[],_,[],Ku,trodAll_mk1 (shut_bool Tryz.underlying4 _),(trodAll_cons_mk (Below.trod K.laid (by as_aux_lemma=>kernel_rfl) (of_decide_eq_true (by as_aux_lemma=>kernel_rfl)) k0 Ji Kv) trodAll_mk0),rfl,Ji.frame _,fun h=>by cases h⟩
set_option maxHeartbeats 4000000 in
theorem closed:joinedFacts Tryz.prog 12 Tryz.f12 Rows.fnExactCountCollidedSpec Rows.fnExactCountCollidedRow=true:=by
 unfold joinedFacts
 repeat' (with_reducible refine K.Iv ?_ ?_)
 ·as_aux_lemma=>kernel_rfl
 ·exact K.laid
 ·exact K.G7
 ·as_aux_lemma=>kernel_rfl
 ·as_aux_lemma=>kernel_rfl
 ·as_aux_lemma=>kernel_rfl
 ·exact K.stops
 ·as_aux_lemma=>kernel_rfl
 ·exact K.stopKnobs
 ·as_aux_lemma=>kernel_rfl
 ·as_aux_lemma=>kernel_rfl
 ·as_aux_lemma=>kernel_rfl
 ·as_aux_lemma=>kernel_rfl
 ·as_aux_lemma=>kernel_rfl
 ·as_aux_lemma=>kernel_rfl
 ·as_aux_lemma=>kernel_rfl
 ·as_aux_lemma=>kernel_rfl
 ·as_aux_lemma=>kernel_rfl
 ·as_aux_lemma=>kernel_rfl
 ·as_aux_lemma=>kernel_rfl
 ·as_aux_lemma=>kernel_rfl
 ·as_aux_lemma=>kernel_rfl
 ·exact K.plainKeys
 ·as_aux_lemma=>kernel_rfl
 ·exact K.stopsHeard
 ·exact K.mayEnter
 ·exact K.lifted
 ·exact K.make
 ·as_aux_lemma=>kernel_rfl
 ·as_aux_lemma=>kernel_rfl
 ·as_aux_lemma=>kernel_rfl
 ·as_aux_lemma=>kernel_rfl
theorem over:Rows.fnExactCountCollidedRow.holds Tryz.pinned (OpenSpec.ofChange Rows.fnExactCountCollidedSpec):=
 OpenClaim.holds_of_wide 12 Tryz.f12 rfl rfl rfl rfl rfl rfl rfl ⟨rfl,rfl,rfl,rfl,rfl⟩ rfl rfl rfl rfl rfl (by as_aux_lemma=>kernel_rfl) Tryz.func12 closed
  (of_decide_eq_true (by as_aux_lemma=>kernel_rfl)) (by unfold Func.isWrapper;first| (rw[if_pos (by decide+kernel)];kernel_rfl)| (rw[if_neg (by decide+kernel)];exact⟨rfl,rfl⟩))
  (fun os started H enc _=>lifted os started H enc)
theorem proved:Rows.FnExactCountCollidedSaid:=over
#print axioms proved
end
end Go.Proofs.YteodajeiagmekaaGreat.fnExactCountCollided
