/-
  FnAuditDetects: the law returns true for every argument: what it draws from its bytes answers as the law asks. No condition.
-/
import Derived.ChangeOld
import Derived.Test.YtcnomgcfijjkmaaGreatR14
import Derived.Test.YtcnomgcfijjkmaaGreatR15
namespace Go.Proofs.YtcnomgcfijjkmaaGreat.fnAuditDetects
open Go.ChangeShapes Go.WideShapes Go.ChangeAt Go.RowKit L D Go.Proofs.Tryz
section
set_option linter.all false
theorem walk(w:World)(u0:Value)(x0:(List UInt8))(Xi:List Nat)(e0:Sl 1 GW w u0 x0 Xi)(YM:(fun l=> ∀x,x∈l→(fun _=>True) x) x0):
  Calls Tryz.prog 5 #[u0] w (Rh w (.bool true)):=
 G.Mb (G.vQ x0 YM) ⟨⟨Xi,e0⟩,⟨⟩⟩
set_option maxRecDepth 100000 in
theorem lifted(os:Os)(started:os.Started)(H:Type)(enc:TypeId×Value→H):
  ReturnsInHanded {} Tryz.checked os 5 .any (Rows.fnAuditDetectsSpec.pre6 enc Tryz.prog Tryz.f5 Rows.fnAuditDetectsRow.domain false) (Rows.fnAuditDetectsSpec.post enc Tryz.prog Tryz.f5 false true false false):=by
 refine returnsInHanded_of_change (C:=Tryz.checked) K.own started (by as_aux_lemma=>kernel_rfl) func5
  (ChangeSpec.witness6 (enc:=enc) (C:=Tryz.checked) false ⟨#[],#[.slice none 0 0],[]⟩ 8 (by as_aux_lemma=>kernel_rfl) (by as_aux_lemma=>kernel_rfl) (by as_aux_lemma=>kernel_rfl) (by as_aux_lemma=>kernel_rfl)) ?_
 intro W base args ds gs before Sa hW abc _
 have hval: ∀(j:Nat) t v,Tryz.f5.params[j]? =some t→args[j]? =some v→Value.okWide Tryz.prog W .any base t v:=Sa
 have hW':=hW
 obtain⟨p,q,ZD,hV,rfl,hfz,hnd⟩:=hW
 have hA:DataW.TrodAll enc Tryz.prog W 0 (fun _=>true) true Tryz.f5.params.toList args.toList ds p:=ZD
 rw[Tryz.params5]at hA hval
 obtain⟨v0,vs0,d0,ds0,p0,q0,hargs,rfl,rfl,h0,r0⟩:=trodAll_cons hA
 obtain⟨rfl,rfl,rfl⟩:=trodAll_nil r0
 obtain rfl:args= #[v0]:=by cases args;simp_all
 obtain⟨rfl,rfl⟩:=trodVars_none hV
 have k0:=h0
 have lt0: ∀x∈p0,x.block<W.heap.size:=by obtain⟨m,hm⟩:=k0;exact DataW.trod_lt m _ _ _ hm
 obtain⟨ZE,XR⟩:=h0
 obtain⟨a0,abf,abg,rfl⟩:=okWide_slice Tryz.underlying22 (hval 0 22 v0 rfl rfl)
 obtain⟨x0,Xi,⟨u0,Va,e0⟩,YM⟩:=(Ky (k:=1) Tryz.underlying22 (by kernel_rfl) (by decide) (Kx Tryz.underlying5)) _ _ _ XR
 simp only[Value.cells,List.cons.injEq,and_true]at Va
 subst Va
 clear ZD Sa
 refine(walk W _ x0 Xi e0 YM).mono fun e W' ⟨he,V1⟩=> ?_
 subst he
 exact⟨_,rfl,_,_,_,[],_,[],hW',trodAll_mk1 (shut_bool Tryz.underlying4 _),(trodAll_cons_mk (Below.trod K.laid (by as_aux_lemma=>kernel_rfl) (of_decide_eq_true (by as_aux_lemma=>kernel_rfl)) k0 V1 lt0) trodAll_mk0),rfl,V1.frame _,fun h=>by cases h⟩
set_option maxHeartbeats 4000000 in
theorem closed:joinedFacts Tryz.prog 5 Tryz.f5 Rows.fnAuditDetectsSpec Rows.fnAuditDetectsRow=true:=by
 unfold joinedFacts
 repeat' (with_reducible refine K.YL ?_ ?_)
 ·as_aux_lemma=>kernel_rfl
 ·exact K.laid
 ·exact K.WC
 ·as_aux_lemma=>kernel_rfl
 ·as_aux_lemma=>kernel_rfl
 ·as_aux_lemma=>kernel_rfl
 ·exact K.stops
 ·as_aux_lemma=>kernel_rfl
 ·exact K.stopKnobs
 ·as_aux_lemma=>kernel_rfl
 ·as_aux_lemma=>kernel_rfl
 ·as_aux_lemma=>kernel_rfl
 ·as_aux_lemma=>kernel_rfl
 ·as_aux_lemma=>kernel_rfl
 ·as_aux_lemma=>kernel_rfl
 ·as_aux_lemma=>kernel_rfl
 ·as_aux_lemma=>kernel_rfl
 ·as_aux_lemma=>kernel_rfl
 ·as_aux_lemma=>kernel_rfl
 ·as_aux_lemma=>kernel_rfl
 ·as_aux_lemma=>kernel_rfl
 ·as_aux_lemma=>kernel_rfl
 ·exact K.plainKeys
 ·as_aux_lemma=>kernel_rfl
 ·exact K.stopsHeard
 ·exact K.mayEnter
 ·exact K.lifted
 ·exact K.make
 ·as_aux_lemma=>kernel_rfl
 ·as_aux_lemma=>kernel_rfl
 ·as_aux_lemma=>kernel_rfl
 ·as_aux_lemma=>kernel_rfl
theorem over:Rows.fnAuditDetectsRow.holds Tryz.pinned (OpenSpec.ofChange Rows.fnAuditDetectsSpec):=
 OpenClaim.holds_of_wide 5 Tryz.f5 rfl rfl rfl rfl rfl rfl rfl ⟨rfl,rfl,rfl,rfl,rfl⟩ rfl rfl rfl rfl rfl (by as_aux_lemma=>kernel_rfl) func5 closed
  (of_decide_eq_true (by as_aux_lemma=>kernel_rfl)) (by unfold Func.isWrapper;first| (rw[if_pos (by decide+kernel)];kernel_rfl)| (rw[if_neg (by decide+kernel)];exact⟨rfl,rfl⟩))
  (fun os started H enc _=>lifted os started H enc)
theorem proved:Rows.FnAuditDetectsSaid:=over
#print axioms proved
end
end Go.Proofs.YtcnomgcfijjkmaaGreat.fnAuditDetects
