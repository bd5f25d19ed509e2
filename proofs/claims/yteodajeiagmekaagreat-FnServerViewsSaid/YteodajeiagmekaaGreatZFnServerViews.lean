/-
  FnServerViews: the law returns true for every argument: what it draws from its bytes answers as the law asks. No condition.
-/
import Derived.ChangeOld
import Derived.Test.YteodajeiagmekaaGreatM66
import Derived.Test.YteodajeiagmekaaGreatM69
import Derived.Test.YteodajeiagmekaaGreatM92
namespace Go.Proofs.YteodajeiagmekaaGreat.fnServerViews
open Go.ChangeShapes Go.WideShapes Go.ChangeAt Go.RowKit L D C
section
set_option linter.all false
theorem walk(w:World)(u0:Value)(x0:(List UInt8))(zU:List Nat)(e0:Sl 1 Fu w u0 x0 zU)(E8:(fun l=> ∀x,x∈l→(fun _=>True) x) x0):
  Calls Tryz.prog 9 #[u0] w (Dn w (.bool true)):=
 G.qh (G.Ct x0 E8) ⟨⟨zU,e0⟩,⟨⟩⟩
set_option maxRecDepth 100000 in
theorem lifted(os:Os)(started:os.Started)(H:Type)(enc:TypeId×Value→H):
  ReturnsInHanded {} Tryz.checked os 9 .any (Rows.fnServerViewsSpec.pre6 enc Tryz.prog Tryz.f9 Rows.fnServerViewsRow.domain false) (Rows.fnServerViewsSpec.post enc Tryz.prog Tryz.f9 false true false false):=by
 refine returnsInHanded_of_change (C:=Tryz.checked) K.own started (by as_aux_lemma=>kernel_rfl) Tryz.func9
  (ChangeSpec.witness6 (enc:=enc) (C:=Tryz.checked) false ⟨#[],#[.slice none 0 0],[]⟩ 8 (by as_aux_lemma=>kernel_rfl) (by as_aux_lemma=>kernel_rfl) (by as_aux_lemma=>kernel_rfl) (by as_aux_lemma=>kernel_rfl)) ?_
 intro W base args ds gs before mG hW UD _
 have hval: ∀(j:Nat) t v,Tryz.f9.params[j]? =some t→args[j]? =some v→Value.okWide Tryz.prog W .any base t v:=mG
 have UE:=hW
 obtain⟨p,q,KU,hV,rfl,hfz,hnd⟩:=hW
 have hA:DataW.TrodAll enc Tryz.prog W 0 (fun _=>true) true Tryz.f9.params.toList args.toList ds p:=KU
 rw[Tryz.params9]at hA hval
 obtain⟨v0,vs0,d0,ds0,p0,q0,hargs,rfl,rfl,h0,r0⟩:=trodAll_cons hA
 obtain⟨rfl,rfl,rfl⟩:=trodAll_nil r0
 obtain rfl:args= #[v0]:=by cases args;simp_all
 obtain⟨rfl,rfl⟩:=trodVars_none hV
 have k0:=h0
 have UF: ∀x∈p0,x.block<W.heap.size:=by obtain⟨m,hm⟩:=k0;exact DataW.trod_lt m _ _ _ hm
 obtain⟨KW,Pz⟩:=h0
 obtain⟨a0,aaz,aaA,rfl⟩:=okWide_slice Tryz.underlying22 (hval 0 22 v0 rfl rfl)
 obtain⟨x0,zU,⟨u0,Ny,e0⟩,E8⟩:=(eJ (k:=1) Tryz.underlying22 (by kernel_rfl) (by decide) (lY Tryz.underlying5)) _ _ _ Pz
 simp only[Value.cells,List.cons.injEq,and_true]at Ny
 subst Ny
 clear KU mG
 refine(walk W _ x0 zU e0 E8).mono fun e W' ⟨he,FB⟩=> ?_
 subst he
 exact⟨_,rfl,_,_,_,[],_,[],UE,trodAll_mk1 (shut_bool Tryz.underlying4 _),(trodAll_cons_mk (Below.trod K.laid (by as_aux_lemma=>kernel_rfl) (of_decide_eq_true (by as_aux_lemma=>kernel_rfl)) k0 FB UF) trodAll_mk0),rfl,FB.frame _,fun h=>by cases h⟩
set_option maxHeartbeats 4000000 in
theorem closed:joinedFacts Tryz.prog 9 Tryz.f9 Rows.fnServerViewsSpec Rows.fnServerViewsRow=true:=by
 unfold joinedFacts
 repeat' (with_reducible refine K.Qv ?_ ?_)
 ·as_aux_lemma=>kernel_rfl
 ·exact K.laid
 ·exact K.GP
 ·as_aux_lemma=>kernel_rfl
 ·as_aux_lemma=>kernel_rfl
 ·as_aux_lemma=>kernel_rfl
 ·exact K.stops
 ·as_aux_lemma=>kernel_rfl
 ·exact K.stopKnobs
 ·as_aux_lemma=>kernel_rfl
 ·as_aux_lemma=>kernel_rfl
 ·as_aux_lemma=>kernel_rfl
 ·as_aux_lemma=>kernel_rfl
 ·as_aux_lemma=>kernel_rfl
 ·as_aux_lemma=>kernel_rfl
 ·as_aux_lemma=>kernel_rfl
 ·as_aux_lemma=>kernel_rfl
 ·as_aux_lemma=>kernel_rfl
 ·as_aux_lemma=>kernel_rfl
 ·as_aux_lemma=>kernel_rfl
 ·as_aux_lemma=>kernel_rfl
 ·as_aux_lemma=>kernel_rfl
 ·exact K.plainKeys
 ·as_aux_lemma=>kernel_rfl
 ·exact K.stopsHeard
 ·exact K.mayEnter
 ·exact K.lifted
 ·exact K.make
 ·as_aux_lemma=>kernel_rfl
 ·as_aux_lemma=>kernel_rfl
 ·as_aux_lemma=>kernel_rfl
 ·as_aux_lemma=>kernel_rfl
theorem over:Rows.fnServerViewsRow.holds Tryz.pinned (OpenSpec.ofChange Rows.fnServerViewsSpec):=
 OpenClaim.holds_of_wide 9 Tryz.f9 rfl rfl rfl rfl rfl rfl rfl ⟨rfl,rfl,rfl,rfl,rfl⟩ rfl rfl rfl rfl rfl (by as_aux_lemma=>kernel_rfl) Tryz.func9 closed
  (of_decide_eq_true (by as_aux_lemma=>kernel_rfl)) (by unfold Func.isWrapper;first| (rw[if_pos (by decide+kernel)];kernel_rfl)| (rw[if_neg (by decide+kernel)];exact⟨rfl,rfl⟩))
  (fun os started H enc _=>lifted os started H enc)
theorem proved:Rows.FnServerViewsSaid:=over
#print axioms proved
end
end Go.Proofs.YteodajeiagmekaaGreat.fnServerViews
