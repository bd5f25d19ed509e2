/-
  FnHostileServersReplaced: the law returns true for every argument: what it draws from its bytes answers as the law asks. No condition.
-/
import Derived.ChangeOld
import Derived.Test.YtkcegdacbddipaaGreatP15
import Derived.Test.YtkcegdacbddipaaGreatP16
open Go.Proofs.Tryz renaming checked→FK,f4→Dq,prog→bC,underlying22→pE
open Go.Proofs.YtkcegdacbddipaaGreat.Rows renaming fnHostileServersReplacedRow→jU,fnHostileServersReplacedSpec→gA
namespace Go.Proofs.YtkcegdacbddipaaGreat.fnHostileServersReplaced
open Go.ChangeShapes Go.WideShapes Go.ChangeAt Go.RowKit L D Go.Proofs.Tryz
section
set_option linter.all false
theorem walk(w:World)(u0:Value)(x0:(List UInt8))(fp0:List Nat)(e0:Sl 1 R8 w u0 x0 fp0)(wf0:(fun l=> ∀x,x∈l→(fun _=>True) x) x0):
  Calls bC 4 #[u0] w (aen w (.bool true)):=
 G.YF (G.tC x0 wf0) ⟨⟨fp0,e0⟩,⟨⟩⟩
set_option maxRecDepth 100000 in
theorem lifted(os:Os)(started:os.Started)(H:Type)(enc:TypeId×Value→H):
  ReturnsInHanded {} FK os 4 .any (gA.pre6 enc bC Dq jU.domain false) (gA.post enc bC Dq false true false false):=by
 refine returnsInHanded_of_change (C:=FK) K.own started (by as_aux_lemma=>kernel_rfl) func4
  (ChangeSpec.witness6 (enc:=enc) (C:=FK) false ⟨#[],#[.slice none 0 0],[]⟩ 8 (by as_aux_lemma=>kernel_rfl) (by as_aux_lemma=>kernel_rfl) (by as_aux_lemma=>kernel_rfl) (by as_aux_lemma=>kernel_rfl)) ?_
 intro W base args ds gs before afR hW apL _
 have hval: ∀(j:Nat) t v,Dq.params[j]? =some t→args[j]? =some v→Value.okWide bC W .any base t v:=afR
 have hW':=hW
 obtain⟨p,q,hA0,hV,rfl,hfz,hnd⟩:=hW
 have hA:DataW.TrodAll enc bC W 0 (fun _=>true) true Dq.params.toList args.toList ds p:=hA0
 rw[Tryz.params4]at hA hval
 obtain⟨v0,vs0,d0,ds0,p0,q0,hargs,rfl,rfl,h0,r0⟩:=trodAll_cons hA
 obtain⟨rfl,rfl,rfl⟩:=trodAll_nil r0
 obtain rfl:args= #[v0]:=by cases args;simp_all
 obtain⟨rfl,rfl⟩:=trodVars_none hV
 have k0:=h0
 have lt0: ∀x∈p0,x.block<W.heap.size:=by obtain⟨m,hm⟩:=k0;exact DataW.trod_lt m _ _ _ hm
 obtain⟨an8,hf0⟩:=h0
 obtain⟨a0,apO,apP,rfl⟩:=okWide_slice pE (hval 0 22 v0 rfl rfl)
 obtain⟨x0,fp0,⟨u0,hu0,e0⟩,wf0⟩:=(Xf (k:=1) pE (by kernel_rfl) (by decide) (Xe Tryz.underlying5)) _ _ _ hf0
 simp only[Value.cells,List.cons.injEq,and_true]at hu0
 subst hu0
 clear hA0 afR
 refine(walk W _ x0 fp0 e0 wf0).mono fun e W' ⟨he,bel⟩=> ?_
 subst he
 exact⟨_,rfl,_,_,_,[],_,[],hW',trodAll_mk1 (shut_bool Tryz.underlying4 _),(trodAll_cons_mk (Below.trod K.laid (by as_aux_lemma=>kernel_rfl) (of_decide_eq_true (by as_aux_lemma=>kernel_rfl)) k0 bel lt0) trodAll_mk0),rfl,bel.frame _,fun h=>by cases h⟩
set_option maxHeartbeats 4000000 in
theorem closed:joinedFacts bC 4 Dq gA jU=true:=by
 unfold joinedFacts
 repeat' (with_reducible refine K.am2 ?_ ?_)
 ·as_aux_lemma=>kernel_rfl
 ·exact K.laid
 ·exact K.akG
 ·as_aux_lemma=>kernel_rfl
 ·as_aux_lemma=>kernel_rfl
 ·as_aux_lemma=>kernel_rfl
 ·exact K.stops
 ·as_aux_lemma=>kernel_rfl
 ·exact K.stopKnobs
 ·as_aux_lemma=>kernel_rfl
 ·as_aux_lemma=>kernel_rfl
 ·as_aux_lemma=>kernel_rfl
 ·as_aux_lemma=>kernel_rfl
 ·as_aux_lemma=>kernel_rfl
 ·as_aux_lemma=>kernel_rfl
 ·as_aux_lemma=>kernel_rfl
 ·as_aux_lemma=>kernel_rfl
 ·as_aux_lemma=>kernel_rfl
 ·as_aux_lemma=>kernel_rfl
 ·as_aux_lemma=>kernel_rfl
 ·as_aux_lemma=>kernel_rfl
 ·as_aux_lemma=>kernel_rfl
 ·exact K.plainKeys
 ·as_aux_lemma=>kernel_rfl
 ·exact K.stopsHeard
 ·exact K.mayEnter
 ·exact K.lifted
 ·exact K.make
 ·as_aux_lemma=>kernel_rfl
 ·as_aux_lemma=>kernel_rfl
 ·as_aux_lemma=>kernel_rfl
 ·as_aux_lemma=>kernel_rfl
theorem over:jU.holds Tryz.pinned (OpenSpec.ofChange gA):=
 OpenClaim.holds_of_wide 4 Dq rfl rfl rfl rfl rfl rfl rfl ⟨rfl,rfl,rfl,rfl,rfl⟩ rfl rfl rfl rfl rfl (by as_aux_lemma=>kernel_rfl) func4 closed
  (of_decide_eq_true (by as_aux_lemma=>kernel_rfl)) (by unfold Func.isWrapper;first| (rw[if_pos (by decide+kernel)];kernel_rfl)| (rw[if_neg (by decide+kernel)];exact⟨rfl,rfl⟩))
  (fun os started H enc _=>lifted os started H enc)
theorem proved:Rows.FnHostileServersReplacedSaid:=over
#print axioms proved
end
end Go.Proofs.YtkcegdacbddipaaGreat.fnHostileServersReplaced
