/-
  FnDelays: the law returns true for every argument: what it draws from its bytes answers as the law asks. No condition.
-/
import Derived.ChangeOld
import Derived.Test.YtkcegdacbddipaaGreatM12
import Derived.Test.YtkcegdacbddipaaGreatM13
open Go.Proofs.Tryz renaming checked→EH,f3→Cx,prog→bu,underlying22→uf
open Go.Proofs.YtkcegdacbddipaaGreat.Rows renaming fnDelaysRow→wk,fnDelaysSpec→oY
namespace Go.Proofs.YtkcegdacbddipaaGreat.fnDelays
open Go.ChangeShapes Go.WideShapes Go.ChangeAt Go.RowKit L D Go.Proofs.Tryz
section
set_option linter.all false
theorem walk(w:World)(u0:Value)(x0:(List UInt8))(fp0:List Nat)(e0:Sl 1 QL w u0 x0 fp0)(wf0:(fun l=> ∀x,x∈l→(fun _=>True) x) x0):
  Calls bu 3 #[u0] w (ab6 w (.bool true)):=
 G.W6 (G.QJ x0 wf0) ⟨⟨fp0,e0⟩,⟨⟩⟩
set_option maxRecDepth 100000 in
theorem lifted(os:Os)(started:os.Started)(H:Type)(enc:TypeId×Value→H):
  ReturnsInHanded {} EH os 3 .any (oY.pre6 enc bu Cx wk.domain false) (oY.post enc bu Cx false true false false):=by
 refine returnsInHanded_of_change (C:=EH) K.own started (by as_aux_lemma=>kernel_rfl) func3
  (ChangeSpec.witness6 (enc:=enc) (C:=EH) false ⟨#[],#[.slice none 0 0],[]⟩ 8 (by as_aux_lemma=>kernel_rfl) (by as_aux_lemma=>kernel_rfl) (by as_aux_lemma=>kernel_rfl) (by as_aux_lemma=>kernel_rfl)) ?_
 intro W base args ds gs before adr hW am2 _
 have hval: ∀(j:Nat) t v,Cx.params[j]? =some t→args[j]? =some v→Value.okWide bu W .any base t v:=adr
 have hW':=hW
 obtain⟨p,q,hA0,hV,rfl,hfz,hnd⟩:=hW
 have hA:DataW.TrodAll enc bu W 0 (fun _=>true) true Cx.params.toList args.toList ds p:=hA0
 rw[Tryz.params3]at hA hval
 obtain⟨v0,vs0,d0,ds0,p0,q0,hargs,rfl,rfl,h0,r0⟩:=trodAll_cons hA
 obtain⟨rfl,rfl,rfl⟩:=trodAll_nil r0
 obtain rfl:args= #[v0]:=by cases args;simp_all
 obtain⟨rfl,rfl⟩:=trodVars_none hV
 have k0:=h0
 have lt0: ∀x∈p0,x.block<W.heap.size:=by obtain⟨m,hm⟩:=k0;exact DataW.trod_lt m _ _ _ hm
 obtain⟨alf,hf0⟩:=h0
 obtain⟨a0,am5,am6,rfl⟩:=okWide_slice uf (hval 0 22 v0 rfl rfl)
 obtain⟨x0,fp0,⟨u0,hu0,e0⟩,wf0⟩:=(VC (k:=1) uf (by kernel_rfl) (by decide) (VB Tryz.underlying5)) _ _ _ hf0
 simp only[Value.cells,List.cons.injEq,and_true]at hu0
 subst hu0
 clear hA0 adr
 refine(walk W _ x0 fp0 e0 wf0).mono fun e W' ⟨he,bel⟩=> ?_
 subst he
 exact⟨_,rfl,_,_,_,[],_,[],hW',trodAll_mk1 (shut_bool Tryz.underlying4 _),(trodAll_cons_mk (Below.trod K.laid (by as_aux_lemma=>kernel_rfl) (of_decide_eq_true (by as_aux_lemma=>kernel_rfl)) k0 bel lt0) trodAll_mk0),rfl,bel.frame _,fun h=>by cases h⟩
set_option maxHeartbeats 4000000 in
theorem closed:joinedFacts bu 3 Cx oY wk=true:=by
 unfold joinedFacts
 repeat' (with_reducible refine K.akj ?_ ?_)
 ·as_aux_lemma=>kernel_rfl
 ·exact K.laid
 ·exact K.ah0
 ·as_aux_lemma=>kernel_rfl
 ·as_aux_lemma=>kernel_rfl
 ·as_aux_lemma=>kernel_rfl
 ·exact K.stops
 ·as_aux_lemma=>kernel_rfl
 ·exact K.stopKnobs
 ·as_aux_lemma=>kernel_rfl
 ·as_aux_lemma=>kernel_rfl
 ·as_aux_lemma=>kernel_rfl
 ·as_aux_lemma=>kernel_rfl
 ·as_aux_lemma=>kernel_rfl
 ·as_aux_lemma=>kernel_rfl
 ·as_aux_lemma=>kernel_rfl
 ·as_aux_lemma=>kernel_rfl
 ·as_aux_lemma=>kernel_rfl
 ·as_aux_lemma=>kernel_rfl
 ·as_aux_lemma=>kernel_rfl
 ·as_aux_lemma=>kernel_rfl
 ·as_aux_lemma=>kernel_rfl
 ·exact K.plainKeys
 ·as_aux_lemma=>kernel_rfl
 ·exact K.stopsHeard
 ·exact K.mayEnter
 ·exact K.lifted
 ·exact K.make
 ·as_aux_lemma=>kernel_rfl
 ·as_aux_lemma=>kernel_rfl
 ·as_aux_lemma=>kernel_rfl
 ·as_aux_lemma=>kernel_rfl
theorem over:wk.holds Tryz.pinned (OpenSpec.ofChange oY):=
 OpenClaim.holds_of_wide 3 Cx rfl rfl rfl rfl rfl rfl rfl ⟨rfl,rfl,rfl,rfl,rfl⟩ rfl rfl rfl rfl rfl (by as_aux_lemma=>kernel_rfl) func3 closed
  (of_decide_eq_true (by as_aux_lemma=>kernel_rfl)) (by unfold Func.isWrapper;first| (rw[if_pos (by decide+kernel)];kernel_rfl)| (rw[if_neg (by decide+kernel)];exact⟨rfl,rfl⟩))
  (fun os started H enc _=>lifted os started H enc)
theorem proved:Rows.FnDelaysSaid:=over
#print axioms proved
end
end Go.Proofs.YtkcegdacbddipaaGreat.fnDelays
