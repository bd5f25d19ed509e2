/-
  FnExactRunRounds: the law returns true for every argument: the program and the reference agree on RunRounds, arguments are left as they were, and what is returned is memory of its own. No condition.
-/
import Derived.ChangeOld
import Derived.Test.YtmcgjpdljafkeaaGreatM29
import Derived.Test.YtmcgjpdljafkeaaGreatM31
import Derived.Test.YtmcgjpdljafkeaaGreatM40
namespace Go.Proofs.YtmcgjpdljafkeaaGreat.fnExactRunRounds
open Go.ChangeShapes Go.WideShapes Go.ChangeAt Go.RowKit L D C
section
set_option linter.all false
theorem walk(w:World)(cs0:List Value)(x0:aN)(tW:List Nat)(e0:pN w cs0 x0 tW)(zQ:iT x0)(a1:Int)(i1:we a1):
  Calls Tryz.prog 4 #[.agg cs0.toArray, .int .i64 a1] w (zX w (.bool true)):=
 G.mM (G.vX x0 zQ a1 i1) ⟨G.nF (G.jo e0),G.Ll rfl,⟨⟩⟩
set_option maxRecDepth 100000 in
theorem lifted(os:Os)(started:os.Started)(H:Type)(enc:TypeId×Value→H):
  ReturnsInHanded {} Tryz.checked os 4 .any (Rows.fnExactRunRoundsSpec.pre6 enc Tryz.prog Tryz.f4 Rows.fnExactRunRoundsRow.domain false) (Rows.fnExactRunRoundsSpec.post enc Tryz.prog Tryz.f4 false true false false):=by
 refine returnsInHanded_of_change (C:=Tryz.checked) K.own started (by as_aux_lemma=>kernel_rfl) Tryz.func4
  (ChangeSpec.witness6 (enc:=enc) (C:=Tryz.checked) false ⟨#[],#[.agg #[.int .i64 0, .slice none 0 0, .slice none 0 0, .int .i64 0, .slice none 0 0, .int .i64 0, .int .i64 0, .int .i64 0, .slice none 0 0, .int .i64 0], .int .i64 0],[]⟩ 8 (by as_aux_lemma=>kernel_rfl) (by as_aux_lemma=>kernel_rfl) (by as_aux_lemma=>kernel_rfl) (by as_aux_lemma=>kernel_rfl)) ?_
 intro W base args ds gs before jE hW NJ _
 have hval: ∀(j:Nat) t v,Tryz.f4.params[j]? =some t→args[j]? =some v→Value.okWide Tryz.prog W .any base t v:=jE
 have NK:=hW
 obtain⟨p,q,E7,hV,rfl,hfz,hnd⟩:=hW
 have hA:DataW.TrodAll enc Tryz.prog W 0 (fun _=>true) true Tryz.f4.params.toList args.toList ds p:=E7
 rw[Tryz.params4]at hA hval
 obtain⟨v0,V0,d0,V1,p0,q0,hargs,rfl,rfl,h0,r0⟩:=trodAll_cons hA
 obtain⟨v1,vs1,d1,Ya,p1,q1,rfl,rfl,rfl,h1,r1⟩:=trodAll_cons r0
 obtain⟨rfl,rfl,rfl⟩:=trodAll_nil r1
 obtain rfl:args= #[v0,v1]:=by cases args;simp_all
 obtain⟨rfl,rfl⟩:=trodVars_none hV
 have k0:=h0
 have NL: ∀x∈p0,x.block<W.heap.size:=by obtain⟨m,hm⟩:=k0;exact DataW.trod_lt m _ _ _ hm
 obtain⟨E8,JL⟩:=h0
 obtain⟨cs0,rfl,NM⟩:=okWide_struct Tryz.underlying29 (hval 0 29 v0 rfl rfl)
 obtain⟨x0,tW,e0,zQ⟩:=kU _ _ _ JL
 have e0:pN W cs0.toList x0 tW:=e0
 obtain⟨a1,rfl,rfl,rfl,w1⟩:=open_int Tryz.underlying3 (hval 1 3 v1 rfl rfl) h1
 clear E7 jE
 refine(walk W cs0.toList x0 tW e0 zQ a1 (yw w1)).mono fun e W' ⟨he,Ap⟩=> ?_
 subst he
 exact⟨_,rfl,_,_,_,[],_,[],NK,trodAll_mk1 (shut_bool Tryz.underlying4 _),(trodAll_cons_mk (Below.trod K.laid (by as_aux_lemma=>kernel_rfl) (of_decide_eq_true (by as_aux_lemma=>kernel_rfl)) k0 Ap NL) (trodAll_cons_mk (shut_int Tryz.underlying3 w1) trodAll_mk0)),rfl,Ap.frame _,fun h=>by cases h⟩
set_option maxHeartbeats 4000000 in
theorem closed:joinedFacts Tryz.prog 4 Tryz.f4 Rows.fnExactRunRoundsSpec Rows.fnExactRunRoundsRow=true:=by
 unfold joinedFacts
 repeat' (with_reducible refine K.KC ?_ ?_)
 ·as_aux_lemma=>kernel_rfl
 ·exact K.laid
 ·exact K.Dp
 ·as_aux_lemma=>kernel_rfl
 ·as_aux_lemma=>kernel_rfl
 ·as_aux_lemma=>kernel_rfl
 ·exact K.stops
 ·as_aux_lemma=>kernel_rfl
 ·exact K.stopKnobs
 ·as_aux_lemma=>kernel_rfl
 ·as_aux_lemma=>kernel_rfl
 ·as_aux_lemma=>kernel_rfl
 ·as_aux_lemma=>kernel_rfl
 ·as_aux_lemma=>kernel_rfl
 ·as_aux_lemma=>kernel_rfl
 ·as_aux_lemma=>kernel_rfl
 ·as_aux_lemma=>kernel_rfl
 ·as_aux_lemma=>kernel_rfl
 ·as_aux_lemma=>kernel_rfl
 ·as_aux_lemma=>kernel_rfl
 ·as_aux_lemma=>kernel_rfl
 ·as_aux_lemma=>kernel_rfl
 ·exact K.plainKeys
 ·as_aux_lemma=>kernel_rfl
 ·exact K.stopsHeard
 ·exact K.mayEnter
 ·exact K.lifted
 ·exact K.make
 ·as_aux_lemma=>kernel_rfl
 ·as_aux_lemma=>kernel_rfl
 ·as_aux_lemma=>kernel_rfl
 ·as_aux_lemma=>kernel_rfl
theorem over:Rows.fnExactRunRoundsRow.holds Tryz.pinned (OpenSpec.ofChange Rows.fnExactRunRoundsSpec):=
 OpenClaim.holds_of_wide 4 Tryz.f4 rfl rfl rfl rfl rfl rfl rfl ⟨rfl,rfl,rfl,rfl,rfl⟩ rfl rfl rfl rfl rfl (by as_aux_lemma=>kernel_rfl) Tryz.func4 closed
  (of_decide_eq_true (by as_aux_lemma=>kernel_rfl)) (by unfold Func.isWrapper;first| (rw[if_pos (by decide+kernel)];kernel_rfl)| (rw[if_neg (by decide+kernel)];exact⟨rfl,rfl⟩))
  (fun os started H enc _=>lifted os started H enc)
theorem proved:Rows.FnExactRunRoundsSaid:=over
#print axioms proved
end
end Go.Proofs.YtmcgjpdljafkeaaGreat.fnExactRunRounds
