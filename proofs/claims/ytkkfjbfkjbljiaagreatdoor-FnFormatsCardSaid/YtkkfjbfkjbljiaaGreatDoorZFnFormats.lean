/-
  FnFormats: the law returns true for every argument: what it draws from its bytes answers as the law asks. No condition.
-/
import Derived.ChangeOld
import Derived.Handed
import Derived.JoinedOf
import Derived.LaidHandle
import Derived.LaidLaws
import Derived.LaidSub
import Derived.Lib.LaidTab
import Derived.SevenTiedAt
import Derived.Test.YtkkfjbfkjbljiaaGreatDoorCards
import Derived.Test.YtkkfjbfkjbljiaaGreatDoorTie
import Derived.Test.YtkkfjbfkjbljiaaGreatDoorM18
import Derived.Test.YtkkfjbfkjbljiaaGreatDoorM19
namespace Go.Proofs.YtkkfjbfkjbljiaaGreatDoor.fnFormats
open Go.ChangeShapes Go.WideShapes Go.ChangeAt Go.RowKit L D Go.Proofs.Tryz
section
set_option linter.all false
theorem aby:Tryz.prog.globalNamed "internal/strconv.uint64pow10" =some 0:=by kernel_rfl
theorem RJ:(Tryz.prog.globals[0]?).map (·.type)=some 193:=by kernel_rfl
theorem YT:Tryz.prog.cellsOf 193=20:=by kernel_rfl
theorem YU:Tryz.prog.cellsOf 156=1:=by kernel_rfl
theorem YV{W:World}(h:laidMetH Tryz.prog Rows.fnFormatsRow.laid W):G.zj W:=by
 have h1:laidMet Tryz.prog Rows.fnFormatsRow.laid W:=h
 have h2:=h1.filter (fun x=>match x.2 with| .agg l=>l.length==20|_=>false)
 have h3:Lib.TabIs Tryz.prog W "internal/strconv.uint64pow10" .u64 Lib.pow10Tab:=Lib.tabIs_of_head (rest:= []) aby RJ Tryz.underlying193 Tryz.underlying156 YU YT h2
 unfold Lib.TabIs World.var? at h3
 rw[aby,Option.bind_some]at h3
 unfold G.zj
 split at h3
 ·rename_i cs e k hh
  simp only[oI]at h3
  rw[hh,h3];exact⟨_,_,rfl⟩
 ·cases h3
noncomputable def YW (cs:Array Value):Go.Obj→Go.Obj
 | .cells _ t frozen=> .cells cs t frozen
 |o=>o
noncomputable def xY (os:Os):World:=
 {World.holding Tryz.prog os ⟨#[],#[],[]⟩with heap:=(((World.holding Tryz.prog os ⟨#[],#[],[]⟩).heap.modify 0 (YW (Lib.pow10Tab.map fun z=>Value.int .u64 z).toArray)).modify 2 (YW (([0,1,28,2,29,14,24,3,30,22,20,15,25,17,4,8,31,27,13,23,21,19,16,7,26,12,18,6,11,5,10,9]:List Int).map fun z=>Value.int .u8 z).toArray)).modify 3 (YW (([0,1,56,2,57,49,28,3,61,58,42,50,38,29,17,4,62,47,59,36,45,43,51,22,53,39,33,30,24,18,12,5,63,55,48,27,60,41,37,16,46,35,44,21,52,32,23,11,54,26,40,15,34,20,31,10,25,14,19,9,13,8,7,6]:List Int).map fun z=>Value.int .u8 z).toArray)}
theorem RK(os:Os)(args:Array Value):laidMetH Tryz.prog Rows.fnFormatsRow.laid ((xY os).forCall (fun _ _=>0) ⟨#[],args,[]⟩).memory:=
 (show laidMet Tryz.prog Rows.fnFormatsRow.laid ((xY os).forCall (fun _ _=>0) ⟨#[],args,[]⟩).memory from laidMet_of_run' 8 (by as_aux_lemma=>kernel_rfl) (by as_aux_lemma=>kernel_rfl))
theorem walk(w:World)(hA:G.zj w)(u0:Value)(x0:(List UInt8))(fp0:List Nat)(e0:Sl 1 Hz w u0 x0 fp0)(wf0:(fun l=> ∀x,x∈l→(fun _=>True) x) x0):
  Calls Tryz.prog 3 #[u0] w (U4 w (.bool true)):=
 G.OU (G.Hq x0 wf0) ⟨⟨fp0,e0⟩,⟨⟩⟩
set_option maxRecDepth 100000 in
theorem lifted(os:Os)(started:os.Started)(H:Type)(enc:TypeId×Value→H):
  ReturnsInHanded {} Tryz.checked os 3 .any (fun w args=>(Rows.fnFormatsSpec.pre enc Tryz.prog Tryz.f3 [] false w args∧laidMetH Tryz.prog Rows.fnFormatsRow.laid w)∧sizedMet enc Tryz.prog Tryz.f3 (OpenSpec.ofChange Rows.fnFormatsSpec) false w args)
   (Rows.fnFormatsSpec.post enc Tryz.prog Tryz.f3 false true false false):=by
 refine returnsInHanded_of_change_and (C:=Tryz.checked) (X:=fun w _=>laidMetH Tryz.prog Rows.fnFormatsRow.laid w) (fun _ _ _ hh h=>h.of_heap hh) K.own started (by as_aux_lemma=>kernel_rfl) func3
  (ChangeSpec.witness_at (enc:=enc) (C:=Tryz.checked) (os:=os) (X:=fun w _=>laidMetH Tryz.prog Rows.fnFormatsRow.laid w) false (xY os) #[.slice none 0 0] 8 rfl (by as_aux_lemma=>kernel_rfl) (by as_aux_lemma=>kernel_rfl) (by as_aux_lemma=>kernel_rfl) (by as_aux_lemma=>kernel_rfl) (by as_aux_lemma=>kernel_rfl) (RK os _)) ?_
 intro W base args ds gs before V4 hW agk _ hL _
 have hval: ∀(j:Nat) t v,Tryz.f3.params[j]? =some t→args[j]? =some v→Value.okWide Tryz.prog W .any base t v:=V4
 have hW':=hW
 obtain⟨p,q,hA0,hV,rfl,hfz,hnd⟩:=hW
 have hA:DataW.TrodAll enc Tryz.prog W 0 (fun _=>true) true Tryz.f3.params.toList args.toList ds p:=hA0
 rw[Tryz.params3]at hA hval
 obtain⟨v0,vs0,d0,ds0,p0,q0,hargs,rfl,rfl,h0,r0⟩:=trodAll_cons hA
 obtain⟨rfl,rfl,rfl⟩:=trodAll_nil r0
 obtain rfl:args= #[v0]:=by cases args;simp_all
 obtain⟨rfl,rfl⟩:=trodVars_none hV
 have k0:=h0
 have lt0: ∀x∈p0,x.block<W.heap.size:=by obtain⟨m,hm⟩:=k0;exact DataW.trod_lt m _ _ _ hm
 obtain⟨aeJ,hf0⟩:=h0
 obtain⟨a0,agn,ago,rfl⟩:=okWide_slice Tryz.underlying22 (hval 0 22 v0 rfl rfl)
 obtain⟨x0,fp0,⟨u0,ZB,e0⟩,wf0⟩:=(Nh (k:=1) Tryz.underlying22 (by kernel_rfl) (by decide) (Ng Tryz.underlying5)) _ _ _ hf0
 simp only[Value.cells,List.cons.injEq,and_true]at ZB
 subst ZB
 clear hA0 V4
 refine(walk W (YV hL) _ x0 fp0 e0 wf0).mono fun e W' ⟨he,bel⟩=> ?_
 subst he
 exact⟨_,rfl,_,_,_,[],_,[],hW',trodAll_mk1 (shut_bool Tryz.underlying4 _),(trodAll_cons_mk (Below.trod K.laid (by as_aux_lemma=>kernel_rfl) (of_decide_eq_true (by as_aux_lemma=>kernel_rfl)) k0 bel lt0) trodAll_mk0),rfl,bel.frame _,fun h=>by cases h⟩
set_option maxHeartbeats 4000000 in
theorem closed:joinedFacts Tryz.prog 3 Tryz.f3 Rows.fnFormatsSpec Rows.fnFormatsRow=true:=by
 unfold joinedFacts
 repeat' (with_reducible refine K.adK ?_ ?_)
 ·as_aux_lemma=>kernel_rfl
 ·exact K.laid
 ·exact K.abx
 ·as_aux_lemma=>kernel_rfl
 ·as_aux_lemma=>kernel_rfl
 ·as_aux_lemma=>kernel_rfl
 ·exact K.stops
 ·as_aux_lemma=>kernel_rfl
 ·exact K.stopKnobs
 ·as_aux_lemma=>kernel_rfl
 ·as_aux_lemma=>kernel_rfl
 ·as_aux_lemma=>kernel_rfl
 ·as_aux_lemma=>kernel_rfl
 ·as_aux_lemma=>kernel_rfl
 ·as_aux_lemma=>kernel_rfl
 ·as_aux_lemma=>kernel_rfl
 ·as_aux_lemma=>kernel_rfl
 ·as_aux_lemma=>kernel_rfl
 ·as_aux_lemma=>kernel_rfl
 ·as_aux_lemma=>kernel_rfl
 ·as_aux_lemma=>kernel_rfl
 ·as_aux_lemma=>kernel_rfl
 ·exact K.plainKeys
 ·as_aux_lemma=>kernel_rfl
 ·exact K.stopsHeard
 ·exact K.mayEnter
 ·exact K.lifted
 ·exact K.make
 ·as_aux_lemma=>kernel_rfl
 ·as_aux_lemma=>kernel_rfl
 ·as_aux_lemma=>kernel_rfl
 ·as_aux_lemma=>kernel_rfl
theorem over:Rows.fnFormatsRow.holds Tryz.pinned (OpenSpec.ofChange Rows.fnFormatsSpec):=
 OpenClaim.holds_of_wide 3 Tryz.f3 rfl rfl rfl rfl rfl rfl rfl ⟨rfl,rfl,rfl,rfl,rfl⟩ rfl rfl rfl rfl rfl (by as_aux_lemma=>kernel_rfl) func3 closed
  (of_decide_eq_true (by as_aux_lemma=>kernel_rfl)) (by unfold Func.isWrapper;first| (rw[if_pos (by decide+kernel)];kernel_rfl)| (rw[if_neg (by decide+kernel)];exact⟨rfl,rfl⟩))
  (fun os started H enc _=>lifted os started H enc)
theorem plain(f:FuncId)(fn:Func)(hf:Tryz.pinned.checked.prog.funcNamed "loop.example/g00516/laws.FnFormats" =some f)(hfn:Tryz.pinned.checked.prog.funcs[f]? =some fn):
  false=Tryz.pinned.checked.prog.looks []∧ ∀(j:Nat) t,fn.params[j]? =some t→Tryz.pinned.checked.prog.wantsStandIn t=false:=by
 obtain rfl:f=3:=Option.some.inj ((show Tryz.prog.funcNamed "loop.example/g00516/laws.FnFormats" =some 3 by as_aux_lemma=>kernel_rfl).symm.trans hf)|>.symm
 obtain rfl:fn=Tryz.f3:=(Option.some.inj (func3.symm.trans hfn)).symm
 refine⟨by as_aux_lemma=>kernel_rfl,fun j t ht=> ?_⟩
 have hall:(Tryz.f3.params.toList.all fun t=> !Tryz.prog.wantsStandIn t)=true:=by as_aux_lemma=>kernel_rfl
 have:=List.all_eq_true.1 hall t (Array.mem_toList_iff.2 (Array.mem_of_getElem? ht))
 exact(show Tryz.prog.wantsStandIn t=false by simpa using this)
theorem proved:Rows.FnFormatsCardSaid:=
 Claim7.holds_tied_plain_at .later [] _ _ _ _ over (fun _ h=>by cases h) (by as_aux_lemma=>kernel_rfl) (fun _ h=>by cases h) fnFormats_row_tie rfl ⟨rfl,rfl⟩ (by as_aux_lemma=>kernel_rfl) rfl plain (by as_aux_lemma=>kernel_rfl)
#print axioms proved
end
end Go.Proofs.YtkkfjbfkjbljiaaGreatDoor.fnFormats
