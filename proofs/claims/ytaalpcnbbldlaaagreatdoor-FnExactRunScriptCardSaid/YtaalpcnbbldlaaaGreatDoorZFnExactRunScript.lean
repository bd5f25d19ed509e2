/-
  FnExactRunScript: the law returns true for every argument; arguments are left as they were. No condition.
-/
import Derived.ChangeMaps5
import Derived.ChangeOld
import Derived.Handed
import Derived.JoinedOf
import Derived.LaidHandle
import Derived.LaidLaws
import Derived.LaidSub
import Derived.Lib.LaidTab
import Derived.SevenTiedAt
import Derived.Shelf.Vars
import Derived.Stop.LaidErr
import Derived.Test.YtaalpcnbbldlaaaGreatDoorCards
import Derived.Test.YtaalpcnbbldlaaaGreatDoorTie
import Derived.Test.YtaalpcnbbldlaaaGreatDoorR23
import Derived.Test.YtaalpcnbbldlaaaGreatDoorR24
namespace Go.Proofs.YtaalpcnbbldlaaaGreatDoor.fnExactRunScript
open Go.ChangeShapes Go.WideShapes Go.ChangeAt Go.RowKit L D Go.Proofs.Tryz
section
open Go.ChangeMaps (open_string shut_string)
set_option linter.all false
theorem adf:Tryz.prog.globalNamed "internal/strconv.uint64pow10" =some 5:=by kernel_rfl
theorem Ve:(Tryz.prog.globals[5]?).map (·.type)=some 299:=by kernel_rfl
theorem aaD:Tryz.prog.cellsOf 299=20:=by kernel_rfl
theorem aaE:Tryz.prog.cellsOf 234=1:=by kernel_rfl
theorem gES:Tryz.prog.globalNamed "strconv.ErrSyntax" =some 3:=by kernel_rfl
theorem XN:(Tryz.prog.globals[3]?).map (·.type)=some 102:=by kernel_rfl
theorem gER:Tryz.prog.globalNamed "strconv.ErrRange" =some 4:=by kernel_rfl
theorem XO:(Tryz.prog.globals[4]?).map (·.type)=some 102:=by kernel_rfl
theorem Vf:Tryz.prog.cellsOf 282=1:=by kernel_rfl
theorem Vg:Tryz.prog.cellsOf 9=1:=by kernel_rfl
theorem star: "*" ++ "errors.errorString" = "*errors.errorString" :=by decide
theorem adg(u:TypeId)(h:Tryz.prog.typeName? 3 u=some "*errors.errorString"):u=280:=
 typeName_ptr_named (nm:= "errors.errorString") (by rw[star];kernel_rfl) (by kernel_rfl) (by decide) u (by rw[star];exact h)
theorem rA{W:World}{n:String}{g:Nat}{cs:Array Value}(hg:Tryz.prog.globalNamed n=some g)(h:W.var? Tryz.prog n=some cs): ∃e k,W.heap[g]? =some (.cells cs e k):=by
 unfold World.var? at h;rw[hg,Option.bind_some]at h;split at h
 ·rename_i cs' e k hh;simp only[oI]at h;rw[hh,h];exact⟨_,_,rfl⟩
 ·cases h
theorem aaF{W:World}(hS:W.ShapedOpen Tryz.prog)(h:laidMetH Tryz.prog Rows.fnExactRunScriptRow.laid W):G.Cq W:=by
 have h1:laidMet Tryz.prog Rows.fnExactRunScriptRow.laid W:=h;refine⟨?_,?_,?_,?_⟩
 ·have h3:Lib.TabIs Tryz.prog W "internal/strconv.uint64pow10" .u64 Lib.pow10Tab:=Lib.tabIs_of_head adf Ve Tryz.underlying299 Tryz.underlying234 aaE aaD h1.tail.tail
  exact rA adf h3
 ·have c0:((begin Tryz.prog (fun _ _=>0) default).world.heap[0]?).bind Obj.row?=some (#[.int .i64 0],3):=by kernel_rfl
  obtain⟨m,hm⟩:=cell_of_shapedOpen_int (zero:= #[.int .i64 0]) (t:=3) hS (of_decide_eq_true (by kernel_rfl)) c0 rfl (by kernel_rfl) (by kernel_rfl) Tryz.underlying3;obtain⟨cs,hh,hs,_⟩:=hS.1 0 #[.int .i64 0] 3 (of_decide_eq_true (by kernel_rfl)) c0;refine⟨m,3,(0,0),?_⟩;rw[hh];have hcell:W.cell? ⟨0,0,none⟩=cs[0]? :=by simp[World.cell?,hh]
  have hc:cs[0]? =some (.int .i64 m):=hcell.symm.trans hm;have:cs= #[.int .i64 m]:=by
   obtain⟨l⟩:=cs;match l,hs,hc with
   | [v],_,hc=>simp at hc;rw[hc]
  rw[this]
 ·obtain⟨a0,s0,hv0, -, -, -⟩:=laid_sentinel h1.tail.tail.tail.tail.tail gES XN Tryz.underlying102 adg Tryz.underlying280 Tryz.underlying282 rfl rfl Tryz.underlying9 Vf Vg;obtain⟨e,k,hh⟩:=rA gES hv0;exact⟨_,_,e,k,hh⟩
 ·obtain⟨a0,s0,hv0, -, -, -⟩:=laid_sentinel h1.tail.tail.tail.tail gER XO Tryz.underlying102 adg Tryz.underlying280 Tryz.underlying282 rfl rfl Tryz.underlying9 Vf Vg;obtain⟨e,k,hh⟩:=rA gER hv0;exact⟨_,_,e,k,hh⟩
noncomputable def NA (cs:Array Value):Go.Obj→Go.Obj
 | .cells _ t frozen=> .cells cs t frozen
 |o=>o
def one:DataW Unit→List Value
 | .lit (.int k n)=> [.int k n]
 |_=> []
def two:DataW Unit→List Value
 | .agg l=>l.flatMap one
 |d=>one d
def flat:DataW Unit→List Value
 | .agg l=>l.flatMap two
 |d=>one d
noncomputable def low:Nat:=(World.holding Tryz.prog default ⟨#[],#[],[]⟩).heap.size
noncomputable def BQ (os:Os):World:=
 let w0:=World.holding Tryz.prog os ⟨#[.cells #[.string ⟨#[105,110,118,97,108,105,100,32,115,121,110,116,97,120]⟩] 282, .cells #[.string ⟨#[118,97,108,117,101,32,111,117,116,32,111,102,32,114,97,110,103,101]⟩] 282],#[],[]⟩
 {w0 with heap:=(((((((w0.heap.modify 6 (NA (flat (Rows.laid_math_bits_deBruijn32tab:DataW Unit)).toArray)).modify 7 (NA (flat (Rows.laid_math_bits_deBruijn64tab:DataW Unit)).toArray)).modify 5 (NA (flat (Rows.laid_internal_strconv_uint64pow10:DataW Unit)).toArray)).modify 2 (NA (flat (Rows.laid_unicode_utf8_acceptRanges:DataW Unit)).toArray)).modify 4 (NA #[.iface 280 (.pointer (some ⟨low+1,0,none⟩))])).modify 3 (NA #[.iface 280 (.pointer (some ⟨low,0,none⟩))])).modify 1 (NA (flat (Rows.laid_unicode_utf8_first:DataW Unit)).toArray))}
theorem Vh(os:Os)(args:Array Value):laidMetH Tryz.prog Rows.fnExactRunScriptRow.laid ((BQ os).forCall (fun _ _=>0) ⟨#[],args,[]⟩).memory:=
 (show laidMet Tryz.prog Rows.fnExactRunScriptRow.laid ((BQ os).forCall (fun _ _=>0) ⟨#[],args,[]⟩).memory from laidMet_of_run' 8 (by as_aux_lemma=>kernel_rfl) (by as_aux_lemma=>kernel_rfl))
theorem walk(w:World)(hA:G.Cq w)(b:ByteArray):Calls Tryz.prog 3 #[.string b] w (NL w (.bool true)):=
 G.D9 (us:= [.string b]) (G.yc b.data.toList) ⟨G.yL rfl,⟨⟩⟩ hA
set_option maxRecDepth 100000 in
theorem lifted(os:Os)(started:os.Started)(H:Type)(enc:TypeId×Value→H):
  ReturnsInHanded {} Tryz.checked os 3 .any (fun w args=>(Rows.fnExactRunScriptSpec.pre enc Tryz.prog Tryz.f3 [] false w args∧laidMetH Tryz.prog Rows.fnExactRunScriptRow.laid w)∧sizedMet enc Tryz.prog Tryz.f3 (OpenSpec.ofChange Rows.fnExactRunScriptSpec) false w args)
   (Rows.fnExactRunScriptSpec.post enc Tryz.prog Tryz.f3 false true false false):=by
 refine returnsInHanded_of_calls (C:=Tryz.checked) K.own started (by as_aux_lemma=>kernel_rfl)
  (ChangeSpec.witness_at (enc:=enc) (C:=Tryz.checked) (os:=os) (X:=fun w _=>laidMetH Tryz.prog Rows.fnExactRunScriptRow.laid w) false (BQ os) #[.string ⟨#[]⟩] 8 rfl (by as_aux_lemma=>kernel_rfl) (by as_aux_lemma=>kernel_rfl) (by as_aux_lemma=>kernel_rfl) (by as_aux_lemma=>kernel_rfl) (by as_aux_lemma=>kernel_rfl) (Vh os _)) ?_
 intro w1 tape i _ hS _ hok hpre _;obtain⟨_,_,_,fn',ae4,_,_,_,_,adh⟩:=hok;have efn:fn'=Tryz.f3:=Option.some.inj (ae4.symm.trans func3);subst efn;obtain⟨⟨⟨ds,gs,before,hw1,hc1⟩,hx⟩,_⟩:=hpre;have hW0:=DataW.Whole.of_heap (w':=w1.forCall tape i) (by rfl) hw1;have hL:laidMetH Tryz.prog Rows.fnExactRunScriptRow.laid (w1.forCall tape i):=hx.of_heap (by rfl);obtain⟨args,ae5⟩: ∃a,a=i.args:=⟨_,rfl⟩;generalize hWW:w1.forCall tape i=W at*;generalize w1.heap.size=base at*;suffices RW:Calls Tryz.prog 3 i.args W fun e W'=> ∃v,e= .returned v∧Rows.fnExactRunScriptSpec.post enc Tryz.prog Tryz.f3 false true false false W i.args v W' by
  refine RW.mono fun e W' ⟨v,he,hp⟩=> ?_;subst he;exact ChangeSpec.post_blind hp
 generalize i.args=args at*;have hval: ∀(j:Nat) t v,Tryz.f3.params[j]? =some t→args[j]? =some v→Value.okWide Tryz.prog W .any base t v:=adh;have hW:=hW0;have hW':=hW;obtain⟨p,q,hA0,hV,rfl,hfz,hnd⟩:=hW;have hA:DataW.TrodAll enc Tryz.prog W 0 (fun _=>true) true Tryz.f3.params.toList args.toList ds p:=hA0;rw[Tryz.params3]at hA hval;obtain⟨v0,vs0,d0,ds0,p0,q0,hargs,rfl,rfl,h0,r0⟩:=trodAll_cons hA;obtain⟨rfl,rfl,rfl⟩:=trodAll_nil r0;obtain rfl:args= #[v0]:=by cases args;simp_all
 obtain⟨rfl,rfl⟩:=trodVars_none hV;obtain⟨b0,rfl,rfl,rfl,hb0⟩:=open_string Tryz.underlying9 (hval 0 9 v0 rfl rfl) h0;clear hA0;refine(walk W (aaF hS hL) b0).mono fun e W' ⟨he,bel⟩=> ?_;subst he;exact⟨_,rfl,_,_,_,[],_,[],hW',trodAll_mk1 (shut_bool Tryz.underlying4 _),(trodAll_cons_mk (shut_string Tryz.underlying9 hb0) trodAll_mk0),rfl,bel.frame _,fun h=>by cases h⟩
set_option maxHeartbeats 4000000 in
theorem closed:joinedFacts Tryz.prog 3 Tryz.f3 Rows.fnExactRunScriptSpec Rows.fnExactRunScriptRow=true:=by
 unfold joinedFacts
 repeat' (with_reducible refine K.ae3 ?_ ?_)
 ·as_aux_lemma=>kernel_rfl
 ·exact K.laid
 ·exact K.ade
 ·as_aux_lemma=>kernel_rfl
 ·as_aux_lemma=>kernel_rfl
 ·as_aux_lemma=>kernel_rfl
 ·exact K.stops
 ·as_aux_lemma=>kernel_rfl
 ·exact K.stopKnobs
 ·as_aux_lemma=>kernel_rfl
 ·as_aux_lemma=>kernel_rfl
 ·as_aux_lemma=>kernel_rfl
 ·as_aux_lemma=>kernel_rfl
 ·as_aux_lemma=>kernel_rfl
 ·as_aux_lemma=>kernel_rfl
 ·as_aux_lemma=>kernel_rfl
 ·as_aux_lemma=>kernel_rfl
 ·as_aux_lemma=>kernel_rfl
 ·as_aux_lemma=>kernel_rfl
 ·as_aux_lemma=>kernel_rfl
 ·as_aux_lemma=>kernel_rfl
 ·as_aux_lemma=>kernel_rfl
 ·exact K.plainKeys
 ·as_aux_lemma=>kernel_rfl
 ·exact K.stopsHeard
 ·exact K.mayEnter
 ·exact K.lifted
 ·exact K.make
 ·as_aux_lemma=>kernel_rfl
 ·as_aux_lemma=>kernel_rfl
 ·as_aux_lemma=>kernel_rfl
 ·as_aux_lemma=>kernel_rfl
theorem over:Rows.fnExactRunScriptRow.holds Tryz.pinned (OpenSpec.ofChange Rows.fnExactRunScriptSpec):=
 OpenClaim.holds_of_wide 3 Tryz.f3 rfl rfl rfl rfl rfl rfl rfl ⟨rfl,rfl,rfl,rfl,rfl⟩ rfl rfl rfl rfl rfl (by as_aux_lemma=>kernel_rfl) func3 closed
  (of_decide_eq_true (by as_aux_lemma=>kernel_rfl)) (by unfold Func.isWrapper;first| (rw[if_pos (by decide+kernel)];kernel_rfl)| (rw[if_neg (by decide+kernel)];exact⟨rfl,rfl⟩))
  (fun os started H enc _=>lifted os started H enc)
theorem plain(f:FuncId)(fn:Func)(hf:Tryz.pinned.checked.prog.funcNamed "loop.example/g00516/laws.FnExactRunScript" =some f)(hfn:Tryz.pinned.checked.prog.funcs[f]? =some fn):
  true=Tryz.pinned.checked.prog.looks []∧ ∀(j:Nat) t,fn.params[j]? =some t→Tryz.pinned.checked.prog.wantsStandIn t=false:=by
 obtain rfl:f=3:=Option.some.inj ((show Tryz.prog.funcNamed "loop.example/g00516/laws.FnExactRunScript" =some 3 by as_aux_lemma=>kernel_rfl).symm.trans hf)|>.symm
 obtain rfl:fn=Tryz.f3:=(Option.some.inj (func3.symm.trans hfn)).symm;refine⟨by as_aux_lemma=>kernel_rfl,fun j t ht=> ?_⟩;have hall:(Tryz.f3.params.toList.all fun t=> !Tryz.prog.wantsStandIn t)=true:=by as_aux_lemma=>kernel_rfl
 have:=List.all_eq_true.1 hall t (Array.mem_toList_iff.2 (Array.mem_of_getElem? ht));exact(show Tryz.prog.wantsStandIn t=false by simpa using this)
theorem ae6:Tryz.prog.funcs.toList.any Func.goes=false:=by kernel_rfl
theorem QT{P:Program}(h:P.funcs.toList.any Func.goes=false)(f:FuncId):P.goes f=false:=by
 have h1:P.funcs.any Func.goes=false:=by rw[←Array.any_toList];exact h
 unfold Program.goes;rw[h1,Bool.and_false,Bool.or_false,Bool.eq_false_iff];intro hc;rw[List.any_eq_true]at hc;obtain⟨g,_,hg⟩:=hc;cases he:P.funcs[g]? with
 |none=>rw[he]at hg;cases hg
 |some fn=>
  rw[he]at hg;have h2:fn∈P.funcs.toList:=Array.mem_toList_iff.2 (Array.mem_of_getElem? he);exact(List.any_eq_false.1 h) fn h2 hg
theorem XP{P:Program}(h:P.funcs.toList.any Func.goes=false){c:OpenClaim}(hs:c.start= .entering):false=c.goesBy P:=by
 unfold OpenClaim.goesBy Program.goesAt Program.goesFrom;rw[hs];cases P.funcNamed c.func with
 |none=>rfl
 |some f=>show false=(P.goes f||false);rw[QT h f];rfl
theorem proved:Rows.FnExactRunScriptCardSaid:=
 Claim7.holds_tied_plain_at .later [] _ _ _ _ over (fun _ h=>by cases h) (by as_aux_lemma=>kernel_rfl) (fun _ h=>by cases h) fnExactRunScript_row_tie rfl ⟨rfl,rfl⟩ (by as_aux_lemma=>kernel_rfl) rfl plain (XP (P:=Tryz.pinned.checked.prog) ae6 rfl)
#print axioms proved
end
end Go.Proofs.YtaalpcnbbldlaaaGreatDoor.fnExactRunScript
