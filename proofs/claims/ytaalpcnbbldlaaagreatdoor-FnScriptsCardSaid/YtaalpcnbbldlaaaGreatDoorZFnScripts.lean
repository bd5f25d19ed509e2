/-
  FnScripts: the law returns true for every argument; arguments are left as they were. No condition.
-/
import Derived.ChangeMaps5
import Derived.ChangeOld
import Derived.Handed
import Derived.JoinedOf
import Derived.LaidHandle
import Derived.LaidLaws
import Derived.LaidSub
import Derived.Lib.LaidTab
import Derived.SevenTiedAt
import Derived.Shelf.Vars
import Derived.Stop.LaidErr
import Derived.Test.YtaalpcnbbldlaaaGreatDoorCards
import Derived.Test.YtaalpcnbbldlaaaGreatDoorTie
import Derived.Test.YtaalpcnbbldlaaaGreatDoorR27
import Derived.Test.YtaalpcnbbldlaaaGreatDoorR28
import Derived.Test.YtaalpcnbbldlaaaGreatDoorR29
import Derived.Test.YtaalpcnbbldlaaaGreatDoorR30
import Derived.Test.YtaalpcnbbldlaaaGreatDoorR31
import Derived.Test.YtaalpcnbbldlaaaGreatDoorR32
import Derived.Test.YtaalpcnbbldlaaaGreatDoorR33
import Derived.Test.YtaalpcnbbldlaaaGreatDoorR36
namespace Go.Proofs.YtaalpcnbbldlaaaGreatDoor.G
set_option linter.all false
open Go.RowKit L D
theorem auX(s:Nat)(h:s<99):chS 364 s=true:=by
 by_cases h0:s<17
 ·exact HL zs0 s aJ aJ
 by_cases h1:s<34
 ·exact HL zs1 s aJ aJ
 by_cases h2:s<51
 ·exact HL zs2 s aJ aJ
 by_cases h3:s<68
 ·exact HL zs3 s aJ aJ
 by_cases h4:s<85
 ·exact HL zs4 s aJ aJ
 exact HL zs5 s aJ aJ
theorem auY(l:List UInt8):Xr (xL l) (xL l).length=neN (HR (jQ l) 12 (AF (jQ l) 12)):=aa2 auX l
set_option maxRecDepth 100000
theorem aa3(l:List UInt8):So 4 [.a (.sl .u8 l)] [aX true]:=SP l auY
end Go.Proofs.YtaalpcnbbldlaaaGreatDoor.G
open Array renaming mem_of_getElem?→EZ,mem_toList_iff→qi
open Go.Proofs.Tryz renaming checked→M6,f4→uQ,prog→aP,underlying102→td,underlying24→lz,underlying280→zf,underlying282→zg,underlying9→jN
open Go.Proofs.YtaalpcnbbldlaaaGreatDoor.Rows renaming fnScriptsRow→jq,fnScriptsSpec→mF
open Option.some renaming inj→EY
namespace Go.Proofs.YtaalpcnbbldlaaaGreatDoor.fnScripts
open Go.ChangeShapes Go.WideShapes Go.ChangeAt Go.RowKit L D Go.Proofs.Tryz
open Go.ChangeMaps (open_string shut_string)
set_option linter.all false
theorem aFo:aP.globalNamed "internal/strconv.uint64pow10" =some 5:=by kernel_rfl
theorem apB:(aP.globals[5]?).map (·.type)=some 299:=by kernel_rfl
theorem aAm:aP.cellsOf 299=20:=by kernel_rfl
theorem aAn:aP.cellsOf 234=1:=by kernel_rfl
theorem gES:aP.globalNamed "strconv.ErrSyntax" =some 3:=by kernel_rfl
theorem auZ:(aP.globals[3]?).map (·.type)=some 102:=by kernel_rfl
theorem gER:aP.globalNamed "strconv.ErrRange" =some 4:=by kernel_rfl
theorem au0:(aP.globals[4]?).map (·.type)=some 102:=by kernel_rfl
theorem apC:aP.cellsOf 282=1:=by kernel_rfl
theorem apD:aP.cellsOf 9=1:=by kernel_rfl
theorem star: "*" ++ "errors.errorString" = "*errors.errorString" :=by decide
theorem aFp(u:TypeId)(h:aP.typeName? 3 u=some "*errors.errorString"):u=280:=
 typeName_ptr_named (nm:= "errors.errorString") (by rw[star];kernel_rfl) gq cO u (by rw[star];exact h)
theorem BQ{W:World}{n:String}{g:Nat}{cs:Array Value}(hg:aP.globalNamed n=some g)(h:W.var? aP n=some cs): ∃e k,W.heap[g]? =some (.cells cs e k):=by
 unfold World.var? at h;rw[hg,Option.bind_some]at h;split at h
 ·rename_i cs' e k hh;simp only[oI]at h;rw[hh,h];exact⟨_,_,rfl⟩
 ·cases h
theorem aAo{W:World}(hS:W.ShapedOpen aP)(h:laidMetH aP jq.laid W):G.Nc W:=by
 have h1:laidMet aP jq.laid W:=h;refine⟨?_,?_,?_,?_⟩
 ·have h3:Lib.TabIs aP W "internal/strconv.uint64pow10" .u64 Lib.pow10Tab:=Lib.tabIs_of_head aFo apB Tryz.underlying299 Tryz.underlying234 aAn aAm h1.tail.tail
  exact BQ aFo h3
 ·have c0:((begin aP (fun _ _=>0) default).world.heap[0]?).bind Obj.row?=some (#[.int .i64 0],3):=by kernel_rfl
  obtain⟨m,hm⟩:=cell_of_shapedOpen_int (zero:= #[.int .i64 0]) (t:=3) hS (of_decide_eq_true gq) c0 rfl gq gq Tryz.underlying3;obtain⟨cs,hh,hs,_⟩:=hS.1 0 #[.int .i64 0] 3 (of_decide_eq_true gq) c0;refine⟨m,3,(0,0),?_⟩;rw[hh];have hcell:W.cell? ⟨0,0,none⟩=cs[0]? :=by simp[World.cell?,hh]
  have hc:cs[0]? =some (.int .i64 m):=hcell.symm.trans hm;have:cs= #[.int .i64 m]:=by
   obtain⟨l⟩:=cs;match l,hs,hc with
   | [v],_,hc=>simp at hc;rw[hc]
  rw[this]
 ·obtain⟨a0,s0,hv0, -, -, -⟩:=laid_sentinel h1.tail.tail.tail.tail.tail gES auZ td aFp zf zg rfl rfl jN apC apD;obtain⟨e,k,hh⟩:=BQ gES hv0;exact⟨_,_,e,k,hh⟩
 ·obtain⟨a0,s0,hv0, -, -, -⟩:=laid_sentinel h1.tail.tail.tail.tail gER au0 td aFp zf zg rfl rfl jN apC apD;obtain⟨e,k,hh⟩:=BQ gER hv0;exact⟨_,_,e,k,hh⟩
noncomputable def adK (cs:Array Value):Go.Obj→Go.Obj
 | .cells _ t frozen=> .cells cs t frozen
 |o=>o
def one:DataW Unit→List Value
 | .lit (.int k n)=> [.int k n]
 |_=> []
def two:DataW Unit→List Value
 | .agg l=>l.flatMap one
 |d=>one d
def flat:DataW Unit→List Value
 | .agg l=>l.flatMap two
 |d=>one d
noncomputable def low:Nat:=(World.holding aP default ⟨#[],#[],[]⟩).heap.size
noncomputable def Mi (os:Os):World:=
 let w0:=World.holding aP os ⟨#[.cells #[.string ⟨#[105,110,118,97,108,105,100,32,115,121,110,116,97,120]⟩] 282, .cells #[.string ⟨#[118,97,108,117,101,32,111,117,116,32,111,102,32,114,97,110,103,101]⟩] 282],#[],[]⟩
 {w0 with heap:=(((((((w0.heap.modify 6 (adK (flat (Rows.laid_math_bits_deBruijn32tab:DataW Unit)).toArray)).modify 7 (adK (flat (Rows.laid_math_bits_deBruijn64tab:DataW Unit)).toArray)).modify 5 (adK (flat (Rows.laid_internal_strconv_uint64pow10:DataW Unit)).toArray)).modify 2 (adK (flat (Rows.laid_unicode_utf8_acceptRanges:DataW Unit)).toArray)).modify 4 (adK #[.iface 280 (.pointer (some ⟨low+1,0,none⟩))])).modify 3 (adK #[.iface 280 (.pointer (some ⟨low,0,none⟩))])).modify 1 (adK (flat (Rows.laid_unicode_utf8_first:DataW Unit)).toArray))}
theorem apE(os:Os)(args:Array Value):laidMetH aP jq.laid ((Mi os).forCall (fun _ _=>0) ⟨#[],args,[]⟩).memory:=
 (show laidMet aP jq.laid ((Mi os).forCall (fun _ _=>0) ⟨#[],args,[]⟩).memory from laidMet_of_run' 8 HT HT)
theorem walk(w:World)(hA:G.Nc w)(u0:Value)(x0:(List UInt8))(fp0:List Nat)(e0:Sl 1 EU8 w u0 x0 fp0):Calls aP 4 #[u0] w (ad0 w (.bool true)):=
 G.PF (us:= [u0]) (G.aa3 x0) ⟨⟨fp0,e0⟩,⟨⟩⟩ hA
set_option maxRecDepth 100000 in
theorem lifted(os:Os)(started:os.Started)(H:Type)(enc:TypeId×Value→H):
  ReturnsInHanded {} M6 os 4 .any (fun w args=>(mF.pre enc aP uQ [] false w args∧laidMetH aP jq.laid w)∧sizedMet enc aP uQ (OpenSpec.ofChange mF) false w args)
   (mF.post enc aP uQ false true false false):=by
 refine returnsInHanded_of_calls (C:=M6) K.own started HT
  (ChangeSpec.witness_at (enc:=enc) (C:=M6) (os:=os) (X:=fun w _=>laidMetH aP jq.laid w) false (Mi os) #[.slice none 0 0] 8 rfl HT HT HT HT HT (apE os _)) ?_
 intro w1 tape i _ hS _ hok hpre _;obtain⟨_,_,_,fn',aHM,_,_,_,_,aFq⟩:=hok;have efn:fn'=uQ:=EY (aHM.symm.trans func4);subst efn;obtain⟨⟨⟨ds,gs,before,hw1,hc1⟩,hx⟩,_⟩:=hpre;have hW0:=DataW.Whole.of_heap (w':=w1.forCall tape i) (by rfl) hw1;have hL:laidMetH aP jq.laid (w1.forCall tape i):=hx.of_heap (by rfl);obtain⟨args,aHN⟩: ∃a,a=i.args:=⟨_,rfl⟩;generalize hWW:w1.forCall tape i=W at*;generalize w1.heap.size=base at*;suffices ak4:Calls aP 4 i.args W fun e W'=> ∃v,e= .returned v∧mF.post enc aP uQ false true false false W i.args v W' by
  refine ak4.mono fun e W' ⟨v,he,hp⟩=> ?_;subst he;exact ChangeSpec.post_blind hp
 generalize i.args=args at*;have hval: ∀(j:Nat) t v,uQ.params[j]? =some t→args[j]? =some v→Value.okWide aP W .any base t v:=aFq;have hW:=hW0;have hW':=hW;obtain⟨p,q,hA0,hV,rfl,hfz,hnd⟩:=hW;have hA:DataW.TrodAll enc aP W 0 (fun _=>true) true uQ.params.toList args.toList ds p:=hA0;rw[Tryz.params4]at hA hval;obtain⟨v0,vs0,d0,ds0,p0,q0,hargs,rfl,rfl,h0,r0⟩:=trodAll_cons hA;obtain⟨rfl,rfl,rfl⟩:=trodAll_nil r0;obtain rfl:args= #[v0]:=by cases args;simp_all
 obtain⟨rfl,rfl⟩:=trodVars_none hV;have k0:=h0;have lt0: ∀x∈p0,x.block<W.heap.size:=by obtain⟨m,hm⟩:=k0;exact DataW.trod_lt m _ _ _ hm
 obtain⟨aII,hf0⟩:=h0;obtain⟨a0,aKo,aKp,rfl⟩:=okWide_slice lz (hval 0 24 v0 rfl rfl);obtain⟨x0,fp0,⟨u0,hu0,e0⟩,wf0⟩:=(akx (k:=1) lz gq cO (akw Tryz.underlying5)) _ _ _ hf0;simp only[Value.cells,List.cons.injEq,and_true]at hu0;subst hu0;clear hA0;refine(walk W (aAo hS hL) _ x0 fp0 e0).mono fun e W' ⟨he,bel⟩=> ?_;subst he;exact⟨_,rfl,_,_,_,[],_,[],hW',trodAll_mk1 (shut_bool Tryz.underlying4 _),(trodAll_cons_mk (Below.trod K.laid HT (of_decide_eq_true HT) k0 bel lt0) trodAll_mk0),rfl,bel.frame _,fun h=>by cases h⟩
set_option maxHeartbeats 4000000 in
theorem closed:joinedFacts aP 4 uQ mF jq=true:=by
 unfold joinedFacts
 repeat' (with_reducible refine K.aHL ?_ ?_)
 ·as_aux_lemma=>kernel_rfl
 ·exact K.laid
 ·exact K.aFn
 ·as_aux_lemma=>kernel_rfl
 ·as_aux_lemma=>kernel_rfl
 ·as_aux_lemma=>kernel_rfl
 ·exact K.stops
 ·as_aux_lemma=>kernel_rfl
 ·exact K.stopKnobs
 ·as_aux_lemma=>kernel_rfl
 ·as_aux_lemma=>kernel_rfl
 ·as_aux_lemma=>kernel_rfl
 ·as_aux_lemma=>kernel_rfl
 ·as_aux_lemma=>kernel_rfl
 ·as_aux_lemma=>kernel_rfl
 ·as_aux_lemma=>kernel_rfl
 ·as_aux_lemma=>kernel_rfl
 ·as_aux_lemma=>kernel_rfl
 ·as_aux_lemma=>kernel_rfl
 ·as_aux_lemma=>kernel_rfl
 ·as_aux_lemma=>kernel_rfl
 ·as_aux_lemma=>kernel_rfl
 ·exact K.plainKeys
 ·as_aux_lemma=>kernel_rfl
 ·exact K.stopsHeard
 ·exact K.mayEnter
 ·exact K.lifted
 ·exact K.make
 ·as_aux_lemma=>kernel_rfl
 ·as_aux_lemma=>kernel_rfl
 ·as_aux_lemma=>kernel_rfl
 ·as_aux_lemma=>kernel_rfl
theorem over:jq.holds Tryz.pinned (OpenSpec.ofChange mF):=
 OpenClaim.holds_of_wide 4 uQ rfl rfl rfl rfl rfl rfl rfl ⟨rfl,rfl,rfl,rfl,rfl⟩ rfl rfl rfl rfl rfl HT func4 closed
  (of_decide_eq_true HT) (by unfold Func.isWrapper;first| (rw[if_pos XD];kernel_rfl)| (rw[if_neg XD];exact⟨rfl,rfl⟩))
  (fun os started H enc _=>lifted os started H enc)
theorem plain(f:FuncId)(fn:Func)(hf:Tryz.pinned.checked.prog.funcNamed "loop.example/g00516/laws.FnScripts" =some f)(hfn:Tryz.pinned.checked.prog.funcs[f]? =some fn):
  true=Tryz.pinned.checked.prog.looks []∧ ∀(j:Nat) t,fn.params[j]? =some t→Tryz.pinned.checked.prog.wantsStandIn t=false:=by
 obtain rfl:f=4:=EY ((show aP.funcNamed "loop.example/g00516/laws.FnScripts" =some 4 by as_aux_lemma=>kernel_rfl).symm.trans hf)|>.symm
 obtain rfl:fn=uQ:=(EY (func4.symm.trans hfn)).symm;refine⟨by as_aux_lemma=>kernel_rfl,fun j t ht=> ?_⟩;have hall:(uQ.params.toList.all fun t=> !Tryz.prog.wantsStandIn t)=true:=by as_aux_lemma=>kernel_rfl
 have:=List.all_eq_true.1 hall t (qi.2 (EZ ht));exact(show aP.wantsStandIn t=false by simpa using this)
theorem aHO:aP.funcs.toList.any Func.goes=false:=by kernel_rfl
theorem ajp{P:Program}(h:P.funcs.toList.any Func.goes=false)(f:FuncId):P.goes f=false:=by
 have h1:P.funcs.any Func.goes=false:=by rw[←Array.any_toList];exact h
 unfold Program.goes;rw[h1,Bool.and_false,Bool.or_false,Bool.eq_false_iff];intro hc;rw[List.any_eq_true]at hc;obtain⟨g,_,hg⟩:=hc;cases he:P.funcs[g]? with
 |none=>rw[he]at hg;cases hg
 |some fn=>
  rw[he]at hg;have h2:fn∈P.funcs.toList:=qi.2 (EZ he);exact(List.any_eq_false.1 h) fn h2 hg
theorem au3{P:Program}(h:P.funcs.toList.any Func.goes=false){c:OpenClaim}(hs:c.start= .entering):false=c.goesBy P:=by
 unfold OpenClaim.goesBy Program.goesAt Program.goesFrom;rw[hs];cases P.funcNamed c.func with
 |none=>rfl
 |some f=>show false=(P.goes f||false);rw[ajp h f];rfl
theorem proved:Rows.FnScriptsCardSaid:=
 Claim7.holds_tied_plain_at .later [] _ _ _ _ over (fun _ h=>by cases h) HT (fun _ h=>by cases h) fnScripts_row_tie rfl ⟨rfl,rfl⟩ HT rfl plain (au3 (P:=Tryz.pinned.checked.prog) aHO rfl)
#print axioms proved
end Go.Proofs.YtaalpcnbbldlaaaGreatDoor.fnScripts
