/-
  Calls that are lent memory: what they find there and what they leave.
-/
import Derived.Test.YtjcojocjlglglaaGreatZReadPhaseM4
import Derived.Laws.OwnMore
import Derived.Test.YtjcojocjlglglaaGreatZReadPhaseM3
namespace Go.Proofs.YtjcojocjlglglaaGreat.G
set_option linter.all false
open Go.RowKit L D
variable{ty:Tag→Nat}
theorem ju: ∀(vs:List Value) (cs:List Value) (o:Nat),o+vs.length≤cs.length→splice (Array.mk cs) o vs=Array.mk (cs.take o++(vs++cs.drop (o+vs.length)))
 | [],cs,o,h=>by simp[splice,List.take_append_drop]
 |v::r,cs,o,h=>by
  simp only[List.length_cons]at h
  have e0:cs.set o v=cs.take o++v::cs.drop (o+1):=by
   rw[List.set_eq_take_append_cons_drop,if_pos (by omega)]
  have hl:(cs.take o).length=o:=by rw[List.length_take];omega
  have t1:(cs.take o++v::cs.drop (o+1)).take (o+1)=cs.take o++ [v]:=by
   rw[List.take_append,hl,show o+1-o=1 by omega,List.take_of_length_le (by rw[hl];omega)];rfl
  have t2:(cs.take o++v::cs.drop (o+1)).drop (o+1+r.length)=cs.drop (o+1+r.length):=by
   rw[List.drop_append,hl,show o+1+r.length-o=r.length+1 by omega,List.drop_succ_cons,List.drop_drop,List.drop_eq_nil_of_le (as:=cs.take o) (by rw[hl];omega),List.nil_append]
  rw[splice,List.setIfInBounds_toArray,ju r _ _ (by simp;omega),e0,t1,t2,List.append_assoc,List.length_cons,show o+(r.length+1)=o+1+r.length by omega]
  rfl
theorem yQ{R:V→Value→Prop}{c c' vs:List V}{cs us:List Value}{off:Nat}(h:aU R c cs)(hv:aU R vs us)(hs:BC c off vs=some c'):off+us.length≤cs.length∧aU R c' (cs.take off++(us++cs.drop (off+us.length))):=by
 unfold BC at hs
 split at hs
 ·rename_i hb
  have hb:=Nat.le_of_ble_eq_true hb
  simp only[Option.some.injEq]at hs
  subst hs
  have h1:=h.len
  have h2:=hv.len
  refine⟨by omega,aU.app (h.take off) (aU.app hv ?_)⟩
  rw[h2];exact h.drop _
 ·cases hs
theorem kU(off:Nat): ∀(l:List Value) (n:Nat) (c:Array Value),(l.zipIdx n).foldl (fun cs (p:Value×Nat)=>cs.setIfInBounds (off+p.2) p.1) c=splice c (off+n) l
 | [],_,_=>rfl
 |v::r,n,c=>by rw[List.zipIdx_cons,List.foldl_cons,kU off r (n+1)];rfl
def nJ:Nat→List Value→List (Nat×Value)
 |_,[]=> []
 |i,v::r=>(i,v)::nJ (i+1) r
theorem uP{k:Nat}: ∀(ps:List Value) (i:Nat) (cells:List Value),(∀v,v∈ps→v.cells.size=k)→cells.length=(i+ps.length)*k→
  Instr.fill (fun i=>some (i*k,k)) (Array.mk cells) (nJ i ps)=some (Array.mk (cells.take (i*k)++ps.flatMap fun v=>v.cells.toList))
 | [],i,cells,_,h=>by
   rw[nJ,Instr.fill,List.take_of_length_le (by rw[h];simp)];simp
 |v::r,i,cells,hk,h=>by
  have hv:=hk v (by simp)
  have hlen:i*k+k≤cells.length:=by
   rw[h,List.length_cons,show i+(r.length+1)=(i+1)+r.length by omega,Nat.add_mul (i+1),Nat.add_mul i 1,Nat.one_mul];omega
  rw[nJ,Instr.fill]
  simp only[hv,ne_eq,not_true_eq_false,decide_false,Bool.false_or,List.size_toArray]
  rw[if_neg (by simp;omega)]
  have FW:(v.cells.zipIdx.foldl (fun cs (x:Value×Nat)=>cs.setIfInBounds (i*k+x.2) x.1) (Array.mk cells))=splice (Array.mk cells) (i*k) v.cells.toList:=by
   rw[←Array.foldl_toList,Array.toList_zipIdx,kU,Nat.add_zero]
  have hsz:v.cells.toList.length=k:=by simpa using hv
  have:=ju v.cells.toList cells (i*k) (by omega)
  show Instr.fill _ (v.cells.zipIdx.foldl (fun cs (x:Value×Nat)=>cs.setIfInBounds (i*k+x.2) x.1) (Array.mk cells)) _=_
  rw[FW,this,uP r (i+1) _ (fun u hu=>hk u (by simp[hu])) (by
   simp only[List.length_append,List.length_take,List.length_drop,hsz]
   rw[h,List.length_cons]at*
   have:(i+1+r.length)*k=(i+(r.length+1))*k:=by congr 1;omega
   rw[this]
   omega)]
  have h1:(i+1)*k=i*k+k:=by rw[Nat.add_mul,Nat.one_mul]
  have t:((cells.take (i*k))++(v.cells.toList++cells.drop (i*k+v.cells.toList.length))).take ((i+1)*k)=cells.take (i*k)++v.cells.toList:=by
   rw[←List.append_assoc]
   exact List.take_left' (by rw[List.length_append,List.length_take,hsz,h1];omega)
  rw[t,List.flatMap_cons,List.append_assoc]
theorem mh{k:Nat}: ∀{ps:List (List Value)} {i:Nat} {c:List Value},(∀v,v∈ps→v.length=k)→ps[i]? =some c→(((ps.flatMap id).drop (i*k)).take k)=c
 |p::r,0,c,hk,h=>by
  simp at h
  subst h
  have:=hk p (by simp)
  rw[List.flatMap_cons,Nat.zero_mul,List.drop_zero,List.take_append]
  simp[←this]
 |p::r,i+1,c,hk,h=>by
  have hp:=hk p (by simp)
  rw[List.flatMap_cons,List.drop_append,show(id p).length=k from hp,List.drop_eq_nil_of_le (by rw[show(id p).length=k from hp,Nat.add_mul];omega),List.nil_append,show(i+1)*k-k=i*k by rw[Nat.add_mul];omega]
  exact mh (fun v hv=>hk v (by simp[hv])) (by simpa using h)
theorem mj{k:Nat}: ∀{ps:List (List Value)},(∀v,v∈ps→v.length=k)→(ps.flatMap id).length=ps.length*k
 | [],_=>by simp
 |p::r,hh=>by
  rw[List.flatMap_cons,List.length_append,mj fun v hv=>hh v (by simp[hv]),show(id p).length=k from hh p (by simp),List.length_cons,Nat.add_mul];omega
section
variable{P:Program}{a:Act}{w:World}{o:Oper}
theorem ni{t len:Nat}{parts:Array (Nat×Operand)}(ho:o.op= .buildSlice t len parts){g:Tag}(hu:P.underlying t=some (.slice (ty g)))(nX:El P ty g)(uQ:len*kk g≤16777216)(hlen:parts.toList.length=len){lo:Nat}(hlo:lo≤w.heap.size)
  {xs:List (T g)}{aQ:List (List Nat)}(q1:(parts.toList.map fun p=>(p.1,a.eval p.2))=nJ 0 (parts.toList.map fun p=>a.eval p.2))(q2:xs.length=parts.toList.length)(q3:aQ.length=xs.length)
  (q4: ∀(i:Nat) (x:T g) (f:List Nat),xs[i]? =some x→aQ[i]? =some f→ ∃p:Nat×Operand,parts.toList[i]? =some p∧rd g w (a.eval p.2).cells.toList x f)(q5:Own lo w aQ.flatten):
  ∃w',(execOp a.eval o).run P w= .ok (.value (.slice (some ⟨w.heap.size,0,none⟩) len len)) w'∧Below w.heap.size w w'∧fD (kk g) (rd g) lo (ty g) w' (.slice (some ⟨w.heap.size,0,none⟩) len len) xs (w.heap.size::aQ.flatten):=by
 have hkp:=gA g
 have xK: ∀v,v∈(parts.toList.map fun p=>a.eval p.2)→v.cells.size=kk g:=by
  intro v hv
  obtain⟨i,hi⟩:=List.getElem?_of_mem hv
  have hil:i<xs.length:=by have:=(List.getElem?_eq_some_iff.1 hi).1;simp at this;rw[q2];simpa using this
  have hfl:i<aQ.length:=by omega
  obtain⟨p,h1,h2⟩:=q4 i xs[i] aQ[i] (List.getElem?_eq_getElem hil) (List.getElem?_eq_getElem hfl)
  rw[List.getElem?_map,h1]at hi
  simp at hi
  subst hi
  simpa using(cY g).len h2
 cases hq:P.info? (ty g)with
 |none=>simp[El,hq]at nX
 |some inf=>
  simp[El,hq]at nX
  obtain⟨z1,z2,z3⟩:=nX
  let zs:List Value:=(List.range (len*kk g)).map fun j=>(if len*kk g=0 then #[]else(cT g).cells)[j % (if len*kk g=0 then #[]else(cT g).cells).size]!
  have hzl:zs.length=len*kk g:=by simp[zs]
  have hf:=uP (k:=kk g) (parts.toList.map fun p=>a.eval p.2) 0 zs xK (by rw[hzl,List.length_map,hlen,Nat.zero_add])
  rw[Nat.zero_mul,List.take_zero,List.nil_append]at hf
  have hrun:(execOp a.eval o).run P w= .ok (.value (.slice (some ⟨w.heap.size,0,none⟩) len len)) (w.alloc (.cells (Array.mk ((parts.toList.map fun p=>a.eval p.2).flatMap fun v=>v.cells.toList)) (ty g) (0,0))):=by
   unfold execOp
   have lT:(parts.map fun(p:Nat×Operand)=>(p.1,a.eval p.2)).toList=nJ 0 (parts.toList.map fun p=>a.eval p.2):=by
    rw[Array.toList_map];exact q1
   have hzs:((Array.range (len*kk g)).map fun j=>(if len*kk g=0 then #[]else(cT g).cells)[j % (if len*kk g=0 then #[]else(cT g).cells).size]!)=Array.mk zs:=by
    simp only[zs]
    apply Array.ext'
    simp
   have N8:(sizeOf (ty g)).run P w= .ok (kk g) w:=by simp[sizeOf,typeInfo,hq,z2]
   simp only[ho,Instr.buildSlice,Sem.run_bind,run_underlying hu,Result.andThen_ok,N8]
   rw[if_neg (by omega)]
   by_cases Mq:len*kk g=0
   ·simp only[if_pos Mq]at hzs ⊢
    simp only[Sem.run_bind,Sem.run_pure,Result.andThen_ok]
    rw[hzs,lT,hf]
    simp[newRow]
   ·have N9:(zeroValue (ty g)).run P w= .ok (cT g) w:=by simp[zeroValue,typeInfo,hq,z1]
    simp only[if_neg Mq]at hzs ⊢
    simp only[Sem.run_bind,N9,Sem.run_pure,Result.andThen_ok]
    rw[hzs,lT,hf]
    simp[newRow]
  have hps:((parts.toList.map fun p=>a.eval p.2).flatMap fun v=>v.cells.toList)=((parts.toList.map fun p=>(a.eval p.2).cells.toList).flatMap id):=by
   simp[List.flatMap_map]
  have FX: ∀v,v∈(parts.toList.map fun p=>(a.eval p.2).cells.toList)→v.length=kk g:=by
   intro v hv
   obtain⟨p,hp,rfl⟩:=List.mem_map.1 hv
   simpa using xK _ (List.mem_map.2 ⟨p,hp,rfl⟩)
  have xL:=mj FX
  rw[List.length_map,hlen]at xL
  have hb0:Below w.heap.size w (w.alloc (.cells (Array.mk ((parts.toList.map fun p=>a.eval p.2).flatMap fun v=>v.cells.toList)) (ty g) (0,0))):=(Below.refl _ _).alloc (Nat.le_refl _) _
  have Oa:=q5.lt
  refine⟨_,hrun,hb0,((parts.toList.map fun p=>a.eval p.2).flatMap fun v=>v.cells.toList),aQ,⟨?_,Or.inr ⟨w.heap.size,len,Array.mk ((parts.toList.map fun p=>a.eval p.2).flatMap fun v=>v.cells.toList),?_,hlo,?_,?_,?_,?_,?_⟩⟩,q3,?_,rfl,?_⟩
  ·rw[hps,xL,q2,hlen]
  ·rw[q2,hlen]
  ·exact jU rfl
  ·rw[q2,hlen];exact Nat.le_refl _
  ·unfold maxLen;have:=Nat.le_mul_of_pos_right len hkp;omega
  ·rw[List.size_toArray,hps,xL]
  ·rw[List.take_of_length_le];simp only[hps,xL,q2,hlen];exact Nat.le_refl _
  ·intro i x f hx C3
   obtain⟨p,h1,h2⟩:=q4 i x f hx C3
   have hkey:(((parts.toList.map fun p=>a.eval p.2).flatMap fun v=>v.cells.toList).drop (i*kk g)).take (kk g)=(a.eval p.2).cells.toList:=by
    rw[hps];exact mh FX (by rw[List.getElem?_map,h1];rfl)
   rw[hkey]
   exact(cY g).below h2 hb0
  ·refine⟨List.nodup_cons.2 ⟨fun hm=>by have:=Oa _ hm;omega,q5.nodup⟩,fun b hb=> ?_,fun b hb=> ?_⟩
   ·rcases List.mem_cons.1 hb with rfl|hb
    ·exact hlo
    ·exact q5.ge b hb
   ·rcases List.mem_cons.1 hb with rfl|hb
    ·exact⟨_,_,jU rfl⟩
    ·exact(q5.below hb0).kind b hb
theorem FY(z:Array Value)(n k i:Nat)(hk:z.size=k)(hi:i<n)(wU:0<k):(((madeCells z (n*k)).toList.drop (i*k)).take k)=z.toList:=by
 apply List.ext_getElem?
 intro j
 have h5:i*k+k≤n*k:=by
  have:=Nat.mul_le_mul_right k (show i+1≤n by omega)
  rw[Nat.add_mul]at this;omega
 by_cases hj:j<k
 ·rw[List.getElem?_take,if_pos hj,List.getElem?_drop]
  simp only[madeCells,Array.toList_map,Array.toList_range,List.getElem?_map]
  rw[List.getElem?_range (by omega),hk]
  simp only[Option.map_some]
  have hm:(i*k+j)% k=j:=by rw[Nat.mul_comm,Nat.mul_add_mod];exact Nat.mod_eq_of_lt hj
  rw[hm]
  have:j<z.size:=by omega
  simp[this]
 ·rw[List.getElem?_take,if_neg hj]
  rw[List.getElem?_eq_none (by simp;omega)]
theorem FZ{t:Nat}{x y:Operand}(ho:o.op= .makeSlice t x y){g:Tag}(hu:P.underlying t=some (.slice (ty g)))(nX:El P ty g){k1 k2:IntKind}{n:Int}(hx:a.eval x= .int k1 n)(hy:a.eval y= .int k2 n)(h0:0≤n)(hb:n.toNat*cE g≤140737488355328)(hm:n.toNat≤maxLen):
  ∃w' u fp,(execOp a.eval o).run P w= .ok (.value u) w'∧Below w.heap.size w w'∧fD (kk g) (rd g) w.heap.size (ty g) w' u (List.replicate n.toNat (au g)) fp:=by
 cases hq:P.info? (ty g)with
 |none=>simp[El,hq]at nX
 |some inf=>
  simp[El,hq]at nX
  obtain⟨z1,z2,z3⟩:=nX
  obtain⟨w',hr,hrow,hg⟩:=run_make_full (P:=P) w w.heap.size t (ty g) inf (cT g) (kk g) hu hq z1 z2 k1 k2 n.toNat (by rw[z3,Nat.mul_comm];omega) hm (Nat.le_refl _)
  rw[Int.toNat_of_nonneg h0]at hr
  refine⟨w', .slice (some ⟨w.heap.size,0,none⟩) n.toNat n.toNat,[w.heap.size],?_,⟨hg.os,hg.tape,hg.output,hg.size,fun b hb=>hg.block b hb (by simp)⟩,(madeCells (cT g).cells (n.toNat*kk g)).toList,List.replicate n.toNat [],?_,by simp,?_,?_,?_⟩
  ·unfold execOp
   simp only[ho,hx,hy,Sem.run_bind,hr,Result.andThen_ok,Sem.run_pure]
  ·rw[List.length_replicate];exact hrow
  ·intro i v f hi hf
   rw[List.getElem?_replicate]at hi hf
   split at hi
   ·rename_i hlt
    rw[if_pos hlt]at hf
    simp only[Option.some.injEq]at hi hf
    subst hi;subst hf
    rw[FY _ _ _ _ (kP g) hlt (gA g)]
    exact Ir g
   ·cases hi
  ·simp[Value.ownBlock]
  ·refine⟨by simp,by simp,fun b hb=> ?_⟩
   rcases hrow.2 with⟨h,_⟩| ⟨g',cap,cur,h,_,hh,_⟩
   ·cases h
   ·simp only[Value.slice.injEq,Option.some.injEq,Addr.mk.injEq,and_true]at h
    rw[List.mem_singleton.1 hb,h.1]
    exact⟨_,_,hh⟩
end
end Go.Proofs.YtjcojocjlglglaaGreat.G
namespace Go.Proofs.YtjcojocjlglglaaGreat.G
set_option linter.all false
open Go.RowKit L D
variable{ty:Tag→Nat}
section
variable{P:Program}{zb:bK}{st:St}{a:Act}{w:World}{env:Env}{Q:Exit→Act→World→Prop}{o:Oper}
theorem uR{hp:Hp}{env:Env}: ∀{z:List Value},(∀v,v∈z→v.oneCell'=true)→aU (RA w hp env) (z.map V.lit) z
 | [],_=>trivial
 |v::r,h=>⟨⟨rfl,h v (by simp)⟩,uR fun u hu=>h u (by simp[hu])⟩
theorem fP(g:Good ty zb st a.tmps w env){v:V}{u:Value}(h:RA w st.hp env v u)(hv:v≠ .any):u.cells= #[u]:=by
 cases v with
 |any=>exact absurd rfl hv
 |lit x=>obtain⟨rfl,h1⟩:=h;cases u<;>simp_all [Value.cells,Value.oneCell']
 |sl t l=>obtain⟨fp,⟨oa,cap,rfl,_⟩,_⟩:=h;rfl
 |own n=>
  obtain⟨⟨t,l,hl⟩,rfl⟩:=h
  obtain⟨oa,cap,h,_⟩:=RO.sl (g.obj n _ hl)
  rw[h];rfl
 |ptr n off=>obtain⟨_,b,_,rfl⟩:=h;rfl
 |uD f n=>obtain⟨_,b,_,rfl⟩:=h;rfl
 |ot k=>obtain⟨oa,cap,rfl,_⟩:=h;rfl
 |jm n i off=>obtain⟨t,l,_,b,o,len,cap,_,rfl⟩:=h;rfl
 |ip t x off=>obtain⟨b,o,cs,fp,rfl,_⟩:=h;rfl
 |vw n p t l=>obtain⟨_,⟨fp,⟨oa,cap,rfl,_⟩,_⟩,_⟩:=h;rfl
 |wQ n t l=>obtain⟨_,b,fp,⟨oa,cap,rfl,_⟩,_⟩:=h;rfl
 |mix n c t l=>obtain⟨_,⟨fp,⟨oa,cap,rfl,_⟩,_⟩,_⟩:=h;rfl
 |s8 n=>
  obtain⟨⟨t,l,s,hl⟩,rfl⟩:=h
  obtain⟨_,us,hB,_⟩:=g.obj n _ hl
  obtain⟨oa,cap,h,_⟩:=hB.sl
  rw[h];rfl
 |wL n p t x off=>obtain⟨_,b,o,cs,fp,rfl,_⟩:=h;rfl
theorem IC{op:BinOp}{k k':IntKind}{x y:Int}{vc:List Prop}{v:Value}(h:Is op k k' x y=some (vc,v))(hv: ∀q,q∈vc→q){t:TypeId}{X Y:Operand}:
  (do eqGuard op t X Y (.int k x) (.int k' y);binOp op t (.int k x) (.int k' y):Sem Value).run P w= .ok v w∧v.oneCell'=true:=by
 have gen:(∀(_: ¬(op= .shl∨op= .shr)),(match decEq k k' with|isTrue _=>NM op k x y|isFalse _=>none)=some (vc,v)→(do eqGuard op t X Y (.int k x) (.int k' y);binOp op t (.int k x) (.int k' y):Sem Value).run P w= .ok v w∧v.oneCell'=true):=by
  intro _ h'
  clear h
  split at h'
  ·rename_i hk _
   subst hk
   exact KD h' hv
  ·cases h'
 cases op with
 |shl=>
  simp only[Is,Option.some.injEq,Prod.mk.injEq]at h
  obtain⟨rfl,rfl⟩:=h
  have hy: ¬y<0:=by have:0≤y:=hv _ (List.mem_singleton.2 rfl);omega
  refine⟨?_,rfl⟩
  simp[eqGuard,binOp,Op.shift,hy]
 |shr=>
  simp only[Is,Option.some.injEq,Prod.mk.injEq]at h
  obtain⟨rfl,rfl⟩:=h
  have hy: ¬y<0:=by have:0≤y:=hv _ (List.mem_singleton.2 rfl);omega
  refine⟨?_,rfl⟩
  simp[eqGuard,binOp,Op.shift,hy]
 |_=>exact gen (by simp) h
theorem ID{op:BinOp}{x y:ByteArray}{vc:List Prop}{v:Value}(h:Eg op x y=some (vc,v))(hv: ∀q,q∈vc→q){t:TypeId}{X Y:Operand}:
  (do eqGuard op t X Y (.string x) (.string y);binOp op t (.string x) (.string y):Sem Value).run P w= .ok v w∧v.oneCell'=true:=by
 cases op with
 |add=>
  simp only[Eg,Option.some.injEq,Prod.mk.injEq]at h
  obtain⟨rfl,rfl⟩:=h
  have hy:((x.size+y.size:Nat):Int)≤IntKind.i64.max:=hv _ (List.mem_singleton.2 rfl)
  refine⟨?_,rfl⟩
  have hy': ¬((x.size+y.size:Nat):Int)>IntKind.i64.max:=by omega
  simp only[eqGuard,binOp,Op.stringOp,if_neg hy']
  rfl
 |eql=>
  simp only[Eg,Option.some.injEq,Prod.mk.injEq]at h
  obtain⟨rfl,rfl⟩:=h
  exact⟨by simp[eqGuard,binOp,Op.stringOp],rfl⟩
 |neq=>
  simp only[Eg,Option.some.injEq,Prod.mk.injEq]at h
  obtain⟨rfl,rfl⟩:=h
  exact⟨by simp[eqGuard,binOp,Op.stringOp],rfl⟩
 |_=>simp[Eg]at h
theorem C4{v:S1}{u:Value}{f:FuncId}(hr:eg w st.hp env v u)(h:It v=some f):u= .func (.func f) #[] #[]:=by
 unfold It at h
 split at h
 ·simp only[Option.some.injEq]at h
  subst h
  exact hr.lit
 ·cases h
theorem En(l:List UInt8):strOfNums (l.map fun n=>(n.toNat:Int))=wR l:=by
 unfold strOfNums wR
 congr 2
 rw[List.map_map]
 conv=>rhs;rw[←List.map_id l]
 apply List.map_congr_left
 intro n _
 simp
theorem tc(ad:Addr)(cap:Nat):(Conv.bytesToString (.slice (some ad) 0 cap)).run P w= .ok (.string (wR [])) w:=by
 have:=run_bytesToString (P:=P) w ad 0 cap [] (by simp[loadCells,loadCellsFrom])
 exact this
theorem Ak{a b:List (List Nat)}(h:a.Sublist b):a.flatten.Sublist b.flatten:=by
 induction h with
 |slnil=>exact List.Sublist.refl _
 |cons x _ ih=>rw[List.flatten_cons];exact ih.trans (List.sublist_append_right _ _)
 |cons_cons x _ ih=>rw[List.flatten_cons,List.flatten_cons];exact List.Sublist.append (List.Sublist.refl _) ih
theorem qW{t:Nat}{x:Operand}{lo hi:Option Operand}(ho:o.op= .slice t x lo hi none){g:Tag}{e:Nat}(hk:bG P t (.sl g e)){t':Tag}{l:List (T t')}(hkk:kk g=kk t'){fp:List Nat}(hx:Sl (kk t') (rd t') w (a.eval x) l fp){n1 n2:Int}
  (h1:(lo=none∧n1=0)∨ ∃y k,lo=some y∧a.eval y= .int k n1)(h2:(hi=none∧n2=l.length)∨ ∃y k,hi=some y∧a.eval y= .int k n2)(q0:0≤n1)(q1:n1≤n2)(q2:n2≤(l.length:Int)):
  ∃u' dZ,(execOp a.eval o).run P w= .ok (.value u') w∧Sl (kk t') (rd t') w u' ((l.take n2.toNat).drop n1.toNat) dZ∧dZ.Sublist fp:=by
 obtain⟨hu,hs⟩:=hk
 obtain⟨oa,cap,hv,hc,hm,h3⟩:=hx
 cases hq:P.info? e with
 |none=>simp[hq]at hs
 |some inf=>
  have hsz:inf.size=kk g:=by simpa[hq]using hs
  have hcap:n2≤(cap:Int):=by omega
  have hn2:0≤n2:=by omega
  have JS:max n2 0=n2:=by omega
  have hlen:((l.take n2.toNat).drop n1.toNat).length=n2.toNat-n1.toNat:=by simp;omega
  have hrun:(Instr.sliceAt t (.slice oa l.length cap) (lo.map a.eval) (hi.map a.eval) none).run P w= .ok (.slice (if cap=n1.toNat then oa else oa.map (·.add (n1.toNat*kk g))) (n2.toNat-n1.toNat) (cap-n1.toNat)) w:=by
   rcases h1 with⟨rfl,rfl⟩| ⟨y1,k1,rfl,e1⟩<;>rcases h2 with⟨rfl,rfl⟩| ⟨y2,k2,rfl,e2⟩
   all_goals simp[Instr.sliceAt,Instr.slice,Instr.sliceBounds,Instr.sliceBound,asIntOf,run_underlying hu,sizeOf,typeInfo,hq,hsz, *]
  have hex:(execOp a.eval o).run P w= .ok (.value (.slice (if cap=n1.toNat then oa else oa.map (·.add (n1.toNat*kk g))) (n2.toNat-n1.toNat) (cap-n1.toNat))) w:=by
   unfold execOp
   simp only[ho,hv,Option.map_none,Sem.run_bind,hrun,Result.andThen_ok,Sem.run_pure]
  rcases h3 with⟨rfl,rfl,hn⟩| ⟨b,off,aQ,rfl,hb,rfl,hE⟩
  ·have e0:n1=0:=by simp at q2;omega
   have e2:n2=0:=by simp at q2;omega
   subst e0;subst e2
   refine⟨_,[],hex,⟨_,_,rfl,by simp,by omega,Or.inl ⟨by simp,rfl,?_⟩⟩,List.nil_sublist _⟩
   intro BF
   split at BF
   ·rw[hn BF];rfl
   ·cases oa with
    |none=>rw[hn rfl];rfl
    |some _=>simp at BF
  ·by_cases Px:cap=n1.toNat
   ·have e0:(l.take n2.toNat).drop n1.toNat= []:=by
     apply List.eq_nil_of_length_eq_zero;omega
    refine⟨_,[],hex,⟨_,_,by rw[hlen],by rw[hlen];omega,by omega,Or.inl ⟨e0,rfl,?_⟩⟩,List.nil_sublist _⟩
    intro BF;rw[if_pos Px]at BF;cases BF
   ·refine⟨_,b::((aQ.take n2.toNat).drop n1.toNat).flatten,hex,⟨_,_,by rw[hlen],by rw[hlen];omega,by omega,Or.inr ⟨b,off+n1.toNat*kk t',(aQ.take n2.toNat).drop n1.toNat,?_,hb,rfl,?_,?_⟩⟩,?_⟩
    ·rw[if_neg Px,hkk];simp[Addr.add_mid]
    ·have:=hE.1;simp[this]
    ·intro i x f hx hf
     rw[List.getElem?_drop,List.getElem?_take]at hx hf
     split at hx
     ·rename_i hlt
      rw[if_pos hlt]at hf
      obtain⟨cs,k1,k2⟩:=hE.2 _ x f hx hf
      exact⟨cs,by rw[Nat.add_assoc, ←Nat.add_mul];exact k1,k2⟩
     ·cases hx
    ·exact List.Sublist.cons_cons _ (Ak ((List.drop_sublist _ _).trans (List.take_sublist _ _)))
theorem Al{t:Nat}{x:Operand}{lo:Option Operand}(ho:o.op= .slice t x lo none none){g:Tag}{e:Nat}(hk:bG P t (.sl g e)){oa:Option Addr}{n cap:Nat}(hv:a.eval x= .slice oa n cap)(hc:n≤cap){n1:Int}
  (h1:(lo=none∧n1=0)∨ ∃y k,lo=some y∧a.eval y= .int k n1)(hn:n1=(n:Int)):
  ∃Kq,(execOp a.eval o).run P w= .ok (.value (.slice Kq 0 (cap-n))) w∧(Kq=none→oa=none):=by
 obtain⟨hu,hs⟩:=hk
 cases hq:P.info? e with
 |none=>simp[hq]at hs
 |some inf=>
  have hsz:inf.size=kk g:=by simpa[hq]using hs
  subst hn
  have JS:max (n:Int) 0=n:=by omega
  refine⟨if cap=n then oa else oa.map (·.add (n*kk g)),?_,fun h=> ?_⟩
  ·have hrun:(Instr.sliceAt t (.slice oa n cap) (lo.map a.eval) none none).run P w= .ok (.slice (if cap=n then oa else oa.map (·.add (n*kk g))) 0 (cap-n)) w:=by
    have h0:(n:Int)≤(cap:Int):=by omega
    rcases h1 with⟨rfl,e1⟩| ⟨y1,k1,rfl,e1⟩
    ·have:n=0:=by omega
     subst this
     simp[Instr.sliceAt,Instr.slice,Instr.sliceBounds,Instr.sliceBound,asIntOf,run_underlying hu,sizeOf,typeInfo,hq,hsz]
    ·simp[Instr.sliceAt,Instr.slice,Instr.sliceBounds,Instr.sliceBound,asIntOf,run_underlying hu,sizeOf,typeInfo,hq,hsz, *]
   unfold execOp
   simp only[ho,hv,Option.map_none,Sem.run_bind,hrun,Result.andThen_ok,Sem.run_pure]
  ·split at h
   ·exact h
   ·simpa using h
theorem bA.at{w:World}: ∀{c:List V} {cs:List Value} {f:List Nat} {i:Nat} {v:V},bA w c cs f→tL c i=some v→ ∃u f',cs[i]? =some u∧RI w v u f'∧f'.Sublist f
 |x::r,u::us,_,0,v,⟨f1,f2,h1,_,rfl⟩,h=>by
  simp only[tL,Option.some.injEq]at h
  subst h
  exact⟨u,f1,rfl,h1,List.sublist_append_left _ _⟩
 |x::r,u::us,_,i+1,v,⟨f1,f2,_,h2,rfl⟩,h=>by
  obtain⟨u',f',k1,k2,k3⟩:=bA.at h2 (show tL r i=some v from h)
  exact⟨u',f',by simpa using k1,k2,k3.trans (List.sublist_append_right _ _)⟩
 | [],_,_,_,_,_,h=>by simp[tL]at h
 |_::_,[],_,_,_,h,_=>h.elim
theorem uS(g:Good ty zb st a.tmps w env){n:Nat}{t:Tag}{l:List (T t)}(hl:look st.hp n=some (.arr t l)){i:Nat}(hi:i<l.length):
  ∃b o cap cs f,(env n).v= .slice (some ⟨b,o,none⟩) l.length cap∧b∈(env n).fp∧w.rangeAt b (o+i*kk t) cs∧rd t w cs (l.getD i (au t)) f∧f.Sublist (env n).fp:=by
 obtain⟨oa,cap,hv,_,_,h3⟩:=RO.sl (g.obj n _ hl)
 rcases h3 with⟨rfl,_⟩| ⟨b,o,aQ,rfl,hb,eN,he⟩
 ·simp at hi
 ·have hx:l[i]? =some (l.getD i (au t)):=by rw[List.getD_eq_getElem?_getD,List.getElem?_eq_getElem hi];rfl
  obtain⟨f,hf⟩:=e9 he.1 hx
  obtain⟨cs,hr,hE⟩:=he.2 _ _ f hx hf
  exact⟨b,o,cap,cs,f,hv,by rw[eN];simp,hr,hE,by rw[eN];exact(List.sublist_flatten_of_mem (List.mem_of_getElem? hf)).trans (List.sublist_cons_self _ _)⟩
theorem yR{hp:Hp}{n:Nat}{t0:Tag}{l0:List (T t0)}(hl:look hp n=some (.arr t0 l0)){p:Option (Nat×Nat)}{v:V}{u:Value}{f:List Nat}(h:RI w v u f)(hnd:f.Nodup)(hf: ∀b,b∈f→b∈(env n).fp)
  (fY: ∀i off,p=some (i,off)→ ∃b o len cap,i<l0.length∧tL (dec t0 (l0.getD i (au t0))) off=some v∧(env n).v= .slice (some ⟨b,o,none⟩) len cap∧b∈(env n).fp∧w.cell? ⟨b,o+i*kk t0+off,none⟩=some u):RA w hp env (Mm n p v) u:=by
 cases v with
 |sl t l=>
  refine⟨⟨t0,l0,hl⟩,⟨f,h,hnd,hf⟩,fun i off KE=> ?_⟩
  obtain⟨b,o,len,cap,h1,h2,h3,h4,h5⟩:=fY i off KE
  exact⟨t0,l0,b,o,len,cap,hl,h1,h2,h3,h4,h5⟩
 |lit x=>exact⟨h.1,h.2.1⟩
 |_=>trivial
theorem C5{hp:Hp}{n:Nat}{t0:Tag}{l0:List (T t0)}(hl:look hp n=some (.arr t0 l0)){i:Nat}(hi:i<l0.length){b o len cap:Nat}(hv:(env n).v= .slice (some ⟨b,o,none⟩) len cap)(hb:b∈(env n).fp):
  ∀{c:List V} {us:List Value} {f:List Nat} {k:Nat},bA w c us f→f.Nodup→(∀x,x∈f→x∈(env n).fp)→(∀j v,c[j]? =some v→tL (dec t0 (l0.getD i (au t0))) (k+j)=some v)→w.rangeAt b (o+i*kk t0+k) us→aU (RA w hp env) (Ky n i k c) us
 | [],[],_,_,_,_,_,_,_=>trivial
 |v::r,u::us,_,k,⟨f1,f2,h1,h2,rfl⟩,hnd,hf,hc,hr=>by
  obtain⟨hn1,hn2,_⟩:=List.nodup_append.1 hnd
  refine⟨yR hl h1 hn1 (fun x hx=>hf x (List.mem_append_left _ hx)) ?_,C5 hl hi hv hb h2 hn2 (fun x hx=>hf x (List.mem_append_right _ hx)) ?_ ?_⟩
  ·rintro i' off' KE
   simp only[Option.some.injEq,Prod.mk.injEq]at KE
   obtain⟨rfl,rfl⟩:=KE
   exact⟨b,o,len,cap,hi,hc 0 v rfl,hv,hb,by have:=hr 0 u rfl;simpa using this⟩
  ·intro j v' hj
   have:=hc (j+1) v' (by simpa using hj)
   rwa [show k+(j+1)=k+1+j by omega]at this
  ·intro j v' hj
   have:=hr (j+1) v' (by simpa using hj)
   rwa [show o+i*kk t0+k+(j+1)=o+i*kk t0+(k+1)+j by omega]at this
 | [],_::_,_,_,h,_,_,_,_=>h.elim
 |_::_,[],_,_,h,_,_,_,_=>h.elim
theorem C6{hp:Hp}{n:Nat}{t0:Tag}{l0:List (T t0)}(hl:look hp n=some (.arr t0 l0)):
  ∀{c:List V} {us:List Value} {f:List Nat},bA w c us f→f.Nodup→(∀x,x∈f→x∈(env n).fp)→aU (RA w hp env) (Kz n c) us
 | [],[],_,_,_,_=>trivial
 |v::r,u::us,_,⟨f1,f2,h1,h2,rfl⟩,hnd,hf=>
  ⟨yR hl h1 (List.nodup_append.1 hnd).1 (fun x hx=>hf x (List.mem_append_left _ hx)) (by simp),C6 hl h2 (List.nodup_append.1 hnd).2.1 (fun x hx=>hf x (List.mem_append_right _ hx))⟩
 | [],_::_,_,h,_,_=>h.elim
 |_::_,[],_,h,_,_=>h.elim
theorem yS: ∀{l:List V} {i:Nat},tL l i=l[i]?
 | [],_=>by simp[tL]
 |_::_,0=>rfl
 |_::r,i+1=>by rw[tL,yS (l:=r)];simp
theorem bA.sub{w:World}{c d:List V}{cs:List Value}{f:List Nat}{off k:Nat}(h:bA w c cs f)(hs:sub c off k=some d): ∃f',bA w d ((cs.drop off).take k) f'∧f'.Sublist f∧d=(c.drop off).take k∧((cs.drop off).take k).length=k:=by
 have drop: ∀(n:Nat) {c:List V} {cs:List Value} {f:List Nat},bA w c cs f→ ∃f',bA w (c.drop n) (cs.drop n) f'∧f'.Sublist f:=by
  intro n
  induction n with
  |zero=>intro c cs f h;exact⟨f,by simpa using h,List.Sublist.refl _⟩
  |succ n ih=>
   intro c cs f h
   cases c with
   |nil=>cases cs with
    |nil=>exact⟨f,by simpa using h,List.Sublist.refl _⟩
    |cons _ _=>exact h.elim
   |cons v r=>cases cs with
    |nil=>exact h.elim
    |cons u us=>
     obtain⟨f1,f2,_,h2,rfl⟩:=h
     obtain⟨f',k1,k2⟩:=ih h2
     exact⟨f',by simpa using k1,k2.trans (List.sublist_append_right _ _)⟩
 have take: ∀(n:Nat) {c:List V} {cs:List Value} {f:List Nat},bA w c cs f→ ∃f',bA w (c.take n) (cs.take n) f'∧f'.Sublist f:=by
  intro n
  induction n with
  |zero=>intro c cs f h;exact⟨[],by simp[bA],List.nil_sublist _⟩
  |succ n ih=>
   intro c cs f h
   cases c with
   |nil=>cases cs with
    |nil=>exact⟨f,by simpa using h,List.Sublist.refl _⟩
    |cons _ _=>exact h.elim
   |cons v r=>cases cs with
    |nil=>exact h.elim
    |cons u us=>
     obtain⟨f1,f2,h1,h2,rfl⟩:=h
     obtain⟨f',k1,k2⟩:=ih h2
     exact⟨f1++f',⟨f1,f',h1,k1,rfl⟩,List.Sublist.append (List.Sublist.refl _) k2⟩
 unfold G.sub at hs
 split at hs
 ·rename_i hb
  have hb:=Nat.le_of_ble_eq_true hb
  simp only[Option.some.injEq]at hs
  obtain⟨f1,h1,h2⟩:=drop off h
  obtain⟨f2,h3,h4⟩:=take k h1
  refine⟨f2,by rw[←hs];exact h3,h4.trans h2,hs.symm,?_⟩
  have:=h.len
  rw[List.length_take,List.length_drop];omega
 ·cases hs
theorem IE{n:Nat}{p:Option (Nat×Nat)}{t:Tag}{l:List (T t)}{u:Value}{k:Int}(h:RA w st.hp env (.vw n p t l) u)(h0:0≤k)(h1:k<l.length):
  ∃b off len cap,u= .slice (some ⟨b,off,none⟩) len cap∧k<len∧RA w st.hp env (.wL n (KA p k.toNat) t (l.getD k.toNat (au t)) 0) (.pointer (some ⟨b,off+k.toNat*kk t,none⟩)):=by
 have Mb:RV w st.hp env n p t l u:=h
 obtain⟨hA,⟨fp,⟨oa,cap,rfl,hc,hm,h3⟩,hnd,hd⟩,_⟩:=h
 have hn:k.toNat<l.length:=by omega
 rcases h3 with⟨rfl,_⟩| ⟨b,off,aQ,rfl,hb,rfl,he⟩
 ·simp at hn
 ·have hx:l[k.toNat]? =some (l.getD k.toNat (au t)):=by rw[List.getD_eq_getElem?_getD,List.getElem?_eq_getElem hn];rfl
  obtain⟨f,hf⟩:=e9 he.1 hx
  obtain⟨cs,hr,hE⟩:=he.2 _ _ f hx hf
  refine⟨b,off,l.length,cap,rfl,h1,hA,b,off+k.toNat*kk t,cs,f,rfl,hd b (by simp),hr,hE,((List.sublist_flatten_of_mem (List.mem_of_getElem? hf)).trans (List.sublist_cons_self _ _)).nodup hnd,fun c hc=>hd c (List.mem_cons_of_mem _ (bE hf hc)),fun i o2 j hp=> ?_⟩
  cases p with
  |none=>cases hp
  |some ab=>
   obtain⟨a1,b1⟩:=ab
   simp only[KA,Option.some.injEq,Prod.mk.injEq]at hp
   obtain⟨rfl,rfl,rfl⟩:=hp
   exact⟨l,_,b,off,l.length,cap,Mb,hn,rfl,rfl,rfl⟩
theorem yT{t:Nat}{x:Operand}{lo hi:Option Operand}(ho:o.op= .slice t x lo hi none)(hu:P.underlying t=some .string){s:ByteArray}(hv:a.eval x= .string s){n1 n2:Int}
  (h1:(lo=none∧n1=0)∨ ∃y k,lo=some y∧a.eval y= .int k n1)(h2:(hi=none∧n2=s.size)∨ ∃y k,hi=some y∧a.eval y= .int k n2)(q0:0≤n1)(q1:n1≤n2)(q2:n2≤(s.size:Int)):
  o.wp P a w (qU ty st a w env o.dst (.one (.a (.lit (.string (s.extract n1.toNat n2.toNat))))) []) Q:=by
 have hn2:0≤n2:=by omega
 have JS:max n2 0=n2:=by omega
 have hrun:(Instr.sliceAt t (.string s) (lo.map a.eval) (hi.map a.eval) none).run P w= .ok (.string (s.extract n1.toNat n2.toNat)) w:=by
  rcases h1 with⟨rfl,rfl⟩| ⟨y1,k1,rfl,e1⟩<;>rcases h2 with⟨rfl,rfl⟩| ⟨y2,k2,rfl,e2⟩
  all_goals simp[Instr.sliceAt,Instr.slice,Instr.sliceBounds,Instr.sliceBound,asIntOf,run_underlying hu, *]
 refine b9 (u:= .string (s.extract n1.toNat n2.toNat)) ?_ ⟨rfl,rfl⟩
 unfold execOp
 simp only[ho,hv,Option.map_none,Sem.run_bind,hrun,Result.andThen_ok,Sem.run_pure]
theorem Eo(g:Good ty zb st a.tmps w env){v:V}{u:Value}(hr:eg w st.hp env (.a v) u){l:List UInt8}(hl:bytesOf st v=some l){s e t:Nat}(hs:P.underlying s=some (.slice e))(he:P.underlying e=some (.int .u8))(ht:P.underlying t=some .string):
  (convert s t u).run P w= .ok (.string (wR l)) w:=by
 have key: ∀{b off len cap:Nat},len=l.length→(∀i x,l[i]? =some x→w.cell? ⟨b,off+i,none⟩=some (.int .u8 x.toNat))→(convert s t (.slice (some ⟨b,off,none⟩) len cap)).run P w= .ok (.string (wR l)) w:=by
  intro b off len cap hlen hc
  rw[run_convert_bytes_arg w s e hs he b off len cap (l.map fun n=>(n.toNat:Int)) (by simp[hlen]) (fun i hi=> ?_) t ht,En]
  have hi2:i<l.length:=by omega
  rw[hc i _ (List.getElem?_eq_getElem hi2),List.getD_eq_getElem?_getD,List.getElem?_map,List.getElem?_eq_getElem hi2]
  rfl
 have nil: ∀{c:Nat},(convert s t (.slice none 0 c)).run P w= .ok (.string (wR [])) w:=by
  intro c
  rw[run_convert_bytes_nil w s e hs he 0 c t ht];rfl
 have sl: ∀{fp:List Nat},Sl 1 Bz w u l fp→(convert s t u).run P w= .ok (.string (wR l)) w:=by
  rintro fp ⟨oa,cap,rfl,_,_,h3⟩
  rcases h3 with⟨rfl,_,_⟩| ⟨b,off,aQ,rfl,_,_,hE⟩
  ·cases oa with
   |none=>exact nil
   |some ad=>
    rw[run_convert_bytes_string w s t e _ _ _ hs he ht]
    exact tc ad cap
  ·refine key rfl fun i x hx=> ?_
   obtain⟨f,hf⟩:=e9 hE.1 hx
   obtain⟨cs,q1,rfl,_⟩:=hE.2 i x f hx hf
   have:=q1 0 _ rfl
   simpa using this
 unfold bytesOf at hl
 split at hl
 ·simp only[Option.some.injEq]at hl
  subst hl
  obtain⟨fp,h,_⟩:=hr
  exact sl h
 ·rename_i n
  split at hl
  ·rename_i l' hlk
   simp only[Option.some.injEq]at hl
   subst hl
   obtain⟨_,hu⟩:=hr
   have hb:Sl 1 Bz w (env n).v l' (env n).fp:=RO.sl (g.obj n _ hlk)
   rw[←show u=(env n).v from hu]at hb
   exact sl hb
  ·cases hl
 ·simp only[Option.some.injEq]at hl
  subst hl
  obtain⟨_,⟨fp,h,_⟩,_⟩:=hr
  exact sl h
 ·simp only[Option.some.injEq]at hl
  subst hl
  have hu:=(show eg w st.hp env (.a (.lit yM)) u from hr).lit
  rw[hu]
  exact nil
 ·cases hl
theorem jK{p:List (Nat×Bool)}(hop: ∀{x v},ep st p x=some v→eg w st.hp env v (a.eval x)){z n:Int}{b:Option Operand}(h:Ei st p z b=some n):(b=none∧n=z)∨ ∃x k,b=some x∧a.eval x= .int k n:=by
 cases b with
 |none=>simp only[Ei,Option.some.injEq]at h;exact Or.inl ⟨rfl,h.symm⟩
 |some x=>
  simp only[Ei]at h
  split at h
  ·rename_i k i hx
   simp only[Option.some.injEq]at h
   subst h
   exact Or.inr ⟨x,k,rfl,(hop hx).lit⟩
  ·cases h
theorem xM{m:Nat}{t:Tag}{l:List (T t)}{w':World}{u:Value}{fp:List Nat}(hr:(execOp a.eval o).run P w= .ok (.value u) w')(hb:Below w.heap.size w w')(hB:fD (kk t) (rd t) w.heap.size (ty t) w' u l fp):
  o.wp P a w (qU ty st a w env o.dst (.one (.a (.own m))) [(m, .arr t l)]) Q:=by
 unfold Oper.wp
 rw[hr]
 obtain⟨env',hN,hl⟩:=gO.list (ty:=ty) (hp:=st.hp) (env:=env) (os:= [(m, .arr t l)]) (ce:= [⟨u,fp⟩]) hb (by simp[ef,look]) ⟨⟨fun _ _=>RO.xG (fD.mono hB (Nat.zero_le _)),(fD.own hB).ge⟩,trivial⟩ (by simpa using(fD.own hB).nodup)
 have h2:env' m=⟨u,fp⟩:=hl.1.2
 exact⟨u,env',rfl,hN,⟨t,l,look_eq⟩,by rw[h2]⟩
theorem F0{w:World}{hp:Hp}{env:Env}: ∀{l:List V} {us:List Value},plain l=true→aU (RA w hp env) l us→bA w l us []:=by
 intro l
 induction l with
 |nil=>intro us _ h;cases us with
  |nil=>rfl
  |cons _ _=>exact h.elim
 |cons v r ih=>
  intro us lT h
  cases us with
  |nil=>exact h.elim
  |cons u us=>
   unfold plain at lT
   split at lT
   ·rename_i heq;cases heq
   ·cases lT
   ·rename_i heq
    simp only[List.cons.injEq]at heq
    obtain⟨rfl,rfl⟩:=heq
    exact⟨[],[],⟨h.1.1,h.1.2,rfl⟩,ih lT h.2,rfl⟩
   ·cases lT
theorem C7(g:Good ty zb st a.tmps w env): ∀{l c:List V} {n:Nat} {us:List Value},aU (RA w st.hp env) l us→pF st.hp l=some (c,n)→ ∃t l',look st.hp n=some (.arr t l')∧bA w c us (env n).fp
 | [],_,_,_,_,h=>by simp[pF]at h
 |v::r,c,n,us,hr,h=>by
  cases us with
  |nil=>exact hr.elim
  |cons u us=>
   unfold pF at h
   split at h
   ·rename_i m r' he
    simp only[List.cons.injEq]at he
    obtain⟨rfl,rfl⟩:=he
    split at h
    ·rename_i t l hl lT
     simp only[Option.some.injEq,Prod.mk.injEq]at h
     obtain⟨rfl,rfl⟩:=h
     obtain⟨_,rfl⟩:=hr.1
     exact⟨t,l,hl,_,[],RO.sl (g.obj m _ hl),F0 lT hr.2,by simp⟩
    ·cases h
   ·cases h
   ·rename_i x r' _ he
    simp only[List.cons.injEq]at he
    obtain⟨rfl,rfl⟩:=he
    split at h
    ·rename_i c' n' h'
     simp only[Option.some.injEq,Prod.mk.injEq]at h
     obtain⟨rfl,rfl⟩:=h
     obtain⟨t,l',h1,h2⟩:=C7 g hr.2 h'
     exact⟨t,l',h1,[],_,⟨hr.1.1,hr.1.2,rfl⟩,h2,by simp⟩
    ·cases h
   ·cases h
theorem B0(g:Good ty zb st a.tmps w env){s:S1}{u:Value}(hr:eg w st.hp env s u){c:List V}{n:Nat}(h:pF st.hp (cellsOf s)=some (c,n)):aU (RA w st.hp env) (cellsOf s) u.cells.toList:=by
 cases s with
 |agg l=>obtain⟨cs,rfl,hl⟩:=hr;exact hl
 |a v=>
  have hv:v≠ .any:=by rintro rfl;simp[cellsOf,pF]at h
  have:=fP g (show RA w st.hp env v u from hr) hv
  rw[this]
  exact⟨hr,trivial⟩
theorem xN(g:Good ty zb st a.tmps w env){p:List (Nat×Bool)}(hp:holds a.tmps p){t:Tag}: ∀{ps:List (Nat×Operand)} {i:Nat} {vc:List Prop} {xs:List (T t)},jJ st p t i ps=some (vc,xs)→(∀q,q∈vc→q)→
  (ps.map fun p=>(p.1,a.eval p.2))=nJ i (ps.map fun p=>a.eval p.2)∧xs.length=ps.length∧ ∀(i:Nat) (x:T t),xs[i]? =some x→ ∃p:Nat×Operand,ps[i]? =some p∧rd t w (a.eval p.2).cells.toList x []
 | [],i,vc,xs,h,_=>by
   simp only[jJ,Option.some.injEq,Prod.mk.injEq]at h
   obtain⟨rfl,rfl⟩:=h
   exact⟨rfl,rfl,by simp⟩
 | (j,x)::r,i,vc,xs,h,hv=>by
   simp only[jJ]at h
   split at h
   ·rename_i s hij hx
    have hij:=Nat.eq_of_beq_eq_true hij
    subst hij
    split at h
    ·rename_i jL y vcs ys lT he hb
     simp only[Option.some.injEq,Prod.mk.injEq]at h
     obtain⟨rfl,rfl⟩:=h
     obtain⟨q1,q2,q3⟩:=xN g hp hb (fun q hq=>hv q (List.mem_append_right _ hq))
     have hc: ∃us,(a.eval x).cells.toList=us∧bA w (cellsOf s) us []:=by
      have hs:=cH g hp hx
      have key: ∀{l:List V} {us:List Value},plain l=true→aU (RA w st.hp env) l us→bA w l us []:=by
       intro l
       induction l with
       |nil=>intro us _ h;cases us with
        |nil=>rfl
        |cons _ _=>exact h.elim
       |cons v r ih=>
        intro us lT h
        cases us with
        |nil=>exact h.elim
        |cons u us=>
         unfold plain at lT
         split at lT
         ·rename_i heq;cases heq
         ·cases lT
         ·rename_i heq
          simp only[List.cons.injEq]at heq
          obtain⟨rfl,rfl⟩:=heq
          exact⟨[],[],⟨h.1.1,h.1.2,rfl⟩,ih lT h.2,rfl⟩
         ·cases lT
      cases s with
      |agg l=>
       obtain⟨cs,hu,hl⟩:=hs
       exact⟨cs,by rw[hu];rfl,key lT hl⟩
      |a v=>
       have hne:v≠ .any:=by rintro rfl;cases lT
       exact⟨[a.eval x],by rw[fP g hs hne],key lT ⟨hs,trivial⟩⟩
     obtain⟨us,IF,C8⟩:=hc
     refine⟨by simp[nJ,q1],by simp[q2],fun i' x' hx'=> ?_⟩
     cases i' with
     |zero=>
      simp at hx'
      subst hx'
      exact⟨(i,x),rfl,by rw[IF];exact l6 t he (fun q hq=>hv q (List.mem_append_left _ hq)) C8⟩
     |succ n=>
      obtain⟨p,h1,h2⟩:=q3 n x' (by simpa using hx')
      exact⟨p,by simpa using h1,h2⟩
    ·cases h
   ·cases h
theorem IG(g:Good ty zb st a.tmps w env){p:List (Nat×Bool)}(hp:holds a.tmps p){x:Operand}{k:IntKind}{i:Int}(h:Iu st p x=some (k,i)):a.eval x= .int k i:=by
 unfold Iu at h
 split at h
 ·rename_i k' i' hx
  simp only[Option.some.injEq,Prod.mk.injEq]at h
  obtain⟨rfl,rfl⟩:=h
  exact(cH g hp hx).lit
 ·cases h
theorem uT(g:Good ty zb st a.tmps w env){p:List (Nat×Bool)}(hp:holds a.tmps p): ∀{xs:List Operand} {ys:List (IntKind×Int)},pE st p xs=some ys→xs.map a.eval=ys.map fun y=> .int y.1 y.2
 | [],ys,h=>by simp only[pE,Option.some.injEq]at h;subst h;rfl
 |x::r,ys,h=>by
  simp only[pE]at h
  split at h
  ·rename_i y ys' h1 h2
   simp only[Option.some.injEq]at h
   subst h
   rw[List.map_cons,List.map_cons,uT g hp h2,IG g hp h1]
  ·cases h
theorem uU{F:Int→Int→Int}{f:Value→Value→Sem Value}(hf: ∀(k:IntKind) (x y:Int),f (.int k x) (.int k y)=pure (.int k (F x y))){k:IntKind}: ∀{ys:List (IntKind×Int)} {x z:Int},xF F k x ys=some z→(List.foldlM f (.int k x) (ys.map fun y=> .int y.1 y.2)).run P w= .ok (.int k z) w
 | [],x,z,h=>by simp only[xF,Option.some.injEq]at h;subst h;rfl
 | (k',y)::r,x,z,h=>by
   simp only[xF]at h
   split at h
   ·rename_i hk _
    subst hk
    rw[List.map_cons,List.foldlM_cons,hf]
    simp only[pure_bind]
    exact uU hf h
   ·cases h
theorem Am(g:Good ty zb st a.tmps w env){p:List (Nat×Bool)}(hp:holds a.tmps p){n:Nat}{fo:List Nat}{pl:Nat→Option (Nat×Nat)}(lT: ∀j o k,jo fo j=some o→JQ n fo j=some k→pl j=some (o,k)):
  ∀{ps:List (Nat×Operand)} {c c':List V} {cs:List Value},lI st p n fo ps c=some c'→aU (RA w st.hp env) c cs→
   ∃cs',Instr.fill pl (Array.mk cs) (ps.map fun q=>(q.1,a.eval q.2))=some (Array.mk cs')∧aU (RA w st.hp env) c' cs'
 | [],c,c',cs,h,hc=>by
   simp only[lI,Option.some.injEq]at h
   subst h
   exact⟨cs,rfl,hc⟩
 | (j,x)::r,c,c',cs,h,hc=>by
   simp only[lI]at h
   split at h
   ·rename_i o' k s h1 h2 hx
    split at h
    ·rename_i c1 hna hs
     simp only[Bool.and_eq_true]at hna
     have hk:=Nat.eq_of_beq_eq_true hna.2
     have tN:=cH g hp hx
     have hcs: ∃us,(a.eval x).cells=Array.mk us∧aU (RA w st.hp env) (cellsOf s) us:=by
      cases s with
      |agg l=>obtain⟨us,hu,hl⟩:=tN;exact⟨us,by rw[hu];rfl,hl⟩
      |a v=>
       have hne:v≠ .any:=by rintro rfl;simp[cellsOf,l8]at hna
       exact⟨[a.eval x],fP g tN hne,tN,trivial⟩
     obtain⟨us,IF,B1⟩:=hcs
     obtain⟨q1,q2⟩:=yQ hc B1 hs
     obtain⟨cs',h3,h4⟩:=Am g hp lT h q2
     refine⟨cs',?_,h4⟩
     rw[List.map_cons,Instr.fill,lT j o' k h1 h2]
     simp only[IF]
     have hl:=B1.len
     rw[if_neg (by simp;omega)]
     have FW:((Array.mk us).zipIdx.foldl (fun cs (x:Value×Nat)=>cs.setIfInBounds (o'+x.2) x.1) (Array.mk cs))=splice (Array.mk cs) o' us:=by
      rw[←Array.foldl_toList,Array.toList_zipIdx,kU,Nat.add_zero]
     show Instr.fill _ ((Array.mk us).zipIdx.foldl (fun cs (x:Value×Nat)=>cs.setIfInBounds (o'+x.2) x.1) (Array.mk cs)) _=_
     rw[FW,ju us cs o' q1]
     exact h3
    ·cases h
   ·cases h
theorem pJ{w:World}{t:Nat}{d:Nat}(hu:P.underlying t=some .bool){x y:Bool}:(Op.equalIn (d+1) t (.bool x) (.bool y)).run P w= .ok (x==y) w:=by
 simp[Op.equalIn,run_underlying hu]
theorem F1{x:Operand}{op:Op}{out:Out}(dM:o.op=op)(hm:op= .move x∨op= .assign x)(g:Good ty zb st a.tmps w env)(h:FH st x=some out):o.wp P a w (qU ty st a w env o.dst out.v out.o) Q:=by
 unfold FH at h
 split at h
 ·rename_i t
  split at h
  ·rename_i l hl
   simp only[Option.some.injEq]at h
   subst h
   have hr:=g.slot t _ hl
   rcases hm with rfl|rfl
   ·exact uL (by unfold execOp;simp only[dM,Sem.run_pure];rfl) hr
   ·exact uL (by unfold execOp;simp only[dM,Sem.run_pure];rfl) hr
  ·cases h
 ·cases h
theorem An{Γ:Nat→TK}(C: ∀t,bG P t (Γ t)){cr:List (Nat×CR)}{p:List (Nat×Bool)}{d m:Nat}{out:Out}(h:quiet Γ (BD P ty) (Sound ty P) cr st p d m o.op=some out)
  (g:Good ty zb st a.tmps w env)(hp:holds a.tmps p)(hA:xE w)(hv: ∀q,q∈out.vc→q)(hf:fresh st.hp out.o=true)(hn:ef out.o=true):
  o.wp P a w (qU ty st a w env o.dst out.v out.o) Q:=by
 have hop: ∀{q x v},holds a.tmps q→ep st q x=some v→eg w st.hp env v (a.eval x):=fun hq hx=>cH g hq hx
 generalize dM:o.op=op at h
 cases op with
 |move x=>
  simp only[quiet]at h
  split at h
  ·rename_i v hx
   simp only[cq,Option.some.injEq]at h
   subst h
   exact b9 (by unfold execOp;simp only[dM,Sem.run_pure]) (hop hp hx)
  ·exact F1 dM (Or.inl rfl) g h
 |assign x=>
  simp only[quiet]at h
  split at h
  ·rename_i v hx
   simp only[cq,Option.some.injEq]at h
   subst h
   exact b9 (by unfold execOp;simp only[dM,Sem.run_pure]) (hop hp hx)
  ·exact F1 dM (Or.inr rfl) g h
 |pick c x y=>
  cases c with
  |tmp c=>
   simp only[quiet]at h
   split at h
   ·rename_i t u v h1 h2 h3
    simp only[cq,Option.some.injEq]at h
    subst h
    have hc:=(hop hp h1).lit
    have BB:a.tmps[c]? =some (.bool t):=BZ hc
    refine b9 (u:= .bool (if t then u else v)) ?_ ⟨rfl,rfl⟩
    unfold execOp
    cases t with
    |true=>
     have hx:=(hop (q:=(c,true)::p) (by intro e he;rcases List.mem_cons.1 he with rfl|he;exact BB;exact hp e he) h2).lit
     simp[dM,hc,hx,asBool]
    |false=>
     have hx:=(hop (q:=(c,false)::p) (by intro e he;rcases List.mem_cons.1 he with rfl|he;exact BB;exact hp e he) h3).lit
     simp[dM,hc,hx,asBool]
   ·cases h
  |_=>simp[quiet]at h
 |box e x=>
  simp only[quiet]at h
  split at h
  ·rename_i l hx
   simp only[Option.some.injEq]at h
   subst h
   obtain⟨cs,hu,hl⟩:=hop hp hx
   exact qV (cs:=cs) (e:=e) (by unfold execOp;simp[dM,Instr.box,newVar,newRow,hu,Value.cells]) g hf hl
  ·cases h
  ·rename_i v hne hx
   simp only[Option.some.injEq]at h
   subst h
   have hr:=hop hp hx
   have hc:=fP g (show RA w st.hp env v (a.eval x)from hr) (fun e=>hne e)
   exact qV (cs:= [a.eval x]) (e:=e) (by unfold execOp;simp[dM,Instr.box,newVar,newRow,hc]) g hf ⟨hr,trivial⟩
  ·cases h
 |alloc t=>
  simp only[quiet]at h
  split at h
  ·rename_i z tg fo hk
   simp only[Option.some.injEq]at h
   subst h
   have hC:=C t
   rw[hk]at hC
   obtain⟨fs,hu,hi,h1,_⟩:=hC
   refine qV (cs:=z) (e:=t) ?_ g hf (uR h1)
   unfold execOp
   cases hq:P.info? t with
   |none=>simp[hq]at hi
   |some i=>
    simp[hq]at hi
    simp[dM,Instr.alloc,zeroValue,typeInfo,hq,hi.2,newVar,newRow,Value.cells]
  ·cases h
 |load t x=>
  simp only[quiet]at h
  split at h
  ·rename_i n off hx
   obtain⟨_,b,hb,hu⟩:=hop hp hx
   split at h
   ·rename_i c hl
    obtain⟨b',cs,e,C9,hh,hc⟩:=g.obj n _ hl
    have Mr:b=b':=by
     rw[C9]at hb
     simpa using hb.symm
    subst Mr
    have td:w.rangeAt b 0 cs:=by simpa using FE hh
    split at h
    ·rename_i z tg fo hk
     split at h
     ·rename_i l hs
      simp only[cq,Option.some.injEq]at h
      subst h
      have hC:=C t
      rw[hk]at hC
      obtain⟨k1,k2⟩:=FR hc hs
      exact wp_load_row dM hC hu (by have:=gP (k:=z.length) (j:=off) td;rwa [Nat.zero_add]at this) k2 k1
     ·cases h
    ·cases h
    ·rename_i k1 k2
     split at h
     ·rename_i v hs
      simp only[cq,Option.some.injEq]at h
      subst h
      obtain⟨u,q1,q2⟩:=hc.at (yP hs)
      refine jt dM (C t) ?_ ?_ hu (by have:=gQ td q1;rwa [Nat.zero_add]at this) q2
      ·intro z tg fo hz;exact k1 z tg fo hz
      ·exact k2
     ·cases h
   ·cases h
  ·rename_i gt y off hx
   obtain⟨b,o',cs,fp,hu,_,td,hE,_,hd⟩:=hop hp hx
   have hc:=FT hE hd
   split at h
   ·rename_i z tg fo hk
    split at h
    ·rename_i l hs
     simp only[cq,Option.some.injEq]at h
     subst h
     have hC:=C t
     rw[hk]at hC
     obtain⟨k1,k2⟩:=FR hc hs
     exact wp_load_row dM hC hu (gP td) k2 k1
    ·cases h
   ·cases h
   ·rename_i k1 k2
    split at h
    ·rename_i v hs
     simp only[cq,Option.some.injEq]at h
     subst h
     obtain⟨u,q1,q2⟩:=hc.at (yP hs)
     refine jt dM (C t) ?_ ?_ hu (gQ td q1) q2
     ·intro z tg fo hz;exact k1 z tg fo hz
     ·exact k2
    ·cases h
  ·rename_i n gt y off hx
   obtain⟨⟨tA,lA,hl⟩,b,o',cs,fp,hu,hb,td,hE,hd⟩:=hop hp hx
   have hR:=reads gt hE
   split at h
   ·rename_i z tg fo hk
    split at h
    ·rename_i l hs
     simp only[cq,Option.some.injEq]at h
     subst h
     have hC:=C t
     rw[hk]at hC
     obtain⟨f',r1,r2,r3,r4⟩:=bA.sub hR hs
     exact wp_load_row dM hC hu (gP td) r4 (C6 hl r1 (r2.nodup hd.1) (fun x hx=>hd.2.1 x (r2.subset hx)))
    ·cases h
   ·cases h
   ·rename_i k1 k2
    split at h
    ·rename_i v hs
     simp only[cq,Option.some.injEq]at h
     subst h
     obtain⟨u,f',q1,q2,q3⟩:=bA.at hR hs
     refine jt dM (C t) ?_ ?_ hu (gQ td q1) (yR hl q2 (q3.nodup hd.1) (fun x hx=>hd.2.1 x (q3.subset hx)) (by simp))
     ·intro z tg fo hz;exact k1 z tg fo hz
     ·exact k2
    ·cases h
  ·rename_i n i off hx
   obtain⟨tA,lA,Ob,b,o',len,cap,BG,hu⟩:=hop hp hx
   split at h
   ·rename_i gt l hl
    rw[hl]at Ob
    simp only[Option.some.injEq,Obj.arr.injEq]at Ob
    obtain⟨rfl,_⟩:=Ob
    split at h
    ·rename_i z tg fo hk
     split at h
     ·rename_i c hs
      simp only[Option.some.injEq]at h
      subst h
      have hi:i<l.length:=hv _ (List.mem_singleton.2 rfl)
      obtain⟨b2,o2,Ms,cs,f,F2,hb,td,hE,hd⟩:=uS g hl hi
      rw[F2]at BG
      simp only[Value.slice.injEq,Option.some.injEq,Addr.mk.injEq,and_true]at BG
      obtain⟨⟨rfl,rfl⟩,rfl,rfl⟩:=BG
      have hC:=C t
      rw[hk]at hC
      obtain⟨f',r1,r2,r3,r4⟩:=bA.sub (reads gt hE) hs
      refine wp_load_row dM hC hu (gP td) r4 (C5 hl hi F2 hb r1 ((r2.trans hd).nodup (RO.own (g.obj _ _ hl)).nodup) (fun x hx=>hd.subset (r2.subset hx)) (fun j v hj=> ?_) (gP td))
      rw[r3,List.getElem?_take]at hj
      split at hj
      ·rw[List.getElem?_drop]at hj;rw[yS];exact hj
      ·cases hj
     ·cases h
    ·cases h
    ·rename_i k1 k2
     split at h
     ·rename_i v hs
      simp only[Option.some.injEq]at h
      subst h
      have hi:i<l.length:=hv _ (List.mem_singleton.2 rfl)
      obtain⟨b2,o2,Ms,cs,f,F2,hb,td,hE,hd⟩:=uS g hl hi
      rw[F2]at BG
      simp only[Value.slice.injEq,Option.some.injEq,Addr.mk.injEq,and_true]at BG
      obtain⟨⟨rfl,rfl⟩,rfl,rfl⟩:=BG
      obtain⟨u,f',q1,q2,q3⟩:=bA.at (reads gt hE) hs
      refine jt dM (C t) ?_ ?_ hu (gQ td q1) (yR hl q2 ((q3.trans hd).nodup (RO.own (g.obj _ _ hl)).nodup) (fun x hx=>hd.subset (q3.subset hx)) ?_)
      ·intro z tg fo hz;exact k1 z tg fo hz
      ·exact k2
      ·rintro i' off' KE
       simp only[Option.some.injEq,Prod.mk.injEq]at KE
       obtain⟨rfl,rfl⟩:=KE
       exact⟨b2,o2,_,Ms,hi,hs,F2,hb,gQ td q1⟩
     ·cases h
   ·cases h
  ·cases h
 |binOp op t x y t'=>
  simp only[quiet]at h
  split at h
  ·rename_i k m k' m' h1 h2
   split at h
   ·rename_i vc v hb
    simp only[Option.some.injEq]at h
    subst h
    have hx:=(hop hp h1).lit
    have hy:=(hop hp h2).lit
    obtain⟨q1,q2⟩:=IC (P:=P) (w:=w) hb hv (t:=t) (X:=x) (Y:=y)
    refine b9 (u:=v) ?_ ⟨rfl,q2⟩
    unfold execOp
    simp only[dM,hx,hy]
    rw[Sem.run_bind,q1]
    rfl
   ·cases h
  ·rename_i m m' h1 h2
   split at h
   ·rename_i vc v hb
    simp only[Option.some.injEq]at h
    subst h
    have hx:=(hop hp h1).lit
    have hy:=(hop hp h2).lit
    obtain⟨q1,q2⟩:=ID (P:=P) (w:=w) hb hv (t:=t) (X:=x) (Y:=y)
    refine b9 (u:=v) ?_ ⟨rfl,q2⟩
    unfold execOp
    simp only[dM,hx,hy]
    rw[Sem.run_bind,q1]
    rfl
   ·cases h
  ·rename_i m m' h1 h2
   have hx:=(hop hp h1).lit
   have hy:=(hop hp h2).lit
   have hC:=C t
   split at h
   ·rename_i hk
    rw[hk]at hC
    simp only[cq,Option.some.injEq]at h
    subst h
    refine b9 (u:= .bool (m==m')) ?_ ⟨rfl,rfl⟩
    unfold execOp
    simp only[dM,hx,hy]
    have he:(Op.equal t (.bool m) (.bool m')).run P w= .ok (m==m') w:=pJ hC
    simp[eqGuard,binOp,he]
   ·rename_i hk
    rw[hk]at hC
    simp only[cq,Option.some.injEq]at h
    subst h
    refine b9 (u:= .bool (m !=m')) ?_ ⟨rfl,rfl⟩
    unfold execOp
    simp only[dM,hx,hy]
    have he:(Op.equal t (.bool m) (.bool m')).run P w= .ok (m==m') w:=pJ hC
    simp[eqGuard,binOp,he]
    cases m<;>cases m'<;>rfl
   ·cases h
  ·cases h
 |unOp op t x=>
  cases op with
  |not=>
   simp only[quiet]at h
   split at h
   ·rename_i b hx
    simp only[cq,Option.some.injEq]at h
    subst h
    have hx:=(hop hp hx).lit
    refine b9 (u:= .bool (!b)) ?_ ⟨rfl,rfl⟩
    unfold execOp
    simp[dM,hx,Op.unary]
   ·cases h
  |neg=>
   simp only[quiet]at h
   split at h
   ·rename_i k n hx
    simp only[cq,Option.some.injEq]at h
    subst h
    have hx:=(hop hp hx).lit
    refine b9 (u:= .int k (k.wrap (0-n))) ?_ ⟨rfl,rfl⟩
    unfold execOp
    simp[dM,hx,Op.unary,Op.intArith]
   ·cases h
  |_=>simp[quiet]at h
 |convert s t x=>
  simp only[quiet]at h
  split at h
  ·rename_i k n k1 k2 hx hk1 hk2
   simp only[cq,Option.some.injEq]at h
   subst h
   have hx:=(hop hp hx).lit
   have c1:=C s
   have c2:=C t
   rw[hk1]at c1
   rw[hk2]at c2
   refine b9 (u:= .int k2 (k2.wrap n)) ?_ ⟨rfl,rfl⟩
   unfold execOp
   simp[dM,hx,convert,run_underlying (show P.underlying s=_ from c1),run_underlying (show P.underlying t=_ from c2),Conv.intToInt]
  ·rename_i v g' e hx hk1 hk2
   split at h
   ·rename_i l F3 hl
    simp only[cq,Option.some.injEq]at h
    subst h
    have c1:=C s
    have c2:=C t
    have c3:=C e
    rw[hk1]at c1
    rw[hk2]at c2
    rw[F3]at c3
    have:=Eo g (hop hp hx) hl c1.1 c3 c2
    refine b9 (u:= .string (wR l)) ?_ ⟨rfl,rfl⟩
    unfold execOp
    simp only[dM,Sem.run_bind,this,Result.andThen_ok,Sem.run_pure]
   ·cases h
  ·cases h
 |slice t x lo hi mx=>
  cases mx with
  |some _=>simp[quiet]at h
  |none=>
   simp only[quiet]at h
   split at h
   ·rename_i gt e hk
    have hC:=C t
    rw[hk]at hC
    split at h
    ·split at h
     ·rename_i n p' t' l n1 hx h1
      simp only[Option.some.injEq]at h
      subst h
      have hlo:n1=(l.length:Int):=hv _ (List.mem_singleton.2 rfl)
      obtain⟨hA,⟨fp,⟨oa,cap,hu,hc,hm,h3⟩,hnd,hd⟩,_⟩:=hop hp hx
      have hz:oa=none→cap=0:=by
       intro ho
       rcases h3 with⟨_,_,h4⟩| ⟨b,off,aQ,h4,_⟩
       ·exact h4 ho
       ·rw[ho]at h4;cases h4
      obtain⟨Kq,r1,r2⟩:=Al (P:=P) (w:=w) dM hC hu hc (jK (hop hp) h1) hlo
      refine b9 r1 ⟨[],⟨Kq,cap-l.length,rfl,Nat.zero_le _,by omega,Or.inl ⟨rfl,rfl,fun ho=> ?_⟩⟩,by simp⟩
      rw[hz (r2 ho)];omega
     ·rename_i k n1 hx h1
      simp only[Option.some.injEq]at h
      subst h
      have hlo:n1=(k:Int):=hv _ (List.mem_singleton.2 rfl)
      obtain⟨oa,cap,hu,hc,hm,hz⟩:=hop hp hx
      obtain⟨Kq,r1,r2⟩:=Al (P:=P) (w:=w) dM hC hu hc (jK (hop hp) h1) hlo
      refine b9 r1 ⟨[],⟨Kq,cap-k,rfl,Nat.zero_le _,by omega,Or.inl ⟨rfl,rfl,fun ho=> ?_⟩⟩,by simp⟩
      rw[hz (r2 ho)];omega
     ·cases h
    split at h
    ·rename_i t' l n1 hx h1
     split at h
     ·rename_i n2 h2
      split at h
      ·rename_i hkk
       have hkk:=Nat.eq_of_beq_eq_true hkk
       simp only[Option.some.injEq]at h
       subst h
       obtain⟨q0,q1,q2⟩:=hv _ (List.mem_singleton.2 rfl)
       obtain⟨fp,hs,hd⟩:=hop hp hx
       obtain⟨u',dZ,r1,r2,r3⟩:=qW dM hC hkk hs (jK (hop hp) h1) (jK (hop hp) h2) q0 q1 q2
       exact b9 r1 ⟨dZ,r2,fun b hb=>hd b (r3.subset hb)⟩
      ·cases h
     ·cases h
    ·rename_i n p' t' l n1 hx h1
     split at h
     ·rename_i n2 h2
      split at h
      ·rename_i hkk
       have hkk:=Nat.eq_of_beq_eq_true hkk
       simp only[Option.some.injEq]at h
       subst h
       obtain⟨q0,q1,q2⟩:=hv _ (List.mem_singleton.2 rfl)
       obtain⟨hA,⟨fp,hs,hnd,hd⟩,_⟩:=hop hp hx
       obtain⟨u',dZ,r1,r2,r3⟩:=qW dM hC hkk hs (jK (hop hp) h1) (jK (hop hp) h2) q0 q1 q2
       exact b9 r1 ⟨hA,⟨dZ,r2,r3.nodup hnd,fun b hb=>hd b (r3.subset hb)⟩,by simp⟩
      ·cases h
     ·cases h
    ·rename_i n n1 hx h1
     split at h
     ·rename_i t' l hl
      split at h
      ·rename_i n2 h2
       split at h
       ·rename_i hkk
        have hkk:=Nat.eq_of_beq_eq_true hkk
        simp only[Option.some.injEq]at h
        subst h
        obtain⟨q0,q1,q2⟩:=hv _ (List.mem_singleton.2 rfl)
        obtain⟨hA,hu⟩:=hop hp hx
        have hs:=RO.sl (g.obj n _ hl)
        rw[←show a.eval x=(env n).v from hu]at hs
        obtain⟨u',dZ,r1,r2,r3⟩:=qW dM hC hkk hs (jK (hop hp) h1) (jK (hop hp) h2) q0 q1 q2
        exact b9 r1 ⟨hA,⟨dZ,r2,r3.nodup (RO.own (g.obj n _ hl)).nodup,fun b hb=>r3.subset hb⟩,by simp⟩
       ·cases h
      ·cases h
     ·cases h
    ·cases h
   ·rename_i hk
    have hC:=C t
    rw[hk]at hC
    split at h
    ·rename_i s n1 hx h1
     split at h
     ·rename_i n2 h2
      simp only[Option.some.injEq]at h
      subst h
      obtain⟨q0,q1,q2⟩:=hv _ (List.mem_singleton.2 rfl)
      exact yT dM hC (hop hp hx).lit (jK (hop hp) h1) (jK (hop hp) h2) q0 q1 q2
     ·cases h
    ·cases h
   ·cases h
 |makeFunc fn first captured=>
  cases fn with
  |func f=>
   simp only[quiet]at h
   split at h
   ·rename_i x hf hc
    split at h
    ·rename_i n hx
     simp only[cq,Option.some.injEq]at h
     subst h
     obtain⟨hA,b,hb,hu⟩:=hop hp hx
     have e1:first= #[]:=by cases first;simp_all
     have e2:captured= #[x]:=by cases captured;simp_all
     refine b9 (u:= .func (.func f) #[] #[.pointer (some ⟨b,0,none⟩)]) ?_ ⟨hA,b,hb,rfl⟩
     unfold execOp
     simp[dM,Instr.makeFunc,e1,e2,hu]
    ·cases h
   ·cases h
  |_=>simp[quiet]at h
 |fieldAddr t x f=>
  simp only[quiet]at h
  split at h
  ·rename_i z tg fo hk
   have hC:=C t
   rw[hk]at hC
   split at h
   ·rename_i k hf'
    split at h
    ·rename_i n off hx
     simp only[cq,Option.some.injEq]at h
     subst h
     obtain⟨hc,b,hb,hu⟩:=hop hp hx
     exact iH dM hC hf' hu ⟨hc,b,hb,rfl⟩
    ·rename_i gt y off hx
     simp only[cq,Option.some.injEq]at h
     subst h
     obtain⟨b,o',cs,fp,hu,k1⟩:=hop hp hx
     exact iH dM hC hf' hu ⟨b,o',cs,fp,by rw[Nat.add_assoc],k1⟩
    ·rename_i n i off hx
     simp only[cq,Option.some.injEq]at h
     subst h
     obtain⟨t',l,hl,b,o',len,cap,hb,hu⟩:=hop hp hx
     exact iH dM hC hf' hu ⟨t',l,hl,b,o',len,cap,hb,by rw[Nat.add_assoc]⟩
    ·rename_i n gt y off hx
     simp only[cq,Option.some.injEq]at h
     subst h
     obtain⟨hA,b,o',cs,fp,hu,k1,k2,k3,Qj,k4,k5⟩:=hop hp hx
     refine iH dM hC hf' hu ⟨hA,b,o',cs,fp,by rw[Nat.add_assoc],k1,k2,k3,Qj,k4,fun i o2 j hq=> ?_⟩
     obtain⟨l,u0,b0,kR,len,cap,j1,j2,j3,j4,j5⟩:=k5 i o2 j hq
     rw[hu]at j5
     simp only[Value.pointer.injEq,Option.some.injEq,Addr.mk.injEq,and_true]at j5
     obtain⟨rfl,j5⟩:=j5
     exact⟨l,u0,b,kR,len,cap,j1,j2,j3,j4,by rw[j5,Nat.add_assoc]⟩
    ·cases h
   ·cases h
  ·cases h
 |indexAddr t x i=>
  simp only[quiet]at h
  split at h
  ·rename_i gt e hk
   have hC:=C t
   rw[hk]at hC
   split at h
   ·rename_i t' l ik n hx hi
    split at h
    ·rename_i hkk
     have hkk:=Nat.eq_of_beq_eq_true hkk
     simp only[Option.some.injEq]at h
     subst h
     obtain⟨h0,h1⟩:=hv _ (List.mem_singleton.2 rfl)
     have hx:=hop hp hx
     have hi:=(hop hp hi).lit
     obtain⟨b,off,len,cap,hu,hlt,hr⟩:=IA hx h0 h1
     exact kS dM hC hu hi h0 hlt (by rw[hkk];exact hr)
    ·cases h
   ·rename_i m ik n hx hi
    split at h
    ·rename_i t' l hl
     split at h
     ·rename_i hkk
      have hkk:=Nat.eq_of_beq_eq_true hkk
      simp only[Option.some.injEq]at h
      subst h
      obtain⟨h0,h1⟩:=hv _ (List.mem_singleton.2 rfl)
      obtain⟨_,hu⟩:=hop hp hx
      have hi:=(hop hp hi).lit
      obtain⟨b,o',cap,cs,f,hs,_⟩:=uS g hl (i:=n.toNat) (by omega)
      exact kS dM hC (hu.trans hs) hi h0 h1 ⟨t',l,hl,b,o',_,cap,hs,by rw[hkk];simp⟩
     ·cases h
    ·cases h
   ·rename_i m p' t' l ik n hx hi
    split at h
    ·rename_i hkk
     have hkk:=Nat.eq_of_beq_eq_true hkk
     simp only[Option.some.injEq]at h
     subst h
     obtain⟨h0,h1⟩:=hv _ (List.mem_singleton.2 rfl)
     have hx:=hop hp hx
     have hi:=(hop hp hi).lit
     obtain⟨b,off,len,cap,hu,hlt,hr⟩:=IE hx h0 h1
     exact kS dM hC hu hi h0 hlt (by rw[hkk];exact hr)
    ·cases h
   ·cases h
  ·cases h
 |makeSlice t x y=>
  simp only[quiet]at h
  split at h
  ·rename_i gt e hk
   have hC:=C t
   rw[hk]at hC
   split at h
   ·rename_i k1 n1 k2 n2 hx hy
    simp only[Option.some.injEq]at h
    subst h
    have hE:BD P ty gt e:=hv _ (by simp)
    have hab:n1=n2:=hv _ (by simp)
    have h0:0≤n1:=hv _ (by simp)
    obtain⟨h1,h2⟩:n1.toNat*cE gt≤140737488355328∧n1.toNat≤maxLen:=hv _ (by simp)
    subst hab
    obtain⟨rfl,nX⟩:=hE
    obtain⟨w',u,fp,r1,r2,r3⟩:=FZ (P:=P) (w:=w) (a:=a) dM hC.1 nX (hop hp hx).lit (hop hp hy).lit h0 h1 h2
    exact xM r1 r2 r3
   ·cases h
  ·cases h
 |buildSlice t len parts=>
  simp only[quiet]at h
  split at h
  ·rename_i gt e hk
   have hC:=C t
   rw[hk]at hC
   split at h
   ·split at h
    case h_2=>cases h
    rename_i x hlen hps
    split at h
    case h_2=>cases h
    rename_i s hx
    split at h
    case h_2=>cases h
    rename_i c n hc
    split at h
    case h_2=>cases h
    rename_i vc y he uQ
    simp only[Option.some.injEq]at h
    subst h
    have hE:BD P ty gt e:=hv _ (by simp)
    obtain⟨rfl,nX⟩:=hE
    have hs:=hop hp hx
    obtain⟨tA,lA,hl,C8⟩:=C7 g (B0 g hs hc) hc
    have hrd:=l6 gt he (fun q hq=>hv q (by simp[hq])) C8
    have hlen:=Nat.eq_of_beq_eq_true hlen
    subst hlen
    have hO:=RO.own (g.obj n _ hl)
    have hfl:([(env n).fp]:List (List Nat)).flatten=(env n).fp:=by simp
    obtain⟨w',r1,r2,r3⟩:=ni (P:=P) (w:=w) (a:=a) dM hC.1 nX (by rw[Nat.one_mul];exact Nat.le_of_ble_eq_true uQ) (by rw[hps];rfl) (Nat.zero_le _) (xs:= [y]) (aQ:= [(env n).fp]) (by rw[hps];rfl) (by rw[hps];rfl) rfl
     (fun i x' f hx' hf=>by
      cases i with
      |zero=>simp at hx' hf;subst hx';subst hf;exact⟨(0,x),by rw[hps];rfl,hrd⟩
      |succ i=>simp at hx') (by rw[hfl];exact hO)
    rw[hfl]at r3
    unfold Oper.wp
    rw[r1]
    refine⟨_,env,rfl,gO.none r2,⟨tA,lA,hl⟩,w.heap.size,(env n).fp,fD.sl r3,fun ho=> ?_,hO.nodup,fun _ h=>h⟩
    have:=(g.ow ho).2
    omega
   split at h
   ·rename_i vc xs hlen uQ hb
    simp only[Option.some.injEq]at h
    subst h
    have hE:BD P ty gt e:=hv _ (by simp)
    obtain⟨rfl,nX⟩:=hE
    obtain⟨q1,q2,q3⟩:=xN g hp hb (fun q hq=>hv q (by simp[hq]))
    have hfl:(List.replicate xs.length ([]:List Nat)).flatten= []:=by simp
    obtain⟨w',r1,r2,r3⟩:=ni (P:=P) (w:=w) (a:=a) dM hC.1 nX (Nat.le_of_ble_eq_true uQ) (Nat.eq_of_beq_eq_true hlen) (Nat.le_refl _) (xs:=xs) (aQ:=List.replicate xs.length []) q1 q2 (by simp)
     (fun i x f hx hf=>by
      obtain⟨p,h1,h2⟩:=q3 i x hx
      rw[List.getElem?_replicate]at hf
      split at hf
      ·simp only[Option.some.injEq]at hf;subst hf;exact⟨p,h1,h2⟩
      ·cases hf) (by rw[hfl];exact Own.nil _ _)
    exact xM r1 r2 r3
   ·cases h
  ·cases h
 |build t parts=>
  simp only[quiet]at h
  split at h
  ·rename_i z tg fo hk
   have hC:=C t
   rw[hk]at hC
   obtain⟨fs,hu,hi,h1,_,places,B2,lT⟩:=hC
   split at h
   ·rename_i c hb
    simp only[cq,Option.some.injEq]at h
    subst h
    cases hq:P.info? t with
    |none=>simp[hq]at hi
    |some inf=>
     simp[hq]at hi
     obtain⟨cs',h3,h4⟩:=Am (st:=st) (zb:=zb) g hp (pl:=fun j=>places[j]?) lT hb (uR h1)
     refine b9 (u:= .agg (Array.mk cs')) ?_ ⟨cs',rfl,h4⟩
     have hrun:=run_build (P:=P) w t (parts.map fun(q:Nat×Operand)=>(q.1,a.eval q.2)) (Array.mk cs') (by
      unfold Program.built
      rw[hq,hu]
      simp only[hi.2,B2]
      rw[Array.toList_map]
      simpa[Value.cells]using h3)
     unfold execOp
     simp only[dM,Sem.run_bind,hrun,Result.andThen_ok,Sem.run_pure]
   ·cases h
  ·cases h
 |nilCheck x=>
  simp only[quiet]at h
  split at h
  ·rename_i n off hx
   simp only[cq,Option.some.injEq]at h
   subst h
   obtain⟨hA,b,hb,hu⟩:=hop hp hx
   refine b9 (u:=a.eval x) ?_ ⟨hA,b,hb,hu⟩
   unfold execOp
   simp[dM,hu]
  ·rename_i n i off hx
   simp only[cq,Option.some.injEq]at h
   subst h
   obtain⟨t,l,hl,b,o',len,cap,hb,hu⟩:=hop hp hx
   refine b9 (u:=a.eval x) ?_ ⟨t,l,hl,b,o',len,cap,hb,hu⟩
   unfold execOp
   simp[dM,hu]
  ·cases h
 |extract x i=>
  cases x with
  |tmp t=>
   simp only[quiet]at h
   split at h
   ·rename_i l hl
    split at h
    ·rename_i x hx
     simp only[cq,Option.some.injEq]at h
     subst h
     obtain⟨us,hu,jq⟩:=g.slot t _ hl
     obtain⟨u,k1,k2⟩:=jq.at hx
     refine b9 ?_ k2
     unfold execOp
     have Oc:a.eval (.tmp t)= .tuple us.toArray:=hu
     simp[dM,Oc,Instr.extract,k1]
    ·cases h
   ·cases h
  |_=>simp[quiet]at h
 |call c=>
  obtain⟨callee,xs,ts⟩:=c
  cases callee with
  |value x=>
   cases x with
   |func f=>
    simp only[quiet]at h
    split at h
    ·rename_i as c h1 h2
     simp only[Option.some.injEq]at h
     obtain⟨own,rs⟩:=c
     have II:out.vc= [Sound ty P f as rs]:=by
      rw[←h]
      unfold outs
      dsimp only
      (repeat' split)<;>rfl
     exact C2 dM rfl (hv _ (by rw[II];simp)) hA g (yO g hp h1) h hn
    ·cases h
   |tmp x=>
    simp only[quiet]at h
    split at h
    ·rename_i v hx
     split at h
     ·rename_i f hfn
      split at h
      ·rename_i as c h1 h2
       simp only[Option.some.injEq]at h
       obtain⟨own,rs⟩:=c
       have II:out.vc= [Sound ty P f as rs]:=by
        rw[←h]
        unfold outs
        dsimp only
        (repeat' split)<;>rfl
       exact C2 dM (C4 (hop hp hx) hfn) (hv _ (by rw[II];simp)) hA g (yO g hp h1) h hn
      ·cases h
     ·cases h
    ·cases h
   |_=>simp[quiet]at h
  |builtin b=>
   cases b with
   |max=>
    simp only[quiet]at h
    split at h
    ·rename_i k x r hxs
     split at h
     ·rename_i y hy
      simp only[cq,Option.some.injEq]at h
      subst h
      have he:=uT g hp hxs
      refine b9 (u:= .int k y) ?_ ⟨rfl,rfl⟩
      have hf:=uU (P:=P) (w:=w) (f:=Builtin.max2) (F:=Iv) (fun k x y=>rfl) hy
      unfold execOp
      simp[dM,resolve,invoke,builtin,Builtin.max_,he,hf]
     ·cases h
    ·cases h
   |min=>
    simp only[quiet]at h
    split at h
    ·rename_i k x r hxs
     split at h
     ·rename_i y hy
      simp only[cq,Option.some.injEq]at h
      subst h
      have he:=uT g hp hxs
      refine b9 (u:= .int k y) ?_ ⟨rfl,rfl⟩
      have hf:=uU (P:=P) (w:=w) (f:=Builtin.min2) (F:=Mn) (fun k x y=>rfl) hy
      unfold execOp
      simp[dM,resolve,invoke,builtin,Builtin.min_,he,hf]
     ·cases h
    ·cases h
   |len=>
    simp only[quiet]at h
    split at h
    ·rename_i x t hxl htl
     obtain rfl:xs= #[x]:=by cases xs;simp_all
     obtain rfl:ts= #[t]:=by cases ts;simp_all
     split at h
     ·rename_i v hx
      split at h
      ·rename_i n hn'
       simp only[cq,Option.some.injEq]at h
       subst h
       have hr:=hop hp hx
       have hC:=C t
       cases v with
       |sl t' l=>
        simp only[lenOf]at hn'
        split at hn'
        ·rename_i g' e' hk
         simp only[Option.some.injEq]at hn'
         subst hn'
         rw[hk]at hC
         obtain⟨fp,⟨oa,cap,hu,_⟩,_⟩:=hr
         exact uM rfl dM hC.1 hu (Or.inl ⟨_,oa,cap,l.length,rfl,rfl,rfl⟩)
        ·cases hn'
       |own m=>
        simp only[lenOf]at hn'
        split at hn'
        ·rename_i g' e' hk
         rw[hk]at hC
         split at hn'
         ·rename_i t' l hl
          simp only[Option.some.injEq]at hn'
          subst hn'
          obtain⟨_,hu⟩:=hr
          obtain⟨oa,cap,hs,_⟩:=RO.sl (g.obj m _ hl)
          exact uM rfl dM hC.1 (hu.trans hs) (Or.inl ⟨_,oa,cap,l.length,rfl,rfl,rfl⟩)
         ·cases hn'
        ·cases hn'
       |vw m p' t' l=>
        simp only[lenOf]at hn'
        split at hn'
        ·rename_i g' e' hk
         simp only[Option.some.injEq]at hn'
         subst hn'
         rw[hk]at hC
         obtain⟨_,⟨fp,⟨oa,cap,hu,_⟩,_⟩,_⟩:=hr
         exact uM rfl dM hC.1 hu (Or.inl ⟨_,oa,cap,l.length,rfl,rfl,rfl⟩)
        ·cases hn'
       |lit v=>
        have hu:=(show eg w st.hp env (.a (.lit v)) _ from hr).lit
        simp only[lenOf]at hn'
        split at hn'
        ·rename_i heq;cases heq
        ·rename_i heq;cases heq
        ·rename_i heq;cases heq
        ·rename_i heq
         simp only[V.lit.injEq]at heq
         subst heq
         split at hn'
         ·rename_i g' e' hk
          simp only[Option.some.injEq]at hn'
          subst hn'
          rw[hk]at hC
          exact uM rfl dM hC.1 hu (Or.inl ⟨_,none,0,0,rfl,rfl,rfl⟩)
         ·cases hn'
        ·rename_i s heq
         simp only[V.lit.injEq]at heq
         subst heq
         split at hn'
         ·rename_i hk
          simp only[Option.some.injEq]at hn'
          subst hn'
          rw[hk]at hC
          exact uM rfl dM hC hu (Or.inr ⟨_,rfl,rfl,rfl⟩)
         ·cases hn'
        ·cases hn'
       |_=>simp[lenOf]at hn'
      ·cases h
     ·cases h
    ·cases h
   |_=>simp[quiet]at h
  |invoke _ _=>simp[quiet]at h
 |_=>simp[quiet]at h
end
end Go.Proofs.YtjcojocjlglglaaGreat.G
namespace Go.Proofs.YtjcojocjlglglaaGreat.G
set_option linter.all false
open Go.RowKit L D
variable{ty:Tag→Nat}
theorem gR{α:Type}{f:Nat×α→α}: ∀{l:List (Nat×α)} {s:Nat},look (l.map fun e=>(e.1,f e)) s=(look l s).map fun x=>f (s,x)
 | [],_=>rfl
 | (j,x)::r,s=>by
   by_cases h:s=j
   ·subst h;rw[List.map_cons,look_eq,look_eq];rfl
   ·rw[List.map_cons,aR h,aR h];exact gR
theorem xO{tmps:Array Value}{d:Nat}{u:Value}{p:List (Nat×Bool)}(h:(p.any fun e=>Nat.beq e.1 d)=false):holds (tmps.setIfInBounds d u) p↔holds tmps p:=by
 have hne: ∀e,e∈p→d≠e.1:=by
  rintro e he rfl
  rw[List.any_eq_false]at h
  exact h e he (by simp)
 constructor
 ·intro hh e he
  have:=hh e he
  rwa [Array.getElem?_setIfInBounds_ne (hne e he)]at this
 ·intro hh e he
  rw[Array.getElem?_setIfInBounds_ne (hne e he)]
  exact hh e he
theorem lS.put{w:World}{hp:Hp}{env:Env}{tmps:Array Value}{d:Nat}{u y:Value}{x:SV}(hm:x.mentions d=false)(h:lS w hp env tmps x y):lS w hp env (tmps.setIfInBounds d u) x y:=by
 cases x with
 |one x=>exact h
 |nV l=>exact h
 |cond p x=>exact⟨fun hh=>h.1 ((xO hm).1 hh),fun hh=>h.2 fun k=>hh ((xO hm).2 k)⟩
theorem Good.Mt{zb:bK}{st:St}{tmps:Array Value}{w:World}{env:Env}(g:Good ty zb st tmps w env){d:Nat}(hd:d<tmps.size){v:SV}{u:Value}(hv:lS w st.hp env tmps v u)(hm:v.mentions d=false)(f:SV→SV)(hf: ∀s y,look st.sl s=some y→f y= .one (.a .any)∨(f y=y∧y.mentions d=false)):
  Good ty zb ⟨st.n,(d,v)::st.sl.map fun e=>(e.1,f e.2),st.hp⟩ (tmps.setIfInBounds d u) w env:=by
 refine⟨g.obj,g.gK,fun s x hl=> ?_,g.dom,g.pins⟩
 by_cases hs:s=d
 ·subst hs
  have hl:look ((s,v)::_) s=some x:=hl
  rw[look_eq]at hl
  simp only[Option.some.injEq]at hl
  subst hl
  have:(tmps.setIfInBounds s u).getD s undef=u:=by
   rw[Array.getD_eq_getD_getElem?,Array.getElem?_setIfInBounds_self_of_lt hd];rfl
  rw[this]
  exact hv.put hm
 ·have hl:look ((d,v)::_) s=some x:=hl
  rw[aR hs,gR (α:=SV) (f:=fun e:Nat×SV=>f e.2)]at hl
  cases hq:look st.sl s with
  |none=>rw[hq]at hl;cases hl
  |some y=>
   rw[hq]at hl
   simp only[Option.map_some,Option.some.injEq]at hl
   subst hl
   have hgd:(tmps.setIfInBounds d u).getD s undef=tmps.getD s undef:=by
    rw[Array.getD_eq_getD_getElem?,Array.getD_eq_getD_getElem?,Array.getElem?_setIfInBounds_ne (Ne.symm hs)]
   rw[hgd]
   show lS w st.hp env _ (f y) _
   rcases hf s y hq with h| ⟨h,hm'⟩
   ·rw[h];trivial
   ·rw[h];exact(g.slot s y hq).put hm'
theorem Good.put{zb:bK}{st:St}{tmps:Array Value}{w:World}{env:Env}(g:Good ty zb st tmps w env){d:Nat}(hd:d<tmps.size){v:SV}{u:Value}(hv:lS w st.hp env tmps v u)(hm:v.mentions d=false):
  Good ty zb (st.put (some d) v) (tmps.setIfInBounds d u) w env:=by
 unfold St.put
 dsimp only
 split
 ·rename_i hno
  have:=g.Mt hd hv hm id (fun s y hl=>Or.inr ⟨rfl,by
   rw[List.any_eq_false]at hno
   simpa using hno _ (cZ hl)⟩)
  simpa using this
 ·refine g.Mt hd hv hm (SV.FG d) fun s y hl=> ?_
  unfold SV.FG
  split
  ·exact Or.inl rfl
  ·rename_i hm';exact Or.inr ⟨rfl,hm'⟩
theorem jX{zb:bK}{st:St}{a:Act}{w:World}{env:Env}(g:Good ty zb st a.tmps w env){dst:Option Nat}(hd: ∀d,dst=some d→d<a.tmps.size){v:SV}{u:Value}(hv:lS w st.hp env a.tmps v u)(hm: ∀d,dst=some d→v.mentions d=false):
  Good ty zb (st.put dst v) (a.put dst u).tmps w env:=by
 cases dst with
 |none=>exact g
 |some d=>exact g.put (hd d rfl) hv (hm d rfl)
theorem eB(a:Act)(dst:Option Nat)(u:Value):(a.put dst u).tmps.size=a.tmps.size:=by
 cases dst<;>simp[Act.put]
theorem pK(st:St)(d:Option Nat)(v:SV):(st.put d v).n=st.n:=by
 unfold St.put
 split
 ·split<;>rfl
 ·rfl
theorem KF(st:St)(d:Option Nat)(v:SV):(st.put d v).hp=st.hp:=by
 unfold St.put
 split
 ·split<;>rfl
 ·rfl
theorem put_defers(a:Act)(dst:Option Nat)(u:Value):(a.put dst u).defers=a.defers:=by
 cases dst<;>rfl
theorem iS{ops:Array Oper}{o:Oper}{j:Nat}{x:Bool}(hg:o.guard=some (j,x)){q:Oper}(hj:ops[j]? =some q){d:Nat}(hd:q.dst=some d)(tmps:Array Value):
  Region.wanted o (yielded ops tmps)=true↔tmps[d]? =some (.bool x):=by
 simp only[Region.wanted,hg,yielded,hj,Option.bind_some,hd]
 constructor
 ·intro h
  have h:=eq_of_beq h
  split at h
  ·rename_i b hb
   simp at h
   rw[hb,h]
  ·cases h
 ·intro h
  rw[h];simp
theorem nj{zb:bK}{st:St}{tmps:Array Value}{w:World}{env:Env}(g:Good ty zb st tmps w env){d:Nat}{p:List (Nat×Bool)}{b x:Bool}(hl:look st.sl d=some (.cond p (.a (.lit (.bool b)))))(h:tmps[d]? =some (.bool x)):holds tmps p∧b=x:=by
 have hs:=g.slot d _ hl
 rw[Array.getD_eq_getD_getElem?,h]at hs
 by_cases hh:holds tmps p
 ·have:=(hs.1 hh).lit
  simp at this
  exact⟨hh,this.symm⟩
 ·have:=hs.2 hh
  simp[undef]at this
theorem F4{zb:bK}{st:St}{tmps:Array Value}{w:World}{env:Env}(g:Good ty zb st tmps w env){d:Nat}{b x:Bool}(hl:look st.sl d=some (.one (.a (.lit (.bool b)))))(h:tmps[d]? =some (.bool x)):b=x:=by
 have hs:=g.slot d _ hl
 rw[Array.getD_eq_getD_getElem?,h]at hs
 have:=(show eg w st.hp env (.a (.lit (.bool b))) (.bool x)from hs).lit
 simp at this
 exact this.symm
theorem tO{zb:bK}{st:St}{tmps:Array Value}{w:World}{env:Env}(g:Good ty zb st tmps w env): ∀{p:List (Nat×Bool)},holds tmps p→ ∀q,q∈hyps st p→q
 | [],_,q,hq=>by simp[hyps]at hq
 | (d,x)::r,h,q,hq=>by
   have h0:tmps[d]? =some (.bool x):=h (d,x) (by simp)
   have hr:holds tmps r:=fun e he=>h e (by simp[he])
   simp only[hyps]at hq
   split at hq
   ·rename_i b hl
    rcases List.mem_cons.1 hq with rfl|hq
    ·exact F4 g hl h0
    ·exact tO g hr q hq
   ·rename_i p' b hl
    rcases List.mem_cons.1 hq with rfl|hq
    ·exact(nj g hl h0).2
    ·exact tO g hr q hq
   ·exact tO g hr q hq
theorem Da: ∀{hs:List Prop} {q:Prop},FI hs q→(∀h,h∈hs→h)→q
 | [],_,h,_=>h
 |h'::r,q,h,hh=>Da (hs:=r) (h (hh h' (by simp))) fun x hx=>hh x (by simp[hx])
section
variable{P:Program}{zb:bK}{st st':St}{a:Act}{w:World}{Q:Exit→Act→World→Prop}{o:Oper}
def jY(P:Program)(ops:Array Oper)(o:Oper)(a:Act)(w:World)(K:Act→World→Prop)(Q:Exit→Act→World→Prop):Prop:=
 if Region.wanted o (yielded ops a.tmps)then o.wp P a w K Q∨(o.asks P a w∧LetsOut Q)else K (a.put o.dst undef) w
theorem fF{ops:Array Oper}(hg:o.guard=none){K:Act→World→Prop}(h:o.wp P a w K Q):jY P ops o a w K Q:=by
 unfold jY
 rw[if_pos (by simp[Region.wanted,hg])]
 exact .inl h
theorem B3(iv:Inv ty zb st a w)(h:nW st o.dst=true): ∀d,o.dst=some d→d<a.tmps.size:=by
 intro d hd
 rw[hd]at h
 rw[iv.size]
 exact Nat.le_of_ble_eq_true h
theorem uV{Γ:Nat→TK}(C: ∀t,bG P t (Γ t)){bX:List (Nat×Nat)}{cr:List (Nat×CR)}{ops:List Oper}{vc:List Prop}{v2:SV}{os:Hp}(h:gN Γ (BD P ty) (Sound ty P) bX cr ops st o=some (vc,v2,os))(iv:Inv ty zb st a w)(hv: ∀q,q∈vc→q):
  jY P ops.toArray o a w (fun a' w'=>Inv ty zb (St.put ⟨st.n,st.sl,os++st.hp⟩ o.dst v2) a' w') Q:=by
 obtain⟨env,g⟩:=iv.good
 have KG:=iv.kept.size
 simp only[gN]at h
 split at h
 ·rename_i m hd _ dx
  have Ao:=B3 iv hd
  have hg:o.guard=none:=by
   cases hg:o.guard with
   |none=>rfl
   |some e=>
    obtain⟨j,x⟩:=e
    exfalso
    simp only[cV,hg]at dx
    repeat' split at dx
    all_goals simp at dx
  split at h
  ·rename_i v1 v os hq
   split at h
   ·rename_i hf hn
    simp only[Option.some.injEq,Prod.mk.injEq]at h
    obtain⟨rfl,rfl,rfl⟩:=h
    refine fF hg (Oper.wp_mono ?_ (An (Q:=Q) C hq g (fun e he=>by simp at he) (iv.wS.now iv.kept) hv hf hn))
    rintro a' w' ⟨u,env',rfl,hN,hr⟩
    have g':=g.grow KG hf hN
    have hnm: ∀d,o.dst=some d→v.mentions d=false:=by
     intro d _
     cases v with
     |one x=>rfl
     |nV l=>rfl
     |cond p x=>
      exfalso
      have: ∀(op:Op) (d m:Nat) (out:Out) (p:List (Nat×Bool)) (x:S1),quiet Γ (BD P ty) (Sound ty P) cr st [] d m op=some out→out.v≠ .cond p x:=by
       intro op d m out p x hh
       unfold quiet FH at hh
       repeat' split at hh
       all_goals first
        | (cases hh;done)
        | (simp only[cq,Option.some.injEq]at hh;subst hh;intro e;cases e;done)
        | (simp only[Option.some.injEq]at hh;subst hh;unfold outs;(repeat' split)<;>(intro e;cases e))
      exact this _ _ _ _ p x hq rfl
    refine⟨by rw[eB,pK];exact iv.size,by rw[put_defers];exact iv.defers,iv.kept.trans (fE hN.below KG),iv.wS,env',jX g' Ao hr hnm⟩
   ·cases h
  ·cases h
 ·rename_i m e p hd _ dx
  have Ao:=B3 iv hd
  split at h
  ·rename_i hne
   split at h
   ·rename_i v1 v hq
    simp only[Option.some.injEq,Prod.mk.injEq]at h
    obtain⟨rfl,rfl,rfl⟩:=h
    have hmn: ∀d,o.dst=some d→(SV.cond (e::p) v).mentions d=false:=by
     intro d Mu
     show((e::p).any fun e=>Nat.beq e.1 d)=false
     rw[List.any_eq_false]at hne ⊢
     intro x hx hb
     have:=Nat.eq_of_beq_eq_true hb
     exact hne x hx (by rw[Mu,this];simp)
    have fin: ∀{u:Value} {w':World},Below w.heap.size w w'→gO (ty:=ty) w w' st.hp [] env env→lS w' st.hp env a.tmps (.cond (e::p) v) u→Inv ty zb (st.put o.dst (.cond (e::p) v)) (a.put o.dst u) w':=by
     intro u w' hb hN hr
     have g':=g.grow (os:= []) KG rfl hN
     exact⟨by rw[eB,pK];exact iv.size,by rw[put_defers];exact iv.defers,iv.kept.trans (fE hb KG),iv.wS,env,jX g' Ao hr hmn⟩
    have key: ∃j x q d,o.guard=some (j,x)∧ops[j]? =some q∧q.dst=some d∧(d,x)∈e::p∧(a.tmps[d]? =some (.bool x)→holds a.tmps (e::p)):=by
     unfold cV at dx
     split at dx
     ·simp at dx
     ·rename_i j x hg
      split at dx
      ·rename_i q hj
       split at dx
       ·rename_i d BH
        split at dx
        ·rename_i b hl
         simp only[Option.some.injEq]at dx
         refine⟨j,x,q,d,hg,hj,BH,by rw[←dx];simp,fun hh=> ?_⟩
         rw[←dx]
         intro y hy
         simp at hy
         subst hy
         exact hh
        ·rename_i p' b hl
         simp only[Option.some.injEq]at dx
         refine⟨j,x,q,d,hg,hj,BH,by rw[←dx];simp,fun hh=> ?_⟩
         rw[←dx]
         intro y hy
         rcases List.mem_cons.1 hy with rfl|hy
         ·exact hh
         ·exact(nj g hl hh).1 y hy
        ·cases dx
       ·cases dx
      ·cases dx
    obtain⟨j,x,q,d,hg,hj,BH,hmem,Mv⟩:=key
    have hw:=iS (ops:=ops.toArray) hg (by simpa using hj) BH a.tmps
    unfold jY
    by_cases hb:a.tmps[d]? =some (.bool x)
    ·rw[if_pos (hw.2 hb)]
     have hp:=Mv hb
     left
     refine Oper.wp_mono ?_ (An (Q:=Q) C hq g hp (iv.wS.now iv.kept) (fun z hz=> ?_) rfl rfl)
     ·rintro a' w' ⟨u,env',rfl,hN,hr⟩
      have he:env'=env:=funext fun n=>hN.old n rfl
      subst he
      exact fin hN.below hN ⟨fun _=>hr,fun hh=>absurd (fun y hy=>hp y hy) hh⟩
     ·exact Da (hv _ (List.mem_map.2 ⟨z,hz,rfl⟩)) (tO g hp)
    ·rw[if_neg (fun hh=>hb (hw.1 hh))]
     exact fin (Below.refl _ _) (gO.none (Below.refl _ _)) ⟨fun hh=>absurd (hh (d,x) hmem) hb,fun _=>rfl⟩
   ·cases h
  ·cases h
 ·cases h
theorem F5{Γ:Nat→TK}(C: ∀t,bG P t (Γ t)){bX:List (Nat×Nat)}{cr:List (Nat×CR)}{ops:List Oper}{vc:List Prop}(h:FJ Γ (BD P ty) (Sound ty P) bX cr ops st o=some (vc,st'))(iv:Inv ty zb st a w)(hv: ∀q,q∈vc→q):
  jY P ops.toArray o a w (fun a' w'=>Inv ty zb st' a' w') Q:=by
 unfold FJ at h
 split at h
 ·rename_i jL v os hq
  simp only[Option.some.injEq,Prod.mk.injEq]at h
  obtain⟨rfl,rfl⟩:=h
  exact uV C hq iv hv
 ·cases h
end
end Go.Proofs.YtjcojocjlglglaaGreat.G
namespace Go.Proofs.YtjcojocjlglglaaGreat.G
set_option linter.all false
open Go.RowKit L D
variable{ty:Tag→Nat}
def V.dead:V→V
 | .vw _ _ _ l=> .ot l.length
 |_=> .any
def V.bl(ks kv:List Nat)(v:V):V:=match v.name with
 |some m=>match ks.any (Nat.beq m)with
  |true=>v.dead
  |false=>match kv with
   | []=>v
   |kv=>match v.view with
    |some _=>match kv.any (Nat.beq m)with|true=>v.dead|false=>v
    |none=>v
 |none=>v
def S1.bl(ks kv:List Nat):S1→S1
 | .a v=> .a (v.bl ks kv)
 | .agg l=> .agg (l.map (V.bl ks kv))
def SV.bl(ks kv:List Nat):SV→SV
 | .one x=> .one (x.bl ks kv)
 | .nV l=> .nV (l.map (S1.bl ks kv))
 | .cond p x=> .cond p (x.bl ks kv)
def Ff.bl(ks kv:List Nat):Ff→Ff
 | .of n=>match ks.any (Nat.beq n)||kv.any (Nat.beq n)with|true=> .gone|false=> .of n
 |s=>s
def Obj.bl(ks kv:List Nat):Obj→Obj
 | .box c=> .box (c.map (V.bl ks kv))
 | .arr t l=> .arr t l
 | .iM t l s=> .iM t l (s.bl ks kv)
def bM(ks kv:List Nat)(hp:Hp):Hp:=(hp.filter fun e=> !ks.any (Nat.beq e.1)).map fun e=>(e.1,e.2.bl ks kv)
def pinned(ks:List Nat):Bool:=ks.any soft
theorem V.B4{ks kv:List Nat}{v:V}:(v.bl ks kv).l9 (fun n=>n∉ks) (fun n=>n∉ks∧n∉kv):=by
 have hx: ∀{l:List Nat} {m:Nat},(l.any (Nat.beq m))=false→m∉l:=by
  intro l m h hm
  rw[List.any_eq_false]at h
  exact h m hm (by simp)
 have JT: ∀x:V,x.dead.l9 (fun n=>n∉ks) (fun n=>n∉ks∧n∉kv):=by
  intro x
  cases x<;>exact⟨fun _ h=>by simp[V.dead,V.name]at h,fun _ h=>by simp[V.dead,V.view]at h⟩
 unfold V.bl
 split
 ·rename_i m hm
  split
  ·exact JT v
  ·rename_i hk
   have hk:=hx hk
   have hn: ∀n,v.name=some n→n∉ks:=by
    intro n h;rw[hm]at h;simp only[Option.some.injEq]at h;subst h;exact hk
   split
   ·exact⟨hn,fun n h=>⟨hn n (V.jW h),by simp⟩⟩
   ·split
    ·split
     ·exact JT v
     ·rename_i hv
      have hv:=hx hv
      refine⟨hn,fun n h=>⟨hn n (V.jW h),?_⟩⟩
      have:=V.jW h
      rw[hm]at this;simp only[Option.some.injEq]at this;subst this;exact hv
    ·rename_i Od
     exact⟨hn,fun n h=>by rw[Od]at h;cases h⟩
 ·rename_i hm
  refine⟨fun n h=> ?_,fun n h=> ?_⟩
  ·rw[hm]at h;cases h
  ·have:=V.jW h;rw[hm]at this;cases this
theorem RA.dead{w:World}{hp:Hp}{env:Env}{v:V}{u:Value}(h:RA w hp env v u):RA w hp env v.dead u:=by
 cases v with
 |vw n p t l=>
  obtain⟨_,⟨fp,⟨oa,cap,rfl,hc,hm,h3⟩,_⟩,_⟩:=h
  refine⟨oa,cap,rfl,hc,hm,fun ho=> ?_⟩
  rcases h3 with⟨_,_,h4⟩| ⟨b,off,aQ,h4,_⟩
  ·exact h4 ho
  ·rw[ho]at h4;cases h4
 |_=>trivial
theorem RA.bl{w:World}{hp:Hp}{env:Env}{ks kv:List Nat}{v:V}{u:Value}(h:RA w hp env v u):RA w hp env (v.bl ks kv) u:=by
 unfold V.bl
 repeat' split
 all_goals first
  |exact h
  |exact h.dead
  |trivial
abbrev mm(ks kv:List Nat)(w:World)(hp:Hp)(env:Env)(w':World)(fY:Hp)(env':Env):Prop:=Step (fun n=>n∉ks) (fun n=>n∉ks∧n∉kv) w hp env w' fY env'
section
variable{ks kv:List Nat}{w w':World}{hp fY:Hp}{env env':Env}
theorem BE.fZ(s:mm ks kv w hp env w' fY env'){r:Ff}{t:Tag}{x:T t}{u:Value}(h:BE w hp env r t x u):BE w' fY env' (r.bl ks kv) t x u:=by
 cases r with
 |gone=>trivial
 |jT=>exact BE.step s (r:= .jT) (fun n hn=>by cases hn) h
 |of n=>
  unfold Ff.bl
  dsimp only
  split
  ·trivial
  ·rename_i hk
   rw[Bool.or_eq_false_iff,List.any_eq_false,List.any_eq_false]at hk
   refine BE.step s (r:= .of n) (fun m hm=> ?_) h
   simp only[Ff.name,Option.some.injEq]at hm
   subst hm
   exact⟨fun hm=>hk.1 n hm (by simp),fun hm=>hk.2 n hm (by simp)⟩
theorem RA.fZ(s:mm ks kv w hp env w' fY env'){v:V}{u:Value}(h:RA w hp env v u):RA w' fY env' (v.bl ks kv) u:=
 RA.step s V.B4 h.bl
theorem aU.map{α β γ:Type}{R:α→β→Prop}{R':γ→β→Prop}{f:α→γ}: ∀{as:List α} {bs:List β},(∀a b,R a b→R' (f a) b)→aU R as bs→aU R' (as.map f) bs
 | [],[],_,_=>trivial
 |a::as,b::bs,h,⟨h1,h2⟩=>⟨h a b h1,aU.map h h2⟩
 | [],_::_,_,h=>h.elim
 |_::_,[],_,h=>h.elim
theorem eg.fZ(s:mm ks kv w hp env w' fY env'){x:S1}{u:Value}(h:eg w hp env x u):eg w' fY env' (x.bl ks kv) u:=by
 cases x with
 |a v=>exact RA.fZ s h
 |agg l=>obtain⟨cs,hu,hl⟩:=h;exact⟨cs,hu,hl.map fun a b hr=>RA.fZ s hr⟩
theorem lS.fZ(s:mm ks kv w hp env w' fY env'){tmps:Array Value}{x:SV}{u:Value}(h:lS w hp env tmps x u):lS w' fY env' tmps (x.bl ks kv) u:=by
 cases x with
 |one x=>exact eg.fZ s h
 |nV l=>obtain⟨us,hu,hl⟩:=h;exact⟨us,hu,hl.map fun a b hr=>eg.fZ s hr⟩
 |cond p x=>exact⟨fun hh=>eg.fZ s (h.1 hh),h.2⟩
theorem Good.fZ{zb:bK}{st:St}{tmps:Array Value}(g:Good ty zb st tmps w env)(s:mm ks kv w st.hp env w' fY env')
  (ho: ∀n o,look fY n=some o→RO ty w' fY env' n o (env' n))(hd: ∀n m o o',n≠m→look fY n=some o→look fY m=some o'→ ∀b,b∈(env' n).fp→b∉(env' m).fp)
  (hm: ∀n o,look fY n=some o→ ∀b,b∈(env' n).fp→b∈zb.L∨zb.w.heap.size≤b)(hp: ∀n,gd n=true→(env' n).v=(zb.pv n).v∧ ∀b,b∈(env' n).fp→b∈(zb.pv n).fp):
  Good ty zb ⟨st.n,st.sl.map fun e=>(e.1,e.2.bl ks kv),fY⟩ tmps w' env':=by
 refine⟨ho,hd,fun t v hl=> ?_,hm,hp⟩
 have hl:look (st.sl.map fun e=>(e.1,e.2.bl ks kv)) t=some v:=hl
 rw[gR (α:=SV) (f:=fun e:Nat×SV=>e.2.bl ks kv)]at hl
 cases hq:look st.sl t with
 |none=>rw[hq]at hl;cases hl
 |some y=>
  rw[hq]at hl
  simp only[Option.map_some,Option.some.injEq]at hl
  subst hl
  exact lS.fZ s (g.slot t y hq)
end
theorem bJ{ks kv:List Nat}{hp:Hp}{n:Nat}:look (bM ks kv hp) n=if n∈ks then none else(look hp n).map (Obj.bl ks kv):=by
 unfold bM
 rw[gR (α:=Obj) (f:=fun e:Nat×Obj=>e.2.bl ks kv)]
 have:look (hp.filter fun e=> !ks.any (Nat.beq e.1)) n=if n∈ks then none else look hp n:=by
  induction hp with
  |nil=>simp[look]
  |cons e r ih=>
   obtain⟨j,x⟩:=e
   by_cases hj:j∈ks
   ·have:(ks.any (Nat.beq j))=true:=List.any_eq_true.2 ⟨j,hj,by simp⟩
    rw[List.filter_cons_of_neg (by simp[this]),ih]
    by_cases hn:n∈ks
    ·simp[hn]
    ·have:n≠j:=by rintro rfl;exact hn hj
     rw[aR this]
   ·have:(ks.any (Nat.beq j))=false:=List.any_eq_false.2 fun y hy hb=>hj (by have:=Nat.eq_of_beq_eq_true hb;rw[this];exact hy)
    rw[List.filter_cons_of_pos (by simp[this])]
    by_cases hn:n=j
    ·subst hn;rw[look_eq,look_eq,if_neg hj]
    ·rw[aR hn,aR hn,ih]
 rw[this]
 split<;>rfl
theorem jZ: ∀{l:List V},l8 l=true→ ∀v,v∈l→v≠ .any
 |x::r,h,v,hv=>by
  cases x with
  |any=>simp[l8]at h
  |_=>
   rcases List.mem_cons.1 hv with rfl|hv
   ·exact fun e=>by cases e
   ·exact jZ (l:=r) (by simpa[l8]using h) v hv
def yU(Γ:Nat→TK)(st:St):Op→Option St
 | .store t x y=>match ep st [] x,ep st [] y with
   |some (.a (.ptr n off)),some v=>match look st.hp n with
    |some (.box c)=>match Γ t,v with
     | .st z _ _, .agg l=>match Nat.beq l.length z.length&&l8 l,BC c off l with
       |true,some c'=>some ⟨st.n,st.sl,(n, .box c')::st.hp⟩
       |_,_=>none
     | .st _ _ _, .a _=>none
     | .other,_=>none
     |_, .a .any=>none
     |_, .a v=>match BC c off [v]with
      |some c'=>some ⟨st.n,st.sl,(n, .box c')::st.hp⟩
      |none=>none
     |_,_=>none
    |_=>none
   |_,_=>none
 |_=>none
section
variable{P:Program}{zb:bK}{st st':St}{a:Act}{w:World}{env:Env}{Q:Exit→Act→World→Prop}{o:Oper}
theorem RA.one(g:Good ty zb st a.tmps w env){v:V}{u:Value}(h:RA w st.hp env v u)(hv:v≠ .any):u.oneCell'=true:=by
 cases v with
 |any=>exact absurd rfl hv
 |lit x=>obtain⟨rfl,h1⟩:=h;exact h1
 |sl t l=>obtain⟨fp,⟨oa,cap,rfl,_⟩,_⟩:=h;rfl
 |own n=>
  obtain⟨⟨t,l,hl⟩,rfl⟩:=h
  obtain⟨oa,cap,h,_⟩:=RO.sl (g.obj n _ hl)
  rw[h];rfl
 |ptr n off=>obtain⟨_,b,_,rfl⟩:=h;rfl
 |uD f n=>obtain⟨_,b,_,rfl⟩:=h;rfl
 |ot k=>obtain⟨oa,cap,rfl,_⟩:=h;rfl
 |jm n i off=>obtain⟨t,l,_,b,o,len,cap,_,rfl⟩:=h;rfl
 |ip t x off=>obtain⟨b,o,cs,fp,rfl,_⟩:=h;rfl
 |vw n p t l=>obtain⟨_,⟨fp,⟨oa,cap,rfl,_⟩,_⟩,_⟩:=h;rfl
 |wQ n t l=>obtain⟨_,b,fp,⟨oa,cap,rfl,_⟩,_⟩:=h;rfl
 |mix n c t l=>obtain⟨_,⟨fp,⟨oa,cap,rfl,_⟩,_⟩,_⟩:=h;rfl
 |s8 n=>
  obtain⟨⟨t,l,s,hl⟩,rfl⟩:=h
  obtain⟨_,us,hB,_⟩:=g.obj n _ hl
  obtain⟨oa,cap,h,_⟩:=hB.sl
  rw[h];rfl
 |wL n p t x off=>obtain⟨_,b,o,cs,fp,rfl,_⟩:=h;rfl
theorem nk(g:Good ty zb st a.tmps w env): ∀{l:List V} {us:List Value},aU (RA w st.hp env) l us→(∀v,v∈l→v≠ .any)→ ∀u,u∈us→u.oneCell'=true
 |v::l,u::us,⟨h1,h2⟩,hn,x,hx=>by
  rcases List.mem_cons.1 hx with rfl|hx
  ·exact RA.one g h1 (hn v (by simp))
  ·exact nk g h2 (fun y hy=>hn y (by simp[hy])) x hx
 | [],_::_,h,_,_,_=>h.elim
theorem Ap(g:Good ty zb st a.tmps w env){n:Nat}{c c':List V}(hl:look st.hp n=some (.box c)){b:Nat}{cs us:List Value}{e:TypeId}{off:Nat}(C9:env n=⟨.pointer (some ⟨b,0,none⟩),[b]⟩)(hh:w.heap[b]? =some (.cells (Array.mk cs) e (0,0)))
  (hlen:off+us.length≤cs.length)(hc:aU (RA w st.hp env) c' (cs.take off++(us++cs.drop (off+us.length)))):
  Good ty zb ⟨st.n,st.sl,(n, .box c')::st.hp⟩ a.tmps (w.setCells b off us) env:=by
 have hk: ∀x,x≠b→(w.setCells b off us).heap[x]? =w.heap[x]? :=fun x hx=>bH b us off w x hx
 have hlk: ∀m o,look ((n,Obj.box c')::st.hp) m=some o→(m=n∧o= .box c')∨(m≠n∧look st.hp m=some o):=by
  intro m o hm
  by_cases hmn:m=n
  ·subst hmn;rw[look_eq]at hm;simp only[Option.some.injEq]at hm;exact Or.inl ⟨rfl,hm.symm⟩
  ·rw[aR hmn]at hm;exact Or.inr ⟨hmn,hm⟩
 have how:Ow st.hp env b:=⟨n,_,hl,by rw[C9];simp⟩
 have s:Step (fun _=>True) (fun _=>True) w st.hp env (w.setCells b off us) ((n, .box c')::st.hp) env:=by
  refine⟨fun x _ hx=>hk x (fun e=>hx (e▸how)),?_,?_,?_⟩
  ·rintro x _ ⟨m,o,h1,h2⟩
   rcases hlk m o h1 with⟨rfl,rfl⟩| ⟨_,h1⟩
   ·exact⟨m,_,hl,h2⟩
   ·exact⟨m,o,h1,h2⟩
  ·intro m o _ h1
   by_cases hmn:m=n
   ·subst hmn
    rw[hl]at h1
    simp only[Option.some.injEq]at h1
    subst h1
    exact⟨_,look_eq,trivial,rfl⟩
   ·exact⟨o,by rw[aR hmn];exact h1,by cases o<;>simp[Obj.like],rfl⟩
  ·intro m t l _ h1
   have hmn:m≠n:=by rintro rfl;rw[hl]at h1;cases h1
   refine⟨by rw[aR hmn];exact h1,rfl,fun x hx=>hk x ?_⟩
   rintro rfl
   exact g.gK m n _ _ hmn h1 hl x hx (by rw[C9];simp)
 refine⟨fun m o hm=> ?_,fun m m' o o' hne h1 h2=> ?_,fun t v hv=>lS.step s (fun v _=>v.ec) (g.slot t v hv),fun m o hm b hb=> ?_,g.pins⟩
 ·rcases hlk m o hm with⟨rfl,rfl⟩| ⟨hmn,hm⟩
  ·refine⟨b,_,e,C9,?_,hc.mono fun v u _ h=>RA.step s v.ec h⟩
   rw[uB hh,ju us cs off hlen]
  ·have hro:=g.obj m o hm
   refine hro.step s (Obj.ec _) fun x hx=>hk x ?_
   rintro rfl
   exact g.gK m n o _ hmn hm hl x hx (by rw[C9];simp)
 ·rcases hlk m o h1 with⟨e1,e2⟩| ⟨_,k1⟩<;>rcases hlk m' o' h2 with⟨e3,e4⟩| ⟨_,k2⟩
  ·exact absurd (e1.trans e3.symm) hne
  ·exact g.gK m m' _ _ hne (e1▸hl) k2
  ·exact g.gK m m' _ _ hne k1 (e3▸hl)
  ·exact g.gK m m' _ _ hne k1 k2
 ·rcases hlk m o hm with⟨e1,_⟩| ⟨_,k1⟩
  ·subst e1;exact g.dom m _ hl b hb
  ·exact g.dom m o k1 b hb
theorem uW{b:Nat}(hb:b∈zb.L∨zb.w.heap.size≤b){c:Array Value}{e:TypeId}(hh:w.heap[b]? =some (.cells c e (0,0)))(off:Nat)(us:List Value):Kept zb w (w.setCells b off us):=by
 have h0:=uo (B:=0) (w:=w) (Below.refl 0 w) (Nat.zero_le b) off us
 refine⟨h0.os,h0.tape,h0.output,h0.size,fun x hx hn=>bH b us off w x ?_,fun x c' e' hx=> ?_⟩
 ·rintro rfl
  rcases hb with h|h
  ·exact hn h
  ·omega
 ·by_cases Py:x=b
  ·subst Py
   rw[hh]at hx
   simp only[Option.some.injEq,Go.Obj.cells.injEq,and_true]at hx
   obtain⟨rfl,rfl⟩:=hx
   obtain⟨c2,h1,h2⟩:=cF x e us off w c hh
   exact⟨c2,h1,h2⟩
  ·exact⟨c',by rw[bH b us off w x Py];exact hx,rfl⟩
theorem kV{t b off:Nat}{v:Value}{us:List Value}(hv:v.cells=us.toArray)(ht:w.there b off us.length)(hi:(P.info? t).map (·.size)=some us.length)(h1: ∀u,u∈us→u.oneCell'=true):
  (storeVar t ⟨b,off,none⟩ v).run P w= .ok () (w.setCells b off us):=by
 have:=run_storeVar_mid (P:=P) w b off t us.toArray (by simpa using ht) (by simpa using hi) (all_oneCell_toArray h1)
 unfold storeVar at this ⊢
 rw[hv]
 exact this
theorem Ep{Γ:Nat→TK}(C: ∀t,bG P t (Γ t))(Z: ∀t,(∀z tg fo,Γ t≠ .st z tg fo)→Γ t≠ .other→(P.info? t).map (·.size)=some 1)(h:yU Γ st o.op=some st')(g:Good ty zb st a.tmps w env):
  o.wp P a w (fun a' w'=>a'=a.put o.dst undef∧Kept zb w w'∧Good ty zb st' a.tmps w' env∧st'.n=st.n∧st'.sl=st.sl) Q:=by
 have hop: ∀{x v},ep st [] x=some v→eg w st.hp env v (a.eval x):=fun hx=>cH g (fun e he=>by simp at he) hx
 generalize dM:o.op=op at h
 cases op with
 |store t x y=>
  simp only[yU]at h
  split at h
  ·rename_i n off v hx hy
   have hx:=hop hx
   have hy:=hop hy
   split at h
   ·rename_i c hl
    obtain⟨_,b,hb,hu⟩:=hx
    obtain⟨b',cs,e,C9,hh,hc⟩:=g.obj n _ hl
    have hM:=g.dom n _ hl b' (by rw[C9];simp)
    have Mr:b=b':=by rw[C9]at hb;simpa using hb.symm
    subst Mr
    have fin: ∀{us:List Value} {c':List V},(a.eval y).cells=us.toArray→(P.info? t).map (·.size)=some us.length→(∀u,u∈us→u.oneCell'=true)→off+us.length≤cs.length→aU (RA w st.hp env) c' (cs.take off++(us++cs.drop (off+us.length)))→st'=⟨st.n,st.sl,(n, .box c')::st.hp⟩→
      o.wp P a w (fun a' w'=>a'=a.put o.dst undef∧Kept zb w w'∧Good ty zb st' a.tmps w' env∧st'.n=st.n∧st'.sl=st.sl) Q:=by
     intro us c' h1 h2 h3 h4 h5 h6
     subst h6
     unfold Oper.wp execOp
     simp only[dM,hu,Instr.storeAt,Instr.sureAddr,Sem.run_bind,Sem.run_pure,Result.andThen_ok,kV h1 (BU hh off us.length h4) h2 h3]
     exact⟨by trivial,uW hM hh off us,Ap g hl C9 hh h4 h5,by trivial,by trivial⟩
    split at h
    ·rename_i z tg fo l hk _
     split at h
     ·rename_i c' hlen hs
      simp only[Option.some.injEq]at h
      obtain⟨us,IF,B1⟩:=hy
      obtain⟨k1,k2⟩:=yQ hc B1 hs
      have hC:=C t
      rw[hk]at hC
      obtain⟨fs,_,hi,_⟩:=hC
      simp only[Bool.and_eq_true]at hlen
      have nq:=Nat.eq_of_beq_eq_true hlen.1
      refine fin (us:=us) (by rw[IF];rfl) ?_ ?_ k1 k2 h.symm
      ·rw[B1.len,nq]
       cases hq:P.info? t with
       |none=>simp[hq]at hi
       |some i=>simp[hq]at hi;simp[hi.1]
      ·exact nk g B1 (jZ hlen.2)
     ·cases h
    ·cases h
    ·cases h
    ·cases h
    ·rename_i v k1 k2 k3 _
     split at h
     ·rename_i c' hs
      simp only[Option.some.injEq]at h
      obtain⟨q1,q2⟩:=yQ (vs:= [v]) (us:= [a.eval y]) hc ⟨hy,trivial⟩ hs
      have hne:v≠ .any:=fun e=>k1 e
      refine fin (us:= [a.eval y]) (fP g hy hne) (Z t (fun z tg fo hz=>k2 z tg fo hz) k3) ?_ q1 q2 h.symm
      intro u Oc
      rw[List.mem_singleton.1 Oc]
      exact RA.one g hy hne
     ·cases h
    ·cases h
   ·cases h
  ·cases h
 |_=>simp[yU]at h
end
end Go.Proofs.YtjcojocjlglglaaGreat.G
namespace Go.Proofs.YtjcojocjlglglaaGreat.G
set_option linter.all false
open Go.RowKit L D
variable{ty:Tag→Nat}
theorem Aq{α:Type}{k:Nat}{E:ER α}(G:dK k E)(hk:0<k){w:World}{u:Value}{l:List α}{fp:List Nat}(h:Sl k E w u l fp):
  ∃(news:List Value) (fx:List (List Nat)),Src w u l.length news∧fx.length=l.length∧news.length=l.length*k∧(∀i x f,l[i]? =some x→fx[i]? =some f→E w ((news.drop (i*k)).take k) x f)∧fx.flatten.Sublist fp∧ ∀b r,fp=b::r→fx.flatten=r:=by
 obtain⟨oa,cap,rfl,hc,hm,h3⟩:=h
 rcases h3 with⟨rfl,rfl,hno⟩| ⟨b,off,aQ,rfl,hb,rfl,he⟩
 ·refine⟨[],[],?_,rfl,by simp,by simp,by simp,fun b r h=>by cases h⟩
  cases oa with
  |none=>exact Or.inl ⟨by simp[hno rfl],rfl,rfl⟩
  |some a=>exact Or.inr ⟨a,cap,rfl,by simp⟩
 ·have hcell: ∀j,j<l.length*k→ ∃v,w.cell? ⟨b,off+j,none⟩=some v:=by
   intro j hj
   have hi:j/k<l.length:=Nat.div_lt_of_lt_mul (by rw[Nat.mul_comm];omega)
   obtain⟨f,hf⟩:=e9 he.1 (List.getElem?_eq_getElem hi)
   obtain⟨cs,hr,hE⟩:=he.2 _ _ f (List.getElem?_eq_getElem hi) hf
   have hl:=G.len hE
   have hml:=Nat.mod_lt j hk
   have:=hr (j % k) cs[j % k] (List.getElem?_eq_getElem (by omega))
   refine⟨cs[j % k]'(by omega),?_⟩
   rw[←this]
   congr 2
   have:=Nat.div_add_mod j k
   have:=Nat.mul_comm k (j/k)
   omega
  refine⟨(List.range (l.length*k)).map fun j=>(w.cell? ⟨b,off+j,none⟩).getD undef,aQ,Or.inr ⟨_,cap,rfl,?_⟩,he.1,by simp,?_,List.sublist_cons_self _ _,fun b r h=>by cases h;rfl⟩
  ·intro j u hu
   have hj:j<l.length*k:=by have:=(List.getElem?_eq_some_iff.1 hu).1;simpa using this
   obtain⟨v,hv⟩:=hcell j hj
   simp[hj,hv]at hu
   rw[Addr.add_mid,hv,hu]
  ·intro i x f hx hf
   obtain⟨cs,hr,hE⟩:=he.2 i x f hx hf
   have hl:=G.len hE
   have hi:i<l.length:=(List.getElem?_eq_some_iff.1 hx).1
   have h5:i*k+k≤l.length*k:=by
    have:=Nat.mul_le_mul_right k (show i+1≤l.length by omega)
    rw[Nat.add_mul]at this;omega
   have:(((List.range (l.length*k)).map fun j=>(w.cell? ⟨b,off+j,none⟩).getD undef).drop (i*k)).take k=cs:=by
    apply List.ext_getElem?
    intro j
    by_cases hj:j<k
    ·rw[List.getElem?_take,if_pos hj,List.getElem?_drop]
     have h6:=hr j cs[j] (List.getElem?_eq_getElem (by omega))
     rw[List.getElem?_map,List.getElem?_range (by omega)]
     simp[←Nat.add_assoc,h6,show j<cs.length by omega]
    ·rw[List.getElem?_take,if_neg hj,List.getElem?_eq_none (by omega)]
   rw[this];exact hE
theorem pL{α:Type}{k:Nat}{E:ER α}(G:dK k E)(hk:0<k){w:World}{u:Value}{l:List α}{fp:List Nat}(h:Sl k E w u l fp):
  ∃(news:List Value) (fx:List (List Nat)),Src w u l.length news∧fx.length=l.length∧news.length=l.length*k∧(∀i x f,l[i]? =some x→fx[i]? =some f→E w ((news.drop (i*k)).take k) x f)∧fx.flatten.Sublist fp:=by
 obtain⟨news,fx,h1,h2,h3,h4,h5,_⟩:=Aq G hk h
 exact⟨news,fx,h1,h2,h3,h4,h5⟩
theorem RO.fZ{ks kv:List Nat}{w w':World}{hp fY:Hp}{env env':Env}(s:mm ks kv w hp env w' fY env'){n:Nat}{o:Obj}{co:CO}
  (hk: ∀b,b∈co.fp→w'.heap[b]? =w.heap[b]?)(h:RO ty w hp env n o co):RO ty w' fY env' n (o.bl ks kv) co:=by
 cases o with
 |box c=>
  obtain⟨b,cs,e,rfl,hh,hc⟩:=h
  exact⟨b,cs,e,rfl,by rw[hk b (by simp)];exact hh,hc.map fun a u hr=>RA.fZ s hr⟩
 |arr t l=>exact RO.aS h hk
 |iM t l r=>
  obtain⟨h1,us,hB,h2,h3⟩:=h
  exact⟨h1,us,fD.aS pG hB hk,h2,fun i x u hx hu=>BE.fZ s (h3 i x u hx hu)⟩
def St.gone(st:St)(ks:List Nat)(d:Nat)(t:Tag)(l:List (T t)):St:=
 match ks with
 | []=>⟨st.n,st.sl,(d, .arr t l)::st.hp⟩
 |ks=>⟨st.n,st.sl.map fun e=>(e.1,e.2.bl ks []),(d, .arr t l)::bM ks [] st.hp⟩
theorem V.eO(v:V):v.bl [] []=v:=by
 unfold V.bl;split<;>simp
theorem S1.eO(x:S1):x.bl [] []=x:=by
 cases x with
 |a v=>simp[S1.bl,V.eO]
 |agg l=>simp only[S1.bl,S1.agg.injEq];rw[List.map_congr_left (g:=id) fun v _=>V.eO v,List.map_id]
theorem SV.eO(x:SV):x.bl [] []=x:=by
 cases x with
 |one x=>simp[SV.bl,S1.eO]
 |nV l=>simp only[SV.bl,SV.nV.injEq];rw[List.map_congr_left (g:=id) fun v _=>S1.eO v,List.map_id]
 |cond p x=>simp[SV.bl,S1.eO]
theorem B5(hp:Hp):bM [] [] hp=hp:=by
 unfold bM
 rw[List.filter_eq_self.2 (by simp),List.map_congr_left (g:=id),List.map_id]
 rintro⟨n,o⟩ _
 cases o with
 |box c=>simp only[Obj.bl,id];rw[List.map_congr_left (g:=id) fun v _=>V.eO v,List.map_id]
 |arr t l=>rfl
 |iM t l s=>cases s<;>rfl
theorem St.gone_eq(st:St)(ks:List Nat)(d:Nat)(t:Tag)(l:List (T t)):st.gone ks d t l=⟨st.n,st.sl.map fun e=>(e.1,e.2.bl ks []),(d, .arr t l)::bM ks [] st.hp⟩:=by
 unfold St.gone
 split
 ·rw[B5,List.map_congr_left (g:=id),List.map_id]
  rintro⟨n,x⟩ _
  simp[SV.eO]
 ·rfl
section
variable{P:Program}{zb:bK}{st st':St}{a:Act}{w:World}{env:Env}{Q:Exit→Act→World→Prop}{o:Oper}
theorem ox{ks:List Nat}(h:pinned ks=false){n:Nat}(hn:n∈ks):soft n=false:=by
 unfold pinned at h
 rw[List.any_eq_false]at h
 simpa using h n hn
theorem qX(g:Good ty zb st a.tmps w env)(hB:zb.w.heap.size≤w.heap.size){ks:List Nat}(hpk:pinned ks=false){d:Nat}(KH:gd d=false)(hd:look (bM ks [] st.hp) d=none){v v':Value}{w':World}{ob:Obj}{fp fx dZ:List Nat}
  (eN: ∀b,b∈fp++fx→ ∃i o,i∈ks∧look st.hp i=some o∧b∈(env i).fp)(xP: ∀b,v.ownBlock=some b→b∈fp)
  (Qk: ∀env':Env,env' d=⟨v',dZ⟩→mm ks [] w st.hp env w' ((d,ob)::bM ks [] st.hp) env'→RO ty w' ((d,ob)::bM ks [] st.hp) env' d ob ⟨v',dZ⟩)(hg:w.grownBy w' v.ownBlock)(hsub: ∀b,b∈dZ→b∈fp∨b∈fx∨b=w.heap.size):
  ∃env',Good ty zb ⟨st.n,st.sl.map fun e=>(e.1,e.2.bl ks []),(d,ob)::bM ks [] st.hp⟩ a.tmps w' env'∧(env' d).v=v'∧(∀n,n≠d→env' n=env n)∧(env' d).fp=dZ:=by
 refine⟨fun n=>if n=d then⟨v',dZ⟩else env n,?_,by simp,fun n hn=>by simp[hn],by simp⟩
 have hlk: ∀m o,look ((d,ob)::bM ks [] st.hp) m=some o→(m=d∧o=ob)∨(m≠d∧m∉ks∧ ∃o',look st.hp m=some o'∧o=o'.bl ks []):=by
  intro m o hm
  by_cases ig:m=d
  ·subst ig;rw[look_eq]at hm;simp only[Option.some.injEq]at hm;exact Or.inl ⟨rfl,hm.symm⟩
  ·rw[aR ig,bJ]at hm
   split at hm
   ·cases hm
   ·rename_i hks
    cases hq:look st.hp m with
    |none=>rw[hq]at hm;cases hm
    |some o'=>rw[hq]at hm;simp only[Option.map_some,Option.some.injEq]at hm;exact Or.inr ⟨ig,hks,o',rfl,hm.symm⟩
 have how: ∀b,b∈dZ→b<w.heap.size→ ∃i o,i∈ks∧look st.hp i=some o∧b∈(env i).fp:=by
  intro b hb hlt
  rcases hsub b hb with h|h|h
  ·exact eN b (List.mem_append_left _ h)
  ·exact eN b (List.mem_append_right _ h)
  ·omega
 have hnd: ∀m o,m∉ks→look st.hp m=some o→m≠d:=by
  rintro m o hks h1 rfl
  rw[bJ,if_neg hks,h1]at hd
  cases hd
 have hst: ∀m o,m∉ks→look st.hp m=some o→ ∀b,b∈(env m).fp→w'.heap[b]? =w.heap[b]? :=by
  intro m o hks h3 b hb
  refine hg.block b ((g.obj m o h3).oo b hb) fun e=> ?_
  obtain⟨i,oi,hi,h5,h6⟩:=eN b (List.mem_append_left _ (xP b e.symm))
  exact g.gK m i _ _ (fun e=>hks (e▸hi)) h3 h5 b hb h6
 have s:mm ks [] w st.hp env w' ((d,ob)::bM ks [] st.hp) (fun n=>if n=d then⟨v',dZ⟩else env n):=by
  refine⟨fun b hb hno=>hg.block b hb fun e=> ?_,?_,?_,?_⟩
  ·obtain⟨i,o',_,h1,h2⟩:=eN b (List.mem_append_left _ (xP b e.symm))
   exact hno ⟨i,o',h1,h2⟩
  ·rintro b hb ⟨m,o',h1,h2⟩
   rcases hlk m o' h1 with⟨rfl,_⟩| ⟨ig,hks,th,h3,rfl⟩
   ·simp at h2
    obtain⟨i,o',_,h3,h4⟩:=how b h2 hb
    exact⟨i,o',h3,h4⟩
   ·simp[ig]at h2
    exact⟨m,th,h3,h2⟩
  ·intro m o' hks h1
   have ig:=hnd m o' hks h1
   refine⟨o'.bl ks [],by rw[aR ig,bJ,if_neg hks,h1];rfl,by cases o'<;>simp[Obj.like,Obj.bl],by simp[ig]⟩
  ·rintro m t' l' ⟨hks,_⟩ h1
   have ig:=hnd m _ hks h1
   exact⟨by rw[aR ig,bJ,if_neg hks,h1];rfl,by simp[ig],hst m _ hks h1⟩
 refine g.fZ s (fun m o' hm=> ?_) (fun m m' o1 o2 hne h1 h2 b hb hb'=> ?_) (fun m o' hm b hb=> ?_) (fun m hm=> ?_)
 ·rcases hlk m o' hm with⟨e1,e2⟩| ⟨ig,hks,th,h3,rfl⟩
  ·rw[e1,e2]
   simp only[if_true]
   exact Qk _ (by simp) s
  ·simp only[if_neg ig]
   have hro:=g.obj m th h3
   exact hro.fZ s (hst m th hks h3)
 ·rcases hlk m o1 h1 with⟨e1,_⟩| ⟨ig,hks,q1,h3,_⟩<;>rcases hlk m' o2 h2 with⟨e2,_⟩| ⟨yV,F6,q2,h4,_⟩
  ·exact hne (e1.trans e2.symm)
  ·simp only[if_pos e1]at hb
   simp only[if_neg yV]at hb'
   have hlt:=(g.obj m' q2 h4).oo b hb'
   obtain⟨i,oi,hi,h5,h6⟩:=how b hb hlt
   exact g.gK m' i _ _ (fun e=>F6 (e▸hi)) h4 h5 b hb' h6
  ·simp only[if_pos e2]at hb'
   simp only[if_neg ig]at hb
   have hlt:=(g.obj m q1 h3).oo b hb
   obtain⟨i,oi,hi,h5,h6⟩:=how b hb' hlt
   exact g.gK m i _ _ (fun e=>hks (e▸hi)) h3 h5 b hb h6
  ·simp only[if_neg ig]at hb
   simp only[if_neg yV]at hb'
   exact g.gK m m' _ _ hne h3 h4 b hb hb'
 ·rcases hlk m o' hm with⟨e1,_⟩| ⟨ig,hks,q1,h3,_⟩
  ·simp only[if_pos e1]at hb
   by_cases hlt:b<w.heap.size
   ·obtain⟨i,oi,hi,h5,h6⟩:=how b hb hlt
    exact g.dom i oi h5 b h6
   ·exact Or.inr (by omega)
  ·simp only[if_neg ig]at hb
   exact g.dom m q1 h3 b hb
 ·have:m≠d:=by rintro rfl;rw[KH]at hm;cases hm
  simp only[if_neg this]
  exact g.pins m hm
theorem Er(g:Good ty zb st a.tmps w env)(hB:zb.w.heap.size≤w.heap.size){ks:List Nat}(hpk:pinned ks=false){d:Nat}(KH:gd d=false)(hd:look (bM ks [] st.hp) d=none){v v':Value}{w':World}{t:Tag}{l:List (T t)}{fp fx dZ:List Nat}
  (eN: ∀b,b∈fp++fx→ ∃i o,i∈ks∧look st.hp i=some o∧b∈(env i).fp)(xP: ∀b,v.ownBlock=some b→b∈fp)
  (Mw:fD (kk t) (rd t) 0 (ty t) w' v' l dZ)(hg:w.grownBy w' v.ownBlock)(hsub: ∀b,b∈dZ→b∈fp∨b∈fx∨b=w.heap.size):
  ∃env',Good ty zb ⟨st.n,st.sl.map fun e=>(e.1,e.2.bl ks []),(d, .arr t l)::bM ks [] st.hp⟩ a.tmps w' env'∧(env' d).v=v'∧(∀n,n≠d→env' n=env n)∧(env' d).fp=dZ:=
 qX g hB hpk KH hd eN xP (fun _ _ _=>RO.xG Mw) hg hsub
theorem uX(g:Good ty zb st a.tmps w env)(hB:zb.w.heap.size≤w.heap.size){ks:List Nat}(hpk:pinned ks=false){d:Nat}(KH:gd d=false)(hd:look (bM ks [] st.hp) d=none){v v':Value}{w':World}{t:Tag}{l:List (T t)}{fp fx dZ:List Nat}
  (eN: ∀b,b∈fp++fx→ ∃i o,i∈ks∧look st.hp i=some o∧b∈(env i).fp)(xP: ∀b,v.ownBlock=some b→b∈fp)
  (Mw:fD (kk t) (rd t) 0 (ty t) w' v' l dZ)(hg:w.grownBy w' v.ownBlock)(hsub: ∀b,b∈dZ→b∈fp∨b∈fx∨b=w.heap.size):
  ∃env',Good ty zb ⟨st.n,st.sl.map fun e=>(e.1,e.2.bl ks []),(d, .arr t l)::bM ks [] st.hp⟩ a.tmps w' env'∧(env' d).v=v':=by
 obtain⟨env',h1,h2,_⟩:=Er g hB hpk KH hd eN xP Mw hg hsub
 exact⟨env',h1,h2⟩
end
def yW(st:St)(t:Tag):S1→Option (List (T t)×List Nat)
 | .a (.own n)=>match look st.hp n with
   |some (.arr t' l)=>match gy t t' l with|some l=>some (l,[n])|none=>none
   |_=>none
 | .a (.lit (.slice none 0 0))=>some ([],[])
 |_=>none
def B6(st:St)(t:Tag):S1→Option (List (T t)×List Nat)
 | .a (.own n)=>match look st.hp n with
   |some (.arr t' l)=>match gy t t' l with|some l=>some (l,match flat t with|true=> []|false=> [n])|none=>none
   |_=>none
 | .a (.sl t' l)=>match flat t,gy t t' l with
   |true,some l=>some (l,[])
   |false,some l=>match l with| []=>some ([],[])|_=>none
   |_,_=>none
 | .a (.vw n _ t' l)=>match gy t t' l with
   |some l=>some (l,match flat t with|true=> []|false=> [n])
   |none=>none
 | .a (.wQ n t' l)=>match gy t t' l with
   |some l=>some (l,[n])
   |none=>none
 | .a (.lit (.slice none 0 0))=>some ([],[])
 |_=>none
def iT{α:Type}:List α→List α→List α
 | [],l=>l
 | [x],l=>x::l
 |k,l=>k++l
theorem cI{α:Type}(k l:List α):iT k l=k++l:=by
 unfold iT;split<;>rfl
def Ar(k m:List Nat):Bool:=k.all fun x=> !m.any fun y=>Nat.beq x y
def B7(P:Program)(ty:Tag→Nat)(Γ:Nat→TK)(st:St)(m0:Nat):Op→Option (List Prop×St×SV)
 | .call ⟨.builtin .append,xs,ts⟩=>match xs.toList,ts.toList with
   | [s,x],[t1,t2]=>match Γ t1,Nat.beq t1 t2 with
     | .sl t e,true=>match Nat.beq e (ty t),ep st [] s,ep st [] x with
       |true,some vs,some vx=>match yW st t vs,B6 st t vx with
        |some (l,k),some (lx,m)=>match Ar k m&& !pinned (iT k m)&& !gd m0,look (bM (iT k m) [] st.hp) m0 with
         |true,none=>some ([El P ty t,(l.length+lx.length)*cE t≤140737488355328∧l.length+lx.length≤maxLen],
           st.gone (iT k m) m0 t (l++lx), .one (.a (.own m0)))
         |_,_=>none
        |_,_=>none
       |_,_,_=>none
     |_,_=>none
   |_,_=>none
 |_=>none
section
variable{P:Program}{zb:bK}{st:St}{a:Act}{w:World}{env:Env}{Q:Exit→Act→World→Prop}{o:Oper}
theorem xQ(g:Good ty zb st a.tmps w env){t:Tag}{x:S1}{u:Value}{l:List (T t)}{k:List Nat}(hr:eg w st.hp env x u)(h:yW st t x=some (l,k)):
  pinned k=false→ ∃fp,fD (kk t) (rd t) 0 (ty t) w u l fp∧(∀b,b∈fp→ ∃i o,i∈k∧look st.hp i=some o∧b∈(env i).fp)
  :=by
 intro hpk
 unfold yW at h
 split at h
 ·rename_i n
  split at h
  ·rename_i t' l' hl
   split at h
   ·rename_i l2 hc
    simp only[Option.some.injEq,Prod.mk.injEq]at h
    obtain⟨rfl,rfl⟩:=h
    obtain⟨e,rfl⟩:=cD hc
    subst e
    obtain⟨_,rfl⟩:=hr
    exact⟨(env n).fp,RO.Ek (ox hpk (by simp)) (g.obj n _ hl),fun b hb=>⟨n,_,by simp,hl,hb⟩⟩
   ·cases h
  ·cases h
 ·simp only[Option.some.injEq,Prod.mk.injEq]at h
  obtain⟨rfl,rfl⟩:=h
  have hu:=(show eg w st.hp env (.a (.lit yM)) u from hr).lit
  subst hu
  exact⟨[],fD.nil _ _ _ _ _,by simp⟩
 ·cases h
theorem uY{t:Tag}(hf:flat t=true){u:Value}{l:List (T t)}{fp:List Nat}(hs:Sl (kk t) (rd t) w u l fp):
  ∃(news:List Value) (fx:List (List Nat)),Src w u l.length news∧fx.length=l.length∧news.length=l.length*kk t∧(∀i x f,l[i]? =some x→fx[i]? =some f→rd t w ((news.drop (i*kk t)).take (kk t)) x f)∧fx.flatten= []:=by
 obtain⟨news,fx,h1,h2,h3,h4,h5⟩:=pL (cY t) (gA t) hs
 refine⟨news,fx,h1,h2,h3,h4,?_⟩
 rw[List.flatten_eq_nil_iff]
 intro f hf'
 obtain⟨i,hi⟩:=List.getElem?_of_mem hf'
 have hil:i<l.length:=by have:=(List.getElem?_eq_some_iff.1 hi).1;omega
 exact Iq t hf (h4 i _ f (List.getElem?_eq_getElem hil) hi)
theorem Es(g:Good ty zb st a.tmps w env){t:Tag}{x:S1}{u:Value}{l:List (T t)}{k:List Nat}(hr:eg w st.hp env x u)(h:B6 st t x=some (l,k)):
  ∃(news:List Value) (fx:List (List Nat)),Src w u l.length news∧fx.length=l.length∧news.length=l.length*kk t∧(∀i x f,l[i]? =some x→fx[i]? =some f→rd t w ((news.drop (i*kk t)).take (kk t)) x f)∧
   (∀b,b∈fx.flatten→ ∃i o,i∈k∧look st.hp i=some o∧b∈(env i).fp)∧Own 0 w fx.flatten:=by
 unfold B6 at h
 split at h
 ·rename_i n
  split at h
  ·rename_i t' l' hl
   split at h
   ·rename_i l2 hc
    simp only[Option.some.injEq,Prod.mk.injEq]at h
    obtain⟨rfl,hk⟩:=h
    obtain⟨e,rfl⟩:=cD hc
    subst e
    obtain⟨_,rfl⟩:=hr
    have hb:=RO.sl (g.obj n _ hl)
    split at hk
    ·rename_i hf
     subst hk
     obtain⟨news,fx,h1,h2,h3,h4,h5⟩:=uY hf hb
     exact⟨news,fx,h1,h2,h3,h4,by simp[h5],by rw[h5];exact Own.nil _ _⟩
    ·subst hk
     obtain⟨news,fx,h1,h2,h3,h4,h5⟩:=pL (cY t') (gA t') hb
     have ho:=RO.own (g.obj n _ hl)
     exact⟨news,fx,h1,h2,h3,h4,fun b hb=>⟨n,_,by simp,hl,h5.subset hb⟩,⟨h5.nodup ho.nodup,fun b hb=>ho.ge b (h5.subset hb),fun b hb=>ho.kind b (h5.subset hb)⟩⟩
   ·cases h
  ·cases h
 ·rename_i t' l'
  split at h
  ·rename_i l2 hf hc
   simp only[Option.some.injEq,Prod.mk.injEq]at h
   obtain⟨rfl,rfl⟩:=h
   obtain⟨e,rfl⟩:=cD hc
   subst e
   obtain⟨fp,hs,_⟩:=hr
   obtain⟨news,fx,h1,h2,h3,h4,h5⟩:=uY hf hs
   exact⟨news,fx,h1,h2,h3,h4,by simp[h5],by rw[h5];exact Own.nil _ _⟩
  ·rename_i l2 hf hc
   split at h
   ·simp only[Option.some.injEq,Prod.mk.injEq]at h
    obtain⟨rfl,rfl⟩:=h
    obtain⟨e,he⟩:=cD hc
    subst e
    obtain rfl:l'= []:=he.symm
    obtain⟨fp,hs,_⟩:=hr
    obtain⟨news,fx,h1,h2,h3,h4,h5⟩:=pL (cY t') (gA t') hs
    have BA:fx= []:=List.eq_nil_of_length_eq_zero h2
    subst BA
    exact⟨news,[],h1,rfl,h3,by simp,by simp,Own.nil _ _⟩
   ·cases h
  ·cases h
 ·rename_i n _ t' l'
  split at h
  ·rename_i l2 hc
   simp only[Option.some.injEq,Prod.mk.injEq]at h
   obtain⟨rfl,hk⟩:=h
   obtain⟨e,rfl⟩:=cD hc
   subst e
   obtain⟨⟨tA,lA,hl⟩,⟨fp,hs,hnd,hsub⟩,_⟩:=hr
   split at hk
   ·rename_i hf
    subst hk
    obtain⟨news,fx,h1,h2,h3,h4,h5⟩:=uY hf hs
    exact⟨news,fx,h1,h2,h3,h4,by simp[h5],by rw[h5];exact Own.nil _ _⟩
   ·subst hk
    obtain⟨news,fx,h1,h2,h3,h4,h5⟩:=pL (cY t') (gA t') hs
    have ho:=RO.own (g.obj n _ hl)
    exact⟨news,fx,h1,h2,h3,h4,fun b hb=>⟨n,_,by simp,hl,hsub b (h5.subset hb)⟩,⟨h5.nodup hnd,fun b _=>Nat.zero_le _,fun b hb=>ho.kind b (hsub b (h5.subset hb))⟩⟩
  ·cases h
 ·rename_i n t' l'
  split at h
  ·rename_i l2 hc
   simp only[Option.some.injEq,Prod.mk.injEq]at h
   obtain⟨rfl,rfl⟩:=h
   obtain⟨e,rfl⟩:=cD hc
   subst e
   obtain⟨⟨tA,lA,hl⟩,b,fp,hs,hb,hnd,hsub⟩:=hr
   obtain⟨news,fx,h1,h2,h3,h4,_,h5⟩:=Aq (cY t') (gA t') hs
   have h5:=h5 b fp rfl
   have ho:=RO.own (g.obj n _ hl)
   exact⟨news,fx,h1,h2,h3,h4,fun c hc=>⟨n,_,by simp,hl,hsub c (by rw[←h5];exact hc)⟩,⟨by rw[h5];exact hnd,fun c _=>Nat.zero_le _,fun c hc=>ho.kind c (hsub c (by rw[←h5];exact hc))⟩⟩
  ·cases h
 ·simp only[Option.some.injEq,Prod.mk.injEq]at h
  obtain⟨rfl,rfl⟩:=h
  have hu:=(show eg w st.hp env (.a (.lit yM)) u from hr).lit
  subst hu
  exact⟨[],[],Or.inl ⟨rfl,rfl,rfl⟩,rfl,by simp,by simp,by simp,Own.nil _ _⟩
 ·cases h
theorem IJ{Γ:Nat→TK}(C: ∀t,bG P t (Γ t)){m0:Nat}{vc:List Prop}{st':St}{v:SV}(h:B7 P ty Γ st m0 o.op=some (vc,st',v))(g:Good ty zb st a.tmps w env)(hB:zb.w.heap.size≤w.heap.size)(hv: ∀q,q∈vc→q):
  o.wp P a w (fun a' w'=> ∃u env',a'=a.put o.dst u∧Kept zb w w'∧Good ty zb st' a.tmps w' env'∧st'.n=st.n∧lS w' st'.hp env' a.tmps v u) Q:=by
 have hop: ∀{x v},ep st [] x=some v→eg w st.hp env v (a.eval x):=fun hx=>cH g (fun e he=>by simp at he) hx
 generalize dM:o.op=op at h
 cases op with
 |call c=>
  obtain⟨callee,xs,ts⟩:=c
  cases callee with
  |builtin b=>
   cases b with
   |append=>
    simp only[B7]at h
    split at h
    ·rename_i s x t1 t2 hxl htl
     obtain rfl:xs= #[s,x]:=by cases xs;simp_all
     obtain rfl:ts= #[t1,t2]:=by cases ts;simp_all
     split at h
     ·rename_i t e hk B8
      have B8:=Nat.eq_of_beq_eq_true B8
      subst B8
      split at h
      ·rename_i vs vx he hs hx
       have he:=Nat.eq_of_beq_eq_true he
       split at h
       ·rename_i l k lx m hds Ql
        split at h
        ·rename_i hno hlk
         simp only[Bool.and_eq_true,Bool.not_eq_true']at hno
         obtain⟨⟨hno,hpk⟩,B2⟩:=hno
         rw[cI]at hpk
         have Oe:pinned k=false:=by
          unfold pinned at hpk ⊢
          rw[List.any_append,Bool.or_eq_false_iff]at hpk
          exact hpk.1
         simp only[Option.some.injEq,Prod.mk.injEq,cI]at h
         rw[cI]at hlk
         obtain⟨rfl,h2,rfl⟩:=h
         rw[St.gone_eq]at h2
         subst h2
         have nX:El P ty t:=hv _ (by simp)
         obtain⟨aH,bk⟩:(l.length+lx.length)*cE t≤140737488355328∧l.length+lx.length≤maxLen:=hv _ (by simp)
         obtain⟨fp,hD,ij⟩:=xQ g (hop hs) hds Oe
         obtain⟨news,fx,n1,n2,n3,n4,n5,n6⟩:=Es g (hop hx) Ql
         have hC:=C t1
         rw[hk]at hC
         have Ik:Own 0 w (fp++fx.flatten):=by
          have ho:=hD.own
          refine⟨List.nodup_append.2 ⟨ho.nodup,n6.nodup,?_⟩,fun b hb=> ?_,fun b hb=> ?_⟩
          ·rintro b hb c hc rfl
           obtain⟨i,oi,hi,h1,h2⟩:=ij b hb
           obtain⟨j,oj,hj,h3,h4⟩:=n5 b hc
           have hij:i≠j:=by
            rintro rfl
            simp only[Ar,List.all_eq_true,Bool.not_eq_true',List.any_eq_false]at hno
            exact hno i hi i hj (by simp)
           exact g.gK i j _ _ hij h1 h3 b h2 h4
          ·rcases List.mem_append.1 hb with hb|hb
           ·exact ho.ge b hb
           ·exact n6.ge b hb
          ·rcases List.mem_append.1 hb with hb|hb
           ·exact ho.kind b hb
           ·exact n6.kind b hb
         refine yC s x t1 dM (cY t) (gA t) 0 (ty t) (cT t) (cE t) (by rw[←he];exact hC.1) nX (kP t) _ l fp rfl hD _ rfl lx news fx n1 n2 n3 n4 Ik bk aH (Nat.zero_le _) ?_
         intro v' w' dZ k1 k2 k3 k4 k5 _
         obtain⟨env',hg',Db⟩:=uX (ty:=ty) g hB (ks:=k++m) hpk B2 hlk (v:=a.eval s) (fp:=fp) (fx:=fx.flatten)
          (by
           intro b hb
           rcases List.mem_append.1 hb with hb|hb
           ·obtain⟨i,oi,hi,h1⟩:=ij b hb;exact⟨i,oi,List.mem_append_left _ hi,h1⟩
           ·obtain⟨i,oi,hi,h1⟩:=n5 b hb;exact⟨i,oi,List.mem_append_right _ hi,h1⟩)
          (by
           intro b hb
           obtain⟨xs,aQ,_,_,_,eN,_⟩:=hD
           rw[eN,hb];simp)
          k1 k2 k4
         refine⟨v',env',rfl,⟨k2.os,k2.tape,k2.output,k2.size,fun b hb hn=>k2.block b (by omega) fun e=> ?_,k5⟩,hg',rfl,⟨t,_,look_eq⟩,Db.symm⟩
         have Et:b∈fp:=by
          obtain⟨xs,aQ,_,_,_,eN,_⟩:=hD
          rw[eN, ←e];simp
         obtain⟨i,oi,hi,h1,h2⟩:=ij b Et
         rcases g.dom i oi h1 b h2 with h|h
         ·exact hn h
         ·omega
        ·cases h
       ·cases h
      ·cases h
     ·cases h
    ·cases h
   |_=>simp[B7]at h
  |_=>simp[B7]at h
 |_=>simp[B7]at h
end
end Go.Proofs.YtjcojocjlglglaaGreat.G
namespace Go.Proofs.YtjcojocjlglglaaGreat.G
set_option linter.all false
open Go.RowKit L D
variable{ty:Tag→Nat}
def takes(st:St):List V→Option (List V×List Nat)
 | []=>some ([],[])
 | .lit v::r=>match takes st r with|some (c,k)=>some (.lit v::c,k)|none=>none
 | .own n::r=>match look st.hp n,takes st r with
   |some (.arr t l),some (c,k)=>some (.sl t l::c,n::k)
   |_,_=>none
 |_=>none
def uZ(st:St)(g:Tag):Nat→List (Nat×Operand)→Option (List Prop×List (T g)×List Nat)
 |_,[]=>some ([],[],[])
 |i,(j,x)::r=>match Nat.beq i j,ep st [] x with
  |true,some s=>match takes st (cellsOf s)with
   |some (c,k)=>match enc g c,uZ st g (i+1) r with
    |some (vc,y),some (vcs,ys,ks)=>some (vc++vcs,y::ys,k++ks)
    |_,_=>none
   |none=>none
  |_,_=>none
def fG(st:St):List V→Option (List V×List Nat)
 | []=>some ([],[])
 | .lit v::r=>match fG st r with|some (c,k)=>some (.lit v::c,k)|none=>none
 | .own n::r=>match look st.hp n,fG st r with
   |some (.arr t l),some (c,k)=>some (.sl t l::c,n::k)
   |_,_=>none
 | .vw n _ t l::r=>match look st.hp n,fG st r with
   |some (.arr _ _),some (c,k)=>some (.sl t l::c,n::k)
   |_,_=>none
 |_=>none
def pM(st:St)(g:Tag):Nat→List (Nat×Operand)→Option (List Prop×List (T g)×List Nat)
 |_,[]=>some ([],[],[])
 |i,(j,x)::r=>match Nat.beq i j,ep st [] x with
  |true,some s=>match fG st (cellsOf s)with
   |some (c,k)=>match enc g c,pM st g (i+1) r with
    |some (vc,y),some (vcs,ys,ks)=>some (vc++vcs,y::ys,k++ks)
    |_,_=>none
   |none=>none
  |_,_=>none
def jM:List Nat→Bool
 | []=>true
 |n::r=> !(r.any fun m=>Nat.beq n m)&&jM r
def va(P:Program)(ty:Tag→Nat)(Γ:Nat→TK)(st:St)(m0:Nat):Op→Option (List Prop×St×SV)
 | .buildSlice t len parts=>match Γ t with
   | .sl g e=>match Nat.beq e (ty g),Nat.beq parts.toList.length len,Nat.ble (len*kk g) 16777216,pM st g 0 parts.toList with
     |true,true,true,some (vc,xs,ks)=>match jM ks&& !pinned ks&& !gd m0,look (bM ks [] st.hp) m0 with
      |true,none=>some (El P ty g::vc,st.gone ks m0 g xs, .one (.a (.own m0)))
      |_,_=>none
     |_,_,_,_=>none
   |_=>none
 |_=>none
theorem fQ: ∀{l:List Nat},jM l=true→l.Nodup
 | [],_=>List.nodup_nil
 |n::r,h=>by
  simp only[jM,Bool.and_eq_true,Bool.not_eq_true',List.any_eq_false]at h
  exact List.nodup_cons.2 ⟨fun hm=>h.1 n hm (by simp),fQ h.2⟩
section
variable{P:Program}{zb:bK}{st:St}{a:Act}{w:World}{env:Env}{Q:Exit→Act→World→Prop}{o:Oper}
theorem pN(g:Good ty zb st a.tmps w env): ∀{l c:List V} {k:List Nat} {us:List Value},aU (RA w st.hp env) l us→takes st l=some (c,k)→k.Nodup→
  ∃fp,bA w c us fp∧Own 0 w fp∧ ∀b,b∈fp→ ∃i o,i∈k∧look st.hp i=some o∧b∈(env i).fp
 | [],c,k,us,hr,h,_=>by
   simp only[takes,Option.some.injEq,Prod.mk.injEq]at h
   obtain⟨rfl,rfl⟩:=h
   cases us with
   |nil=>exact⟨[],rfl,Own.nil _ _,by simp⟩
   |cons _ _=>exact hr.elim
 |v::r,c,k,us,hr,h,hnd=>by
  cases us with
  |nil=>exact hr.elim
  |cons u us=>
   cases v with
   |lit x=>
    simp only[takes]at h
    split at h
    ·rename_i c' k' h'
     simp only[Option.some.injEq,Prod.mk.injEq]at h
     obtain⟨rfl,rfl⟩:=h
     obtain⟨fp,h1,h2,h3⟩:=pN g hr.2 h' hnd
     obtain⟨e1,e2⟩:=hr.1
     exact⟨fp,⟨[],fp,⟨e1,e2,rfl⟩,h1,rfl⟩,h2,h3⟩
    ·cases h
   |own n=>
    simp only[takes]at h
    split at h
    ·rename_i t l c' k' hl h'
     simp only[Option.some.injEq,Prod.mk.injEq]at h
     obtain⟨rfl,rfl⟩:=h
     obtain⟨hn1,hn2⟩:=List.nodup_cons.1 hnd
     obtain⟨fp,h1,h2,h3⟩:=pN g hr.2 h' hn2
     obtain⟨_,rfl⟩:=hr.1
     have hb:=RO.sl (g.obj n _ hl)
     have ho:=RO.own (g.obj n _ hl)
     refine⟨(env n).fp++fp,⟨_,_,hb,h1,rfl⟩,⟨List.nodup_append.2 ⟨ho.nodup,h2.nodup,?_⟩,fun b hb=> ?_,fun b hb=> ?_⟩,fun b hb=> ?_⟩
     ·rintro b hb x hx rfl
      obtain⟨i,o,hi,h4,h5⟩:=h3 b hx
      exact g.gK n i _ _ (fun e=>hn1 (e▸hi)) hl h4 b hb h5
     ·rcases List.mem_append.1 hb with hb|hb
      ·exact ho.ge b hb
      ·exact h2.ge b hb
     ·rcases List.mem_append.1 hb with hb|hb
      ·exact ho.kind b hb
      ·exact h2.kind b hb
     ·rcases List.mem_append.1 hb with hb|hb
      ·exact⟨n,_,by simp,hl,hb⟩
      ·obtain⟨i,o,hi,h4,h5⟩:=h3 b hb
       exact⟨i,o,List.mem_cons_of_mem _ hi,h4,h5⟩
    ·cases h
   |_=>simp[takes]at h
theorem fH(g:Good ty zb st a.tmps w env){s:S1}{u:Value}(hr:eg w st.hp env s u)(hn:l8 (cellsOf s)=true):aU (RA w st.hp env) (cellsOf s) u.cells.toList:=by
 cases s with
 |a v=>
  have:=fP g (show RA w st.hp env v u from hr) (jZ hn v (by simp[cellsOf]))
  rw[this]
  exact⟨hr,trivial⟩
 |agg l=>
  obtain⟨cs,rfl,hl⟩:=hr
  exact hl
theorem dc{st:St}: ∀{l c:List V} {k:List Nat},takes st l=some (c,k)→l8 l=true
 | [],_,_,_=>rfl
 |v::r,c,k,h=>by
  cases v with
  |lit x=>
   simp only[takes]at h
   split at h
   ·rename_i h';exact dc (l:=r) h'
   ·cases h
  |own n=>
   simp only[takes]at h
   split at h
   ·rename_i h';exact dc (l:=r) h'
   ·cases h
  |_=>simp[takes]at h
theorem nr(g:Good ty zb st a.tmps w env): ∀{l c:List V} {k:List Nat} {us:List Value},aU (RA w st.hp env) l us→fG st l=some (c,k)→k.Nodup→
  ∃fp,bA w c us fp∧Own 0 w fp∧ ∀b,b∈fp→ ∃i o,i∈k∧look st.hp i=some o∧b∈(env i).fp
 | [],c,k,us,hr,h,_=>by
   simp only[fG,Option.some.injEq,Prod.mk.injEq]at h
   obtain⟨rfl,rfl⟩:=h
   cases us with
   |nil=>exact⟨[],rfl,Own.nil _ _,by simp⟩
   |cons _ _=>exact hr.elim
 |v::r,c,k,us,hr,h,hnd=>by
  cases us with
  |nil=>exact hr.elim
  |cons u us=>
   cases v with
   |lit x=>
    simp only[fG]at h
    split at h
    ·rename_i c' k' h'
     simp only[Option.some.injEq,Prod.mk.injEq]at h
     obtain⟨rfl,rfl⟩:=h
     obtain⟨fp,h1,h2,h3⟩:=nr g hr.2 h' hnd
     obtain⟨e1,e2⟩:=hr.1
     exact⟨fp,⟨[],fp,⟨e1,e2,rfl⟩,h1,rfl⟩,h2,h3⟩
    ·cases h
   |own n=>
    simp only[fG]at h
    split at h
    ·rename_i t l c' k' hl h'
     simp only[Option.some.injEq,Prod.mk.injEq]at h
     obtain⟨rfl,rfl⟩:=h
     obtain⟨hn1,hn2⟩:=List.nodup_cons.1 hnd
     obtain⟨fp,h1,h2,h3⟩:=nr g hr.2 h' hn2
     obtain⟨_,rfl⟩:=hr.1
     have hb:=RO.sl (g.obj n _ hl)
     have ho:=RO.own (g.obj n _ hl)
     refine⟨(env n).fp++fp,⟨_,_,hb,h1,rfl⟩,⟨List.nodup_append.2 ⟨ho.nodup,h2.nodup,?_⟩,fun b hb=> ?_,fun b hb=> ?_⟩,fun b hb=> ?_⟩
     ·rintro b hb x hx rfl
      obtain⟨i,o,hi,h4,h5⟩:=h3 b hx
      exact g.gK n i _ _ (fun e=>hn1 (e▸hi)) hl h4 b hb h5
     ·rcases List.mem_append.1 hb with hb|hb
      ·exact ho.ge b hb
      ·exact h2.ge b hb
     ·rcases List.mem_append.1 hb with hb|hb
      ·exact ho.kind b hb
      ·exact h2.kind b hb
     ·rcases List.mem_append.1 hb with hb|hb
      ·exact⟨n,_,by simp,hl,hb⟩
      ·obtain⟨i,o,hi,h4,h5⟩:=h3 b hb
       exact⟨i,o,List.mem_cons_of_mem _ hi,h4,h5⟩
    ·cases h
   |vw n p t l=>
    simp only[fG]at h
    split at h
    ·rename_i t0 l0 c' k' hl h'
     simp only[Option.some.injEq,Prod.mk.injEq]at h
     obtain⟨rfl,rfl⟩:=h
     obtain⟨hn1,hn2⟩:=List.nodup_cons.1 hnd
     obtain⟨fp,h1,h2,h3⟩:=nr g hr.2 h' hn2
     obtain⟨_,⟨fv,hs,Od,hsub⟩,_⟩:=hr.1
     have ho:=RO.own (g.obj n _ hl)
     refine⟨fv++fp,⟨_,_,hs,h1,rfl⟩,⟨List.nodup_append.2 ⟨Od,h2.nodup,?_⟩,fun b hb=> ?_,fun b hb=> ?_⟩,fun b hb=> ?_⟩
     ·rintro b hb x hx rfl
      obtain⟨i,o,hi,h4,h5⟩:=h3 b hx
      exact g.gK n i _ _ (fun e=>hn1 (e▸hi)) hl h4 b (hsub b hb) h5
     ·rcases List.mem_append.1 hb with hb|hb
      ·exact ho.ge b (hsub b hb)
      ·exact h2.ge b hb
     ·rcases List.mem_append.1 hb with hb|hb
      ·exact ho.kind b (hsub b hb)
      ·exact h2.kind b hb
     ·rcases List.mem_append.1 hb with hb|hb
      ·exact⟨n,_,by simp,hl,hsub b hb⟩
      ·obtain⟨i,o,hi,h4,h5⟩:=h3 b hb
       exact⟨i,o,List.mem_cons_of_mem _ hi,h4,h5⟩
    ·cases h
   |_=>simp[fG]at h
theorem iI{st:St}: ∀{l c:List V} {k:List Nat},fG st l=some (c,k)→l8 l=true
 | [],_,_,_=>rfl
 |v::r,c,k,h=>by
  cases v with
  |lit x=>
   simp only[fG]at h
   split at h
   ·rename_i h';exact iI (l:=r) h'
   ·cases h
  |own n=>
   simp only[fG]at h
   split at h
   ·rename_i h';exact iI (l:=r) h'
   ·cases h
  |vw n p t l=>
   simp only[fG]at h
   split at h
   ·rename_i h';exact iI (l:=r) h'
   ·cases h
  |_=>simp[fG]at h
theorem ve(g:Good ty zb st a.tmps w env){t:Tag}: ∀{ps:List (Nat×Operand)} {i:Nat} {vc:List Prop} {xs:List (T t)} {ks:List Nat},pM st t i ps=some (vc,xs,ks)→ks.Nodup→(∀q,q∈vc→q)→
  (ps.map fun p=>(p.1,a.eval p.2))=nJ i (ps.map fun p=>a.eval p.2)∧xs.length=ps.length∧ ∃aQ:List (List Nat),aQ.length=xs.length∧
   (∀(i:Nat) (x:T t) (f:List Nat),xs[i]? =some x→aQ[i]? =some f→ ∃p:Nat×Operand,ps[i]? =some p∧rd t w (a.eval p.2).cells.toList x f)∧Own 0 w aQ.flatten∧ ∀b,b∈aQ.flatten→ ∃i o,i∈ks∧look st.hp i=some o∧b∈(env i).fp
 | [],i,vc,xs,ks,h,_,_=>by
   simp only[pM,Option.some.injEq,Prod.mk.injEq]at h
   obtain⟨rfl,rfl,rfl⟩:=h
   exact⟨rfl,rfl,[],rfl,by simp,Own.nil _ _,by simp⟩
 | (j,x)::r,i,vc,xs,ks,h,hnd,hv=>by
   simp only[pM]at h
   split at h
   ·rename_i s hij hx
    have hij:=Nat.eq_of_beq_eq_true hij
    subst hij
    split at h
    ·rename_i c k hc
     split at h
     ·rename_i jL y vcs ys Pz he hb
      simp only[Option.some.injEq,Prod.mk.injEq]at h
      obtain⟨rfl,rfl,rfl⟩:=h
      obtain⟨hn1,hn2,IB⟩:=List.nodup_append.1 hnd
      obtain⟨q1,q2,aQ,q3,q4,q5,q6⟩:=ve g hb hn2 (fun q hq=>hv q (List.mem_append_right _ hq))
      obtain⟨fp,r1,r2,r3⟩:=nr g (fH g (cH g (fun e he=>by simp at he) hx) (iI hc)) hc hn1
      have hE:=l6 t he (fun q hq=>hv q (List.mem_append_left _ hq)) r1
      refine⟨by simp[nJ,q1],by simp[q2],fp::aQ,by simp[q3],?_,⟨?_,?_,?_⟩,?_⟩
      ·intro i' x' f hx' hf
       cases i' with
       |zero=>simp at hx' hf;subst hx';subst hf;exact⟨(i,x),rfl,hE⟩
       |succ n=>simp at hx' hf;obtain⟨p,h1,h2⟩:=q4 n x' f hx' hf;exact⟨p,by simpa using h1,h2⟩
      ·rw[List.flatten_cons]
       refine List.nodup_append.2 ⟨r2.nodup,q5.nodup,?_⟩
       rintro b hb z hz rfl
       obtain⟨n,o1,h1,h2,h3⟩:=r3 b hb
       obtain⟨m,o2,h4,h5,h6⟩:=q6 b hz
       exact g.gK n m _ _ (fun e=>IB n h1 m h4 e) h2 h5 b h3 h6
      ·intro b hb
       rw[List.flatten_cons]at hb
       rcases List.mem_append.1 hb with hb|hb
       ·exact r2.ge b hb
       ·exact q5.ge b hb
      ·intro b hb
       rw[List.flatten_cons]at hb
       rcases List.mem_append.1 hb with hb|hb
       ·exact r2.kind b hb
       ·exact q5.kind b hb
      ·intro b hb
       rw[List.flatten_cons]at hb
       rcases List.mem_append.1 hb with hb|hb
       ·obtain⟨n,o1,h1,h2,h3⟩:=r3 b hb;exact⟨n,o1,List.mem_append_left _ h1,h2,h3⟩
       ·obtain⟨n,o1,h1,h2,h3⟩:=q6 b hb;exact⟨n,o1,List.mem_append_right _ h1,h2,h3⟩
     ·cases h
    ·cases h
   ·cases h
theorem Eu{Γ:Nat→TK}(C: ∀t,bG P t (Γ t)){m0:Nat}{vc:List Prop}{st':St}{v:SV}(h:va P ty Γ st m0 o.op=some (vc,st',v))(g:Good ty zb st a.tmps w env)(hB:zb.w.heap.size≤w.heap.size)(hv: ∀q,q∈vc→q):
  o.wp P a w (fun a' w'=> ∃u env',a'=a.put o.dst u∧Kept zb w w'∧Good ty zb st' a.tmps w' env'∧st'.n=st.n∧lS w' st'.hp env' a.tmps v u) Q:=by
 generalize dM:o.op=op at h
 cases op with
 |buildSlice t len parts=>
  simp only[va]at h
  split at h
  ·rename_i gt e hk
   split at h
   ·rename_i jL xs ks he hlen uQ hb
    have he:=Nat.eq_of_beq_eq_true he
    split at h
    ·rename_i hnd hlk
     simp only[Bool.and_eq_true,Bool.not_eq_true']at hnd
     obtain⟨⟨hnd,hpk⟩,B2⟩:=hnd
     simp only[Option.some.injEq,Prod.mk.injEq]at h
     obtain⟨rfl,h2,rfl⟩:=h
     rw[St.gone_eq]at h2
     subst h2
     have nX:El P ty gt:=hv _ (by simp)
     obtain⟨q1,q2,aQ,q3,q4,q5,q6⟩:=ve g hb (fQ hnd) (fun q hq=>hv q (by simp[hq]))
     have hC:=C t
     rw[hk,he]at hC
     obtain⟨w',r1,r2,r3⟩:=ni (P:=P) (w:=w) (a:=a) dM hC.1 nX (Nat.le_of_ble_eq_true uQ) (Nat.eq_of_beq_eq_true hlen) (Nat.zero_le _) q1 q2 q3 q4 q5
     obtain⟨env',hg',Db⟩:=uX (ty:=ty) g hB (ks:=ks) hpk B2 hlk (v:=yM) (fp:= []) (fx:=aQ.flatten) (by simpa using q6) (by intro b hb;cases hb) r3
      ⟨r2.os,r2.tape,r2.output,r2.size,fun b hb _=>r2.block b hb⟩ (by
       intro b hb
       rcases List.mem_cons.1 hb with h|h
       ·exact Or.inr (Or.inr h)
       ·exact Or.inr (Or.inl h))
     unfold Oper.wp
     rw[r1]
     exact⟨_,env',rfl,fE r2 hB,hg',rfl,⟨gt,_,look_eq⟩,Db.symm⟩
    ·cases h
   ·cases h
  ·cases h
 |_=>simp[va]at h
end
end Go.Proofs.YtjcojocjlglglaaGreat.G
namespace Go.Proofs.YtjcojocjlglglaaGreat.G
set_option linter.all false
open Go.RowKit L D
variable{ty:Tag→Nat}
theorem sG{w:World}{b o:Nat}{x y:List Value}(hx:w.rangeAt b o x)(hy:w.rangeAt b (o+x.length) y):w.rangeAt b o (x++y):=by
 intro j v hv
 by_cases hj:j<x.length
 ·rw[List.getElem?_append_left hj]at hv;exact hx j v hv
 ·rw[List.getElem?_append_right (by omega)]at hv
  have:=hy _ v hv
  rwa [show o+x.length+(j-x.length)=o+j by omega]at this
theorem yX{w:World}{b o n:Nat}{cs:List Value}(h:w.rangeAt b o cs):w.rangeAt b o (cs.take n):=by
 intro j v hv
 rw[List.getElem?_take]at hv
 split at hv
 ·exact h j v hv
 ·cases hv
theorem yY{w:World}{b o n:Nat}{cs:List Value}(h:w.rangeAt b o cs):w.rangeAt b (o+n) (cs.drop n):=by
 intro j v hv
 rw[List.getElem?_drop]at hv
 have:=h _ v hv
 rwa [show o+n+j=o+(n+j)by omega]
theorem mo{w:World}{b o off:Nat}{cs us:List Value}(h:w.rangeAt b o cs)(hl:off+us.length≤cs.length)(ht:w.there b (o+off) us.length):
  (w.setCells b (o+off) us).rangeAt b o (cs.take off++(us++cs.drop (off+us.length))):=by
 have l1:(cs.take off).length=off:=by rw[List.length_take];omega
 refine sG (World.rangeAt_setCells_apart (yX h) _ _ _ (Or.inr (Or.inl (by rw[l1];exact Nat.le_refl _)))) ?_
 rw[l1]
 refine sG (World.rangeAt_setCells_same w b _ us ht) ?_
 rw[Nat.add_assoc]
 exact World.rangeAt_setCells_apart (yY h) _ _ _ (Or.inr (Or.inr (by omega)))
theorem bA.Mx{w:World}{x y z:List V}{us vs ts:List Value}{f g h:List Nat}(a:bA w x us f)(b:bA w y vs g)(c:bA w z ts h):bA w (x++(y++z)) (us++(vs++ts)) (f++(g++h)):=bA.app a (bA.app b c)
theorem bA.split{w:World}: ∀(n:Nat) {c:List V} {cs:List Value} {f:List Nat},bA w c cs f→ ∃f1 f2,f=f1++f2∧bA w (c.take n) (cs.take n) f1∧bA w (c.drop n) (cs.drop n) f2
 |0,c,cs,f,h=>⟨[],f,rfl,by simp[bA],by simpa using h⟩
 |n+1,[],[],f,h=>⟨[],f,rfl,by simp[bA],by simpa using h⟩
 |n+1,v::r,u::us,f,⟨f1,f2,h1,h2,e⟩=>by
  obtain⟨g1,g2,k1,k2,k3⟩:=bA.split n h2
  exact⟨f1++g1,g2,by rw[e,k1,List.append_assoc],⟨f1,g1,h1,k2,rfl⟩,by simpa using k3⟩
 |_+1,[],_::_,_,h=>h.elim
 |_+1,_::_,[],_,h=>h.elim
theorem bA.BC{w:World}{c d vs:List V}{cs us:List Value}{f g:List Nat}{off:Nat}(h:bA w c cs f)(hv:bA w vs us g)(hs:G.BC c off vs=some d):
  ∃f1 f2 f3,f=f1++(f2++f3)∧bA w d (cs.take off++(us++cs.drop (off+us.length))) (f1++(g++f3))∧off+us.length≤cs.length:=by
 unfold G.BC at hs
 split at hs
 ·rename_i hb
  have hb:=Nat.le_of_ble_eq_true hb
  simp only[Option.some.injEq]at hs
  subst hs
  obtain⟨f1,f',e1,k1,k2⟩:=bA.split off h
  obtain⟨f2,f3,e2,_,k4⟩:=bA.split us.length k2
  have h1:=h.len
  have h2:=hv.len
  refine⟨f1,f2,f3,by rw[e1,e2],?_,by omega⟩
  have:=bA.Mx k1 hv k4
  rw[List.drop_drop,List.drop_drop]at this
  rw[←h2]
  exact this
 ·cases hs
theorem mq{aQ:List (List Nat)}{i:Nat}{f':List Nat}{b:Nat}(h:b∈(aQ.set i f').flatten):b∈f'∨ ∃j f,j≠i∧aQ[j]? =some f∧b∈f:=by
 obtain⟨f,hf,hb⟩:=List.mem_flatten.1 h
 obtain⟨j,hj⟩:=List.getElem?_of_mem hf
 by_cases hji:j=i
 ·subst hji
  have hlt:=(List.getElem?_eq_some_iff.1 hj).1
  rw[List.length_set]at hlt
  rw[List.getElem?_set_self hlt]at hj
  simp only[Option.some.injEq]at hj
  subst hj
  exact Or.inl hb
 ·rw[List.getElem?_set_ne (Ne.symm hji)]at hj
  exact Or.inr ⟨j,f,hji,hj,hb⟩
theorem jN{aQ:List (List Nat)}{i:Nat}{f':List Nat}(h:aQ.flatten.Nodup)(hf:f'.Nodup)(hd: ∀j f,j≠i→aQ[j]? =some f→ ∀b,b∈f→b∉f'):(aQ.set i f').flatten.Nodup:=by
 have h1:=List.pairwise_flatten.1 h
 refine List.pairwise_flatten.2 ⟨fun l hl=> ?_,?_⟩
 ·obtain⟨j,hj⟩:=List.getElem?_of_mem hl
  by_cases hji:j=i
  ·subst hji
   have hlt:=(List.getElem?_eq_some_iff.1 hj).1
   rw[List.length_set]at hlt
   rw[List.getElem?_set_self hlt]at hj
   simp only[Option.some.injEq]at hj
   subst hj
   exact hf
  ·rw[List.getElem?_set_ne (Ne.symm hji)]at hj
   exact h1.1 _ (List.mem_of_getElem? hj)
 ·have h2:=List.pairwise_iff_getElem.1 h1.2
  rw[List.pairwise_iff_getElem]
  intro p q hp hq hpq x hx y hy e
  subst e
  rw[List.length_set]at hp hq
  rw[List.getElem_set]at hx hy
  split at hx<;>split at hy
  ·omega
  ·rename_i e1 e2
   subst e1
   exact hd q _ (by omega) (List.getElem?_eq_getElem hq) x hy hx
  ·rename_i e1 e2
   subst e2
   exact hd p _ (by omega) (List.getElem?_eq_getElem hp) x hx hy
  ·exact h2 p q hp hq hpq x hx x hy rfl
theorem qY{α:Type}{k:Nat}{E:ER α}(G:dK k E){w w':World}{b off:Nat}{l:List α}{aQ:List (List Nat)}(h:nS k E w b off l aQ){i:Nat}{x':α}{f':List Nat}{cs':List Value}
  (hr:w'.rangeAt b (off+i*k) cs')(hE:E w' cs' x' f')(ho: ∀j cs,j≠i→cs.length=k→w.rangeAt b (off+j*k) cs→w'.rangeAt b (off+j*k) cs)(ha: ∀j f,j≠i→aQ[j]? =some f→cL w w' f):
  nS k E w' b off (l.set i x') (aQ.set i f'):=by
 refine⟨by rw[List.length_set,List.length_set];exact h.1,fun j y fy hy m6=> ?_⟩
 by_cases hj:i=j
 ·subst hj
  have hi:=(List.getElem?_eq_some_iff.1 hy).1
  rw[List.length_set]at hi
  have hi2:=(List.getElem?_eq_some_iff.1 m6).1
  rw[List.length_set]at hi2
  rw[List.getElem?_set_self hi]at hy
  rw[List.getElem?_set_self hi2]at m6
  simp only[Option.some.injEq]at hy m6
  subst hy;subst m6
  exact⟨cs',hr,hE⟩
 ·rw[List.getElem?_set_ne hj]at hy m6
  obtain⟨cy,Qm,Fk⟩:=h.2 j y fy hy m6
  exact⟨cy,ho j cy (Ne.symm hj) (G.len Fk) Qm,G.aS Fk (ha j fy (Ne.symm hj) m6)⟩
theorem KI{α:Type}{k:Nat}{E:ER α}(G:dK k E){e:Nat}{w w':World}{v:Value}{l l':List α}{fp dZ:List Nat}(h:fD k E 0 e w v l fp)(hs:Shape w w')(h':Sl k E w' v l' dZ)(ho:Own 0 w' dZ)(hsub: ∀b,b∈dZ→b∈fp):
  ∃Fg,fD k E 0 e w' v l' Fg∧ ∀b,b∈Fg→b∈fp:=by
 rcases h.part with⟨rfl,rfl,rfl⟩| ⟨g,n,aQ,rfl,hn,rfl,hp⟩
 ·obtain⟨oa,cap,hv,_,_,h3⟩:=h'
  simp only[Value.slice.injEq]at hv
  obtain⟨rfl,hl,rfl⟩:=hv
  have:l'= []:=List.eq_nil_of_length_eq_zero hl.symm
  subst this
  exact⟨[],fD.nil _ _ _ _ _,by simp⟩
 ·obtain⟨oa,cap,hv,hc,hm,h3⟩:=h'
  simp only[Value.slice.injEq]at hv
  obtain⟨rfl,hl,rfl⟩:=hv
  obtain⟨c,tj,Dc⟩:=hp.oo
  obtain⟨c',hs1,Ij⟩:=hs g c e tj
  rcases h3 with⟨rfl,rfl,_⟩| ⟨b,off,gf,hb,Qn,rfl,hE⟩
  ·rw[hl]
   refine⟨[g],Part.Ek G (l:= []) (aQ:= []) ⟨⟨c',hs1,by rw[Ij,Dc]⟩,⟨rfl,by simp⟩,⟨by simp,by simp,fun b hb=> ?_⟩,hm⟩ (Nat.zero_le _),by simp⟩
   simp only[List.flatten_nil,List.mem_singleton]at hb
   exact⟨_,_,by rw[hb];exact hs1⟩
  ·simp only[Option.some.injEq,Addr.mk.injEq,and_true]at hb
   obtain⟨rfl,rfl⟩:=hb
   rw[hl]
   exact⟨_,Part.Ek G ⟨⟨c',hs1,by rw[Ij,Dc]⟩,hE,ho,hm⟩ hc,hsub⟩
def fits:TK→S1→Bool
 | .st z _ _, .agg c=>Nat.beq c.length z.length
 | .st _ _ _,_=>false
 | .other,_=>false
 |_, .a _=>true
 |_,_=>false
theorem As{k:TK}{c:List V}(h:fits k (.agg c)=true): ∃z tg fo,k= .st z tg fo∧Nat.beq c.length z.length=true:=by
 cases k with
 |st z tg fo=>exact⟨z,tg,fo,rfl,h⟩
 |_=>cases h
theorem At{k:TK}{v:V}(h:fits k (.a v)=true):(∀z tg fo,k≠ .st z tg fo)∧k≠ .other:=by
 cases k with
 |st z tg fo=>cases h
 |other=>cases h
 |_=>exact⟨fun _ _ _ e=>(by cases e),fun e=>(by cases e)⟩
def St.F9(st:St)(ms:List Nat)(n:Nat)(t:Tag)(l:List (T t)):St:=⟨st.n,st.sl.map fun e=>(e.1,e.2.bl ms [n]),(n, .arr t l)::bM ms [n] st.hp⟩
def Dd(n:Nat)(ms:List Nat):Bool:=jM (n::ms)&& !pinned ms&&(match ms with| []=>true|_=> !gd n)
def IK(Γ:Nat→TK)(st:St):Op→Option (List Prop×St)
 | .store t x y=>match ep st [] x,ep st [] y with
   |some (.a (.jm n i off)),some v=>match look st.hp n with
    |some (.arr g l)=>match fits (Γ t) v,takes st (cellsOf v)with
     |true,some (c,ms)=>match BC (dec g (l.getD i (au g))) off c with
      |some d=>match enc g d,Dd n ms with
       |some (vc,y'),true=>some ((i<l.length)::vc,st.F9 ms n g (l.set i y'))
       |_,_=>none
      |none=>none
     |_,_=>none
    |_=>none
   |_,_=>none
 |_=>none
section
variable{P:Program}{zb:bK}{st st':St}{a:Act}{w:World}{env:Env}{Q:Exit→Act→World→Prop}{o:Oper}
theorem Au(g:Good ty zb st a.tmps w env){n:Nat}{t:Tag}{l l':List (T t)}(hl:look st.hp n=some (.arr t l)){ms:List Nat}(hok:Dd n ms=true){w':World}{dZ fx:List Nat}
  (BA: ∀b,b∈fx→ ∃i o,i∈ms∧look st.hp i=some o∧b∈(env i).fp)(hsub: ∀b,b∈dZ→b∈(env n).fp∨b∈fx)(wV:gd n=true→ ∀b,b∈dZ→b∈(env n).fp)
  (hk: ∀b,b∉(env n).fp→b∉fx→b<w.heap.size→w'.heap[b]? =w.heap[b]?)(Og:iG ty w' n t l' ⟨(env n).v,dZ⟩):
  ∃env',Good ty zb (st.F9 ms n t l') a.tmps w' env'∧(env' n).v=(env n).v:=by
 simp only[Dd,Bool.and_eq_true,Bool.not_eq_true']at hok
 obtain⟨⟨hnd,hpk⟩,My⟩:=hok
 have hnd:=fQ hnd
 have hnm:n∉ms:=(List.nodup_cons.1 hnd).1
 refine⟨fun m=>if m=n then⟨(env n).v,dZ⟩else env m,?_,by simp⟩
 have hlk: ∀m o,look ((n,Obj.arr t l')::bM ms [n] st.hp) m=some o→(m=n∧o= .arr t l')∨(m≠n∧m∉ms∧ ∃o',look st.hp m=some o'∧o=o'.bl ms [n]):=by
  intro m o hm
  by_cases ig:m=n
  ·subst ig;rw[look_eq]at hm;simp only[Option.some.injEq]at hm;exact Or.inl ⟨rfl,hm.symm⟩
  ·rw[aR ig,bJ]at hm
   split at hm
   ·cases hm
   ·rename_i hks
    cases hq:look st.hp m with
    |none=>rw[hq]at hm;cases hm
    |some o'=>rw[hq]at hm;simp only[Option.map_some,Option.some.injEq]at hm;exact Or.inr ⟨ig,hks,o',rfl,hm.symm⟩
 have how: ∀b,b∈dZ→ ∃i o,(i=n∨i∈ms)∧look st.hp i=some o∧b∈(env i).fp:=by
  intro b hb
  rcases hsub b hb with h|h
  ·exact⟨n,_,Or.inl rfl,hl,h⟩
  ·obtain⟨i,o,h1,h2,h3⟩:=BA b h;exact⟨i,o,Or.inr h1,h2,h3⟩
 have hst: ∀m o,m≠n→m∉ms→look st.hp m=some o→ ∀b,b∈(env m).fp→w'.heap[b]? =w.heap[b]? :=by
  intro m o hmn hks h3 b hb
  refine hk b (fun h=>g.gK m n _ _ hmn h3 hl b hb h) (fun h=> ?_) ((g.obj m o h3).oo b hb)
  obtain⟨i,oi,hi,h5,h6⟩:=BA b h
  exact g.gK m i _ _ (fun e=>hks (e▸hi)) h3 h5 b hb h6
 have s:mm ms [n] w st.hp env w' ((n, .arr t l')::bM ms [n] st.hp) (fun m=>if m=n then⟨(env n).v,dZ⟩else env m):=by
  refine⟨fun b hb hno=>hk b (fun h=>hno ⟨n,_,hl,h⟩) (fun h=> ?_) hb,?_,?_,?_⟩
  ·obtain⟨i,oi,hi,h5,h6⟩:=BA b h
   exact hno ⟨i,oi,h5,h6⟩
  ·rintro b hb ⟨m,o',h1,h2⟩
   rcases hlk m o' h1 with⟨rfl,rfl⟩| ⟨ig,hks,th,h3,rfl⟩
   ·simp at h2
    obtain⟨i,o',_,h3,h4⟩:=how b h2
    exact⟨i,o',h3,h4⟩
   ·simp[ig]at h2
    exact⟨m,th,h3,h2⟩
  ·intro m o' hks h1
   by_cases hmn:m=n
   ·subst hmn
    rw[hl]at h1
    simp only[Option.some.injEq]at h1
    subst h1
    exact⟨_,look_eq,rfl,by simp⟩
   ·exact⟨o'.bl ms [n],by rw[aR hmn,bJ,if_neg hks,h1];rfl,by cases o'<;>simp[Obj.like,Obj.bl],by simp[hmn]⟩
  ·rintro m t' l2 ⟨hks,hmn⟩ h1
   have hmn:m≠n:=by simpa using hmn
   exact⟨by rw[aR hmn,bJ,if_neg hks,h1];rfl,by simp[hmn],hst m _ hmn hks h1⟩
 refine g.fZ s (fun m o' hm=> ?_) (fun m m' o1 o2 hne h1 h2 b hb hb'=> ?_) (fun m o' hm b hb=> ?_) (fun m hm=> ?_)
 ·rcases hlk m o' hm with⟨rfl,rfl⟩| ⟨ig,hks,th,h3,rfl⟩
  ·simp only[if_true];exact Og
  ·simp only[if_neg ig]
   exact(g.obj m th h3).fZ s (hst m th ig hks h3)
 ·rcases hlk m o1 h1 with⟨e1,_⟩| ⟨ig,hks,q1,h3,_⟩<;>rcases hlk m' o2 h2 with⟨e2,_⟩| ⟨yV,F6,q2,h4,_⟩
  ·exact hne (e1.trans e2.symm)
  ·simp only[if_pos e1]at hb
   simp only[if_neg yV]at hb'
   obtain⟨i,oi,hi,h5,h6⟩:=how b hb
   refine g.gK m' i _ _ (fun e=> ?_) h4 h5 b hb' h6
   rcases hi with hi|hi
   ·exact yV (e.trans hi)
   ·exact F6 (e▸hi)
  ·simp only[if_pos e2]at hb'
   simp only[if_neg ig]at hb
   obtain⟨i,oi,hi,h5,h6⟩:=how b hb'
   refine g.gK m i _ _ (fun e=> ?_) h3 h5 b hb h6
   rcases hi with hi|hi
   ·exact ig (e.trans hi)
   ·exact hks (e▸hi)
  ·simp only[if_neg ig]at hb
   simp only[if_neg yV]at hb'
   exact g.gK m m' _ _ hne h3 h4 b hb hb'
 ·rcases hlk m o' hm with⟨e1,_⟩| ⟨ig,hks,q1,h3,_⟩
  ·simp only[if_pos e1]at hb
   obtain⟨i,oi,_,h5,h6⟩:=how b hb
   exact g.dom i oi h5 b h6
  ·simp only[if_neg ig]at hb
   exact g.dom m q1 h3 b hb
 ·by_cases hmn:m=n
  ·subst hmn
   simp only[if_true]
   exact⟨(g.pins m hm).1,fun b hb=>(g.pins m hm).2 b (wV hm b hb)⟩
  ·simp only[if_neg hmn]
   exact g.pins m hm
theorem IL{Γ:Nat→TK}(C: ∀t,bG P t (Γ t))(Z: ∀t,(∀z tg fo,Γ t≠ .st z tg fo)→Γ t≠ .other→(P.info? t).map (·.size)=some 1){vc:List Prop}(h:IK Γ st o.op=some (vc,st'))(g:Good ty zb st a.tmps w env)(hv: ∀q,q∈vc→q):
  o.wp P a w (fun a' w'=> ∃env',a'=a.put o.dst undef∧Kept zb w w'∧Good ty zb st' a.tmps w' env'∧st'.n=st.n) Q:=by
 have hop: ∀{x v},ep st [] x=some v→eg w st.hp env v (a.eval x):=fun hx=>cH g (fun e he=>by simp at he) hx
 generalize dM:o.op=op at h
 cases op with
 |store t x y=>
  simp only[IK]at h
  split at h
  ·rename_i n i off v hx hy
   have hx:=hop hx
   have hy:=hop hy
   split at h
   ·rename_i gt l hl
    split at h
    ·rename_i c ms hfit Ew
     split at h
     ·rename_i d hs
      split at h
      ·rename_i jL y' he hok
       simp only[Option.some.injEq,Prod.mk.injEq]at h
       obtain⟨rfl,rfl⟩:=h
       have hi:i<l.length:=hv _ (by simp)
       have Mz:=hok
       simp only[Dd,Bool.and_eq_true,Bool.not_eq_true']at Mz
       obtain⟨⟨hnd,hpk⟩,My⟩:=Mz
       have hnd:=fQ hnd
       have hnm:n∉ms:=(List.nodup_cons.1 hnd).1
       obtain⟨t1,l1,lU,b2,o2,Oh,MA,BG,hu⟩:=hx
       rw[hl]at lU
       simp only[Option.some.injEq,Obj.arr.injEq]at lU
       obtain⟨rfl,_⟩:=lU
       have hro:=g.obj n _ hl
       obtain⟨oa,cap,BI,tj,Dc,h3⟩:=RO.sl hro
       have hown:=RO.own hro
       rcases h3 with⟨rfl,_⟩| ⟨b,o1,aQ,BF,bk,eN,hE⟩
       ·simp at hi
       rw[BI,BF]at BG
       simp only[Value.slice.injEq,Option.some.injEq,Addr.mk.injEq,and_true]at BG
       obtain⟨⟨rfl,rfl⟩,rfl,rfl⟩:=BG
       have JU:l[i]? =some (l.getD i (au gt)):=by rw[List.getD_eq_getElem?_getD,List.getElem?_eq_getElem hi];rfl
       obtain⟨f,hf⟩:=e9 hE.1 JU
       obtain⟨cs,td,KJ⟩:=hE.2 _ _ f JU hf
       have hlen:=(cY gt).len KJ
       rw[eN]at hown
       have kW:=List.nodup_cons.1 hown.nodup
       obtain⟨fx,C8,Oi,BA⟩:=pN g (fH g hy (dc Ew)) Ew (List.nodup_cons.1 hnd).2
       obtain⟨f1,f2,f3,C3,hrd,hlo⟩:=bA.BC (reads gt KJ) C8 hs
       have MB:=l6 gt he (fun q hq=>hv q (by simp[hq])) hrd
       have hsz:(P.info? t).map (·.size)=some (a.eval y).cells.toList.length∧ ∀u,u∈(a.eval y).cells.toList→u.oneCell'=true:=by
        refine⟨?_,nk g (fH g hy (dc Ew)) (jZ (dc Ew))⟩
        cases v with
        |agg c'=>
         have hk: ∃z tg fo,Γ t= .st z tg fo∧Nat.beq c'.length z.length=true:=by
          exact As hfit
         obtain⟨z,tg,fo,hk,hfit⟩:=hk
         have hC:=C t
         rw[hk]at hC
         obtain⟨fs,_,hi2,_⟩:=hC
         obtain⟨us,IF,B1⟩:=hy
         have:=Nat.eq_of_beq_eq_true hfit
         have IM:=B1.len
         rw[IF]
         cases hq:P.info? t with
         |none=>simp[hq]at hi2
         |some inf=>simp[hq]at hi2;simp[hi2.1,Value.cells,IM,this]
        |a v'=>
         have hk:(∀z tg fo,Γ t≠ .st z tg fo)∧Γ t≠ .other:=by
          exact At hfit
         have hne:v'≠ .any:=by rintro rfl;simp[cellsOf,takes]at Ew
         have:=fP g (show RA w st.hp env v' (a.eval y)from hy) hne
         rw[this]
         exact Z t hk.1 hk.2
       obtain⟨cb,eb,vf⟩:=hown.kind b (by simp)
       have Il:w.there b (o1+i*kk gt+off) (a.eval y).cells.toList.length:=by
        refine BU vf _ _ ?_
        have xK:o1+i*kk gt+cs.length≤cb.size:=by
         have wU:=gA gt
         have:=td (cs.length-1) _ (List.getElem?_eq_getElem (by omega))
         rw[zY vf]at this
         have:=(Array.getElem?_eq_some_iff.1 this).1
         omega
        omega
       have hkeep: ∀x,x≠b→(w.setCells b (o1+i*kk gt+off) (a.eval y).cells.toList).heap[x]? =w.heap[x]? :=fun x hx=>bH b _ _ w x hx
       have De: ∀x,x∈fx→x≠b:=by
        rintro x hx rfl
        obtain⟨m,om,hm,h5,h6⟩:=BA x hx
        exact g.gK n m _ _ (fun e=>hnm (e▸hm)) hl h5 x (by rw[eN];simp) h6
       have Et: ∀x,x∈aQ.flatten→x≠b:=fun x hx e=>kW.1 (e▸hx)
       have nY: ∀x,x∈f1++(fx++f3)→x∈f∨x∈fx:=by
        intro x hx
        rw[C3]
        rcases List.mem_append.1 hx with hx|hx
        ·exact Or.inl (List.mem_append_left _ hx)
        ·rcases List.mem_append.1 hx with hx|hx
         ·exact Or.inr hx
         ·exact Or.inl (List.mem_append_right _ (List.mem_append_right _ hx))
       have KB: ∀x,x∈f1++(fx++f3)→x≠b:=by
        intro x hx
        rcases nY x hx with h|h
        ·exact Et x (bE hf h)
        ·exact De x h
       have D8:cL w (w.setCells b (o1+i*kk gt+off) (a.eval y).cells.toList) (f1++(fx++f3)):=fun x hx=>hkeep x (KB x hx)
       have Ex:=qY (cY gt) (w':=w.setCells b (o1+i*kk gt+off) (a.eval y).cells.toList) hE (i:=i) (x':=y') (f':=f1++(fx++f3))
        (mo td hlo Il) ((cY gt).aS MB D8)
        (fun j cs' hj xK hr=>World.rangeAt_setCells_apart hr _ _ _ (Or.inr (by
         rw[xK]
         rcases Nat.lt_or_ge j i with h1|h1
         ·left
          have:=Nat.mul_le_mul_right (kk gt) (show j+1≤i by omega)
          rw[Nat.add_mul]at this;omega
         ·right
          have:=Nat.mul_le_mul_right (kk gt) (show i+1≤j by omega)
          rw[Nat.add_mul]at this;omega)))
        (fun j f' _ hf' x hx=>hkeep x (Et x (bE hf' hx)))
       have KK:(f1++(fx++f3)).Nodup:=by
        have h1:=(List.pairwise_flatten.1 kW.2).1 f (List.mem_of_getElem? hf)
        rw[C3]at h1
        obtain⟨h2,h3,h4⟩:=List.nodup_append.1 h1
        obtain⟨_,h6,_⟩:=List.nodup_append.1 h3
        have hap: ∀x,x∈fx→x∉f:=by
         intro x hx Qo
         obtain⟨m,om,hm,h5,h7⟩:=BA x hx
         exact g.gK n m _ _ (fun e=>hnm (e▸hm)) hl h5 x (by rw[eN];exact List.mem_cons_of_mem _ (bE hf Qo)) h7
        rw[C3]at hap
        refine List.nodup_append.2 ⟨h2,List.nodup_append.2 ⟨Oi.nodup,h6,?_⟩,?_⟩
        ·rintro x hx z hz rfl
         exact hap x hx (by simp[hz])
        ·rintro x hx z hz rfl
         rcases List.mem_append.1 hz with hz|hz
         ·exact hap x hz (by simp[hx])
         ·exact h4 x hx x (by simp[hz]) rfl
       have hmem: ∀x,x∈(aQ.set i (f1++(fx++f3))).flatten→x∈aQ.flatten∨x∈fx:=by
        intro x hx
        rcases mq hx with h| ⟨j,f',_,hj,h⟩
        ·rcases nY x h with h|h
         ·exact Or.inl (bE hf h)
         ·exact Or.inr h
        ·exact Or.inl (bE hj h)
       have Mc:Own 0 (w.setCells b (o1+i*kk gt+off) (a.eval y).cells.toList) (b::(aQ.set i (f1++(fx++f3))).flatten):=by
        refine⟨List.nodup_cons.2 ⟨fun hm=> ?_,jN kW.2 KK fun j f' hj hf' x hx hx'=> ?_⟩,fun _ _=>Nat.zero_le _,fun x hx=> ?_⟩
        ·rcases hmem b hm with h|h
         ·exact kW.1 h
         ·exact De b h rfl
        ·rcases nY x hx' with h|h
         ·exact nu kW.2 hf' hf hj x hx h
         ·obtain⟨m,om,hm,h5,h7⟩:=BA x h
          exact g.gK n m _ _ (fun e=>hnm (e▸hm)) hl h5 x (by rw[eN];exact List.mem_cons_of_mem _ (bE hf' hx)) h7
        ·rcases List.mem_cons.1 hx with rfl|hx
         ·obtain⟨c',q1,_⟩:=cF x eb (a.eval y).cells.toList (o1+i*kk gt+off) w cb vf
          exact⟨_,_,q1⟩
         ·rcases hmem x hx with h|h
          ·rw[hkeep x (Et x h)];exact hown.kind x (List.mem_cons_of_mem _ h)
          ·rw[hkeep x (De x h)];exact Oi.kind x h
       have KL:Sl (kk gt) (rd gt) (w.setCells b (o1+i*kk gt+off) (a.eval y).cells.toList) (env n).v (l.set i y') (b::(aQ.set i (f1++(fx++f3))).flatten):=by
        refine⟨some ⟨b,o1,none⟩,cap,by rw[BI,BF,List.length_set],by rw[List.length_set];exact tj,Dc,Or.inr ⟨b,o1,_,rfl,?_,rfl,Ex⟩⟩
        rw[gI];exact bk
       have hM:=g.dom n _ hl b (by rw[eN];simp)
       have Ga:=uW hM vf (o1+i*kk gt+off) (a.eval y).cells.toList
       have hrun:(storeVar t ⟨b,o1+i*kk gt+off,none⟩ (a.eval y)).run P w= .ok () (w.setCells b (o1+i*kk gt+off) (a.eval y).cells.toList):=kV (by simp) Il hsz.1 hsz.2
       have Oj: ∃dZ,(∀x,x∈dZ→x∈(env n).fp∨x∈fx)∧(gd n=true→ ∀x,x∈dZ→x∈(env n).fp)∧iG ty (w.setCells b (o1+i*kk gt+off) (a.eval y).cells.toList) n gt (l.set i y') ⟨(env n).v,dZ⟩:=by
        have hall: ∀x,x∈b::(aQ.set i (f1++(fx++f3))).flatten→x∈(env n).fp∨x∈fx:=by
         intro x hx
         rw[eN]
         rcases List.mem_cons.1 hx with rfl|hx
         ·exact Or.inl (by simp)
         ·rcases hmem x hx with h|h
          ·exact Or.inl (List.mem_cons_of_mem _ h)
          ·exact Or.inr h
        cases hp:soft n with
        |true=>
         refine⟨_,hall,fun Qp x hx=> ?_,by unfold iG;rw[hp];exact⟨KL,Mc⟩⟩
         rcases hall x hx with h|h
         ·exact h
         ·obtain⟨m,om,hm,_⟩:=BA x h
          cases ms with
          |nil=>simp at hm
          |cons _ _=>rw[Qp]at My;simp at My
        |false=>
         obtain⟨c',e',FO⟩: ∃xs KM,w.ownsRow 0 (ty gt) (kk gt) (env n).v l.length xs∧KM=aQ:=by
          obtain⟨xs,KM,h1,_⟩:=RO.Ek hp hro
          exact⟨xs,aQ,h1,rfl⟩
         have hB:=RO.Ek hp hro
         have Qq:fD (kk gt) (rd gt) 0 (ty gt) (w.setCells b (o1+i*kk gt+off) (a.eval y).cells.toList) (env n).v (l.set i y') (b::(aQ.set i (f1++(fx++f3))).flatten):=by
          rcases hB.part with⟨h1,rfl,_⟩| ⟨g0,n0,KM,h1,hn0,h2,dQ⟩
          ·simp at hi
          ·rw[BI,BF]at h1
           simp only[Value.slice.injEq,Option.some.injEq,Addr.mk.injEq,and_true,true_and]at h1
           obtain⟨⟨rfl,rfl⟩,rfl⟩:=h1
           obtain⟨cc,q1,q2⟩:=dQ.oo
           obtain⟨Qr,q3,q4⟩:=cF b (ty gt) (a.eval y).cells.toList (0+i*kk gt+off) w cc q1
           rw[BI,BF, ←List.length_set (as:=l) (i:=i) (a:=y')]
           exact Part.Ek (cY gt) ⟨⟨Qr,q3,by rw[q4,q2]⟩,Ex,Mc,Dc⟩ (by rw[List.length_set];exact tj)
         refine⟨_,hall,?_,?_⟩
         ·intro h;rw[FN hp]at h;cases h
         ·unfold iG;rw[hp];exact Qq
       obtain⟨dZ,k1,k2,k3⟩:=Oj
       obtain⟨env',hg',Db⟩:=Au g hl hok (w':=w.setCells b (o1+i*kk gt+off) (a.eval y).cells.toList) BA k1 k2 (fun x hx _ _=>hkeep x (fun e=>hx (by rw[e,eN];simp))) k3
       unfold Oper.wp execOp
       simp only[dM,hu,Instr.storeAt,Instr.sureAddr,Sem.run_bind,Sem.run_pure,Result.andThen_ok,hrun]
       exact⟨env',rfl,Ga,hg',rfl⟩
      ·cases h
     ·cases h
    ·cases h
   ·cases h
  ·cases h
 |_=>simp[IK]at h
end
end Go.Proofs.YtjcojocjlglglaaGreat.G
namespace Go.Proofs.YtjcojocjlglglaaGreat.G
set_option linter.all false
open Go.RowKit L D
variable{ty:Tag→Nat}
def RF(w:World):List V→List Value→List (List Nat)→Prop
 | [],[],aQ=>aQ= []
 |v::vs,u::us,aQ=> ∃f g,RI w v u f∧RF w vs us g∧aQ=f::g
 |_,_,_=>False
def j0(w:World):List S1→List Value→List (List Nat)→Prop
 | [],[],aQ=>aQ= []
 | .a v::as,u::us,aQ=> ∃f g,RI w v u f∧j0 w as us g∧aQ=f::g
 | .agg l::as,u::us,aQ=> ∃cs f g,u= .agg cs.toArray∧RF w l cs f∧j0 w as us g∧aQ=f++g
 |_,_,_=>False
def nK:List (List Nat)→List (List Nat)→Prop
 | [],[]=>True
 |f::r,g::s=>(∀b,b∈f→b∈g)∧nK r s
 |_,_=>False
def cJ(P:Program)(f:FuncId)(as as':List S1)(v:Value):Prop:=
 (∀(args:Array Value) (w:World),(callFunc f args).run P w= .ok (.enter f args) w)∧
 ∀w us aQ,xE w→(∀b,Ab b→b∉aQ.flatten)→j0 w as us aQ→Own 0 w aQ.flatten→Calls P f us.toArray w fun e w'=> ∃gf,e= .returned v∧Kept ⟨w,aQ.flatten,fun _=>⟨v,[]⟩⟩ w w'∧j0 w' as' us gf∧Own 0 w' gf.flatten∧nK gf aQ
def St.upd(st:St)(os:Hp):St:=⟨st.n,st.sl.map fun e=>(e.1,e.2.bl [] (os.map Prod.fst)),os++bM [] (os.map Prod.fst) st.hp⟩
theorem Ey{os:Hp}{n:Nat}:n∈os.map Prod.fst↔look os n≠none:=by
 induction os with
 |nil=>simp[look]
 |cons e r ih=>
  obtain⟨j,x⟩:=e
  by_cases h:n=j
  ·subst h;simp[look_eq]
  ·rw[aR h, ←ih];simp[h]
section
variable{P:Program}{zb:bK}{st st':St}{a:Act}{w:World}{env:Env}{Q:Exit→Act→World→Prop}{o:Oper}
theorem Av(g:Good ty zb st a.tmps w env){os:Hp}(hos: ∀n o,look os n=some o→ ∃t l l',look st.hp n=some (.arr t l)∧o= .arr t l'){w':World}{KN:Nat→List Nat}
  (hsub: ∀n o,look os n=some o→ ∀b,b∈KN n→b∈(env n).fp)(hk: ∀b,b<w.heap.size→(∀n o,look os n=some o→b∉(env n).fp)→w'.heap[b]? =w.heap[b]?)
  (hro: ∀n t l',look os n=some (.arr t l')→iG ty w' n t l' ⟨(env n).v,KN n⟩):
  ∃env',Good ty zb (st.upd os) a.tmps w' env'∧ ∀n,(env' n).v=(env n).v:=by
 refine⟨fun m=>match look os m with|some _=>⟨(env m).v,KN m⟩|none=>env m,?_,fun n=>by dsimp only;split<;>rfl⟩
 have hlk: ∀m o,look (os++bM [] (os.map Prod.fst) st.hp) m=some o→(look os m=some o)∨(look os m=none∧ ∃o',look st.hp m=some o'∧o=o'.bl [] (os.map Prod.fst)):=by
  intro m o hm
  cases hq:look os m with
  |some x=>rw[aY hq]at hm;exact Or.inl hm
  |none=>
   rw[aG hq,bJ,if_neg (by simp)]at hm
   cases Df:look st.hp m with
   |none=>rw[Df]at hm;cases hm
   |some o'=>rw[Df]at hm;simp only[Option.map_some,Option.some.injEq]at hm;exact Or.inr ⟨rfl,o',rfl,hm.symm⟩
 have hst: ∀m o,look os m=none→look st.hp m=some o→ ∀b,b∈(env m).fp→w'.heap[b]? =w.heap[b]? :=by
  intro m o hm h3 b hb
  refine hk b ((g.obj m o h3).oo b hb) fun n o' hn h=> ?_
  obtain⟨t,l,l',h4,_⟩:=hos n o' hn
  exact g.gK m n _ _ (fun e=>by rw[e,hn]at hm;cases hm) h3 h4 b hb h
 have eN: ∀m o,look (os++bM [] (os.map Prod.fst) st.hp) m=some o→ ∀b,b∈(match look os m with|some _=>(⟨(env m).v,KN m⟩:CO)|none=>env m).fp→b∈(env m).fp∧ ∃o',look st.hp m=some o':=by
  intro m o hm b hb
  rcases hlk m o hm with h| ⟨h,o',h2,_⟩
  ·rw[h]at hb
   obtain⟨t,l,l',h4,_⟩:=hos m o h
   exact⟨hsub m o h b hb,_,h4⟩
  ·rw[h]at hb
   exact⟨hb,o',h2⟩
 have s:mm [] (os.map Prod.fst) w st.hp env w' (os++bM [] (os.map Prod.fst) st.hp) (fun m=>match look os m with|some _=>⟨(env m).v,KN m⟩|none=>env m):=by
  refine⟨fun b hb hno=>hk b hb fun n o hn h=> ?_,?_,?_,?_⟩
  ·obtain⟨t,l,l',h4,_⟩:=hos n o hn
   exact hno ⟨n,_,h4,h⟩
  ·rintro b hb ⟨m,o',h1,h2⟩
   obtain⟨h3,o2,h4⟩:=eN m o' h1 b h2
   exact⟨m,o2,h4,h3⟩
  ·intro m o' _ h1
   cases hq:look os m with
   |some x=>
    obtain⟨t,l,l',h4,rfl⟩:=hos m x hq
    rw[h4]at h1
    simp only[Option.some.injEq]at h1
    subst h1
    exact⟨_,aY hq,rfl,rfl⟩
   |none=>
    exact⟨o'.bl [] (os.map Prod.fst),by rw[aG hq,bJ,if_neg (by simp),h1];rfl,by cases o'<;>simp[Obj.like,Obj.bl],rfl⟩
  ·rintro m t' l2 ⟨_,hmn⟩ h1
   have hq:look os m=none:=by
    cases hq:look os m with
    |none=>rfl
    |some x=>exact absurd (Ey.2 (by rw[hq];simp)) hmn
   exact⟨by rw[aG hq,bJ,if_neg (by simp),h1];rfl,by simp[hq],hst m _ hq h1⟩
 refine g.fZ s (fun m o' hm=> ?_) (fun m m' o1 o2 hne h1 h2 b hb hb'=> ?_) (fun m o' hm b hb=> ?_) (fun m hm=> ?_)
 ·rcases hlk m o' hm with h| ⟨h,th,h3,rfl⟩
  ·obtain⟨t,l,l',h4,rfl⟩:=hos m o' h
   simp only[h]
   exact hro m t l' h
  ·simp only[h]
   exact(g.obj m th h3).fZ s (hst m th h h3)
 ·obtain⟨h3,q1,h4⟩:=eN m o1 h1 b hb
  obtain⟨h5,q2,h6⟩:=eN m' o2 h2 b hb'
  exact g.gK m m' _ _ hne h4 h6 b h3 h5
 ·obtain⟨h3,q1,h4⟩:=eN m o' hm b hb
  exact g.dom m q1 h4 b h3
 ·refine⟨?_,fun b hb=> ?_⟩
  ·have:=(g.pins m hm).1
   split<;>exact this
  ·cases hq:look os m with
   |none=>simp only[hq]at hb;exact(g.pins m hm).2 b hb
   |some x=>simp only[hq]at hb;exact(g.pins m hm).2 b (hsub m x hq b hb)
theorem vg{n:Nat}{t:Tag}{l l':List (T t)}{co:CO}{dZ:List Nat}{w':World}{hp:Hp}(h:RO ty w hp env n (.arr t l) co)(hs:Shape w w')(h':Sl (kk t) (rd t) w' co.v l' dZ)(ho:Own 0 w' dZ)(hsub: ∀b,b∈dZ→b∈co.fp):
  ∃Fg,iG ty w' n t l' ⟨co.v,Fg⟩∧ ∀b,b∈Fg→b∈co.fp:=by
 unfold iG
 cases hp:soft n with
 |true=>exact⟨dZ,⟨h',ho⟩,hsub⟩
 |false=>exact KI (cY t) (RO.Ek hp h) hs h' ho hsub
end
def Ez(st:St)(tg:Option Tag):V→Option V
 | .own n=>match look st.hp n with|some (.arr t l)=>some (.sl t l)|_=>none
 | .lit (.slice none 0 0)=>match tg with|some t=>some (.sl t [])|none=>none
 | .lit (.slice _ _ _)=>none
 | .lit v=>some (.lit v)
 |_=>none
def Aw(st:St):List (Option Tag)→List V→Option (List V)
 |_,[]=>some []
 |tg,v::r=>match Ez st (match tg with|t::_=>t| []=>none) v,Aw st (match tg with|_::ts=>ts| []=> []) r with
  |some x,some y=>some (x::y)
  |_,_=>none
def Gb(st:St)(k:TK):S1→Option S1
 | .a v=>match Ez st (match k with| .sl t _=>some t|_=>none) v with|some x=>some (.a x)|none=>none
 | .agg l=>match Aw st (match k with| .st _ tg _=>tg|_=> []) l with|some x=>some (.agg x)|none=>none
def mu(Γ:Nat→TK)(st:St):List Operand→List Nat→Option (List S1×List S1)
 | [],_=>some ([],[])
 |x::r,t=>match ep st [] x with
  |some v=>match Gb st (match t with|t::_=>Γ t| []=> .other) v,mu Γ st r (match t with|_::ts=>ts| []=> [])with
   |some y,some (vs,ys)=>some (v::vs,y::ys)
   |_,_=>none
  |none=>none
def back(st:St):List V→List V→Option Hp
 | [],[]=>some []
 | .own n::r, .sl t' l'::s=>match look st.hp n,back st r s with
   |some (.arr t _),some os=>match gy t t' l' with|some l'=>some ((n, .arr t l')::os)|none=>none
   |_,_=>none
 | .lit _::r,_::s=>back st r s
 |_,_=>none
def NP(P:Program)(ty:Tag→Nat)(Γ:Nat→TK)(cr:List (Nat×CR))(st:St)(d:Option Nat):Op→Option (List Prop×St×SV)
 | .call ⟨.value (.func f),xs,ts⟩=>match mu Γ st xs.toList ts.toList,look cr (d.getD 0+100000)with
   |some (vs,as),some ⟨_, .a (.lit v)::as'⟩=>match back st (vs.flatMap cellsOf) (as'.flatMap cellsOf),v.oneCell' with
    |some os,true=>match ef os with
     |true=>some ([cJ P f as as' v],st.upd os, .one (.a (.lit v)))
     |false=>none
    |_,_=>none
   |_,_=>none
 |_=>none
def pO(st:St):List Operand→Option (List S1)
 | []=>some []
 |x::r=>match ep st [] x,pO st r with
  |some (.a (.lit (.slice _ _ _))),_=>none
  |some (.a (.lit v)),some ys=>some (.a (.lit v)::ys)
  |_,_=>none
def NQ(P:Program)(ty:Tag→Nat)(cr:List (Nat×CR))(st:St)(d:Option Nat):Op→Option (List Prop×St×SV)
 | .call ⟨.value (.func f),xs,_⟩=>match xs.toList with
   |x::r=>match ep st [] x,pO st r,look cr (d.getD 0+200000)with
    |some (.a (.vw n (some (i,off)) t l)),some ls,some ⟨_, .a (.lit v):: .a (.sl t' l')::ls'⟩=>match look st.hp n,gy t t' l',v.oneCell' with
     |some (.arr g l0),some l',true=>match BC (dec g (l0.getD i (au g))) off [.sl t l']with
      |some c=>match enc g c with
       |some (vc,x')=>some (cJ P f (.a (.sl t l)::ls) (.a (.sl t l')::ls') v::vc,st.upd [(n, .arr g (l0.set i x'))], .one (.a (.lit v)))
       |none=>none
      |none=>none
     |_,_,_=>none
    |_,_,_=>none
   | []=>none
 |_=>none
section
variable{P:Program}{zb:bK}{st st':St}{a:Act}{w:World}{env:Env}{Q:Exit→Act→World→Prop}{o:Oper}
theorem RI.cells{v:V}{u:Value}{f:List Nat}(h:RI w v u f):u.cells= #[u]:=by
 cases v with
 |lit x=>obtain⟨rfl,h1,_⟩:=h;cases u<;>simp_all [Value.cells,Value.oneCell']
 |sl t l=>obtain⟨oa,cap,rfl,_⟩:=h;rfl
 |_=>exact h.elim
theorem RF.app{w:World}: ∀{x y:List V} {us vs:List Value} {f g:List (List Nat)},RF w x us f→RF w y vs g→RF w (x++y) (us++vs) (f++g)
 | [],_,[],_,_,_,h,k=>by rw[show _=_ from h];exact k
 |_::_,_,_::_,_,_,_,⟨f1,f2,h1,h2,e⟩,k=>⟨f1,f2++_,h1,RF.app h2 k,by rw[e,List.cons_append]⟩
 | [],_,_::_,_,_,_,h,_=>h.elim
 |_::_,_,[],_,_,_,h,_=>h.elim
theorem oy{w:World}: ∀{as:List S1} {us:List Value} {aQ:List (List Nat)},j0 w as us aQ→RF w (as.flatMap cellsOf) (us.flatMap fun u=>u.cells.toList) aQ
 | [],[],_,h=>h
 | .a v::as,u::us,_,⟨f,g,h1,h2,e⟩=>by
   have:=RF.app (x:= [v]) (us:= [u]) (f:= [f]) ⟨f,[],h1,rfl,rfl⟩ (oy h2)
   rw[List.flatMap_cons,List.flatMap_cons,RI.cells h1,e]
   exact this
 | .agg l::as,u::us,_,⟨cs,f,g,hu,h1,h2,e⟩=>by
   rw[List.flatMap_cons,List.flatMap_cons,hu,e]
   exact RF.app h1 (oy h2)
 | [],_::_,_,h=>h.elim
 | .a _::_,[],_,h=>h.elim
 | .agg _::_,[],_,h=>h.elim
def yZ(env:Env):V→List Nat
 | .own n=>(env n).fp
 |_=> []
theorem Dg(g:Good ty zb st a.tmps w env){tg:Option Tag}{v x:V}{u:Value}(hr:RA w st.hp env v u)(h:Ez st tg v=some x):RI w x u (yZ env v):=by
 cases v with
 |own n=>
  simp only[Ez]at h
  split at h
  ·rename_i t l hl
   simp only[Option.some.injEq]at h
   subst h
   obtain⟨_,rfl⟩:=hr
   exact RO.sl (g.obj n _ hl)
  ·cases h
 |lit v=>
  obtain⟨rfl,h1⟩:=hr
  simp only[Ez]at h
  split at h
  ·rename_i heq;cases heq
  ·rename_i heq
   simp only[V.lit.injEq]at heq
   subst heq
   split at h
   ·simp only[Option.some.injEq]at h
    subst h
    exact⟨none,0,rfl,Nat.le_refl _,Nat.zero_le _,Or.inl ⟨rfl,rfl,fun _=>rfl⟩⟩
   ·cases h
  ·cases h
  ·rename_i heq
   simp only[V.lit.injEq]at heq
   subst heq
   simp only[Option.some.injEq]at h
   subst h
   exact⟨rfl,h1,rfl⟩
  ·cases h
 |_=>simp[Ez]at h
theorem Ax(g:Good ty zb st a.tmps w env): ∀{vs:List V} {tg:List (Option Tag)} {xs:List V} {us:List Value},aU (RA w st.hp env) vs us→Aw st tg vs=some xs→RF w xs us (vs.map (yZ env))
 | [],tg,xs,us,hr,h=>by
   simp only[Aw,Option.some.injEq]at h
   subst h
   cases us with
   |nil=>rfl
   |cons _ _=>exact hr.elim
 |v::r,tg,xs,us,hr,h=>by
  cases us with
  |nil=>exact hr.elim
  |cons u us=>
   simp only[Aw]at h
   split at h
   ·rename_i x y h1 h2
    simp only[Option.some.injEq]at h
    subst h
    exact⟨_,_,Dg g hr.1 h1,Ax g hr.2 h2,rfl⟩
   ·cases h
theorem sH{Γ:Nat→TK}(g:Good ty zb st a.tmps w env): ∀{xs:List Operand} {ts:List Nat} {vs as:List S1},mu Γ st xs ts=some (vs,as)→
  j0 w as (xs.map a.eval) ((vs.flatMap cellsOf).map (yZ env))∧aU (RA w st.hp env) (vs.flatMap cellsOf) ((xs.map a.eval).flatMap fun u=>u.cells.toList)
 | [],ts,vs,as,h=>by
   simp only[mu,Option.some.injEq,Prod.mk.injEq]at h
   obtain⟨rfl,rfl⟩:=h
   exact⟨rfl,trivial⟩
 |x::r,ts,vs,as,h=>by
  simp only[mu]at h
  split at h
  ·rename_i v hx
   split at h
   ·rename_i y vs' ys h1 h2
    simp only[Option.some.injEq,Prod.mk.injEq]at h
    obtain⟨rfl,rfl⟩:=h
    have tN:=cH g (fun e he=>by simp at he) hx
    obtain⟨k1,k2⟩:=sH g h2
    cases v with
    |a v=>
     simp only[Gb]at h1
     split at h1
     ·rename_i x' hl
      simp only[Option.some.injEq]at h1
      subst h1
      have C8:=Dg g tN hl
      refine⟨⟨_,_,C8,k1,rfl⟩,?_⟩
      rw[List.map_cons,List.flatMap_cons,List.flatMap_cons,RI.cells C8]
      exact⟨tN,k2⟩
     ·cases h1
    |agg l=>
     simp only[Gb]at h1
     split at h1
     ·rename_i x' hl
      simp only[Option.some.injEq]at h1
      subst h1
      obtain⟨cs,hu,jq⟩:=tN
      refine⟨⟨cs,_,_,hu,Ax g jq hl,k1,by rw[List.flatMap_cons,List.map_append];rfl⟩,?_⟩
      rw[List.map_cons,List.flatMap_cons,List.flatMap_cons,hu]
      exact aU.app jq k2
     ·cases h1
   ·cases h
  ·cases h
theorem za(g:Good ty zb st a.tmps w env){w':World}: ∀{vs as:List V} {us:List Value} {aQ:List (List Nat)} {os:Hp},back st vs as=some os→aU (RA w st.hp env) vs us→RF w' as us aQ→nK aQ (vs.map (yZ env))→Own 0 w' aQ.flatten→ef os=true→
  (∀b,b∈(vs.map (yZ env)).flatten→ ∃n o,look os n=some o∧b∈(env n).fp)∧
  (∀n o,look os n=some o→(∃t l l' dZ,look st.hp n=some (.arr t l)∧o= .arr t l'∧Sl (kk t) (rd t) w' (env n).v l' dZ∧Own 0 w' dZ∧ ∀b,b∈dZ→b∈(env n).fp)∧ ∀b,b∈(env n).fp→b∈(vs.map (yZ env)).flatten)∧
  ((vs.map (yZ env)).flatten.Nodup)
 | [],[],us,aQ,os,h,_,_,_,_,_=>by
   simp only[back,Option.some.injEq]at h
   subst h
   exact⟨by simp,by simp[look],by simp⟩
 | .own n::r, .sl t' l'::s,us,aQ,os,h,hr,hf,hsub,hown,hnd=>by
   cases us with
   |nil=>exact hr.elim
   |cons u us=>
    obtain⟨f,fr,h1,h2,rfl⟩:=hf
    simp only[back]at h
    split at h
    ·rename_i t l os' hl hb
     split at h
     ·rename_i l2 hc
      simp only[Option.some.injEq]at h
      subst h
      obtain⟨e,rfl⟩:=cD hc
      subst e
      simp only[ef,Bool.and_eq_true]at hnd
      rw[List.flatten_cons]at hown
      obtain⟨hn1,hn2,IB⟩:=List.nodup_append.1 hown.nodup
      have o1:Own 0 w' f:=⟨hn1,fun _ _=>Nat.zero_le _,fun b hb=>hown.kind b (List.mem_append_left _ hb)⟩
      have o2:Own 0 w' fr.flatten:=⟨hn2,fun _ _=>Nat.zero_le _,fun b hb=>hown.kind b (List.mem_append_right _ hb)⟩
      obtain⟨q1,q2,q3⟩:=za g hb hr.2 h2 hsub.2 o2 hnd.2
      have hu:u=(env n).v:=hr.1.2
      have hno:look os' n=none:=by
       cases hq:look os' n with
       |none=>rfl
       |some x=>simp[hq]at hnd
      refine⟨fun b hb=> ?_,fun m o hm=> ?_,?_⟩
      ·rw[List.map_cons,List.flatten_cons]at hb
       rcases List.mem_append.1 hb with hb|hb
       ·exact⟨n,_,look_eq,hb⟩
       ·obtain⟨m,o,h3,h4⟩:=q1 b hb
        have hmn:m≠n:=by rintro rfl;rw[hno]at h3;cases h3
        exact⟨m,o,by rw[aR hmn];exact h3,h4⟩
      ·by_cases hmn:m=n
       ·subst hmn
        rw[look_eq]at hm
        simp only[Option.some.injEq]at hm
        exact⟨⟨t',l,l',f,hl,hm.symm,by rw[←hu];exact h1,o1,hsub.1⟩,fun b hb=>by rw[List.map_cons,List.flatten_cons];exact List.mem_append_left _ hb⟩
       ·rw[aR hmn]at hm
        obtain⟨h3,h4⟩:=q2 m o hm
        exact⟨h3,fun b hb=>by rw[List.map_cons,List.flatten_cons];exact List.mem_append_right _ (h4 b hb)⟩
      ·rw[List.map_cons,List.flatten_cons]
       refine List.nodup_append.2 ⟨(RO.own (g.obj n _ hl)).nodup,q3,?_⟩
       rintro b hb c hc rfl
       obtain⟨m,o,h3,h4⟩:=q1 b hc
       have hmn:n≠m:=by rintro rfl;rw[hno]at h3;cases h3
       obtain⟨⟨t2,l2,_,_,h5,_⟩,_⟩:=q2 m o h3
       exact g.gK n m _ _ hmn hl h5 b hb h4
     ·cases h
    ·cases h
 | .lit x::r,y::s,us,aQ,os,h,hr,hf,hsub,hown,hnd=>by
   cases us with
   |nil=>exact hr.elim
   |cons u us=>
    obtain⟨f,fr,h1,h2,rfl⟩:=hf
    simp only[back]at h
    rw[List.flatten_cons]at hown
    obtain⟨_,hn2,_⟩:=List.nodup_append.1 hown.nodup
    obtain⟨q1,q2,q3⟩:=za g h hr.2 h2 hsub.2 ⟨hn2,fun _ _=>Nat.zero_le _,fun b hb=>hown.kind b (List.mem_append_right _ hb)⟩ hnd
    exact⟨q1,q2,q3⟩
 | .own _::_, .lit _::_,_,_,_,h,_,_,_,_,_=>by simp[back]at h
 | .own _::_, .any::_,_,_,_,h,_,_,_,_,_=>by simp[back]at h
 | .own _::_, .own _::_,_,_,_,h,_,_,_,_,_=>by simp[back]at h
 | .own _::_, .ptr _ _::_,_,_,_,h,_,_,_,_,_=>by simp[back]at h
 | .own _::_, .jm _ _ _::_,_,_,_,h,_,_,_,_,_=>by simp[back]at h
 | .own _::_, .ip _ _ _::_,_,_,_,h,_,_,_,_,_=>by simp[back]at h
 | .own _::_, .vw _ _ _ _::_,_,_,_,h,_,_,_,_,_=>by simp[back]at h
 | .own _::_, .wL _ _ _ _ _::_,_,_,_,h,_,_,_,_,_=>by simp[back]at h
 | .own _::_, .wQ _ _ _::_,_,_,_,h,_,_,_,_,_=>by simp[back]at h
 | .own _::_, .mix _ _ _ _::_,_,_,_,h,_,_,_,_,_=>by simp[back]at h
 | .own _::_, .s8 _::_,_,_,_,h,_,_,_,_,_=>by simp[back]at h
 | .own _::_, .uD _ _::_,_,_,_,h,_,_,_,_,_=>by simp[back]at h
 | .own _::_, .ot _::_,_,_,_,h,_,_,_,_,_=>by simp[back]at h
 | .own _::_,[],_,_,_,h,_,_,_,_,_=>by simp[back]at h
 | .lit _::_,[],_,_,_,h,_,_,_,_,_=>by simp[back]at h
 | [],_::_,_,_,_,h,_,_,_,_,_=>by simp[back]at h
 | .any::_,_,_,_,_,h,_,_,_,_,_=>by simp[back]at h
 | .sl _ _::_,_,_,_,_,h,_,_,_,_,_=>by simp[back]at h
 | .ptr _ _::_,_,_,_,_,h,_,_,_,_,_=>by simp[back]at h
 | .jm _ _ _::_,_,_,_,_,h,_,_,_,_,_=>by simp[back]at h
 | .ip _ _ _::_,_,_,_,_,h,_,_,_,_,_=>by simp[back]at h
 | .vw _ _ _ _::_,_,_,_,_,h,_,_,_,_,_=>by simp[back]at h
 | .wL _ _ _ _ _::_,_,_,_,_,h,_,_,_,_,_=>by simp[back]at h
 | .wQ _ _ _::_,_,_,_,_,h,_,_,_,_,_=>by simp[back]at h
 | .mix _ _ _ _::_,_,_,_,_,h,_,_,_,_,_=>by simp[back]at h
 | .s8 _::_,_,_,_,_,h,_,_,_,_,_=>by simp[back]at h
 | .uD _ _::_,_,_,_,_,h,_,_,_,_,_=>by simp[back]at h
 | .ot _::_,_,_,_,_,h,_,_,_,_,_=>by simp[back]at h
theorem vh(g:Good ty zb st a.tmps w env): ∀{vs as:List V} {os:Hp},back st vs as=some os→ef os=true→
  Own 0 w (vs.map (yZ env)).flatten∧(∀b,b∈(vs.map (yZ env)).flatten→ ∃n o o',look os n=some o∧look st.hp n=some o'∧b∈(env n).fp)
 | [],[],os,h,_=>⟨Own.nil _ _,by simp⟩
 | .own n::r, .sl t' l'::s,os,h,hnd=>by
   simp only[back]at h
   split at h
   ·rename_i t l os' hl hb
    split at h
    ·rename_i l2 hc
     simp only[Option.some.injEq]at h
     subst h
     simp only[ef,Bool.and_eq_true]at hnd
     obtain⟨q1,q2⟩:=vh g hb hnd.2
     have hno:look os' n=none:=by
      cases hq:look os' n with
      |none=>rfl
      |some x=>simp[hq]at hnd
     have ho:=RO.own (g.obj n _ hl)
     rw[List.map_cons,List.flatten_cons]
     refine⟨⟨List.nodup_append.2 ⟨ho.nodup,q1.nodup,?_⟩,fun _ _=>Nat.zero_le _,fun b hb=> ?_⟩,fun b hb=> ?_⟩
     ·rintro b hb c BB rfl
      obtain⟨m,o,o',h3,h5,h4⟩:=q2 b BB
      have hmn:n≠m:=by rintro rfl;rw[hno]at h3;cases h3
      exact g.gK n m _ _ hmn hl h5 b hb h4
     ·rcases List.mem_append.1 hb with hb|hb
      ·exact ho.kind b hb
      ·exact q1.kind b hb
     ·rcases List.mem_append.1 hb with hb|hb
      ·exact⟨n,_,_,look_eq,hl,hb⟩
      ·obtain⟨m,o,o',h3,h5,h4⟩:=q2 b hb
       have hmn:m≠n:=by rintro rfl;rw[hno]at h3;cases h3
       exact⟨m,o,o',by rw[aR hmn];exact h3,h5,h4⟩
    ·cases h
   ·cases h
 | .lit x::r,y::s,os,h,hnd=>by
   simp only[back]at h
   have q:=vh g h hnd
   exact q
 | .own _::_, .lit _::_,_,h,_=>by simp[back]at h
 | .own _::_, .any::_,_,h,_=>by simp[back]at h
 | .own _::_, .own _::_,_,h,_=>by simp[back]at h
 | .own _::_, .ptr _ _::_,_,h,_=>by simp[back]at h
 | .own _::_, .jm _ _ _::_,_,h,_=>by simp[back]at h
 | .own _::_, .ip _ _ _::_,_,h,_=>by simp[back]at h
 | .own _::_, .vw _ _ _ _::_,_,h,_=>by simp[back]at h
 | .own _::_, .wL _ _ _ _ _::_,_,h,_=>by simp[back]at h
 | .own _::_, .wQ _ _ _::_,_,h,_=>by simp[back]at h
 | .own _::_, .mix _ _ _ _::_,_,h,_=>by simp[back]at h
 | .own _::_, .s8 _::_,_,h,_=>by simp[back]at h
 | .own _::_, .uD _ _::_,_,h,_=>by simp[back]at h
 | .own _::_, .ot _::_,_,h,_=>by simp[back]at h
 | .own _::_,[],_,h,_=>by simp[back]at h
 | .lit _::_,[],_,h,_=>by simp[back]at h
 | [],_::_,_,h,_=>by simp[back]at h
 | .any::_,_,_,h,_=>by simp[back]at h
 | .sl _ _::_,_,_,h,_=>by simp[back]at h
 | .ptr _ _::_,_,_,h,_=>by simp[back]at h
 | .jm _ _ _::_,_,_,h,_=>by simp[back]at h
 | .ip _ _ _::_,_,_,h,_=>by simp[back]at h
 | .vw _ _ _ _::_,_,_,h,_=>by simp[back]at h
 | .wL _ _ _ _ _::_,_,_,h,_=>by simp[back]at h
 | .wQ _ _ _::_,_,_,h,_=>by simp[back]at h
 | .mix _ _ _ _::_,_,_,h,_=>by simp[back]at h
 | .s8 _::_,_,_,h,_=>by simp[back]at h
 | .uD _ _::_,_,_,h,_=>by simp[back]at h
 | .ot _::_,_,_,h,_=>by simp[back]at h
theorem Kept.KO{L:List Nat}{pv:Nat→CO}{w':World}(h:Kept ⟨w,L,pv⟩ w w')(hB:zb.w.heap.size≤w.heap.size)(hL: ∀b,b∈L→b∈zb.L∨zb.w.heap.size≤b):Kept zb w w':=
 ⟨h.os,h.tape,h.output,h.size,fun b hb hn=>h.block b (Nat.lt_of_lt_of_le hb hB) fun hm=>(hL b hm).elim hn fun h=>by omega,h.shape⟩
theorem xR{f:FuncId}{xs:Array Operand}{ts:Array TypeId}(ho:o.op= .call ⟨.value (.func f),xs,ts⟩)(hS: ∀(args:Array Value) (w:World),(callFunc f args).run P w= .ok (.enter f args) w):
  (execOp a.eval o).run P w= .ok (.enter f (xs.toList.map a.eval).toArray) w:=by
 have hx:xs.map a.eval=(xs.toList.map a.eval).toArray:=by rw[←List.map_toArray]
 rw[←hx]
 have h0:a.eval (.func f)= .func (.func f) #[] #[]:=rfl
 unfold execOp
 simp[ho,resolve,invoke,Deferred.ofValue,h0,hS]
theorem KP{Γ:Nat→TK}{cr:List (Nat×CR)}{vc:List Prop}{v:SV}{d:Option Nat}(h:NP P ty Γ cr st d o.op=some (vc,st',v))(g:Good ty zb st a.tmps w env)(hB:zb.w.heap.size≤w.heap.size)(hA:yN zb)(hN:xE w)(hv: ∀q,q∈vc→q):
  o.wp P a w (fun a' w'=> ∃u env',a'=a.put o.dst u∧Kept zb w w'∧Good ty zb st' a.tmps w' env'∧st'.n=st.n∧lS w' st'.hp env' a.tmps v u) Q:=by
 generalize dM:o.op=op at h
 unfold NP at h
 split at h
 ·rename_i f xs ts
  split at h
  ·rename_i vs as own v0 as' hl Qs
   split at h
   ·rename_i os hb h1
    split at h
    ·rename_i hnd
     simp only[Option.some.injEq,Prod.mk.injEq]at h
     obtain⟨rfl,rfl,rfl⟩:=h
     obtain⟨Ok,Ol⟩:cJ P f as as' v0:=hv _ (by simp)
     obtain⟨q1,q2⟩:=sH g hl
     obtain⟨q3,q4⟩:=vh g hb hnd
     unfold Oper.wp
     rw[xR dM Ok]
     simp only[Oper.upon]
     refine(Ol w _ _ hN (fun b h0 hb=>by obtain⟨n,o,o',_,hl',Ic⟩:=q4 b hb;exact hA.free (g.dom n o' hl' b Ic) h0) q1 q3).mono ?_
     rintro e w' ⟨gf,rfl,hk,ha,hown,hsub⟩
     obtain⟨r1,r2,_⟩:=za g hb q2 (oy ha) hsub hown hnd
     have eN: ∀n, ∃Fg, ∀t l',look os n=some (.arr t l')→iG ty w' n t l' ⟨(env n).v,Fg⟩∧ ∀b,b∈Fg→b∈(env n).fp:=by
      intro n
      cases hq:look os n with
      |none=>exact⟨[],fun _ _ h=>by cases h⟩
      |some o'=>
       obtain⟨⟨t,l,l',dZ,h3,rfl,h5,h6,h7⟩,_⟩:=r2 n o' hq
       obtain⟨Fg,k1,k2⟩:=vg (hp:=st.hp) (g.obj n _ h3) hk.shape h5 h6 h7
       refine⟨Fg,fun t2 l2 h=> ?_⟩
       simp only[Option.some.injEq,Obj.arr.injEq]at h
       obtain⟨rfl,h⟩:=h
       cases h
       exact⟨k1,k2⟩
     obtain⟨env',hg',Db⟩:=Av g (os:=os) (w':=w') (KN:=fun n=>Classical.choose (eN n))
      (fun n o' hn=>by
       obtain⟨⟨t,l,l',dZ,h3,h4,_⟩,_⟩:=r2 n o' hn
       exact⟨t,l,l',h3,h4⟩)
      (fun n o' hn b hb'=>by
       obtain⟨⟨t,l,l',dZ,h3,rfl,_⟩,_⟩:=r2 n o' hn
       exact(Classical.choose_spec (eN n) t l' hn).2 b hb')
      (fun b hlt hno=>hk.block b hlt fun hm=>by
       obtain⟨n,o',h3,h4⟩:=r1 b hm
       exact hno n o' h3 h4)
      (fun n t l' hn=>(Classical.choose_spec (eN n) t l' hn).1)
     refine⟨v0,env',rfl,hk.KO hB fun b hm=> ?_,hg',rfl,rfl,h1⟩
     obtain⟨n,o1,o2,h3,h4,h5⟩:=q4 b hm
     exact g.dom n o2 h4 b h5
    ·cases h
   ·cases h
  ·cases h
 ·cases h
theorem vi(g:Good ty zb st a.tmps w env): ∀{xs:List Operand} {as:List S1},pO st xs=some as→j0 w as (xs.map a.eval) (as.map fun _=> [])
 | [],as,h=>by
   simp only[pO,Option.some.injEq]at h
   subst h;rfl
 |x::r,as,h=>by
  simp only[pO]at h
  split at h
  ·cases h
  ·rename_i v ys hne hx h2
   simp only[Option.some.injEq]at h
   subst h
   obtain⟨h3,h4⟩:=cH g (fun e he=>by simp at he) hx
   exact⟨[],_,⟨h3,h4,rfl⟩,vi g h2,rfl⟩
  ·cases h
theorem vk{n i off:Nat}{t:Tag}{l l2:List (T t)}{u0:Value}{gt:Tag}{l0:List (T gt)}{c:List V}{x':T gt}{jL:List Prop}{pv:Nat→CO}(g:Good ty zb st a.tmps w env)(hB:zb.w.heap.size≤w.heap.size)
  (Mb:RV w st.hp env n (some (i,off)) t l u0)(hl:look st.hp n=some (.arr gt l0))(hs:BC (dec gt (l0.getD i (au gt))) off [.sl t l2]=some c)(he:enc gt c=some (jL,x'))(hv: ∀q,q∈jL→q):
  ∃fv,RI w (.sl t l) u0 fv∧(∀y,y∈fv→y∈zb.L∨zb.w.heap.size≤y)∧Own 0 w fv∧ ∀w' Dh,Kept ⟨w,fv,pv⟩ w w'→RI w' (.sl t l2) u0 Dh→Own 0 w' Dh→(∀y,y∈Dh→y∈fv)→ ∃env',Kept zb w w'∧Good ty zb (st.upd [(n, .arr gt (l0.set i x'))]) a.tmps w' env':=by
 obtain⟨_,_,MC⟩:=Mb
 obtain⟨t1,l1,b2,o2,Oh,MA,lU,hi,KQ,KR,Ay,hcell⟩:=MC i off rfl
 rw[hl]at lU
 simp only[Option.some.injEq,Obj.arr.injEq]at lU
 obtain⟨rfl,lU⟩:=lU
 cases lU
 have hro:=g.obj n _ hl
 obtain⟨oa,cap,BI,tj,Dc,h3⟩:=RO.sl hro
 have hown:=RO.own hro
 rcases h3 with⟨rfl,_⟩| ⟨b,o1,aQ,BF,bk,eN,hE⟩
 ·simp at hi
 rw[BI,BF]at KR
 simp only[Value.slice.injEq,Option.some.injEq,Addr.mk.injEq,and_true]at KR
 obtain⟨⟨rfl,rfl⟩,rfl,rfl⟩:=KR
 have JU:l0[i]? =some (l0.getD i (au gt)):=by rw[List.getD_eq_getElem?_getD,List.getElem?_eq_getElem hi];rfl
 obtain⟨fe,hf⟩:=e9 hE.1 JU
 obtain⟨cs,td,KJ⟩:=hE.2 _ _ fe JU hf
 rw[eN]at hown
 have kW:=List.nodup_cons.1 hown.nodup
 have hR:=reads gt KJ
 obtain⟨f1,f',KS,k1,k2⟩:=bA.split off hR
 have Ao: ∃r',(dec gt (l0.getD i (au gt))).drop off= .sl t l::r':=by
  rw[yS]at KQ
  have hlt:=(List.getElem?_eq_some_iff.1 KQ).1
  rw[List.drop_eq_getElem_cons hlt]
  have:=(List.getElem?_eq_some_iff.1 KQ).2
  rw[this]
  exact⟨_,rfl⟩
 obtain⟨r',Ao⟩:=Ao
 rw[Ao]at k2
 have Gc: ∃u us,cs.drop off=u::us:=by
  cases hq:cs.drop off with
  |nil=>rw[hq]at k2;exact k2.elim
  |cons u us=>exact⟨u,us,rfl⟩
 obtain⟨u,us,Gc⟩:=Gc
 rw[Gc]at k2
 obtain⟨fv,f3,C8,MD,hf'⟩:=k2
 have Qt:cs[off]? =some u:=by
  have:=congrArg (fun l=>l[0]?) Gc
  simpa using this
 have Qu:u0=u:=by
  have:=td off u Qt
  rw[hcell]at this
  simpa using this
 rw[Qu]at hcell ⊢
 have xS: ∀y,y∈fv→y∈fe:=fun y hy=>by rw[KS,hf'];simp[hy]
 have ME:=(List.pairwise_flatten.1 kW.2).1 fe (List.mem_of_getElem? hf)
 rw[KS,hf']at ME
 obtain⟨n1,n2,n3⟩:=List.nodup_append.1 ME
 obtain⟨n4,n5,n6⟩:=List.nodup_append.1 n2
 have Gd:Own 0 w fv:=⟨n4,fun _ _=>Nat.zero_le _,fun y hy=>hown.kind y (List.mem_cons_of_mem _ (bE hf (xS y hy)))⟩
 refine⟨fv,C8,fun y hy=>g.dom n _ hl y (by rw[eN];exact List.mem_cons_of_mem _ (bE hf (xS y hy))),Gd,?_⟩
 intro w' Dh hk KT B9 Ca
 have m1:=B9.nodup
 have hkeep: ∀y,y<w.heap.size→y∉fv→w'.heap[y]? =w.heap[y]? :=fun y hy hn=>hk.block y hy hn
 have Et: ∀y,y∈aQ.flatten→y≠b:=fun y hy e=>kW.1 (e▸hy)
 have KU: ∀y,y∈aQ.flatten→y<w.heap.size:=fun y hy=>hown.lt y (List.mem_cons_of_mem _ hy)
 have hkb:w'.heap[b]? =w.heap[b]? :=hkeep b bk fun hm=>kW.1 (bE hf (xS b hm))
 have MF: ∀{o:Nat} {cs:List Value},w.rangeAt b o cs→w'.rangeAt b o cs:=by
  intro o cs hr j v hv
  rw[World.cell?_of_block (w:=w) (a:=⟨b,_,none⟩) hkb];exact hr j v hv
 have Qv:cL w w' f1:=fun y hy=>hkeep y (KU y (bE hf (by rw[KS];simp[hy]))) fun hm=>n3 y hy y (by simp[hm]) rfl
 have Qw:cL w w' f3:=fun y hy=>hkeep y (KU y (bE hf (by rw[KS,hf'];simp[hy]))) fun hm=>n6 y hm y hy rfl
 have Ge: ∀{c:List V} {us:List Value} {f:List Nat},bA w c us f→cL w w' f→bA w' c us f:=by
  intro c
  induction c with
  |nil=>intro us f h _;cases us with
   |nil=>exact h
   |cons _ _=>exact h.elim
  |cons v r ih=>
   intro us f h ha
   cases us with
   |nil=>exact h.elim
   |cons u us=>
    obtain⟨f1,f2,h1,h2,rfl⟩:=h
    refine⟨f1,f2,?_,ih h2 (ha.sub fun y hy=>List.mem_append_right _ hy),rfl⟩
    cases v with
    |lit x=>exact h1
    |sl t l=>exact Sl.aS (cY t) h1 (ha.sub fun y hy=>List.mem_append_left _ hy)
    |_=>exact h1.elim
 have BB:c=(dec gt (l0.getD i (au gt))).take off++([.sl t l2]++r'):=by
  unfold BC at hs
  split at hs
  ·simp only[Option.some.injEq]at hs
   rw[←hs]
   congr 2
   have:(dec gt (l0.getD i (au gt))).drop (off+ [V.sl t l2].length)=((dec gt (l0.getD i (au gt))).drop off).drop 1:=by rw[List.drop_drop];rfl
   rw[this,Ao];rfl
  ·cases hs
 have Om:cs=cs.take off++([u]++us):=by
  have:=(List.take_append_drop off cs).symm
  rw[Gc]at this
  exact this
 have hrd:bA w' c cs (f1++(Dh++f3)):=by
  rw[BB,Om]
  refine bA.Mx (Ge k1 Qv) (y:= [.sl t l2]) (vs:= [u]) ?_ (Ge MD Qw)
  exact⟨Dh,[],KT,rfl,by simp⟩
 have MB:=l6 gt he (fun q hq=>hv q hq) hrd
 have nY: ∀y,y∈f1++(Dh++f3)→y∈fe:=by
  intro y hy
  rw[KS,hf']
  simp only[List.mem_append]at hy ⊢
  rcases hy with hy|hy|hy
  ·exact Or.inl hy
  ·exact Or.inr (Or.inl (Ca y hy))
  ·exact Or.inr (Or.inr hy)
 have Ex:=qY (cY gt) (w':=w') hE (i:=i) (x':=x') (f':=f1++(Dh++f3)) (MF td) MB (fun j cs' _ _ hr=>MF hr)
  (fun j f' hj hf' y hy=>hkeep y (KU y (bE hf' hy)) fun hm=>nu kW.2 hf' hf hj y hy (xS y hm))
 have hmem: ∀y,y∈(aQ.set i (f1++(Dh++f3))).flatten→y∈aQ.flatten:=by
  intro y hy
  rcases mq hy with h| ⟨j,f',_,hj,h⟩
  ·exact bE hf (nY y h)
  ·exact bE hj h
 have Mc:Own 0 w' (b::(aQ.set i (f1++(Dh++f3))).flatten):=by
  refine⟨List.nodup_cons.2 ⟨fun hm=>kW.1 (hmem b hm),jN kW.2 ?_ fun j f' hj hf' y hy hy'=>nu kW.2 hf' hf hj y hy (nY y hy')⟩,fun _ _=>Nat.zero_le _,fun y hy=> ?_⟩
  ·refine List.nodup_append.2 ⟨n1,List.nodup_append.2 ⟨m1,n5,fun y hy z hz e=>n6 y (Ca y hy) z hz e⟩,fun y hy z hz e=> ?_⟩
   rcases List.mem_append.1 hz with hz|hz
   ·exact n3 y hy z (by simp[Ca z hz]) e
   ·exact n3 y hy z (by simp[hz]) e
  ·obtain⟨cb,eb,vf⟩:=hown.kind y (by
    rcases List.mem_cons.1 hy with rfl|hy
    ·simp
    ·exact List.mem_cons_of_mem _ (hmem y hy))
   obtain⟨Ru,h5,_⟩:=hk.shape y cb eb vf
   exact⟨_,_,h5⟩
 have KL:Sl (kk gt) (rd gt) w' (env n).v (l0.set i x') (b::(aQ.set i (f1++(Dh++f3))).flatten):=by
  refine⟨some ⟨b,o1,none⟩,cap,by rw[BI,BF,List.length_set],by rw[List.length_set];exact tj,Dc,Or.inr ⟨b,o1,_,rfl,Nat.lt_of_lt_of_le bk hk.size,rfl,Ex⟩⟩
 obtain⟨Fg,w1,w2⟩:=vg (hp:=st.hp) hro hk.shape KL Mc (fun y hy=>by
  rw[eN]
  rcases List.mem_cons.1 hy with rfl|hy
  ·simp
  ·exact List.mem_cons_of_mem _ (hmem y hy))
 have hlk: ∀m o',look [(n,Obj.arr gt (l0.set i x'))] m=some o'→m=n∧o'= .arr gt (l0.set i x'):=by
  intro m o' hm
  by_cases hmn:m=n
  ·subst hmn;rw[look_eq]at hm;simp only[Option.some.injEq]at hm;exact⟨rfl,hm.symm⟩
  ·rw[aR hmn]at hm;cases hm
 obtain⟨env',hg',Db⟩:=Av g (os:= [(n, .arr gt (l0.set i x'))]) (w':=w') (KN:=fun _=>Fg)
  (fun m o' hm=>by obtain⟨rfl,rfl⟩:=hlk m o' hm;exact⟨_,_,_,hl,rfl⟩)
  (fun m o' hm y hy=>by obtain⟨rfl,_⟩:=hlk m o' hm;exact w2 y hy)
  (fun y hlt hno=>hkeep y hlt fun hm=>hno n _ look_eq (by rw[eN];exact List.mem_cons_of_mem _ (bE hf (xS y hm))))
  (fun m t2 l3 hm=>by
   obtain⟨rfl,h5⟩:=hlk m _ hm
   simp only[Obj.arr.injEq]at h5
   obtain⟨rfl,h5⟩:=h5
   cases h5
   exact w1)
 refine⟨env',hk.KO hB fun y hm=> ?_,hg'⟩
 exact g.dom n _ hl y (by rw[eN];exact List.mem_cons_of_mem _ (bE hf (xS y hm)))
theorem KW{Γ:Nat→TK}{cr:List (Nat×CR)}{vc:List Prop}{v:SV}{d:Option Nat}(h:NQ P ty cr st d o.op=some (vc,st',v))(g:Good ty zb st a.tmps w env)(hB:zb.w.heap.size≤w.heap.size)(hA:yN zb)(hN:xE w)(hv: ∀q,q∈vc→q):
  o.wp P a w (fun a' w'=> ∃u env',a'=a.put o.dst u∧Kept zb w w'∧Good ty zb st' a.tmps w' env'∧st'.n=st.n∧lS w' st'.hp env' a.tmps v u) Q:=by
 generalize dM:o.op=op at h
 unfold NQ at h
 split at h
 ·rename_i f xs ts
  split at h
  ·rename_i x r hxs
   split at h
   ·rename_i n i off t l ls own v0 t' l' ls' hx hls Qs
    split at h
    ·rename_i gt l0 l2 hl hc KX
     split at h
     ·rename_i c hs
      split at h
      ·rename_i jL x' he
       simp only[Option.some.injEq,Prod.mk.injEq]at h
       obtain⟨rfl,rfl,rfl⟩:=h
       obtain⟨Ok,Ol⟩:cJ P f (.a (.sl t l)::ls) (.a (.sl t l2)::ls') v0:=hv _ (by simp)
       obtain⟨fv,C8,MG,Gd,Gf⟩:=vk (pv:=fun _=>⟨v0,[]⟩) g hB (cH g (fun e he=>by simp at he) hx) hl hs he (fun q hq=>hv q (by simp[hq]))
       have Gg:((fv::ls.map fun _=>([]:List Nat))).flatten=fv:=by
        rw[List.flatten_cons]
        have:(ls.map fun _=>([]:List Nat)).flatten= []:=by simp
        rw[this,List.append_nil]
       unfold Oper.wp
       rw[xR dM Ok]
       simp only[Oper.upon]
       rw[hxs,List.map_cons]
       have hargs:j0 w (.a (.sl t l)::ls) (a.eval x::r.map a.eval) (fv::ls.map fun _=> []):=⟨fv,_,C8,vi g hls,rfl⟩
       refine(Ol w _ (fv::ls.map fun _=> []) hN (by rw[Gg];exact fun b h0 hb=>hA.free (MG b hb) h0) hargs (by rw[Gg];exact Gd)).mono ?_
       rintro e w' ⟨gf,rfl,hk,⟨Dh,fr,KT,_,rfl⟩,Gh,hsub⟩
       rw[Gg]at hk
       rw[List.flatten_cons]at Gh
       obtain⟨m1,_,_⟩:=List.nodup_append.1 Gh.nodup
       have B9:Own 0 w' Dh:=⟨m1,fun _ _=>Nat.zero_le _,fun y hy=>Gh.kind y (List.mem_append_left _ hy)⟩
       obtain⟨env',hk2,hg'⟩:=Gf w' Dh hk KT B9 hsub.1
       exact⟨v0,env',rfl,hk2,hg',rfl,rfl,KX⟩
      ·cases h
     ·cases h
    ·cases h
   ·cases h
  ·cases h
 ·cases h
def NR(Γ:Nat→TK)(st:St):Op→Option (List Prop×St)
 | .store t x y=>match ep st [] x,ep st [] y with
   |some (.a (.wL n (some (i,o2,j)) tg _ off)),some v=>match look st.hp n with
    |some (.arr g l0)=>match fits (Γ t) v,takes st (cellsOf v),tL (dec g (l0.getD i (au g))) o2 with
     |true,some (cv,[]),some (.sl t' l')=>match gy tg t' l' with
      |some l=>match BC (dec tg (l.getD j (au tg))) off cv with
       |some d=>match enc tg d with
        |some (IN,y')=>match BC (dec g (l0.getD i (au g))) o2 [.sl tg (l.set j y')]with
         |some c=>match enc g c with
          |some (jL,x')=>some (jL++IN,st.upd [(n, .arr g (l0.set i x'))])
          |none=>none
         |none=>none
        |none=>none
       |none=>none
      |none=>none
     |_,_,_=>none
    |_=>none
   |_,_=>none
 |_=>none
theorem KY{Γ:Nat→TK}(C: ∀t,bG P t (Γ t))(Z: ∀t,(∀z tg fo,Γ t≠ .st z tg fo)→Γ t≠ .other→(P.info? t).map (·.size)=some 1){vc:List Prop}(h:NR Γ st o.op=some (vc,st'))(g:Good ty zb st a.tmps w env)(hB:zb.w.heap.size≤w.heap.size)(hv: ∀q,q∈vc→q):
  o.wp P a w (fun a' w'=> ∃env',a'=a.put o.dst undef∧Kept zb w w'∧Good ty zb st' a.tmps w' env'∧st'.n=st.n) Q:=by
 have hop: ∀{x v},ep st [] x=some v→eg w st.hp env v (a.eval x):=fun hx=>cH g (fun e he=>by simp at he) hx
 generalize dM:o.op=op at h
 cases op with
 |store t x y=>
  simp only[NR]at h
  split at h
  case h_2=>cases h
  rename_i n i o2 j tg xx off v hx hy
  have hx:=hop hx
  have hy:=hop hy
  split at h
  case h_2=>cases h
  rename_i gt l0 hl
  split at h
  case h_2=>cases h
  rename_i cv t' l' hfit Ew Az
  split at h
  case h_2=>cases h
  rename_i l hcast
  split at h
  case h_2=>cases h
  rename_i d hs1
  split at h
  case h_2=>cases h
  rename_i IN y' Qx
  split at h
  case h_2=>cases h
  rename_i c Ij
  split at h
  case h_2=>cases h
  rename_i jL x' pP
  simp only[Option.some.injEq,Prod.mk.injEq]at h
  obtain⟨rfl,rfl⟩:=h
  obtain⟨_,_,_,_,_,_,_,_,_,_,_,hpos⟩:=hx
  obtain⟨l3,u0,b0,kR,len,cap,Mb,hj,_,PA,hu⟩:=hpos i o2 j rfl
  have IM:l3=l:=by
   obtain⟨_,_,NS⟩:=Mb
   obtain⟨t1,l1,_,_,_,_,lU,_,hel,_⟩:=NS i o2 rfl
   rw[hl]at lU
   simp only[Option.some.injEq,Obj.arr.injEq]at lU
   obtain⟨rfl,lU⟩:=lU
   cases lU
   rw[hel]at Az
   simp only[Option.some.injEq,V.sl.injEq]at Az
   obtain⟨rfl,Az⟩:=Az
   cases Az
   obtain⟨e,rfl⟩:=cD hcast
   rfl
  subst IM
  obtain⟨fv,C8,_,hown,Gf⟩:=vk (pv:=fun _=>⟨u0,[]⟩) g hB Mb hl Ij pP (fun q hq=>hv q (by simp[hq]))
  obtain⟨oa,MA,BI,tj,Dc,h3⟩:=C8
  rcases h3 with⟨rfl,_⟩| ⟨b,o1,aQ,BF,bk,eN,hE⟩
  ·simp at hj
  rw[PA,BF]at BI
  simp only[Value.slice.injEq,Option.some.injEq,Addr.mk.injEq,and_true]at BI
  obtain⟨⟨rfl,rfl⟩,rfl,rfl⟩:=BI
  have JU:l3[j]? =some (l3.getD j (au tg)):=by rw[List.getD_eq_getElem?_getD,List.getElem?_eq_getElem hj];rfl
  obtain⟨f,hf⟩:=e9 hE.1 JU
  obtain⟨cs,td,KJ⟩:=hE.2 _ _ f JU hf
  have hlen:=(cY tg).len KJ
  rw[eN]at hown
  have kW:=List.nodup_cons.1 hown.nodup
  obtain⟨fx,NT,Oi,BA⟩:=pN g (fH g hy (dc Ew)) Ew List.nodup_nil
  have On:fx= []:=by
   cases fx with
   |nil=>rfl
   |cons y r=>obtain⟨m,_,hm,_⟩:=BA y (by simp);simp at hm
  subst On
  obtain⟨f1,f2,f3,C3,hrd,hlo⟩:=bA.BC (reads tg KJ) NT hs1
  have MB:=l6 tg Qx (fun q hq=>hv q (by simp[hq])) hrd
  have hsz:(P.info? t).map (·.size)=some (a.eval y).cells.toList.length∧ ∀u,u∈(a.eval y).cells.toList→u.oneCell'=true:=by
   refine⟨?_,nk g (fH g hy (dc Ew)) (jZ (dc Ew))⟩
   cases v with
   |agg c'=>
    obtain⟨z,Rv,fo,hk,hfit⟩:=As hfit
    have hC:=C t
    rw[hk]at hC
    obtain⟨fs,_,hi2,_⟩:=hC
    obtain⟨us,IF,B1⟩:=hy
    have:=Nat.eq_of_beq_eq_true hfit
    have IM:=B1.len
    rw[IF]
    cases hq:P.info? t with
    |none=>simp[hq]at hi2
    |some inf=>simp[hq]at hi2;simp[hi2.1,Value.cells,IM,this]
   |a v'=>
    have hk:=At hfit
    have hne:v'≠ .any:=by rintro rfl;simp[cellsOf,takes]at Ew
    have:=fP g (show RA w st.hp env v' (a.eval y)from hy) hne
    rw[this]
    exact Z t hk.1 hk.2
  obtain⟨cb,eb,vf⟩:=hown.kind b0 (by simp)
  have Il:w.there b0 (kR+j*kk tg+off) (a.eval y).cells.toList.length:=by
   refine BU vf _ _ ?_
   have xK:kR+j*kk tg+cs.length≤cb.size:=by
    have wU:=gA tg
    have:=td (cs.length-1) _ (List.getElem?_eq_getElem (by omega))
    rw[zY vf]at this
    have:=(Array.getElem?_eq_some_iff.1 this).1
    omega
   omega
  have hkeep: ∀x,x≠b0→(w.setCells b0 (kR+j*kk tg+off) (a.eval y).cells.toList).heap[x]? =w.heap[x]? :=fun x hx=>bH b0 _ _ w x hx
  have Et: ∀x,x∈aQ.flatten→x≠b0:=fun x hx e=>kW.1 (e▸hx)
  have nY: ∀x,x∈f1++([]++f3)→x∈f:=by
   intro x hx
   rw[C3]
   rcases List.mem_append.1 hx with hx|hx
   ·exact List.mem_append_left _ hx
   ·rw[List.nil_append]at hx;exact List.mem_append_right _ (List.mem_append_right _ hx)
  have D8:cL w (w.setCells b0 (kR+j*kk tg+off) (a.eval y).cells.toList) (f1++([]++f3)):=fun x hx=>hkeep x (Et x (bE hf (nY x hx)))
  have Ex:=qY (cY tg) (w':=w.setCells b0 (kR+j*kk tg+off) (a.eval y).cells.toList) hE (i:=j) (x':=y') (f':=f1++([]++f3))
   (mo td hlo Il) ((cY tg).aS MB D8)
   (fun j1 cs' F7 xK hr=>World.rangeAt_setCells_apart hr _ _ _ (Or.inr (by
    rw[xK]
    rcases Nat.lt_or_ge j1 j with h1|h1
    ·left
     have:=Nat.mul_le_mul_right (kk tg) (show j1+1≤j by omega)
     rw[Nat.add_mul]at this;omega
    ·right
     have:=Nat.mul_le_mul_right (kk tg) (show j+1≤j1 by omega)
     rw[Nat.add_mul]at this;omega)))
   (fun j1 f' _ hf' x hx=>hkeep x (Et x (bE hf' hx)))
  have KK:(f1++([]++f3)).Nodup:=by
   have h1:=(List.pairwise_flatten.1 kW.2).1 f (List.mem_of_getElem? hf)
   rw[C3]at h1
   obtain⟨h2,h3,h4⟩:=List.nodup_append.1 h1
   obtain⟨_,h6,_⟩:=List.nodup_append.1 h3
   rw[List.nil_append]
   exact List.nodup_append.2 ⟨h2,h6,fun x hx z hz=>h4 x hx z (List.mem_append_right _ hz)⟩
  have hmem: ∀x,x∈(aQ.set j (f1++([]++f3))).flatten→x∈aQ.flatten:=by
   intro x hx
   rcases mq hx with h| ⟨j1,f',_,F7,h⟩
   ·exact bE hf (nY x h)
   ·exact bE F7 h
  have Mc:Own 0 (w.setCells b0 (kR+j*kk tg+off) (a.eval y).cells.toList) (b0::(aQ.set j (f1++([]++f3))).flatten):=by
   refine⟨List.nodup_cons.2 ⟨fun hm=>kW.1 (hmem b0 hm),jN kW.2 KK fun j1 f' F7 hf' x hx hx'=>nu kW.2 hf' hf F7 x hx (nY x hx')⟩,fun _ _=>Nat.zero_le _,fun x hx=> ?_⟩
   rcases List.mem_cons.1 hx with rfl|hx
   ·obtain⟨c',q1,_⟩:=cF x eb (a.eval y).cells.toList (kR+j*kk tg+off) w cb vf
    exact⟨_,_,q1⟩
   ·rw[hkeep x (Et x (hmem x hx))];exact hown.kind x (List.mem_cons_of_mem _ (hmem x hx))
  have Ga:Kept ⟨w,fv,fun _=>⟨u0,[]⟩⟩ w (w.setCells b0 (kR+j*kk tg+off) (a.eval y).cells.toList):=
   uW (zb:=⟨w,fv,fun _=>⟨u0,[]⟩⟩) (Or.inl (by rw[eN];simp)) vf _ _
  have hrun:(storeVar t ⟨b0,kR+j*kk tg+off,none⟩ (a.eval y)).run P w= .ok () (w.setCells b0 (kR+j*kk tg+off) (a.eval y).cells.toList):=kV (by simp) Il hsz.1 hsz.2
  obtain⟨env',hk2,hg'⟩:=Gf _ (b0::(aQ.set j (f1++([]++f3))).flatten) Ga
   ⟨some ⟨b0,kR,none⟩,cap,by rw[PA,List.length_set],by rw[List.length_set];exact tj,Dc,Or.inr ⟨b0,kR,_,rfl,by rw[gI];exact bk,rfl,Ex⟩⟩ Mc
   (fun y hy=>by
    rw[eN]
    rcases List.mem_cons.1 hy with rfl|hy
    ·simp
    ·exact List.mem_cons_of_mem _ (hmem y hy))
  unfold Oper.wp execOp
  simp only[dM,hu,Instr.storeAt,Instr.sureAddr,Sem.run_bind,Sem.run_pure,Result.andThen_ok,hrun]
  exact⟨env',rfl,hk2,hg',rfl⟩
 |_=>simp[NR]at h
end
end Go.Proofs.YtjcojocjlglglaaGreat.G
namespace Go.Proofs.YtjcojocjlglglaaGreat.G
set_option linter.all false
open Go.RowKit L D
variable{ty:Tag→Nat}
def IP(st:St):List V→Option (List V×List Nat)
 | []=>some ([],[])
 | .lit (.slice _ _ _)::_=>none
 | .lit v::r=>match IP st r with|some (c,k)=>some (.lit v::c,k)|none=>none
 | .sl t l::r=>match IP st r with|some (c,k)=>some (.sl t l::c,k)|none=>none
 | .own n::r=>match look st.hp n,IP st r with
   |some (.arr t l),some (c,k)=>some (.sl t l::c,n::k)
   |_,_=>none
 |_=>none
def vl(st:St)(g:Tag):Nat→List (Nat×Operand)→Option (List Prop×List (T g)×List Nat)
 |_,[]=>some ([],[],[])
 |i,(j,x)::r=>match Nat.beq i j,ep st [] x with
  |true,some s=>match IP st (cellsOf s)with
   |some (c,k)=>match enc g c,vl st g (i+1) r with
    |some (vc,y),some (vcs,ys,ks)=>some (vc++vcs,y::ys,k++ks)
    |_,_=>none
   |none=>none
  |_,_=>none
def MH(P:Program)(ty:Tag→Nat)(Γ:Nat→TK)(st:St):Op→Option (List Prop×St×SV)
 | .buildSlice t len parts=>match Γ t with
   | .sl g e=>match Nat.beq e (ty g),Nat.beq parts.toList.length len,Nat.ble (len*kk g) 16777216,vl st g 0 parts.toList with
     |true,true,true,some (vc,xs,ks)=>match jM ks&& !pinned ks with
      |true=>some (El P ty g::vc,⟨st.n,st.sl.map fun e=>(e.1,e.2.bl ks []),bM ks [] st.hp⟩, .one (.a (.sl g xs)))
      |_=>none
     |_,_,_,_=>none
   |_=>none
 |_=>none
section
variable{P:Program}{zb:bK}{st:St}{a:Act}{w:World}{env:Env}{Q:Exit→Act→World→Prop}{o:Oper}
theorem nv{st:St}: ∀{l c:List V} {k:List Nat},IP st l=some (c,k)→l8 l=true
 | [],_,_,_=>rfl
 |v::r,c,k,h=>by
  unfold IP at h
  split at h
  ·rename_i he;cases he
  ·cases h
  ·rename_i x r' _ he
   simp only[List.cons.injEq]at he
   obtain⟨rfl,rfl⟩:=he
   split at h
   ·rename_i h';have h2:=nv h';exact h2
   ·cases h
  ·rename_i t l r' he
   simp only[List.cons.injEq]at he
   obtain⟨rfl,rfl⟩:=he
   split at h
   ·rename_i h';have h2:=nv h';exact h2
   ·cases h
  ·rename_i n r' he
   simp only[List.cons.injEq]at he
   obtain⟨rfl,rfl⟩:=he
   split at h
   ·rename_i h';have h2:=nv h';exact h2
   ·cases h
  ·cases h
theorem zc(g:Good ty zb st a.tmps w env): ∀{l c:List V} {k:List Nat} {us:List Value},aU (RA w st.hp env) l us→IP st l=some (c,k)→
  ∃fp,bA w c us fp∧ ∀b,b∈fp→b<w.heap.size∧(¬Ow st.hp env b∨ ∃i o,i∈k∧look st.hp i=some o∧b∈(env i).fp)
 | [],c,k,us,hr,h=>by
   simp only[IP,Option.some.injEq,Prod.mk.injEq]at h
   obtain⟨rfl,rfl⟩:=h
   cases us with
   |nil=>exact⟨[],rfl,by simp⟩
   |cons _ _=>exact hr.elim
 |v::r,c,k,us,hr,h=>by
  cases us with
  |nil=>exact hr.elim
  |cons u us=>
   unfold IP at h
   split at h
   ·rename_i he;cases he
   ·cases h
   ·rename_i x r' _ he
    simp only[List.cons.injEq]at he
    obtain⟨rfl,rfl⟩:=he
    split at h
    ·rename_i c' k' h'
     simp only[Option.some.injEq,Prod.mk.injEq]at h
     obtain⟨rfl,rfl⟩:=h
     obtain⟨fp,h1,h3⟩:=zc g hr.2 h'
     obtain⟨e1,e2⟩:=hr.1
     exact⟨fp,⟨[],fp,⟨e1,e2,rfl⟩,h1,rfl⟩,h3⟩
    ·cases h
   ·rename_i t l r' he
    simp only[List.cons.injEq]at he
    obtain⟨rfl,rfl⟩:=he
    split at h
    ·rename_i c' k' h'
     simp only[Option.some.injEq,Prod.mk.injEq]at h
     obtain⟨rfl,rfl⟩:=h
     obtain⟨fp,h1,h3⟩:=zc g hr.2 h'
     obtain⟨f0,k1,k2⟩:=hr.1
     refine⟨f0++fp,⟨f0,fp,k1,h1,rfl⟩,fun b hb=> ?_⟩
     rcases List.mem_append.1 hb with hb|hb
     ·exact⟨Sl.lt (cY t) k1 b hb,Or.inl (k2 b hb)⟩
     ·exact h3 b hb
    ·cases h
   ·rename_i n r' he
    simp only[List.cons.injEq]at he
    obtain⟨rfl,rfl⟩:=he
    split at h
    ·rename_i t l c' k' hl h'
     simp only[Option.some.injEq,Prod.mk.injEq]at h
     obtain⟨rfl,rfl⟩:=h
     obtain⟨fp,h1,h3⟩:=zc g hr.2 h'
     obtain⟨_,rfl⟩:=hr.1
     have hb:=RO.sl (g.obj n _ hl)
     refine⟨(env n).fp++fp,⟨_,_,hb,h1,rfl⟩,fun b hb=> ?_⟩
     rcases List.mem_append.1 hb with hb|hb
     ·exact⟨(g.obj n _ hl).oo b hb,Or.inr ⟨n,_,by simp,hl,hb⟩⟩
     ·obtain⟨q1,q2⟩:=h3 b hb
      refine⟨q1,q2.imp id ?_⟩
      rintro⟨i,o,hi,h4,h5⟩
      exact⟨i,o,List.mem_cons_of_mem _ hi,h4,h5⟩
    ·cases h
   ·cases h
theorem xT(g:Good ty zb st a.tmps w env){t:Tag}: ∀{ps:List (Nat×Operand)} {i:Nat} {vc:List Prop} {xs:List (T t)} {ks:List Nat},vl st t i ps=some (vc,xs,ks)→(∀q,q∈vc→q)→
  (ps.map fun p=>(p.1,a.eval p.2))=nJ i (ps.map fun p=>a.eval p.2)∧xs.length=ps.length∧ ∃aQ:List (List Nat),aQ.length=xs.length∧
   (∀(i:Nat) (x:T t) (f:List Nat),xs[i]? =some x→aQ[i]? =some f→ ∃p:Nat×Operand,ps[i]? =some p∧rd t w (a.eval p.2).cells.toList x f)∧ ∀b,b∈aQ.flatten→b<w.heap.size∧(¬Ow st.hp env b∨ ∃i o,i∈ks∧look st.hp i=some o∧b∈(env i).fp)
 | [],i,vc,xs,ks,h,_=>by
   simp only[vl,Option.some.injEq,Prod.mk.injEq]at h
   obtain⟨rfl,rfl,rfl⟩:=h
   exact⟨rfl,rfl,[],rfl,by simp,by simp⟩
 | (j,x)::r,i,vc,xs,ks,h,hv=>by
   simp only[vl]at h
   split at h
   ·rename_i s hij hx
    have hij:=Nat.eq_of_beq_eq_true hij
    subst hij
    split at h
    ·rename_i c k hc
     split at h
     ·rename_i jL y vcs ys Pz he hb
      simp only[Option.some.injEq,Prod.mk.injEq]at h
      obtain⟨rfl,rfl,rfl⟩:=h
      obtain⟨q1,q2,aQ,q3,q4,q6⟩:=xT g hb (fun q hq=>hv q (List.mem_append_right _ hq))
      obtain⟨fp,r1,r3⟩:=zc g (fH g (cH g (fun e he=>by simp at he) hx) (nv hc)) hc
      have hE:=l6 t he (fun q hq=>hv q (List.mem_append_left _ hq)) r1
      refine⟨by simp[nJ,q1],by simp[q2],fp::aQ,by simp[q3],?_,?_⟩
      ·intro i' x' f hx' hf
       cases i' with
       |zero=>simp at hx' hf;subst hx';subst hf;exact⟨(i,x),rfl,hE⟩
       |succ n=>simp at hx' hf;obtain⟨p,h1,h2⟩:=q4 n x' f hx' hf;exact⟨p,by simpa using h1,h2⟩
      ·intro b hb
       rw[List.flatten_cons]at hb
       rcases List.mem_append.1 hb with hb|hb
       ·obtain⟨z1,z2⟩:=r3 b hb
        exact⟨z1,z2.imp id fun⟨n,o1,h1,h2,h3⟩=>⟨n,o1,List.mem_append_left _ h1,h2,h3⟩⟩
       ·obtain⟨z1,z2⟩:=q6 b hb
        exact⟨z1,z2.imp id fun⟨n,o1,h1,h2,h3⟩=>⟨n,o1,List.mem_append_right _ h1,h2,h3⟩⟩
     ·cases h
    ·cases h
   ·cases h
theorem run_frozen{t len:Nat}{parts:Array (Nat×Operand)}(ho:o.op= .buildSlice t len parts){g:Tag}(hu:P.underlying t=some (.slice (ty g)))(nX:El P ty g)(uQ:len*kk g≤16777216)(hlen:parts.toList.length=len)
  {xs:List (T g)}{aQ:List (List Nat)}(q1:(parts.toList.map fun p=>(p.1,a.eval p.2))=nJ 0 (parts.toList.map fun p=>a.eval p.2))(q2:xs.length=parts.toList.length)(q3:aQ.length=xs.length)
  (q4: ∀(i:Nat) (x:T g) (f:List Nat),xs[i]? =some x→aQ[i]? =some f→ ∃p:Nat×Operand,parts.toList[i]? =some p∧rd g w (a.eval p.2).cells.toList x f):
  ∃w',(execOp a.eval o).run P w= .ok (.value (.slice (some ⟨w.heap.size,0,none⟩) len len)) w'∧Below w.heap.size w w'∧Sl (kk g) (rd g) w' (.slice (some ⟨w.heap.size,0,none⟩) len len) xs (w.heap.size::aQ.flatten):=by
 have hkp:=gA g
 have xK: ∀v,v∈(parts.toList.map fun p=>a.eval p.2)→v.cells.size=kk g:=by
  intro v hv
  obtain⟨i,hi⟩:=List.getElem?_of_mem hv
  have hil:i<xs.length:=by have:=(List.getElem?_eq_some_iff.1 hi).1;simp at this;rw[q2];simpa using this
  have hfl:i<aQ.length:=by omega
  obtain⟨p,h1,h2⟩:=q4 i xs[i] aQ[i] (List.getElem?_eq_getElem hil) (List.getElem?_eq_getElem hfl)
  rw[List.getElem?_map,h1]at hi
  simp at hi
  subst hi
  simpa using(cY g).len h2
 cases hq:P.info? (ty g)with
 |none=>simp[El,hq]at nX
 |some inf=>
  simp[El,hq]at nX
  obtain⟨z1,z2,z3⟩:=nX
  let zs:List Value:=(List.range (len*kk g)).map fun j=>(if len*kk g=0 then #[]else(cT g).cells)[j % (if len*kk g=0 then #[]else(cT g).cells).size]!
  have hzl:zs.length=len*kk g:=by simp[zs]
  have hf:=uP (k:=kk g) (parts.toList.map fun p=>a.eval p.2) 0 zs xK (by rw[hzl,List.length_map,hlen,Nat.zero_add])
  rw[Nat.zero_mul,List.take_zero,List.nil_append]at hf
  have hrun:(execOp a.eval o).run P w= .ok (.value (.slice (some ⟨w.heap.size,0,none⟩) len len)) (w.alloc (.cells (Array.mk ((parts.toList.map fun p=>a.eval p.2).flatMap fun v=>v.cells.toList)) (ty g) (0,0))):=by
   unfold execOp
   have lT:(parts.map fun(p:Nat×Operand)=>(p.1,a.eval p.2)).toList=nJ 0 (parts.toList.map fun p=>a.eval p.2):=by
    rw[Array.toList_map];exact q1
   have hzs:((Array.range (len*kk g)).map fun j=>(if len*kk g=0 then #[]else(cT g).cells)[j % (if len*kk g=0 then #[]else(cT g).cells).size]!)=Array.mk zs:=by
    simp only[zs]
    apply Array.ext'
    simp
   have N8:(sizeOf (ty g)).run P w= .ok (kk g) w:=by simp[sizeOf,typeInfo,hq,z2]
   simp only[ho,Instr.buildSlice,Sem.run_bind,run_underlying hu,Result.andThen_ok,N8]
   rw[if_neg (by omega)]
   by_cases Mq:len*kk g=0
   ·simp only[if_pos Mq]at hzs ⊢
    simp only[Sem.run_bind,Sem.run_pure,Result.andThen_ok]
    rw[hzs,lT,hf]
    simp[newRow]
   ·have N9:(zeroValue (ty g)).run P w= .ok (cT g) w:=by simp[zeroValue,typeInfo,hq,z1]
    simp only[if_neg Mq]at hzs ⊢
    simp only[Sem.run_bind,N9,Sem.run_pure,Result.andThen_ok]
    rw[hzs,lT,hf]
    simp[newRow]
  have hps:((parts.toList.map fun p=>a.eval p.2).flatMap fun v=>v.cells.toList)=((parts.toList.map fun p=>(a.eval p.2).cells.toList).flatMap id):=by
   simp[List.flatMap_map]
  have FX: ∀v,v∈(parts.toList.map fun p=>(a.eval p.2).cells.toList)→v.length=kk g:=by
   intro v hv
   obtain⟨p,hp,rfl⟩:=List.mem_map.1 hv
   simpa using xK _ (List.mem_map.2 ⟨p,hp,rfl⟩)
  have xL:=mj FX
  rw[List.length_map,hlen]at xL
  have hb0:Below w.heap.size w (w.alloc (.cells (Array.mk ((parts.toList.map fun p=>a.eval p.2).flatMap fun v=>v.cells.toList)) (ty g) (0,0))):=(Below.refl _ _).alloc (Nat.le_refl _) _
  have MI:=jU (w:=w) (o:= .cells (Array.mk ((parts.toList.map fun p=>a.eval p.2).flatMap fun v=>v.cells.toList)) (ty g) (0,0)) (k:=w.heap.size) rfl
  refine⟨_,hrun,hb0,some ⟨w.heap.size,0,none⟩,len,by rw[q2,hlen],by rw[q2,hlen];exact Nat.le_refl _,?_,Or.inr ⟨w.heap.size,0,aQ,rfl,FD MI,rfl,q3,?_⟩⟩
  ·unfold maxLen;have:=Nat.le_mul_of_pos_right len hkp;omega
  ·intro i x f hx C3
   obtain⟨p,h1,h2⟩:=q4 i x f hx C3
   have hkey:(((parts.toList.map fun p=>a.eval p.2).flatMap fun v=>v.cells.toList).drop (i*kk g)).take (kk g)=(a.eval p.2).cells.toList:=by
    rw[hps];exact mh FX (by rw[List.getElem?_map,h1];rfl)
   refine⟨_,Ip MI _ _ fun j v hv=> ?_,(cY g).below h2 hb0⟩
   rw[←hkey]at hv
   rw[List.getElem?_take]at hv
   split at hv
   ·rw[List.getElem?_drop]at hv
    rw[Nat.zero_add,List.getElem?_toArray]
    exact hv
   ·cases hv
theorem EA(g:Good ty zb st a.tmps w env){ks:List Nat}{w':World}(hb:Below w.heap.size w w'):Good ty zb ⟨st.n,st.sl.map fun e=>(e.1,e.2.bl ks []),bM ks [] st.hp⟩ a.tmps w' env:=by
 have hlk: ∀m o,look (bM ks [] st.hp) m=some o→m∉ks∧ ∃o',look st.hp m=some o'∧o=o'.bl ks []:=by
  intro m o hm
  rw[bJ]at hm
  split at hm
  ·cases hm
  ·rename_i hks
   cases hq:look st.hp m with
   |none=>rw[hq]at hm;cases hm
   |some o'=>rw[hq]at hm;simp only[Option.map_some,Option.some.injEq]at hm;exact⟨hks,o',rfl,hm.symm⟩
 have s:mm ks [] w st.hp env w' (bM ks [] st.hp) env:=by
  refine⟨fun b hlt _=>hb.block b hlt,?_,?_,?_⟩
  ·rintro b hlt ⟨m,o',h1,h2⟩
   obtain⟨_,th,h3,rfl⟩:=hlk m o' h1
   exact⟨m,th,h3,h2⟩
  ·intro m o' hks h1
   exact⟨o'.bl ks [],by rw[bJ,if_neg hks,h1];rfl,by cases o'<;>simp[Obj.like,Obj.bl],rfl⟩
  ·rintro m t' l' ⟨hks,_⟩ h1
   exact⟨by rw[bJ,if_neg hks,h1];rfl,rfl,fun b Ay=>hb.block b ((g.obj m _ h1).oo b Ay)⟩
 refine g.fZ s (fun m o' hm=> ?_) (fun m m' o1 o2 hne h1 h2 b Ay hb'=> ?_) (fun m o' hm b Ay=> ?_) g.pins
 ·obtain⟨hks,th,h3,rfl⟩:=hlk m o' hm
  exact(g.obj m th h3).fZ s fun b Ay=>hb.block b ((g.obj m th h3).oo b Ay)
 ·obtain⟨_,q1,h3,_⟩:=hlk m o1 h1
  obtain⟨_,q2,h4,_⟩:=hlk m' o2 h2
  exact g.gK m m' _ _ hne h3 h4 b Ay hb'
 ·obtain⟨_,q1,h3,_⟩:=hlk m o' hm
  exact g.dom m q1 h3 b Ay
theorem KZ{Γ:Nat→TK}(C: ∀t,bG P t (Γ t)){vc:List Prop}{st':St}{v:SV}(h:MH P ty Γ st o.op=some (vc,st',v))(g:Good ty zb st a.tmps w env)(hB:zb.w.heap.size≤w.heap.size)(hv: ∀q,q∈vc→q):
  o.wp P a w (fun a' w'=> ∃u env',a'=a.put o.dst u∧Kept zb w w'∧Good ty zb st' a.tmps w' env'∧st'.n=st.n∧lS w' st'.hp env' a.tmps v u) Q:=by
 generalize dM:o.op=op at h
 cases op with
 |buildSlice t len parts=>
  simp only[MH]at h
  split at h
  ·rename_i gt e hk
   split at h
   ·rename_i jL xs ks he hlen uQ hb
    have he:=Nat.eq_of_beq_eq_true he
    split at h
    ·rename_i hnd
     simp only[Option.some.injEq,Prod.mk.injEq]at h
     obtain⟨rfl,rfl,rfl⟩:=h
     have nX:El P ty gt:=hv _ (by simp)
     obtain⟨q1,q2,aQ,q3,q4,q6⟩:=xT g hb (fun q hq=>hv q (by simp[hq]))
     have hC:=C t
     rw[hk,he]at hC
     obtain⟨w',r1,r2,r3⟩:=run_frozen (P:=P) (w:=w) (a:=a) dM hC.1 nX (Nat.le_of_ble_eq_true uQ) (Nat.eq_of_beq_eq_true hlen) q1 q2 q3 q4
     have hg':=EA g (ks:=ks) r2
     unfold Oper.wp
     rw[r1]
     refine⟨_,env,rfl,fE r2 hB,hg',rfl,_,r3,?_⟩
     rintro b Ay ⟨m,o',h1,h2⟩
     rw[bJ]at h1
     split at h1
     ·cases h1
     ·rename_i hks
      cases hq:look st.hp m with
      |none=>rw[hq]at h1;cases h1
      |some th=>
       have hlt:=(g.obj m th hq).oo b h2
       rcases List.mem_cons.1 Ay with rfl|Ay
       ·omega
       ·rcases(q6 b Ay).2 with h3| ⟨i,oi,hi,h4,h5⟩
        ·exact h3 ⟨m,th,hq,h2⟩
        ·exact g.gK m i _ _ (fun e=>hks (e▸hi)) hq h4 b h2 h5
    ·cases h
   ·cases h
  ·cases h
 |_=>simp[MH]at h
end
end Go.Proofs.YtjcojocjlglglaaGreat.G
namespace Go.Proofs.YtjcojocjlglglaaGreat.G
set_option linter.all false
open Go.RowKit L D
variable{ty:Tag→Nat}
def inv:List (Nat×Nat)→Nat→Option Nat
 | [],_=>none
 | (n,m)::r,k=>match Nat.beq k m with|true=>some n|false=>inv r k
def V.toF(ρ:List (Nat×Nat)):V→V
 | .lit v=> .lit v
 | .sl t l=> .sl t l
 | .own m=>match inv ρ m with|some n=> .own n|none=> .any
 | .ptr m o=>match inv ρ m with|some n=> .ptr n o|none=> .any
 | .uD f m=>match inv ρ m with|some n=> .uD f n|none=> .any
 |_=> .any
def Obj.toF(ρ:List (Nat×Nat)):Obj→Obj
 | .box c=> .box (c.map (V.toF ρ))
 | .arr t l=> .arr t l
 | .iM t l _=> .iM t l .gone
def pQ(st:St)(ρ:List (Nat×Nat)):List (Nat×Nat)→Option Hp
 | []=>some []
 | (n,m)::r=>match look st.hp m, !gd m||gd n, !soft m||soft n,pQ st ρ r with
   |some o,true,true,some h=>some ((n,o.toF ρ)::h)
   |_,_,_,_=>none
def IQ(st:St)(ρ:List (Nat×Nat))(tg:Option Tag)(v:V):Option V:=match v.name with
 |some m=>match inv ρ m with
  |some n=>match v with
   | .own _=>some (.own n)
   | .ptr _ o=>some (.ptr n o)
   | .uD f _=>some (.uD f n)
   |_=>none
  |none=>match v with
   | .mix _ _ _ _=>none
   | .s8 _=>none
   |v=>jT st tg v
 |none=>jT st tg v
def AA(st:St)(ρ:List (Nat×Nat)):List (Option Tag)→List V→Option (List V)
 |_,[]=>some []
 |tg,v::r=>match IQ st ρ (match tg with|t::_=>t| []=>none) v,AA st ρ (match tg with|_::ts=>ts| []=> []) r with
  |some x,some y=>some (x::y)
  |_,_=>none
def K0(st:St)(ρ:List (Nat×Nat))(k:TK):S1→Option S1
 | .a v=>match IQ st ρ (match k with| .sl t _=>some t|_=>none) v with|some x=>some (.a x)|none=>none
 | .agg l=>match AA st ρ (match k with| .st _ tg _=>tg|_=> []) l with|some x=>some (.agg x)|none=>none
def AB(Γ:Nat→TK)(st:St)(ρ:List (Nat×Nat)):List Operand→List Nat→Option (List S1)
 | [],_=>some []
 |x::r,t=>match ep st [] x with
  |some v=>match K0 st ρ (match t with|t::_=>Γ t| []=> .other) v,AB Γ st ρ r (match t with|_::ts=>ts| []=> [])with
   |some y,some ys=>some (y::ys)
   |_,_=>none
  |none=>none
def ze(st:St)(ρ:List (Nat×Nat))(x:Operand):Option (FuncId×List S1):=match ep st [] x with
 |some (.a (.uD f m))=>match inv ρ m with|some n=>some (f,[.a (.ptr n 0)])|none=>none
 |some v=>match It v with|some f=>some (f,[])|none=>none
 |none=>none
def K1:List V→Option (List (Nat×Nat))
 | []=>some []
 | .ptr n m::r=>match K1 r with|some l=>some ((n,m)::l)|none=>none
 |_=>none
def MJ:List V→Option (List Nat)
 | []=>some []
 | .own n::r=>match MJ r with|some l=>some (n::l)|none=>none
 |_=>none
def Gi:List Nat→List S1→Option Hp
 | [],[]=>some []
 |n::ns, .a (.sl t l)::r=>match Gi ns r with|some h=>some ((n, .arr t l)::h)|none=>none
 |n::ns, .agg c::r=>match Gi ns r with|some h=>some ((n, .box c)::h)|none=>none
 |_,_=>none
def V.toA(ρ:List (Nat×Nat)):V→Option V
 | .any=>some .any
 | .lit v=>some (.lit v)
 | .own n=>match look ρ n with|some m=>some (.own m)|none=>none
 | .ptr n o=>match look ρ n with|some m=>some (.ptr m o)|none=>none
 |_=>none
def toAs(ρ:List (Nat×Nat)):List V→Option (List V)
 | []=>some []
 |v::r=>match v.toA ρ,toAs ρ r with|some x,some y=>some (x::y)|_,_=>none
def S1.toA(ρ:List (Nat×Nat)):S1→Option S1
 | .a v=>match v.toA ρ with|some x=>some (.a x)|none=>none
 | .agg l=>match toAs ρ l with|some x=>some (.agg x)|none=>none
def IS(ρ:List (Nat×Nat)):List S1→Option (List S1)
 | []=>some []
 |v::r=>match v.toA ρ,IS ρ r with|some x,some y=>some (x::y)|_,_=>none
def Obj.toA(ρ:List (Nat×Nat)):Obj→Option Obj
 | .box c=>match toAs ρ c with|some x=>some (.box x)|none=>none
 | .arr t l=>some (.arr t l)
 | .iM _ _ _=>none
def vm(ρ:List (Nat×Nat)):Hp→Option (List (Nat×Nat×Obj))
 | []=>some []
 | (n,o)::r=>match look ρ n,o.toA ρ,vm ρ r with
   |some m,some o',some h=>match !gd m||gd n, !soft n||soft m with|true,true=>some ((n,m,o')::h)|_,_=>none
   |_,_,_=>none
def vn:Option Obj→Bool
 |some (.box _)=>true
 |_=>false
def AD(ty:Tag→Nat)(w:World)(hp:Hp)(env:Env):Prop:=(∀n o,look hp n=some o→RO ty w hp env n o (env n))∧ ∀n m o o',n≠m→look hp n=some o→look hp m=some o'→ ∀b,b∈(env n).fp→b∉(env m).fp
def pR(hp:Hp)(env:Env):List Nat:=hp.flatMap fun e=>(env e.1).fp
def MK(w:World)(hp:Hp)(env:Env)(rs:List S1)(u:Value):Prop:=match rs with
 | [r]=>eg w hp env r u
 |rs=> ∃us,u= .tuple us.toArray∧aU (eg w hp env) rs us
def qZ(ty:Tag→Nat)(P:Program)(f:FuncId)(dQ:Hp)(as:List S1)(dy:Hp)(rs:List S1):Prop:=
 (∀(args:Array Value) (w:World),(callFunc f args).run P w= .ok (.enter f args) w)∧
 ∀w env us,xE w→(∀b,Ab b→b∉pR dQ env)→AD ty w dQ env→aU (eg w dQ env) as us→Calls P f us.toArray w fun e w'=> ∃env' u,e= .returned u∧Kept ⟨w,pR dQ env,env⟩ w w'∧AD ty w' dy env'∧
  (∀n o,look dy n=some o→ ∀b,b∈(env' n).fp→b∈pR dQ env∨w.heap.size≤b)∧(∀n,gd n=true→(env' n).v=(env n).v∧ ∀b,b∈(env' n).fp→b∈(env n).fp)∧MK w' dy env' rs u
def tP(B:List (Nat×Nat×Obj)):Hp:=B.map fun e=>(e.2.1,e.2.2)
def wW:List (Nat×Nat×Obj)→Nat→Option Nat
 | [],_=>none
 | (n,m,_)::r,k=>match Nat.beq k m with|true=>some n|false=>wW r k
def vo(kv ks:List Nat)(hp:Hp):Hp:=(hp.filter fun e=> !kv.any (Nat.beq e.1)).map fun e=>(e.1,e.2.bl ks kv)
def zf(hp:Hp):Hp→Bool
 | []=>true
 | (m,_)::r=>(match look hp m with|none=>true|some _=>false)&&zf hp r
def Gj(P:Program)(ty:Tag→Nat)(Γ:Nat→TK)(cr:List (Nat×CR))(st:St)(d:Option Nat):Op→Option (List Prop×St×SV)
 | .call ⟨.value x,xs,ts⟩=>match look cr (d.getD 99999+700000),look cr (d.getD 99999+800000)with
   |some ⟨_, .agg a:: .agg b:: .agg c::os⟩,some ⟨_,rs⟩=>match K1 a,K1 b,MJ c with
    |some ρ0,some ρ1,some ns=>match Gi ns os,pQ st ρ0 ρ0,ze st ρ0 x,AB Γ st ρ0 xs.toList ts.toList with
     |some dy,some dQ,some (f,ex),some as=>match vm (ρ0++ρ1) dy,IS (ρ0++ρ1) rs with
      |some B,some Oo=>match jM ((ρ0++ρ1).map Prod.fst)&&jM (ρ0.map Prod.snd)&&ef dy&&ef (tP B)&&zf (vo (ρ0.map Prod.snd) ((ρ0.filter fun e=> !gd e.1).map Prod.snd) st.hp) (tP B)&&ρ0.all (fun e=> !gd e.1|| (vn (look dQ e.1)&&vn (look dy e.1)))&&ρ1.all (fun e=> !gd e.2)with
       |true=>some ([qZ ty P f dQ (iT as ex) dy rs],⟨st.n,st.sl.map fun e=>(e.1,e.2.bl ((ρ0.filter fun e=> !gd e.1).map Prod.snd) (ρ0.map Prod.snd)),tP B++vo (ρ0.map Prod.snd) ((ρ0.filter fun e=> !gd e.1).map Prod.snd) st.hp⟩,match Oo with| [r]=> .one r|l=> .nV l)
       |false=>none
      |_,_=>none
     |_,_,_,_=>none
    |_,_,_=>none
   |_,_=>none
 |_=>none
theorem iJ: ∀{ρ:List (Nat×Nat)} {m n:Nat},inv ρ m=some n→(n,m)∈ρ
 | (a,b)::r,m,n,h=>by
   simp only[inv]at h
   split at h
   ·rename_i hb
    have:=Nat.eq_of_beq_eq_true hb
    simp only[Option.some.injEq]at h
    subst h;subst this;simp
   ·exact List.mem_cons_of_mem _ (iJ h)
theorem AE: ∀{ρ:List (Nat×Nat)} {m:Nat},inv ρ m=none→m∉ρ.map Prod.snd
 | [],_,_=>by simp
 | (a,b)::r,m,h=>by
   simp only[inv]at h
   split at h
   ·cases h
   ·rename_i hb
    have hne:m≠b:=fun e=>by rw[e,Nat.beq_refl]at hb;cases hb
    have:=AE h
    simp only[List.map_cons,List.mem_cons,not_or]
    exact⟨hne,this⟩
theorem cN{α:Type}: ∀{l:List (Nat×α)} {n:Nat} {x:α},(l.map Prod.fst).Nodup→(n,x)∈l→look l n=some x
 | (j,y)::r,n,x,hnd,h=>by
   obtain⟨h1,h2⟩:=List.nodup_cons.1 hnd
   rcases List.mem_cons.1 h with h'|h'
   ·simp only[Prod.mk.injEq]at h'
    obtain⟨rfl,rfl⟩:=h'
    exact look_eq
   ·have hne:n≠j:=fun e=>h1 (List.mem_map.2 ⟨(n,x),h',e⟩)
    rw[aR hne];exact cN h2 h'
theorem nx: ∀{l:Hp},ef l=true→(l.map Prod.fst).Nodup
 | [],_=>List.nodup_nil
 | (n,x)::r,h=>by
   simp only[ef,Bool.and_eq_true]at h
   refine List.nodup_cons.2 ⟨fun hm=> ?_,nx h.2⟩
   obtain⟨e,he,rfl⟩:=List.mem_map.1 hm
   have:=cN (nx h.2) (show(e.1,e.2)∈r from he)
   rw[this]at h;simp at h
theorem iN: ∀{B:List (Nat×Nat×Obj)} {m:Nat} {o:Obj},look (tP B) m=some o→ ∃n,(n,m,o)∈B∧wW B m=some n
 | (n,k,x)::r,m,o,h=>by
   have h:look ((k,x)::tP r) m=some o:=h
   by_cases hm:m=k
   ·subst hm
    rw[look_eq]at h
    simp only[Option.some.injEq]at h
    subst h
    exact⟨n,by simp,by simp[wW]⟩
   ·rw[aR hm]at h
    obtain⟨n',h1,h2⟩:=iN h
    refine⟨n',List.mem_cons_of_mem _ h1,?_⟩
    simp only[wW]
    cases hb:Nat.beq m k with
    |true=>exact absurd (Nat.eq_of_beq_eq_true hb) hm
    |false=>exact h2
theorem xU: ∀{B:List (Nat×Nat×Obj)} {m:Nat},look (tP B) m=none→wW B m=none
 | [],_,_=>rfl
 | (n,k,x)::r,m,h=>by
   have h:look ((k,x)::tP r) m=none:=h
   have hm:m≠k:=by rintro rfl;rw[look_eq]at h;cases h
   rw[aR hm]at h
   simp only[wW]
   cases hb:Nat.beq m k with
   |true=>exact absurd (Nat.eq_of_beq_eq_true hb) hm
   |false=>exact xU h
theorem gB{ρ:List (Nat×Nat)}: ∀{hp:Hp} {B:List (Nat×Nat×Obj)},vm ρ hp=some B→ ∀n m o',(n,m,o')∈B→ ∃o,(n,o)∈hp∧look ρ n=some m∧o.toA ρ=some o'∧(gd m=true→gd n=true)∧(soft n=true→soft m=true)
 | [],B,h,n,m,o',hm=>by
   simp only[vm,Option.some.injEq]at h
   subst h;cases hm
 | (k,x)::r,B,h,n,m,o',hm=>by
   simp only[vm]at h
   split at h
   ·rename_i m1 o1 h1 e1 e2 e3
    split at h
    ·rename_i hp hs
     simp only[Option.some.injEq]at h
     subst h
     rcases List.mem_cons.1 hm with h|h
     ·simp only[Prod.mk.injEq]at h
      obtain⟨rfl,rfl,rfl⟩:=h
      refine⟨x,by simp,e1,e2,fun hn=> ?_,fun hn=> ?_⟩
      ·rw[hn]at hp;simpa using hp
      ·rw[hn]at hs;simpa using hs
     ·obtain⟨o,q1,q2⟩:=gB e3 n m o' h
      exact⟨o,List.mem_cons_of_mem _ q1,q2⟩
    ·cases h
   ·cases h
theorem xV{ρ:List (Nat×Nat)}: ∀{hp:Hp} {B:List (Nat×Nat×Obj)},vm ρ hp=some B→ ∀n o,(n,o)∈hp→ ∃m o',(n,m,o')∈B∧look ρ n=some m∧o.toA ρ=some o'
 | [],B,h,n,o,hm=>by cases hm
 | (k,x)::r,B,h,n,o,hm=>by
   simp only[vm]at h
   split at h
   ·rename_i m1 o1 h1 e1 e2 e3
    split at h
    ·simp only[Option.some.injEq]at h
     subst h
     rcases List.mem_cons.1 hm with h|h
     ·simp only[Prod.mk.injEq]at h
      obtain⟨rfl,rfl⟩:=h
      exact⟨m1,o1,by simp,e1,e2⟩
     ·obtain⟨m,o',q1,q2⟩:=xV e3 n o h
      exact⟨m,o',List.mem_cons_of_mem _ q1,q2⟩
    ·cases h
   ·cases h
theorem xW{st:St}{ρ:List (Nat×Nat)}: ∀{r:List (Nat×Nat)} {hp:Hp},pQ st ρ r=some hp→(∀n o,(n,o)∈hp→ ∃m x,(n,m)∈r∧look st.hp m=some x∧o=x.toF ρ∧(gd m=true→gd n=true)∧(soft m=true→soft n=true))∧ ∀n m,(n,m)∈r→ ∃x,look st.hp m=some x∧(n,x.toF ρ)∈hp
 | [],hp,h=>by
   simp only[pQ,Option.some.injEq]at h
   subst h
   exact⟨(fun n o hm=>nomatch hm),(fun n m hm=>nomatch hm)⟩
 | (k,j)::r,hp,h=>by
   simp only[pQ]at h
   split at h
   ·rename_i x h' e1 e2 e3 e4
    simp only[Option.some.injEq]at h
    subst h
    obtain⟨q1,q2⟩:=xW e4
    refine⟨fun n o hm=> ?_,fun n m hm=> ?_⟩
    ·rcases List.mem_cons.1 hm with h|h
     ·simp only[Prod.mk.injEq]at h
      obtain⟨rfl,rfl⟩:=h
      exact⟨j,x,by simp,e1,rfl,fun hs=>by rw[hs]at e2;simpa using e2,fun hs=>by rw[hs]at e3;simpa using e3⟩
     ·obtain⟨m,y,p1,p2⟩:=q1 n o h
      exact⟨m,y,List.mem_cons_of_mem _ p1,p2⟩
    ·rcases List.mem_cons.1 hm with h|h
     ·simp only[Prod.mk.injEq]at h
      obtain⟨rfl,rfl⟩:=h
      exact⟨x,e1,by simp⟩
     ·obtain⟨y,p1,p2⟩:=q2 n m h
      exact⟨y,p1,List.mem_cons_of_mem _ p2⟩
   ·cases h
theorem rj{st:St}{ρ:List (Nat×Nat)}: ∀{r:List (Nat×Nat)} {hp:Hp},pQ st ρ r=some hp→hp.map Prod.fst=r.map Prod.fst
 | [],hp,h=>by simp only[pQ,Option.some.injEq]at h;subst h;rfl
 | (k,j)::r,hp,h=>by
   simp only[pQ]at h
   split at h
   ·rename_i e4
    simp only[Option.some.injEq]at h
    subst h
    rw[List.map_cons,List.map_cons,rj e4]
   ·cases h
theorem kX{kv ks:List Nat}{hp:Hp}{n:Nat}:look (vo kv ks hp) n=if n∈kv then none else(look hp n).map (Obj.bl ks kv):=by
 unfold vo
 rw[gR (α:=Obj) (f:=fun e:Nat×Obj=>e.2.bl ks kv)]
 have:look (hp.filter fun e=> !kv.any (Nat.beq e.1)) n=if n∈kv then none else look hp n:=by
  induction hp with
  |nil=>simp[look]
  |cons e r ih=>
   obtain⟨j,x⟩:=e
   by_cases hj:j∈kv
   ·have:(kv.any (Nat.beq j))=true:=List.any_eq_true.2 ⟨j,hj,by simp⟩
    rw[List.filter_cons_of_neg (by simp[this]),ih]
    by_cases hn:n∈kv
    ·simp[hn]
    ·have:n≠j:=by rintro rfl;exact hn hj
     rw[if_neg hn,if_neg hn,aR this]
   ·have:(kv.any (Nat.beq j))=false:=by
     rw[List.any_eq_false]
     intro y hy hb
     exact hj (by rw[Nat.eq_of_beq_eq_true hb];exact hy)
    rw[List.filter_cons_of_pos (by simp[this])]
    by_cases K2:n=j
    ·subst K2;rw[look_eq,if_neg hj,look_eq]
    ·rw[aR K2,aR K2,ih]
 rw[this]
 split<;>simp
theorem xX{hp:Hp}: ∀{l:Hp},zf hp l=true→ ∀m o,look l m=some o→look hp m=none
 | (k,x)::r,h,m,o,hl=>by
   simp only[zf,Bool.and_eq_true]at h
   by_cases hm:m=k
   ·subst hm
    cases hq:look hp m with
    |none=>rfl
    |some y=>rw[hq]at h;simp at h
   ·rw[aR hm]at hl;exact xX h.2 m o hl
end Go.Proofs.YtjcojocjlglglaaGreat.G
