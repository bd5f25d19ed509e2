/-
  Calls that are lent memory: the theorem.
-/
import Derived.Laws.OwnMore
import Derived.Test.YtmcgjpdljafkeaaGreatM5
namespace Go.Proofs.YtmcgjpdljafkeaaGreat.G
set_option linter.all false
open Go.RowKit L D
section
variable{ty:Tag→Nat}
theorem nB: ∀(vs:List Value) (cs:List Value) (o:Nat),o+vs.length≤cs.length→splice (Array.mk cs) o vs=Array.mk (cs.take o++(vs++cs.drop (o+vs.length)))
 | [],cs,o,h=>by simp[splice,List.take_append_drop]
 |v::r,cs,o,h=>by
  simp only[List.length_cons]at h
  have e0:cs.set o v=cs.take o++v::cs.drop (o+1):=by
   rw[List.set_eq_take_append_cons_drop,if_pos (by omega)]
  have hl:(cs.take o).length=o:=by rw[List.length_take];omega
  have t1:(cs.take o++v::cs.drop (o+1)).take (o+1)=cs.take o++ [v]:=by
   rw[List.take_append,hl,show o+1-o=1 by omega,List.take_of_length_le (by rw[hl];omega)];rfl
  have t2:(cs.take o++v::cs.drop (o+1)).drop (o+1+r.length)=cs.drop (o+1+r.length):=by
   rw[List.drop_append,hl,show o+1+r.length-o=r.length+1 by omega,List.drop_succ_cons,List.drop_drop,List.drop_eq_nil_of_le (as:=cs.take o) (by rw[hl];omega),List.nil_append]
  rw[splice,List.setIfInBounds_toArray,nB r _ _ (by simp;omega),e0,t1,t2,List.append_assoc,List.length_cons,show o+(r.length+1)=o+1+r.length by omega]
  rfl
theorem Fu{R:V→Value→Prop}{c c' vs:List V}{cs us:List Value}{off:Nat}(h:bn R c cs)(hv:bn R vs us)(hs:Jb c off vs=some c'):off+us.length≤cs.length∧bn R c' (cs.take off++(us++cs.drop (off+us.length))):=by
 unfold Jb at hs
 split at hs
 ·rename_i hb
  have hb:=Nat.le_of_ble_eq_true hb
  simp only[Option.some.injEq]at hs
  subst hs
  have h1:=h.len
  have h2:=hv.len
  refine⟨by omega,bn.app (h.take off) (bn.app hv ?_)⟩
  rw[h2];exact h.drop _
 ·cases hs
theorem pU(off:Nat): ∀(l:List Value) (n:Nat) (c:Array Value),(l.zipIdx n).foldl (fun cs (p:Value×Nat)=>cs.setIfInBounds (off+p.2) p.1) c=splice c (off+n) l
 | [],_,_=>rfl
 |v::r,n,c=>by rw[List.zipIdx_cons,List.foldl_cons,pU off r (n+1)];rfl
def tZ:Nat→List Value→List (Nat×Value)
 |_,[]=> []
 |i,v::r=>(i,v)::tZ (i+1) r
theorem BU{k:Nat}: ∀(ps:List Value) (i:Nat) (cells:List Value),(∀v,v∈ps→v.cells.size=k)→cells.length=(i+ps.length)*k→
  Instr.fill (fun i=>some (i*k,k)) (Array.mk cells) (tZ i ps)=some (Array.mk (cells.take (i*k)++ps.flatMap fun v=>v.cells.toList))
 | [],i,cells,_,h=>by
   rw[tZ,Instr.fill,List.take_of_length_le (by rw[h];simp)];simp
 |v::r,i,cells,hk,h=>by
  have hv:=hk v (by simp)
  have hlen:i*k+k≤cells.length:=by
   rw[h,List.length_cons,show i+(r.length+1)=(i+1)+r.length by omega,Nat.add_mul (i+1),Nat.add_mul i 1,Nat.one_mul];omega
  rw[tZ,Instr.fill]
  simp only[hv,ne_eq,not_true_eq_false,decide_false,Bool.false_or,List.size_toArray]
  rw[if_neg (by simp;omega)]
  have Oo:(v.cells.zipIdx.foldl (fun cs (x:Value×Nat)=>cs.setIfInBounds (i*k+x.2) x.1) (Array.mk cells))=splice (Array.mk cells) (i*k) v.cells.toList:=by
   rw[←Array.foldl_toList,Array.toList_zipIdx,pU,Nat.add_zero]
  have hsz:v.cells.toList.length=k:=by simpa using hv
  have:=nB v.cells.toList cells (i*k) (by omega)
  show Instr.fill _ (v.cells.zipIdx.foldl (fun cs (x:Value×Nat)=>cs.setIfInBounds (i*k+x.2) x.1) (Array.mk cells)) _=_
  rw[Oo,this,BU r (i+1) _ (fun u hu=>hk u (by simp[hu])) (by
   simp only[List.length_append,List.length_take,List.length_drop,hsz]
   rw[h,List.length_cons]at*
   have:(i+1+r.length)*k=(i+(r.length+1))*k:=by congr 1;omega
   rw[this]
   omega)]
  have h1:(i+1)*k=i*k+k:=by rw[Nat.add_mul,Nat.one_mul]
  have t:((cells.take (i*k))++(v.cells.toList++cells.drop (i*k+v.cells.toList.length))).take ((i+1)*k)=cells.take (i*k)++v.cells.toList:=by
   rw[←List.append_assoc]
   exact List.take_left' (by rw[List.length_append,List.length_take,hsz,h1];omega)
  rw[t,List.flatMap_cons,List.append_assoc]
theorem rH{k:Nat}: ∀{ps:List (List Value)} {i:Nat} {c:List Value},(∀v,v∈ps→v.length=k)→ps[i]? =some c→(((ps.flatMap id).drop (i*k)).take k)=c
 |p::r,0,c,hk,h=>by
  simp at h
  subst h
  have:=hk p (by simp)
  rw[List.flatMap_cons,Nat.zero_mul,List.drop_zero,List.take_append]
  simp[←this]
 |p::r,i+1,c,hk,h=>by
  have hp:=hk p (by simp)
  rw[List.flatMap_cons,List.drop_append,show(id p).length=k from hp,List.drop_eq_nil_of_le (by rw[show(id p).length=k from hp,Nat.add_mul];omega),List.nil_append,show(i+1)*k-k=i*k by rw[Nat.add_mul];omega]
  exact rH (fun v hv=>hk v (by simp[hv])) (by simpa using h)
theorem rI{k:Nat}: ∀{ps:List (List Value)},(∀v,v∈ps→v.length=k)→(ps.flatMap id).length=ps.length*k
 | [],_=>by simp
 |p::r,hh=>by
  rw[List.flatMap_cons,List.length_append,rI fun v hv=>hh v (by simp[hv]),show(id p).length=k from hh p (by simp),List.length_cons,Nat.add_mul];omega
section
variable{P:Program}{a:Act}{w:World}{o:Oper}
theorem tG{t len:Nat}{parts:Array (Nat×Operand)}(ho:o.op= .buildSlice t len parts){g:Tag}(hu:P.underlying t=some (.slice (ty g)))(uJ:El P ty g)(BV:len*kk g≤16777216)(hlen:parts.toList.length=len){lo:Nat}(hlo:lo≤w.heap.size)
  {xs:List (T g)}{bk:List (List Nat)}(q1:(parts.toList.map fun p=>(p.1,a.eval p.2))=tZ 0 (parts.toList.map fun p=>a.eval p.2))(q2:xs.length=parts.toList.length)(q3:bk.length=xs.length)
  (q4: ∀(i:Nat) (x:T g) (f:List Nat),xs[i]? =some x→bk[i]? =some f→ ∃p:Nat×Operand,parts.toList[i]? =some p∧rd g w (a.eval p.2).cells.toList x f)(q5:Own lo w bk.flatten):
  ∃w',(execOp a.eval o).run P w= .ok (.value (.slice (some ⟨w.heap.size,0,none⟩) len len)) w'∧Below w.heap.size w w'∧iR (kk g) (rd g) lo (ty g) w' (.slice (some ⟨w.heap.size,0,none⟩) len len) xs (w.heap.size::bk.flatten):=by
 have hkp:=kB g
 have zZ: ∀v,v∈(parts.toList.map fun p=>a.eval p.2)→v.cells.size=kk g:=by
  intro v hv
  obtain⟨i,hi⟩:=List.getElem?_of_mem hv
  have hil:i<xs.length:=by have:=(List.getElem?_eq_some_iff.1 hi).1;simp at this;rw[q2];simpa using this
  have hfl:i<bk.length:=by omega
  obtain⟨p,h1,h2⟩:=q4 i xs[i] bk[i] (List.getElem?_eq_getElem hil) (List.getElem?_eq_getElem hfl)
  rw[List.getElem?_map,h1]at hi
  simp at hi
  subst hi
  simpa using(eT g).len h2
 cases hq:P.info? (ty g)with
 |none=>simp[El,hq]at uJ
 |some inf=>
  simp[El,hq]at uJ
  obtain⟨z1,z2,z3⟩:=uJ
  let zs:List Value:=(List.range (len*kk g)).map fun j=>(if len*kk g=0 then #[]else(eM g).cells)[j % (if len*kk g=0 then #[]else(eM g).cells).size]!
  have hzl:zs.length=len*kk g:=by simp[zs]
  have hf:=BU (k:=kk g) (parts.toList.map fun p=>a.eval p.2) 0 zs zZ (by rw[hzl,List.length_map,hlen,Nat.zero_add])
  rw[Nat.zero_mul,List.take_zero,List.nil_append]at hf
  have hrun:(execOp a.eval o).run P w= .ok (.value (.slice (some ⟨w.heap.size,0,none⟩) len len)) (w.alloc (.cells (Array.mk ((parts.toList.map fun p=>a.eval p.2).flatMap fun v=>v.cells.toList)) (ty g) (0,0))):=by
   unfold execOp
   have oy:(parts.map fun(p:Nat×Operand)=>(p.1,a.eval p.2)).toList=tZ 0 (parts.toList.map fun p=>a.eval p.2):=by
    rw[Array.toList_map];exact q1
   have hzs:((Array.range (len*kk g)).map fun j=>(if len*kk g=0 then #[]else(eM g).cells)[j % (if len*kk g=0 then #[]else(eM g).cells).size]!)=Array.mk zs:=by
    simp only[zs]
    apply Array.ext'
    simp
   have Yi:(sizeOf (ty g)).run P w= .ok (kk g) w:=by simp[sizeOf,typeInfo,hq,z2]
   simp only[ho,Instr.buildSlice,Sem.run_bind,run_underlying hu,Result.andThen_ok,Yi]
   rw[if_neg (by omega)]
   by_cases V9:len*kk g=0
   ·simp only[if_pos V9]at hzs ⊢
    simp only[Sem.run_bind,Sem.run_pure,Result.andThen_ok]
    rw[hzs,oy,hf]
    simp[newRow]
   ·have Yj:(zeroValue (ty g)).run P w= .ok (eM g) w:=by simp[zeroValue,typeInfo,hq,z1]
    simp only[if_neg V9]at hzs ⊢
    simp only[Sem.run_bind,Yj,Sem.run_pure,Result.andThen_ok]
    rw[hzs,oy,hf]
    simp[newRow]
  have hps:((parts.toList.map fun p=>a.eval p.2).flatMap fun v=>v.cells.toList)=((parts.toList.map fun p=>(a.eval p.2).cells.toList).flatMap id):=by
   simp[List.flatMap_map]
  have Oq: ∀v,v∈(parts.toList.map fun p=>(a.eval p.2).cells.toList)→v.length=kk g:=by
   intro v hv
   obtain⟨p,hp,rfl⟩:=List.mem_map.1 hv
   simpa using zZ _ (List.mem_map.2 ⟨p,hp,rfl⟩)
  have Ec:=rI Oq
  rw[List.length_map,hlen]at Ec
  have hb0:Below w.heap.size w (w.alloc (.cells (Array.mk ((parts.toList.map fun p=>a.eval p.2).flatMap fun v=>v.cells.toList)) (ty g) (0,0))):=(Below.refl _ _).alloc (Nat.le_refl _) _
  have Yk:=q5.lt
  refine⟨_,hrun,hb0,((parts.toList.map fun p=>a.eval p.2).flatMap fun v=>v.cells.toList),bk,⟨?_,Or.inr ⟨w.heap.size,len,Array.mk ((parts.toList.map fun p=>a.eval p.2).flatMap fun v=>v.cells.toList),?_,hlo,?_,?_,?_,?_,?_⟩⟩,q3,?_,rfl,?_⟩
  ·rw[hps,Ec,q2,hlen]
  ·rw[q2,hlen]
  ·exact oz rfl
  ·rw[q2,hlen];exact Nat.le_refl _
  ·unfold maxLen;have:=Nat.le_mul_of_pos_right len hkp;omega
  ·rw[List.size_toArray,hps,Ec]
  ·rw[List.take_of_length_le];simp only[hps,Ec,q2,hlen];exact Nat.le_refl _
  ·intro i x f hx KQ
   obtain⟨p,h1,h2⟩:=q4 i x f hx KQ
   have hkey:(((parts.toList.map fun p=>a.eval p.2).flatMap fun v=>v.cells.toList).drop (i*kk g)).take (kk g)=(a.eval p.2).cells.toList:=by
    rw[hps];exact rH Oq (by rw[List.getElem?_map,h1];rfl)
   rw[hkey]
   exact(eT g).below h2 hb0
  ·refine⟨List.nodup_cons.2 ⟨fun hm=>by have:=Yk _ hm;omega,q5.nodup⟩,fun b hb=> ?_,fun b hb=> ?_⟩
   ·rcases List.mem_cons.1 hb with rfl|hb
    ·exact hlo
    ·exact q5.ge b hb
   ·rcases List.mem_cons.1 hb with rfl|hb
    ·exact⟨_,_,oz rfl⟩
    ·exact(q5.below hb0).kind b hb
theorem Ot(z:Array Value)(n k i:Nat)(hk:z.size=k)(hi:i<n)(gO:0<k):(((madeCells z (n*k)).toList.drop (i*k)).take k)=z.toList:=by
 apply List.ext_getElem?
 intro j
 have h5:i*k+k≤n*k:=by
  have:=Nat.mul_le_mul_right k (show i+1≤n by omega)
  rw[Nat.add_mul]at this;omega
 by_cases hj:j<k
 ·rw[List.getElem?_take,if_pos hj,List.getElem?_drop]
  simp only[madeCells,Array.toList_map,Array.toList_range,List.getElem?_map]
  rw[List.getElem?_range (by omega),hk]
  simp only[Option.map_some]
  have hm:(i*k+j)% k=j:=by rw[Nat.mul_comm,Nat.mul_add_mod];exact Nat.mod_eq_of_lt hj
  rw[hm]
  have:j<z.size:=by omega
  simp[this]
 ·rw[List.getElem?_take,if_neg hj]
  rw[List.getElem?_eq_none (by simp;omega)]
theorem Ou{t:Nat}{x y:Operand}(ho:o.op= .makeSlice t x y){g:Tag}(hu:P.underlying t=some (.slice (ty g)))(uJ:El P ty g){k1 k2:IntKind}{n:Int}(hx:a.eval x= .int k1 n)(hy:a.eval y= .int k2 n)(h0:0≤n)(hb:n.toNat*cN g≤140737488355328)(hm:n.toNat≤maxLen):
  ∃w' u fp,(execOp a.eval o).run P w= .ok (.value u) w'∧Below w.heap.size w w'∧iR (kk g) (rd g) w.heap.size (ty g) w' u (List.replicate n.toNat (av g)) fp:=by
 cases hq:P.info? (ty g)with
 |none=>simp[El,hq]at uJ
 |some inf=>
  simp[El,hq]at uJ
  obtain⟨z1,z2,z3⟩:=uJ
  obtain⟨w',hr,hrow,hg⟩:=run_make_full (P:=P) w w.heap.size t (ty g) inf (eM g) (kk g) hu hq z1 z2 k1 k2 n.toNat (by rw[z3,Nat.mul_comm];omega) hm (Nat.le_refl _)
  rw[Int.toNat_of_nonneg h0]at hr
  refine⟨w', .slice (some ⟨w.heap.size,0,none⟩) n.toNat n.toNat,[w.heap.size],?_,⟨hg.os,hg.tape,hg.output,hg.size,fun b hb=>hg.block b hb (by simp)⟩,(madeCells (eM g).cells (n.toNat*kk g)).toList,List.replicate n.toNat [],?_,by simp,?_,?_,?_⟩
  ·unfold execOp
   simp only[ho,hx,hy,Sem.run_bind,hr,Result.andThen_ok,Sem.run_pure]
  ·rw[List.length_replicate];exact hrow
  ·intro i v f hi hf
   rw[List.getElem?_replicate]at hi hf
   split at hi
   ·rename_i hlt
    rw[if_pos hlt]at hf
    simp only[Option.some.injEq]at hi hf
    subst hi;subst hf
    rw[Ot _ _ _ _ (pR g) hlt (kB g)]
    exact Rz g
   ·cases hi
  ·simp[Value.ownBlock]
  ·refine⟨by simp,by simp,fun b hb=> ?_⟩
   rcases hrow.2 with⟨h,_⟩| ⟨g',cap,cur,h,_,hh,_⟩
   ·cases h
   ·simp only[Value.slice.injEq,Option.some.injEq,Addr.mk.injEq,and_true]at h
    rw[List.mem_singleton.1 hb,h.1]
    exact⟨_,_,hh⟩
end
end
section
variable{ty:Tag→Nat}
section
variable{P:Program}{zb:cA}{st:St}{a:Act}{w:World}{env:Env}{Q:Exit→Act→World→Prop}{o:Oper}
theorem BW{hp:Hp}{env:Env}: ∀{z:List Value},(∀v,v∈z→v.oneCell'=true)→bn (RA w hp env) (z.map V.lit) z
 | [],_=>trivial
 |v::r,h=>⟨⟨rfl,h v (by simp)⟩,BW fun u hu=>h u (by simp[hu])⟩
theorem jq(g:Good ty zb st a.tmps w env){v:V}{u:Value}(h:RA w st.hp env v u)(hv:v≠ .any):u.cells= #[u]:=by
 cases v with
 |any=>exact absurd rfl hv
 |lit x=>obtain⟨rfl,h1⟩:=h;cases u<;>simp_all [Value.cells,Value.oneCell']
 |sl t l=>obtain⟨fp,⟨oa,cap,rfl,_⟩,_⟩:=h;rfl
 |own n=>
  obtain⟨⟨t,l,hl⟩,rfl⟩:=h
  obtain⟨oa,cap,h,_⟩:=RO.sl (g.obj n _ hl)
  rw[h];rfl
 |ptr n off=>obtain⟨_,b,_,rfl⟩:=h;rfl
 |yx f n=>obtain⟨_,b,_,rfl⟩:=h;rfl
 |tY k=>obtain⟨oa,cap,rfl,_⟩:=h;rfl
 |lS n i off=>obtain⟨t,l,_,b,o,len,cap,_,rfl⟩:=h;rfl
 |ip t x off=>obtain⟨b,o,cs,fp,rfl,_⟩:=h;rfl
 |vw n p t l=>obtain⟨_,⟨fp,⟨oa,cap,rfl,_⟩,_⟩,_⟩:=h;rfl
 |AX n t l=>obtain⟨_,b,fp,⟨oa,cap,rfl,_⟩,_⟩:=h;rfl
 |mix n c t l=>obtain⟨_,⟨fp,⟨oa,cap,rfl,_⟩,_⟩,_⟩:=h;rfl
 |yu n=>
  obtain⟨⟨t,l,s,hl⟩,rfl⟩:=h
  obtain⟨_,us,hB,_⟩:=g.obj n _ hl
  obtain⟨oa,cap,h,_⟩:=hB.sl
  rw[h];rfl
 |Aw n p t x off=>obtain⟨_,b,o,cs,fp,rfl,_⟩:=h;rfl
theorem RN{op:BinOp}{k k':IntKind}{x y:Int}{vc:List Prop}{v:Value}(h:RC op k k' x y=some (vc,v))(hv: ∀q,q∈vc→q){t:TypeId}{X Y:Operand}:
  (do eqGuard op t X Y (.int k x) (.int k' y);binOp op t (.int k x) (.int k' y):Sem Value).run P w= .ok v w∧v.oneCell'=true:=by
 have gen:(∀(_: ¬(op= .shl∨op= .shr)),(match decEq k k' with|isTrue _=>XR op k x y|isFalse _=>none)=some (vc,v)→(do eqGuard op t X Y (.int k x) (.int k' y);binOp op t (.int k x) (.int k' y):Sem Value).run P w= .ok v w∧v.oneCell'=true):=by
  intro _ h'
  clear h
  split at h'
  ·rename_i hk _
   subst hk
   exact T7 h' hv
  ·cases h'
 cases op with
 |shl=>
  simp only[RC,Option.some.injEq,Prod.mk.injEq]at h
  obtain⟨rfl,rfl⟩:=h
  have hy: ¬y<0:=by have:0≤y:=hv _ (List.mem_singleton.2 rfl);omega
  refine⟨?_,rfl⟩
  simp[eqGuard,binOp,Op.shift,hy]
 |shr=>
  simp only[RC,Option.some.injEq,Prod.mk.injEq]at h
  obtain⟨rfl,rfl⟩:=h
  have hy: ¬y<0:=by have:0≤y:=hv _ (List.mem_singleton.2 rfl);omega
  refine⟨?_,rfl⟩
  simp[eqGuard,binOp,Op.shift,hy]
 |_=>exact gen (by simp) h
theorem RP{op:BinOp}{x y:ByteArray}{vc:List Prop}{v:Value}(h:MD op x y=some (vc,v))(hv: ∀q,q∈vc→q){t:TypeId}{X Y:Operand}:
  (do eqGuard op t X Y (.string x) (.string y);binOp op t (.string x) (.string y):Sem Value).run P w= .ok v w∧v.oneCell'=true:=by
 cases op with
 |add=>
  simp only[MD,Option.some.injEq,Prod.mk.injEq]at h
  obtain⟨rfl,rfl⟩:=h
  have hy:((x.size+y.size:Nat):Int)≤IntKind.i64.max:=hv _ (List.mem_singleton.2 rfl)
  refine⟨?_,rfl⟩
  have hy': ¬((x.size+y.size:Nat):Int)>IntKind.i64.max:=by omega
  simp only[eqGuard,binOp,Op.stringOp,if_neg hy']
  rfl
 |eql=>
  simp only[MD,Option.some.injEq,Prod.mk.injEq]at h
  obtain⟨rfl,rfl⟩:=h
  exact⟨by simp[eqGuard,binOp,Op.stringOp],rfl⟩
 |neq=>
  simp only[MD,Option.some.injEq,Prod.mk.injEq]at h
  obtain⟨rfl,rfl⟩:=h
  exact⟨by simp[eqGuard,binOp,Op.stringOp],rfl⟩
 |_=>simp[MD]at h
theorem KR{v:S1}{u:Value}{f:FuncId}(hr:fG w st.hp env v u)(h:RD v=some f):u= .func (.func f) #[] #[]:=by
 unfold RD at h
 split at h
 ·simp only[Option.some.injEq]at h
  subst h
  exact hr.lit
 ·cases h
theorem MI(l:List UInt8):strOfNums (l.map fun n=>(n.toNat:Int))=Dz l:=by
 unfold strOfNums Dz
 congr 2
 rw[List.map_map]
 conv=>rhs;rw[←List.map_id l]
 apply List.map_congr_left
 intro n _
 simp
theorem Ay(ad:Addr)(cap:Nat):(Conv.bytesToString (.slice (some ad) 0 cap)).run P w= .ok (.string (Dz [])) w:=by
 have:=run_bytesToString (P:=P) w ad 0 cap [] (by simp[loadCells,loadCellsFrom])
 exact this
theorem G3{a b:List (List Nat)}(h:a.Sublist b):a.flatten.Sublist b.flatten:=by
 induction h with
 |slnil=>exact List.Sublist.refl _
 |cons x _ ih=>rw[List.flatten_cons];exact ih.trans (List.sublist_append_right _ _)
 |cons_cons x _ ih=>rw[List.flatten_cons,List.flatten_cons];exact List.Sublist.append (List.Sublist.refl _) ih
theorem yE{t:Nat}{x:Operand}{lo hi:Option Operand}(ho:o.op= .slice t x lo hi none){g:Tag}{e:Nat}(hk:cw P t (.sl g e)){t':Tag}{l:List (T t')}(hkk:kk g=kk t'){fp:List Nat}(hx:Sl (kk t') (rd t') w (a.eval x) l fp){n1 n2:Int}
  (h1:(lo=none∧n1=0)∨ ∃y k,lo=some y∧a.eval y= .int k n1)(h2:(hi=none∧n2=l.length)∨ ∃y k,hi=some y∧a.eval y= .int k n2)(q0:0≤n1)(q1:n1≤n2)(q2:n2≤(l.length:Int)):
  ∃u' ga,(execOp a.eval o).run P w= .ok (.value u') w∧Sl (kk t') (rd t') w u' ((l.take n2.toNat).drop n1.toNat) ga∧ga.Sublist fp:=by
 obtain⟨hu,hs⟩:=hk
 obtain⟨oa,cap,hv,hc,hm,h3⟩:=hx
 cases hq:P.info? e with
 |none=>simp[hq]at hs
 |some inf=>
  have hsz:inf.size=kk g:=by simpa[hq]using hs
  have hcap:n2≤(cap:Int):=by omega
  have hn2:0≤n2:=by omega
  have Jd:max n2 0=n2:=by omega
  have hlen:((l.take n2.toNat).drop n1.toNat).length=n2.toNat-n1.toNat:=by simp;omega
  have hrun:(Instr.sliceAt t (.slice oa l.length cap) (lo.map a.eval) (hi.map a.eval) none).run P w= .ok (.slice (if cap=n1.toNat then oa else oa.map (·.add (n1.toNat*kk g))) (n2.toNat-n1.toNat) (cap-n1.toNat)) w:=by
   rcases h1 with⟨rfl,rfl⟩| ⟨y1,k1,rfl,e1⟩<;>rcases h2 with⟨rfl,rfl⟩| ⟨y2,k2,rfl,e2⟩
   all_goals simp[Instr.sliceAt,Instr.slice,Instr.sliceBounds,Instr.sliceBound,asIntOf,run_underlying hu,sizeOf,typeInfo,hq,hsz, *]
  have hex:(execOp a.eval o).run P w= .ok (.value (.slice (if cap=n1.toNat then oa else oa.map (·.add (n1.toNat*kk g))) (n2.toNat-n1.toNat) (cap-n1.toNat))) w:=by
   unfold execOp
   simp only[ho,hv,Option.map_none,Sem.run_bind,hrun,Result.andThen_ok,Sem.run_pure]
  rcases h3 with⟨rfl,rfl,hn⟩| ⟨b,off,bk,rfl,hb,rfl,hE⟩
  ·have e0:n1=0:=by simp at q2;omega
   have e2:n2=0:=by simp at q2;omega
   subst e0;subst e2
   refine⟨_,[],hex,⟨_,_,rfl,by simp,by omega,Or.inl ⟨by simp,rfl,?_⟩⟩,List.nil_sublist _⟩
   intro Je
   split at Je
   ·rw[hn Je];rfl
   ·cases oa with
    |none=>rw[hn rfl];rfl
    |some _=>simp at Je
  ·by_cases ZF:cap=n1.toNat
   ·have e0:(l.take n2.toNat).drop n1.toNat= []:=by
     apply List.eq_nil_of_length_eq_zero;omega
    refine⟨_,[],hex,⟨_,_,by rw[hlen],by rw[hlen];omega,by omega,Or.inl ⟨e0,rfl,?_⟩⟩,List.nil_sublist _⟩
    intro Je;rw[if_pos ZF]at Je;cases Je
   ·refine⟨_,b::((bk.take n2.toNat).drop n1.toNat).flatten,hex,⟨_,_,by rw[hlen],by rw[hlen];omega,by omega,Or.inr ⟨b,off+n1.toNat*kk t',(bk.take n2.toNat).drop n1.toNat,?_,hb,rfl,?_,?_⟩⟩,?_⟩
    ·rw[if_neg ZF,hkk];simp[Addr.add_mid]
    ·have:=hE.1;simp[this]
    ·intro i x f hx hf
     rw[List.getElem?_drop,List.getElem?_take]at hx hf
     split at hx
     ·rename_i hlt
      rw[if_pos hlt]at hf
      obtain⟨cs,k1,k2⟩:=hE.2 _ x f hx hf
      exact⟨cs,by rw[Nat.add_assoc, ←Nat.add_mul];exact k1,k2⟩
     ·cases hx
    ·exact List.Sublist.cons_cons _ (G3 ((List.drop_sublist _ _).trans (List.take_sublist _ _)))
theorem G4{t:Nat}{x:Operand}{lo:Option Operand}(ho:o.op= .slice t x lo none none){g:Tag}{e:Nat}(hk:cw P t (.sl g e)){oa:Option Addr}{n cap:Nat}(hv:a.eval x= .slice oa n cap)(hc:n≤cap){n1:Int}
  (h1:(lo=none∧n1=0)∨ ∃y k,lo=some y∧a.eval y= .int k n1)(hn:n1=(n:Int)):
  ∃TU,(execOp a.eval o).run P w= .ok (.value (.slice TU 0 (cap-n))) w∧(TU=none→oa=none):=by
 obtain⟨hu,hs⟩:=hk
 cases hq:P.info? e with
 |none=>simp[hq]at hs
 |some inf=>
  have hsz:inf.size=kk g:=by simpa[hq]using hs
  subst hn
  have Jd:max (n:Int) 0=n:=by omega
  refine⟨if cap=n then oa else oa.map (·.add (n*kk g)),?_,fun h=> ?_⟩
  ·have hrun:(Instr.sliceAt t (.slice oa n cap) (lo.map a.eval) none none).run P w= .ok (.slice (if cap=n then oa else oa.map (·.add (n*kk g))) 0 (cap-n)) w:=by
    have h0:(n:Int)≤(cap:Int):=by omega
    rcases h1 with⟨rfl,e1⟩| ⟨y1,k1,rfl,e1⟩
    ·have:n=0:=by omega
     subst this
     simp[Instr.sliceAt,Instr.slice,Instr.sliceBounds,Instr.sliceBound,asIntOf,run_underlying hu,sizeOf,typeInfo,hq,hsz]
    ·simp[Instr.sliceAt,Instr.slice,Instr.sliceBounds,Instr.sliceBound,asIntOf,run_underlying hu,sizeOf,typeInfo,hq,hsz, *]
   unfold execOp
   simp only[ho,hv,Option.map_none,Sem.run_bind,hrun,Result.andThen_ok,Sem.run_pure]
  ·split at h
   ·exact h
   ·simpa using h
theorem bR.at{w:World}: ∀{c:List V} {cs:List Value} {f:List Nat} {i:Nat} {v:V},bR w c cs f→wm c i=some v→ ∃u f',cs[i]? =some u∧RI w v u f'∧f'.Sublist f
 |x::r,u::us,_,0,v,⟨f1,f2,h1,_,rfl⟩,h=>by
  simp only[wm,Option.some.injEq]at h
  subst h
  exact⟨u,f1,rfl,h1,List.sublist_append_left _ _⟩
 |x::r,u::us,_,i+1,v,⟨f1,f2,_,h2,rfl⟩,h=>by
  obtain⟨u',f',k1,k2,k3⟩:=bR.at h2 (show wm r i=some v from h)
  exact⟨u',f',by simpa using k1,k2,k3.trans (List.sublist_append_right _ _)⟩
 | [],_,_,_,_,_,h=>by simp[wm]at h
 |_::_,[],_,_,_,h,_=>h.elim
theorem BX(g:Good ty zb st a.tmps w env){n:Nat}{t:Tag}{l:List (T t)}(hl:look st.hp n=some (.arr t l)){i:Nat}(hi:i<l.length):
  ∃b o cap cs f,(env n).v= .slice (some ⟨b,o,none⟩) l.length cap∧b∈(env n).fp∧w.rangeAt b (o+i*kk t) cs∧rd t w cs (l.getD i (av t)) f∧f.Sublist (env n).fp:=by
 obtain⟨oa,cap,hv,_,_,h3⟩:=RO.sl (g.obj n _ hl)
 rcases h3 with⟨rfl,_⟩| ⟨b,o,bk,rfl,hb,gA,he⟩
 ·simp at hi
 ·have hx:l[i]? =some (l.getD i (av t)):=by rw[List.getD_eq_getElem?_getD,List.getElem?_eq_getElem hi];rfl
  obtain⟨f,hf⟩:=iz he.1 hx
  obtain⟨cs,hr,hE⟩:=he.2 _ _ f hx hf
  exact⟨b,o,cap,cs,f,hv,by rw[gA];simp,hr,hE,by rw[gA];exact(List.sublist_flatten_of_mem (List.mem_of_getElem? hf)).trans (List.sublist_cons_self _ _)⟩
theorem Fv{hp:Hp}{n:Nat}{t0:Tag}{l0:List (T t0)}(hl:look hp n=some (.arr t0 l0)){p:Option (Nat×Nat)}{v:V}{u:Value}{f:List Nat}(h:RI w v u f)(hnd:f.Nodup)(hf: ∀b,b∈f→b∈(env n).fp)
  (iB: ∀i off,p=some (i,off)→ ∃b o len cap,i<l0.length∧wm (dec t0 (l0.getD i (av t0))) off=some v∧(env n).v= .slice (some ⟨b,o,none⟩) len cap∧b∈(env n).fp∧w.cell? ⟨b,o+i*kk t0+off,none⟩=some u):RA w hp env (V6 n p v) u:=by
 cases v with
 |sl t l=>
  refine⟨⟨t0,l0,hl⟩,⟨f,h,hnd,hf⟩,fun i off T8=> ?_⟩
  obtain⟨b,o,len,cap,h1,h2,h3,h4,h5⟩:=iB i off T8
  exact⟨t0,l0,b,o,len,cap,hl,h1,h2,h3,h4,h5⟩
 |lit x=>exact⟨h.1,h.2.1⟩
 |_=>trivial
theorem KS{hp:Hp}{n:Nat}{t0:Tag}{l0:List (T t0)}(hl:look hp n=some (.arr t0 l0)){i:Nat}(hi:i<l0.length){b o len cap:Nat}(hv:(env n).v= .slice (some ⟨b,o,none⟩) len cap)(hb:b∈(env n).fp):
  ∀{c:List V} {us:List Value} {f:List Nat} {k:Nat},bR w c us f→f.Nodup→(∀x,x∈f→x∈(env n).fp)→(∀j v,c[j]? =some v→wm (dec t0 (l0.getD i (av t0))) (k+j)=some v)→w.rangeAt b (o+i*kk t0+k) us→bn (RA w hp env) (T2 n i k c) us
 | [],[],_,_,_,_,_,_,_=>trivial
 |v::r,u::us,_,k,⟨f1,f2,h1,h2,rfl⟩,hnd,hf,hc,hr=>by
  obtain⟨hn1,hn2,_⟩:=List.nodup_append.1 hnd
  refine⟨Fv hl h1 hn1 (fun x hx=>hf x (List.mem_append_left _ hx)) ?_,KS hl hi hv hb h2 hn2 (fun x hx=>hf x (List.mem_append_right _ hx)) ?_ ?_⟩
  ·rintro i' off' T8
   simp only[Option.some.injEq,Prod.mk.injEq]at T8
   obtain⟨rfl,rfl⟩:=T8
   exact⟨b,o,len,cap,hi,hc 0 v rfl,hv,hb,by have:=hr 0 u rfl;simpa using this⟩
  ·intro j v' hj
   have:=hc (j+1) v' (by simpa using hj)
   rwa [show k+(j+1)=k+1+j by omega]at this
  ·intro j v' hj
   have:=hr (j+1) v' (by simpa using hj)
   rwa [show o+i*kk t0+k+(j+1)=o+i*kk t0+(k+1)+j by omega]at this
 | [],_::_,_,_,h,_,_,_,_=>h.elim
 |_::_,[],_,_,h,_,_,_,_=>h.elim
theorem KT{hp:Hp}{n:Nat}{t0:Tag}{l0:List (T t0)}(hl:look hp n=some (.arr t0 l0)):
  ∀{c:List V} {us:List Value} {f:List Nat},bR w c us f→f.Nodup→(∀x,x∈f→x∈(env n).fp)→bn (RA w hp env) (T3 n c) us
 | [],[],_,_,_,_=>trivial
 |v::r,u::us,_,⟨f1,f2,h1,h2,rfl⟩,hnd,hf=>
  ⟨Fv hl h1 (List.nodup_append.1 hnd).1 (fun x hx=>hf x (List.mem_append_left _ hx)) (by simp),KT hl h2 (List.nodup_append.1 hnd).2.1 (fun x hx=>hf x (List.mem_append_right _ hx))⟩
 | [],_::_,_,h,_,_=>h.elim
 |_::_,[],_,h,_,_=>h.elim
theorem A5: ∀{l:List V} {i:Nat},wm l i=l[i]?
 | [],_=>by simp[wm]
 |_::_,0=>rfl
 |_::r,i+1=>by rw[wm,A5 (l:=r)];simp
theorem bR.sub{w:World}{c d:List V}{cs:List Value}{f:List Nat}{off k:Nat}(h:bR w c cs f)(hs:sub c off k=some d): ∃f',bR w d ((cs.drop off).take k) f'∧f'.Sublist f∧d=(c.drop off).take k∧((cs.drop off).take k).length=k:=by
 have drop: ∀(n:Nat) {c:List V} {cs:List Value} {f:List Nat},bR w c cs f→ ∃f',bR w (c.drop n) (cs.drop n) f'∧f'.Sublist f:=by
  intro n
  induction n with
  |zero=>intro c cs f h;exact⟨f,by simpa using h,List.Sublist.refl _⟩
  |succ n ih=>
   intro c cs f h
   cases c with
   |nil=>cases cs with
    |nil=>exact⟨f,by simpa using h,List.Sublist.refl _⟩
    |cons _ _=>exact h.elim
   |cons v r=>cases cs with
    |nil=>exact h.elim
    |cons u us=>
     obtain⟨f1,f2,_,h2,rfl⟩:=h
     obtain⟨f',k1,k2⟩:=ih h2
     exact⟨f',by simpa using k1,k2.trans (List.sublist_append_right _ _)⟩
 have take: ∀(n:Nat) {c:List V} {cs:List Value} {f:List Nat},bR w c cs f→ ∃f',bR w (c.take n) (cs.take n) f'∧f'.Sublist f:=by
  intro n
  induction n with
  |zero=>intro c cs f h;exact⟨[],by simp[bR],List.nil_sublist _⟩
  |succ n ih=>
   intro c cs f h
   cases c with
   |nil=>cases cs with
    |nil=>exact⟨f,by simpa using h,List.Sublist.refl _⟩
    |cons _ _=>exact h.elim
   |cons v r=>cases cs with
    |nil=>exact h.elim
    |cons u us=>
     obtain⟨f1,f2,h1,h2,rfl⟩:=h
     obtain⟨f',k1,k2⟩:=ih h2
     exact⟨f1++f',⟨f1,f',h1,k1,rfl⟩,List.Sublist.append (List.Sublist.refl _) k2⟩
 unfold G.sub at hs
 split at hs
 ·rename_i hb
  have hb:=Nat.le_of_ble_eq_true hb
  simp only[Option.some.injEq]at hs
  obtain⟨f1,h1,h2⟩:=drop off h
  obtain⟨f2,h3,h4⟩:=take k h1
  refine⟨f2,by rw[←hs];exact h3,h4.trans h2,hs.symm,?_⟩
  have:=h.len
  rw[List.length_take,List.length_drop];omega
 ·cases hs
theorem RQ{n:Nat}{p:Option (Nat×Nat)}{t:Tag}{l:List (T t)}{u:Value}{k:Int}(h:RA w st.hp env (.vw n p t l) u)(h0:0≤k)(h1:k<l.length):
  ∃b off len cap,u= .slice (some ⟨b,off,none⟩) len cap∧k<len∧RA w st.hp env (.Aw n (T4 p k.toNat) t (l.getD k.toNat (av t)) 0) (.pointer (some ⟨b,off+k.toNat*kk t,none⟩)):=by
 have VR:RV w st.hp env n p t l u:=h
 obtain⟨hA,⟨fp,⟨oa,cap,rfl,hc,hm,h3⟩,hnd,hd⟩,_⟩:=h
 have hn:k.toNat<l.length:=by omega
 rcases h3 with⟨rfl,_⟩| ⟨b,off,bk,rfl,hb,rfl,he⟩
 ·simp at hn
 ·have hx:l[k.toNat]? =some (l.getD k.toNat (av t)):=by rw[List.getD_eq_getElem?_getD,List.getElem?_eq_getElem hn];rfl
  obtain⟨f,hf⟩:=iz he.1 hx
  obtain⟨cs,hr,hE⟩:=he.2 _ _ f hx hf
  refine⟨b,off,l.length,cap,rfl,h1,hA,b,off+k.toNat*kk t,cs,f,rfl,hd b (by simp),hr,hE,((List.sublist_flatten_of_mem (List.mem_of_getElem? hf)).trans (List.sublist_cons_self _ _)).nodup hnd,fun c hc=>hd c (List.mem_cons_of_mem _ (b9 hf hc)),fun i o2 j hp=> ?_⟩
  cases p with
  |none=>cases hp
  |some ab=>
   obtain⟨a1,b1⟩:=ab
   simp only[T4,Option.some.injEq,Prod.mk.injEq]at hp
   obtain⟨rfl,rfl,rfl⟩:=hp
   exact⟨l,_,b,off,l.length,cap,VR,hn,rfl,rfl,rfl⟩
theorem Fw{t:Nat}{x:Operand}{lo hi:Option Operand}(ho:o.op= .slice t x lo hi none)(hu:P.underlying t=some .string){s:ByteArray}(hv:a.eval x= .string s){n1 n2:Int}
  (h1:(lo=none∧n1=0)∨ ∃y k,lo=some y∧a.eval y= .int k n1)(h2:(hi=none∧n2=s.size)∨ ∃y k,hi=some y∧a.eval y= .int k n2)(q0:0≤n1)(q1:n1≤n2)(q2:n2≤(s.size:Int)):
  o.wp P a w (yC ty st a w env o.dst (.one (.a (.lit (.string (s.extract n1.toNat n2.toNat))))) []) Q:=by
 have hn2:0≤n2:=by omega
 have Jd:max n2 0=n2:=by omega
 have hrun:(Instr.sliceAt t (.string s) (lo.map a.eval) (hi.map a.eval) none).run P w= .ok (.string (s.extract n1.toNat n2.toNat)) w:=by
  rcases h1 with⟨rfl,rfl⟩| ⟨y1,k1,rfl,e1⟩<;>rcases h2 with⟨rfl,rfl⟩| ⟨y2,k2,rfl,e2⟩
  all_goals simp[Instr.sliceAt,Instr.slice,Instr.sliceBounds,Instr.sliceBound,asIntOf,run_underlying hu, *]
 refine dh (u:= .string (s.extract n1.toNat n2.toNat)) ?_ ⟨rfl,rfl⟩
 unfold execOp
 simp only[ho,hv,Option.map_none,Sem.run_bind,hrun,Result.andThen_ok,Sem.run_pure]
theorem MJ(g:Good ty zb st a.tmps w env){v:V}{u:Value}(hr:fG w st.hp env (.a v) u){l:List UInt8}(hl:bytesOf st v=some l){s e t:Nat}(hs:P.underlying s=some (.slice e))(he:P.underlying e=some (.int .u8))(ht:P.underlying t=some .string):
  (convert s t u).run P w= .ok (.string (Dz l)) w:=by
 have key: ∀{b off len cap:Nat},len=l.length→(∀i x,l[i]? =some x→w.cell? ⟨b,off+i,none⟩=some (.int .u8 x.toNat))→(convert s t (.slice (some ⟨b,off,none⟩) len cap)).run P w= .ok (.string (Dz l)) w:=by
  intro b off len cap hlen hc
  rw[run_convert_bytes_arg w s e hs he b off len cap (l.map fun n=>(n.toNat:Int)) (by simp[hlen]) (fun i hi=> ?_) t ht,MI]
  have hi2:i<l.length:=by omega
  rw[hc i _ (List.getElem?_eq_getElem hi2),List.getD_eq_getElem?_getD,List.getElem?_map,List.getElem?_eq_getElem hi2]
  rfl
 have nil: ∀{c:Nat},(convert s t (.slice none 0 c)).run P w= .ok (.string (Dz [])) w:=by
  intro c
  rw[run_convert_bytes_nil w s e hs he 0 c t ht];rfl
 have sl: ∀{fp:List Nat},Sl 1 GL w u l fp→(convert s t u).run P w= .ok (.string (Dz l)) w:=by
  rintro fp ⟨oa,cap,rfl,_,_,h3⟩
  rcases h3 with⟨rfl,_,_⟩| ⟨b,off,bk,rfl,_,_,hE⟩
  ·cases oa with
   |none=>exact nil
   |some ad=>
    rw[run_convert_bytes_string w s t e _ _ _ hs he ht]
    exact Ay ad cap
  ·refine key rfl fun i x hx=> ?_
   obtain⟨f,hf⟩:=iz hE.1 hx
   obtain⟨cs,q1,rfl,_⟩:=hE.2 i x f hx hf
   have:=q1 0 _ rfl
   simpa using this
 unfold bytesOf at hl
 split at hl
 ·simp only[Option.some.injEq]at hl
  subst hl
  obtain⟨fp,h,_⟩:=hr
  exact sl h
 ·rename_i n
  split at hl
  ·rename_i l' hlk
   simp only[Option.some.injEq]at hl
   subst hl
   obtain⟨_,hu⟩:=hr
   have hb:Sl 1 GL w (env n).v l' (env n).fp:=RO.sl (g.obj n _ hlk)
   rw[←show u=(env n).v from hu]at hb
   exact sl hb
  ·cases hl
 ·simp only[Option.some.injEq]at hl
  subst hl
  obtain⟨_,⟨fp,h,_⟩,_⟩:=hr
  exact sl h
 ·simp only[Option.some.injEq]at hl
  subst hl
  have hu:=(show fG w st.hp env (.a (.lit Fm)) u from hr).lit
  rw[hu]
  exact nil
 ·cases hl
theorem n9{p:List (Nat×Bool)}(hop: ∀{x v},gf st p x=some v→fG w st.hp env v (a.eval x)){z n:Int}{b:Option Operand}(h:MF st p z b=some n):(b=none∧n=z)∨ ∃x k,b=some x∧a.eval x= .int k n:=by
 cases b with
 |none=>simp only[MF,Option.some.injEq]at h;exact Or.inl ⟨rfl,h.symm⟩
 |some x=>
  simp only[MF]at h
  split at h
  ·rename_i k i hx
   simp only[Option.some.injEq]at h
   subst h
   exact Or.inr ⟨x,k,rfl,(hop hx).lit⟩
  ·cases h
theorem Ed{m:Nat}{t:Tag}{l:List (T t)}{w':World}{u:Value}{fp:List Nat}(hr:(execOp a.eval o).run P w= .ok (.value u) w')(hb:Below w.heap.size w w')(hB:iR (kk t) (rd t) w.heap.size (ty t) w' u l fp):
  o.wp P a w (yC ty st a w env o.dst (.one (.a (.own m))) [(m, .arr t l)]) Q:=by
 unfold Oper.wp
 rw[hr]
 obtain⟨env',hN,hl⟩:=lf.list (ty:=ty) (hp:=st.hp) (env:=env) (os:= [(m, .arr t l)]) (ce:= [⟨u,fp⟩]) hb (by simp[gb,look]) ⟨⟨fun _ _=>RO.D8 (iR.mono hB (Nat.zero_le _)),(iR.own hB).ge⟩,trivial⟩ (by simpa using(iR.own hB).nodup)
 have h2:env' m=⟨u,fp⟩:=hl.1.2
 exact⟨u,env',rfl,hN,⟨t,l,look_eq⟩,by rw[h2]⟩
theorem Ov{w:World}{hp:Hp}{env:Env}: ∀{l:List V} {us:List Value},plain l=true→bn (RA w hp env) l us→bR w l us []:=by
 intro l
 induction l with
 |nil=>intro us _ h;cases us with
  |nil=>rfl
  |cons _ _=>exact h.elim
 |cons v r ih=>
  intro us oy h
  cases us with
  |nil=>exact h.elim
  |cons u us=>
   unfold plain at oy
   split at oy
   ·rename_i heq;cases heq
   ·cases oy
   ·rename_i heq
    simp only[List.cons.injEq]at heq
    obtain⟨rfl,rfl⟩:=heq
    exact⟨[],[],⟨h.1.1,h.1.2,rfl⟩,ih oy h.2,rfl⟩
   ·cases oy
theorem KU(g:Good ty zb st a.tmps w env): ∀{l c:List V} {n:Nat} {us:List Value},bn (RA w st.hp env) l us→wq st.hp l=some (c,n)→ ∃t l',look st.hp n=some (.arr t l')∧bR w c us (env n).fp
 | [],_,_,_,_,h=>by simp[wq]at h
 |v::r,c,n,us,hr,h=>by
  cases us with
  |nil=>exact hr.elim
  |cons u us=>
   unfold wq at h
   split at h
   ·rename_i m r' he
    simp only[List.cons.injEq]at he
    obtain⟨rfl,rfl⟩:=he
    split at h
    ·rename_i t l hl oy
     simp only[Option.some.injEq,Prod.mk.injEq]at h
     obtain⟨rfl,rfl⟩:=h
     obtain⟨_,rfl⟩:=hr.1
     exact⟨t,l,hl,_,[],RO.sl (g.obj m _ hl),Ov oy hr.2,by simp⟩
    ·cases h
   ·cases h
   ·rename_i x r' _ he
    simp only[List.cons.injEq]at he
    obtain⟨rfl,rfl⟩:=he
    split at h
    ·rename_i c' n' h'
     simp only[Option.some.injEq,Prod.mk.injEq]at h
     obtain⟨rfl,rfl⟩:=h
     obtain⟨t,l',h1,h2⟩:=KU g hr.2 h'
     exact⟨t,l',h1,[],_,⟨hr.1.1,hr.1.2,rfl⟩,h2,by simp⟩
    ·cases h
   ·cases h
theorem Jy(g:Good ty zb st a.tmps w env){s:S1}{u:Value}(hr:fG w st.hp env s u){c:List V}{n:Nat}(h:wq st.hp (cellsOf s)=some (c,n)):bn (RA w st.hp env) (cellsOf s) u.cells.toList:=by
 cases s with
 |agg l=>obtain⟨cs,rfl,hl⟩:=hr;exact hl
 |a v=>
  have hv:v≠ .any:=by rintro rfl;simp[cellsOf,wq]at h
  have:=jq g (show RA w st.hp env v u from hr) hv
  rw[this]
  exact⟨hr,trivial⟩
theorem Ee(g:Good ty zb st a.tmps w env){p:List (Nat×Bool)}(hp:holds a.tmps p){t:Tag}: ∀{ps:List (Nat×Operand)} {i:Nat} {vc:List Prop} {xs:List (T t)},n7 st p t i ps=some (vc,xs)→(∀q,q∈vc→q)→
  (ps.map fun p=>(p.1,a.eval p.2))=tZ i (ps.map fun p=>a.eval p.2)∧xs.length=ps.length∧ ∀(i:Nat) (x:T t),xs[i]? =some x→ ∃p:Nat×Operand,ps[i]? =some p∧rd t w (a.eval p.2).cells.toList x []
 | [],i,vc,xs,h,_=>by
   simp only[n7,Option.some.injEq,Prod.mk.injEq]at h
   obtain⟨rfl,rfl⟩:=h
   exact⟨rfl,rfl,by simp⟩
 | (j,x)::r,i,vc,xs,h,hv=>by
   simp only[n7]at h
   split at h
   ·rename_i s hij hx
    have hij:=Nat.eq_of_beq_eq_true hij
    subst hij
    split at h
    ·rename_i oc y vcs ys oy he hb
     simp only[Option.some.injEq,Prod.mk.injEq]at h
     obtain⟨rfl,rfl⟩:=h
     obtain⟨q1,q2,q3⟩:=Ee g hp hb (fun q hq=>hv q (List.mem_append_right _ hq))
     have hc: ∃us,(a.eval x).cells.toList=us∧bR w (cellsOf s) us []:=by
      have hs:=eg g hp hx
      have key: ∀{l:List V} {us:List Value},plain l=true→bn (RA w st.hp env) l us→bR w l us []:=by
       intro l
       induction l with
       |nil=>intro us _ h;cases us with
        |nil=>rfl
        |cons _ _=>exact h.elim
       |cons v r ih=>
        intro us oy h
        cases us with
        |nil=>exact h.elim
        |cons u us=>
         unfold plain at oy
         split at oy
         ·rename_i heq;cases heq
         ·cases oy
         ·rename_i heq
          simp only[List.cons.injEq]at heq
          obtain⟨rfl,rfl⟩:=heq
          exact⟨[],[],⟨h.1.1,h.1.2,rfl⟩,ih oy h.2,rfl⟩
         ·cases oy
      cases s with
      |agg l=>
       obtain⟨cs,hu,hl⟩:=hs
       exact⟨cs,by rw[hu];rfl,key oy hl⟩
      |a v=>
       have hne:v≠ .any:=by rintro rfl;cases oy
       exact⟨[a.eval x],by rw[jq g hs hne],key oy ⟨hs,trivial⟩⟩
     obtain⟨us,RR,KW⟩:=hc
     refine⟨by simp[tZ,q1],by simp[q2],fun i' x' hx'=> ?_⟩
     cases i' with
     |zero=>
      simp at hx'
      subst hx'
      exact⟨(i,x),rfl,by rw[RR];exact rB t he (fun q hq=>hv q (List.mem_append_left _ hq)) KW⟩
     |succ n=>
      obtain⟨p,h1,h2⟩:=q3 n x' (by simpa using hx')
      exact⟨p,by simpa using h1,h2⟩
    ·cases h
   ·cases h
theorem RS(g:Good ty zb st a.tmps w env){p:List (Nat×Bool)}(hp:holds a.tmps p){x:Operand}{k:IntKind}{i:Int}(h:RE st p x=some (k,i)):a.eval x= .int k i:=by
 unfold RE at h
 split at h
 ·rename_i k' i' hx
  simp only[Option.some.injEq,Prod.mk.injEq]at h
  obtain⟨rfl,rfl⟩:=h
  exact(eg g hp hx).lit
 ·cases h
theorem BY(g:Good ty zb st a.tmps w env){p:List (Nat×Bool)}(hp:holds a.tmps p): ∀{xs:List Operand} {ys:List (IntKind×Int)},wo st p xs=some ys→xs.map a.eval=ys.map fun y=> .int y.1 y.2
 | [],ys,h=>by simp only[wo,Option.some.injEq]at h;subst h;rfl
 |x::r,ys,h=>by
  simp only[wo]at h
  split at h
  ·rename_i y ys' h1 h2
   simp only[Option.some.injEq]at h
   subst h
   rw[List.map_cons,List.map_cons,BY g hp h2,RS g hp h1]
  ·cases h
theorem BZ{F:Int→Int→Int}{f:Value→Value→Sem Value}(hf: ∀(k:IntKind) (x y:Int),f (.int k x) (.int k y)=pure (.int k (F x y))){k:IntKind}: ∀{ys:List (IntKind×Int)} {x z:Int},D7 F k x ys=some z→(List.foldlM f (.int k x) (ys.map fun y=> .int y.1 y.2)).run P w= .ok (.int k z) w
 | [],x,z,h=>by simp only[D7,Option.some.injEq]at h;subst h;rfl
 | (k',y)::r,x,z,h=>by
   simp only[D7]at h
   split at h
   ·rename_i hk _
    subst hk
    rw[List.map_cons,List.foldlM_cons,hf]
    simp only[pure_bind]
    exact BZ hf h
   ·cases h
theorem G5(g:Good ty zb st a.tmps w env){p:List (Nat×Bool)}(hp:holds a.tmps p){n:Nat}{fo:List Nat}{pl:Nat→Option (Nat×Nat)}(oy: ∀j o k,nu fo j=some o→Tf n fo j=some k→pl j=some (o,k)):
  ∀{ps:List (Nat×Operand)} {c c':List V} {cs:List Value},qx st p n fo ps c=some c'→bn (RA w st.hp env) c cs→
   ∃cs',Instr.fill pl (Array.mk cs) (ps.map fun q=>(q.1,a.eval q.2))=some (Array.mk cs')∧bn (RA w st.hp env) c' cs'
 | [],c,c',cs,h,hc=>by
   simp only[qx,Option.some.injEq]at h
   subst h
   exact⟨cs,rfl,hc⟩
 | (j,x)::r,c,c',cs,h,hc=>by
   simp only[qx]at h
   split at h
   ·rename_i o' k s h1 h2 hx
    split at h
    ·rename_i c1 hna hs
     simp only[Bool.and_eq_true]at hna
     have hk:=Nat.eq_of_beq_eq_true hna.2
     have A6:=eg g hp hx
     have hcs: ∃us,(a.eval x).cells=Array.mk us∧bn (RA w st.hp env) (cellsOf s) us:=by
      cases s with
      |agg l=>obtain⟨us,hu,hl⟩:=A6;exact⟨us,by rw[hu];rfl,hl⟩
      |a v=>
       have hne:v≠ .any:=by rintro rfl;simp[cellsOf,rE]at hna
       exact⟨[a.eval x],jq g A6 hne,A6,trivial⟩
     obtain⟨us,RR,Jz⟩:=hcs
     obtain⟨q1,q2⟩:=Fu hc Jz hs
     obtain⟨cs',h3,h4⟩:=G5 g hp oy h q2
     refine⟨cs',?_,h4⟩
     rw[List.map_cons,Instr.fill,oy j o' k h1 h2]
     simp only[RR]
     have hl:=Jz.len
     rw[if_neg (by simp;omega)]
     have Oo:((Array.mk us).zipIdx.foldl (fun cs (x:Value×Nat)=>cs.setIfInBounds (o'+x.2) x.1) (Array.mk cs))=splice (Array.mk cs) o' us:=by
      rw[←Array.foldl_toList,Array.toList_zipIdx,pU,Nat.add_zero]
     show Instr.fill _ ((Array.mk us).zipIdx.foldl (fun cs (x:Value×Nat)=>cs.setIfInBounds (o'+x.2) x.1) (Array.mk cs)) _=_
     rw[Oo,nB us cs o' q1]
     exact h3
    ·cases h
   ·cases h
theorem wA{w:World}{t:Nat}{d:Nat}(hu:P.underlying t=some .bool){x y:Bool}:(Op.equalIn (d+1) t (.bool x) (.bool y)).run P w= .ok (x==y) w:=by
 simp[Op.equalIn,run_underlying hu]
theorem Ox{x:Operand}{op:Op}{out:Out}(fK:o.op=op)(hm:op= .move x∨op= .assign x)(g:Good ty zb st a.tmps w env)(h:Oc st x=some out):o.wp P a w (yC ty st a w env o.dst out.v out.o) Q:=by
 unfold Oc at h
 split at h
 ·rename_i t
  split at h
  ·rename_i l hl
   simp only[Option.some.injEq]at h
   subst h
   have hr:=g.slot t _ hl
   rcases hm with rfl|rfl
   ·exact BQ (by unfold execOp;simp only[fK,Sem.run_pure];rfl) hr
   ·exact BQ (by unfold execOp;simp only[fK,Sem.run_pure];rfl) hr
  ·cases h
 ·cases h
theorem G6{Γ:Nat→TK}(C: ∀t,cw P t (Γ t)){cr:List (Nat×CR)}{p:List (Nat×Bool)}{d m:Nat}{out:Out}(h:quiet Γ (Jc P ty) (Sound ty P) cr st p d m o.op=some out)
  (g:Good ty zb st a.tmps w env)(hp:holds a.tmps p)(hA:D6 w)(hv: ∀q,q∈out.vc→q)(hf:fresh st.hp out.o=true)(hn:gb out.o=true):
  o.wp P a w (yC ty st a w env o.dst out.v out.o) Q:=by
 have hop: ∀{q x v},holds a.tmps q→gf st q x=some v→fG w st.hp env v (a.eval x):=fun hq hx=>eg g hq hx
 generalize fK:o.op=op at h
 cases op with
 |move x=>
  simp only[quiet]at h
  split at h
  ·rename_i v hx
   simp only[dA,Option.some.injEq]at h
   subst h
   exact dh (by unfold execOp;simp only[fK,Sem.run_pure]) (hop hp hx)
  ·exact Ox fK (Or.inl rfl) g h
 |assign x=>
  simp only[quiet]at h
  split at h
  ·rename_i v hx
   simp only[dA,Option.some.injEq]at h
   subst h
   exact dh (by unfold execOp;simp only[fK,Sem.run_pure]) (hop hp hx)
  ·exact Ox fK (Or.inr rfl) g h
 |pick c x y=>
  cases c with
  |tmp c=>
   simp only[quiet]at h
   split at h
   ·rename_i t u v h1 h2 h3
    simp only[dA,Option.some.injEq]at h
    subst h
    have hc:=(hop hp h1).lit
    have I9:a.tmps[c]? =some (.bool t):=Jx hc
    refine dh (u:= .bool (if t then u else v)) ?_ ⟨rfl,rfl⟩
    unfold execOp
    cases t with
    |true=>
     have hx:=(hop (q:=(c,true)::p) (by intro e he;rcases List.mem_cons.1 he with rfl|he;exact I9;exact hp e he) h2).lit
     simp[fK,hc,hx,asBool]
    |false=>
     have hx:=(hop (q:=(c,false)::p) (by intro e he;rcases List.mem_cons.1 he with rfl|he;exact I9;exact hp e he) h3).lit
     simp[fK,hc,hx,asBool]
   ·cases h
  |_=>simp[quiet]at h
 |box e x=>
  simp only[quiet]at h
  split at h
  ·rename_i l hx
   simp only[Option.some.injEq]at h
   subst h
   obtain⟨cs,hu,hl⟩:=hop hp hx
   exact yD (cs:=cs) (e:=e) (by unfold execOp;simp[fK,Instr.box,newVar,newRow,hu,Value.cells]) g hf hl
  ·cases h
  ·rename_i v hne hx
   simp only[Option.some.injEq]at h
   subst h
   have hr:=hop hp hx
   have hc:=jq g (show RA w st.hp env v (a.eval x)from hr) (fun e=>hne e)
   exact yD (cs:= [a.eval x]) (e:=e) (by unfold execOp;simp[fK,Instr.box,newVar,newRow,hc]) g hf ⟨hr,trivial⟩
  ·cases h
 |alloc t=>
  simp only[quiet]at h
  split at h
  ·rename_i z tg fo hk
   simp only[Option.some.injEq]at h
   subst h
   have hC:=C t
   rw[hk]at hC
   obtain⟨fs,hu,hi,h1,_⟩:=hC
   refine yD (cs:=z) (e:=t) ?_ g hf (BW h1)
   unfold execOp
   cases hq:P.info? t with
   |none=>simp[hq]at hi
   |some i=>
    simp[hq]at hi
    simp[fK,Instr.alloc,zeroValue,typeInfo,hq,hi.2,newVar,newRow,Value.cells]
  ·cases h
 |load t x=>
  simp only[quiet]at h
  split at h
  ·rename_i n off hx
   obtain⟨_,b,hb,hu⟩:=hop hp hx
   split at h
   ·rename_i c hl
    obtain⟨b',cs,e,GI,hh,hc⟩:=g.obj n _ hl
    have T9:b=b':=by
     rw[GI]at hb
     simpa using hb.symm
    subst T9
    have Az:w.rangeAt b 0 cs:=by simpa using Oa hh
    split at h
    ·rename_i z tg fo hk
     split at h
     ·rename_i l hs
      simp only[dA,Option.some.injEq]at h
      subst h
      have hC:=C t
      rw[hk]at hC
      obtain⟨k1,k2⟩:=Ok hc hs
      exact wp_load_row fK hC hu (by have:=lg (k:=z.length) (j:=off) Az;rwa [Nat.zero_add]at this) k2 k1
     ·cases h
    ·cases h
    ·rename_i k1 k2
     split at h
     ·rename_i v hs
      simp only[dA,Option.some.injEq]at h
      subst h
      obtain⟨u,q1,q2⟩:=hc.at (Ft hs)
      refine nA fK (C t) ?_ ?_ hu (by have:=lp Az q1;rwa [Nat.zero_add]at this) q2
      ·intro z tg fo hz;exact k1 z tg fo hz
      ·exact k2
     ·cases h
   ·cases h
  ·rename_i gt y off hx
   obtain⟨b,o',cs,fp,hu,_,Az,hE,_,hd⟩:=hop hp hx
   have hc:=Ol hE hd
   split at h
   ·rename_i z tg fo hk
    split at h
    ·rename_i l hs
     simp only[dA,Option.some.injEq]at h
     subst h
     have hC:=C t
     rw[hk]at hC
     obtain⟨k1,k2⟩:=Ok hc hs
     exact wp_load_row fK hC hu (lg Az) k2 k1
    ·cases h
   ·cases h
   ·rename_i k1 k2
    split at h
    ·rename_i v hs
     simp only[dA,Option.some.injEq]at h
     subst h
     obtain⟨u,q1,q2⟩:=hc.at (Ft hs)
     refine nA fK (C t) ?_ ?_ hu (lp Az q1) q2
     ·intro z tg fo hz;exact k1 z tg fo hz
     ·exact k2
    ·cases h
  ·rename_i n gt y off hx
   obtain⟨⟨tA,lA,hl⟩,b,o',cs,fp,hu,hb,Az,hE,hd⟩:=hop hp hx
   have hR:=reads gt hE
   split at h
   ·rename_i z tg fo hk
    split at h
    ·rename_i l hs
     simp only[dA,Option.some.injEq]at h
     subst h
     have hC:=C t
     rw[hk]at hC
     obtain⟨f',r1,r2,r3,r4⟩:=bR.sub hR hs
     exact wp_load_row fK hC hu (lg Az) r4 (KT hl r1 (r2.nodup hd.1) (fun x hx=>hd.2.1 x (r2.subset hx)))
    ·cases h
   ·cases h
   ·rename_i k1 k2
    split at h
    ·rename_i v hs
     simp only[dA,Option.some.injEq]at h
     subst h
     obtain⟨u,f',q1,q2,q3⟩:=bR.at hR hs
     refine nA fK (C t) ?_ ?_ hu (lp Az q1) (Fv hl q2 (q3.nodup hd.1) (fun x hx=>hd.2.1 x (q3.subset hx)) (by simp))
     ·intro z tg fo hz;exact k1 z tg fo hz
     ·exact k2
    ·cases h
  ·rename_i n i off hx
   obtain⟨tA,lA,Yl,b,o',len,cap,Jf,hu⟩:=hop hp hx
   split at h
   ·rename_i gt l hl
    rw[hl]at Yl
    simp only[Option.some.injEq,Obj.arr.injEq]at Yl
    obtain⟨rfl,_⟩:=Yl
    split at h
    ·rename_i z tg fo hk
     split at h
     ·rename_i c hs
      simp only[Option.some.injEq]at h
      subst h
      have hi:i<l.length:=hv _ (List.mem_singleton.2 rfl)
      obtain⟨b2,o2,Wa,cs,f,Oy,hb,Az,hE,hd⟩:=BX g hl hi
      rw[Oy]at Jf
      simp only[Value.slice.injEq,Option.some.injEq,Addr.mk.injEq,and_true]at Jf
      obtain⟨⟨rfl,rfl⟩,rfl,rfl⟩:=Jf
      have hC:=C t
      rw[hk]at hC
      obtain⟨f',r1,r2,r3,r4⟩:=bR.sub (reads gt hE) hs
      refine wp_load_row fK hC hu (lg Az) r4 (KS hl hi Oy hb r1 ((r2.trans hd).nodup (RO.own (g.obj _ _ hl)).nodup) (fun x hx=>hd.subset (r2.subset hx)) (fun j v hj=> ?_) (lg Az))
      rw[r3,List.getElem?_take]at hj
      split at hj
      ·rw[List.getElem?_drop]at hj;rw[A5];exact hj
      ·cases hj
     ·cases h
    ·cases h
    ·rename_i k1 k2
     split at h
     ·rename_i v hs
      simp only[Option.some.injEq]at h
      subst h
      have hi:i<l.length:=hv _ (List.mem_singleton.2 rfl)
      obtain⟨b2,o2,Wa,cs,f,Oy,hb,Az,hE,hd⟩:=BX g hl hi
      rw[Oy]at Jf
      simp only[Value.slice.injEq,Option.some.injEq,Addr.mk.injEq,and_true]at Jf
      obtain⟨⟨rfl,rfl⟩,rfl,rfl⟩:=Jf
      obtain⟨u,f',q1,q2,q3⟩:=bR.at (reads gt hE) hs
      refine nA fK (C t) ?_ ?_ hu (lp Az q1) (Fv hl q2 ((q3.trans hd).nodup (RO.own (g.obj _ _ hl)).nodup) (fun x hx=>hd.subset (q3.subset hx)) ?_)
      ·intro z tg fo hz;exact k1 z tg fo hz
      ·exact k2
      ·rintro i' off' T8
       simp only[Option.some.injEq,Prod.mk.injEq]at T8
       obtain⟨rfl,rfl⟩:=T8
       exact⟨b2,o2,_,Wa,hi,hs,Oy,hb,lp Az q1⟩
     ·cases h
   ·cases h
  ·cases h
 |binOp op t x y t'=>
  simp only[quiet]at h
  split at h
  ·rename_i k m k' m' h1 h2
   split at h
   ·rename_i vc v hb
    simp only[Option.some.injEq]at h
    subst h
    have hx:=(hop hp h1).lit
    have hy:=(hop hp h2).lit
    obtain⟨q1,q2⟩:=RN (P:=P) (w:=w) hb hv (t:=t) (X:=x) (Y:=y)
    refine dh (u:=v) ?_ ⟨rfl,q2⟩
    unfold execOp
    simp only[fK,hx,hy]
    rw[Sem.run_bind,q1]
    rfl
   ·cases h
  ·rename_i m m' h1 h2
   split at h
   ·rename_i vc v hb
    simp only[Option.some.injEq]at h
    subst h
    have hx:=(hop hp h1).lit
    have hy:=(hop hp h2).lit
    obtain⟨q1,q2⟩:=RP (P:=P) (w:=w) hb hv (t:=t) (X:=x) (Y:=y)
    refine dh (u:=v) ?_ ⟨rfl,q2⟩
    unfold execOp
    simp only[fK,hx,hy]
    rw[Sem.run_bind,q1]
    rfl
   ·cases h
  ·rename_i m m' h1 h2
   have hx:=(hop hp h1).lit
   have hy:=(hop hp h2).lit
   have hC:=C t
   split at h
   ·rename_i hk
    rw[hk]at hC
    simp only[dA,Option.some.injEq]at h
    subst h
    refine dh (u:= .bool (m==m')) ?_ ⟨rfl,rfl⟩
    unfold execOp
    simp only[fK,hx,hy]
    have he:(Op.equal t (.bool m) (.bool m')).run P w= .ok (m==m') w:=wA hC
    simp[eqGuard,binOp,he]
   ·rename_i hk
    rw[hk]at hC
    simp only[dA,Option.some.injEq]at h
    subst h
    refine dh (u:= .bool (m !=m')) ?_ ⟨rfl,rfl⟩
    unfold execOp
    simp only[fK,hx,hy]
    have he:(Op.equal t (.bool m) (.bool m')).run P w= .ok (m==m') w:=wA hC
    simp[eqGuard,binOp,he]
    cases m<;>cases m'<;>rfl
   ·cases h
  ·cases h
 |unOp op t x=>
  cases op with
  |not=>
   simp only[quiet]at h
   split at h
   ·rename_i b hx
    simp only[dA,Option.some.injEq]at h
    subst h
    have hx:=(hop hp hx).lit
    refine dh (u:= .bool (!b)) ?_ ⟨rfl,rfl⟩
    unfold execOp
    simp[fK,hx,Op.unary]
   ·cases h
  |neg=>
   simp only[quiet]at h
   split at h
   ·rename_i k n hx
    simp only[dA,Option.some.injEq]at h
    subst h
    have hx:=(hop hp hx).lit
    refine dh (u:= .int k (k.wrap (0-n))) ?_ ⟨rfl,rfl⟩
    unfold execOp
    simp[fK,hx,Op.unary,Op.intArith]
   ·cases h
  |_=>simp[quiet]at h
 |convert s t x=>
  simp only[quiet]at h
  split at h
  ·rename_i k n k1 k2 hx hk1 hk2
   simp only[dA,Option.some.injEq]at h
   subst h
   have hx:=(hop hp hx).lit
   have c1:=C s
   have c2:=C t
   rw[hk1]at c1
   rw[hk2]at c2
   refine dh (u:= .int k2 (k2.wrap n)) ?_ ⟨rfl,rfl⟩
   unfold execOp
   simp[fK,hx,convert,run_underlying (show P.underlying s=_ from c1),run_underlying (show P.underlying t=_ from c2),Conv.intToInt]
  ·rename_i v g' e hx hk1 hk2
   split at h
   ·rename_i l Oz hl
    simp only[dA,Option.some.injEq]at h
    subst h
    have c1:=C s
    have c2:=C t
    have c3:=C e
    rw[hk1]at c1
    rw[hk2]at c2
    rw[Oz]at c3
    have:=MJ g (hop hp hx) hl c1.1 c3 c2
    refine dh (u:= .string (Dz l)) ?_ ⟨rfl,rfl⟩
    unfold execOp
    simp only[fK,Sem.run_bind,this,Result.andThen_ok,Sem.run_pure]
   ·cases h
  ·cases h
 |slice t x lo hi mx=>
  cases mx with
  |some _=>simp[quiet]at h
  |none=>
   simp only[quiet]at h
   split at h
   ·rename_i gt e hk
    have hC:=C t
    rw[hk]at hC
    split at h
    ·split at h
     ·rename_i n p' t' l n1 hx h1
      simp only[Option.some.injEq]at h
      subst h
      have hlo:n1=(l.length:Int):=hv _ (List.mem_singleton.2 rfl)
      obtain⟨hA,⟨fp,⟨oa,cap,hu,hc,hm,h3⟩,hnd,hd⟩,_⟩:=hop hp hx
      have hz:oa=none→cap=0:=by
       intro ho
       rcases h3 with⟨_,_,h4⟩| ⟨b,off,bk,h4,_⟩
       ·exact h4 ho
       ·rw[ho]at h4;cases h4
      obtain⟨TU,r1,r2⟩:=G4 (P:=P) (w:=w) fK hC hu hc (n9 (hop hp) h1) hlo
      refine dh r1 ⟨[],⟨TU,cap-l.length,rfl,Nat.zero_le _,by omega,Or.inl ⟨rfl,rfl,fun ho=> ?_⟩⟩,by simp⟩
      rw[hz (r2 ho)];omega
     ·rename_i k n1 hx h1
      simp only[Option.some.injEq]at h
      subst h
      have hlo:n1=(k:Int):=hv _ (List.mem_singleton.2 rfl)
      obtain⟨oa,cap,hu,hc,hm,hz⟩:=hop hp hx
      obtain⟨TU,r1,r2⟩:=G4 (P:=P) (w:=w) fK hC hu hc (n9 (hop hp) h1) hlo
      refine dh r1 ⟨[],⟨TU,cap-k,rfl,Nat.zero_le _,by omega,Or.inl ⟨rfl,rfl,fun ho=> ?_⟩⟩,by simp⟩
      rw[hz (r2 ho)];omega
     ·cases h
    split at h
    ·rename_i t' l n1 hx h1
     split at h
     ·rename_i n2 h2
      split at h
      ·rename_i hkk
       have hkk:=Nat.eq_of_beq_eq_true hkk
       simp only[Option.some.injEq]at h
       subst h
       obtain⟨q0,q1,q2⟩:=hv _ (List.mem_singleton.2 rfl)
       obtain⟨fp,hs,hd⟩:=hop hp hx
       obtain⟨u',ga,r1,r2,r3⟩:=yE fK hC hkk hs (n9 (hop hp) h1) (n9 (hop hp) h2) q0 q1 q2
       exact dh r1 ⟨ga,r2,fun b hb=>hd b (r3.subset hb)⟩
      ·cases h
     ·cases h
    ·rename_i n p' t' l n1 hx h1
     split at h
     ·rename_i n2 h2
      split at h
      ·rename_i hkk
       have hkk:=Nat.eq_of_beq_eq_true hkk
       simp only[Option.some.injEq]at h
       subst h
       obtain⟨q0,q1,q2⟩:=hv _ (List.mem_singleton.2 rfl)
       obtain⟨hA,⟨fp,hs,hnd,hd⟩,_⟩:=hop hp hx
       obtain⟨u',ga,r1,r2,r3⟩:=yE fK hC hkk hs (n9 (hop hp) h1) (n9 (hop hp) h2) q0 q1 q2
       exact dh r1 ⟨hA,⟨ga,r2,r3.nodup hnd,fun b hb=>hd b (r3.subset hb)⟩,by simp⟩
      ·cases h
     ·cases h
    ·rename_i n n1 hx h1
     split at h
     ·rename_i t' l hl
      split at h
      ·rename_i n2 h2
       split at h
       ·rename_i hkk
        have hkk:=Nat.eq_of_beq_eq_true hkk
        simp only[Option.some.injEq]at h
        subst h
        obtain⟨q0,q1,q2⟩:=hv _ (List.mem_singleton.2 rfl)
        obtain⟨hA,hu⟩:=hop hp hx
        have hs:=RO.sl (g.obj n _ hl)
        rw[←show a.eval x=(env n).v from hu]at hs
        obtain⟨u',ga,r1,r2,r3⟩:=yE fK hC hkk hs (n9 (hop hp) h1) (n9 (hop hp) h2) q0 q1 q2
        exact dh r1 ⟨hA,⟨ga,r2,r3.nodup (RO.own (g.obj n _ hl)).nodup,fun b hb=>r3.subset hb⟩,by simp⟩
       ·cases h
      ·cases h
     ·cases h
    ·cases h
   ·rename_i hk
    have hC:=C t
    rw[hk]at hC
    split at h
    ·rename_i s n1 hx h1
     split at h
     ·rename_i n2 h2
      simp only[Option.some.injEq]at h
      subst h
      obtain⟨q0,q1,q2⟩:=hv _ (List.mem_singleton.2 rfl)
      exact Fw fK hC (hop hp hx).lit (n9 (hop hp) h1) (n9 (hop hp) h2) q0 q1 q2
     ·cases h
    ·cases h
   ·cases h
 |makeFunc fn first captured=>
  cases fn with
  |func f=>
   simp only[quiet]at h
   split at h
   ·rename_i x hf hc
    split at h
    ·rename_i n hx
     simp only[dA,Option.some.injEq]at h
     subst h
     obtain⟨hA,b,hb,hu⟩:=hop hp hx
     have e1:first= #[]:=by cases first;simp_all
     have e2:captured= #[x]:=by cases captured;simp_all
     refine dh (u:= .func (.func f) #[] #[.pointer (some ⟨b,0,none⟩)]) ?_ ⟨hA,b,hb,rfl⟩
     unfold execOp
     simp[fK,Instr.makeFunc,e1,e2,hu]
    ·cases h
   ·cases h
  |_=>simp[quiet]at h
 |fieldAddr t x f=>
  simp only[quiet]at h
  split at h
  ·rename_i z tg fo hk
   have hC:=C t
   rw[hk]at hC
   split at h
   ·rename_i k hf'
    split at h
    ·rename_i n off hx
     simp only[dA,Option.some.injEq]at h
     subst h
     obtain⟨hc,b,hb,hu⟩:=hop hp hx
     exact mj fK hC hf' hu ⟨hc,b,hb,rfl⟩
    ·rename_i gt y off hx
     simp only[dA,Option.some.injEq]at h
     subst h
     obtain⟨b,o',cs,fp,hu,k1⟩:=hop hp hx
     exact mj fK hC hf' hu ⟨b,o',cs,fp,by rw[Nat.add_assoc],k1⟩
    ·rename_i n i off hx
     simp only[dA,Option.some.injEq]at h
     subst h
     obtain⟨t',l,hl,b,o',len,cap,hb,hu⟩:=hop hp hx
     exact mj fK hC hf' hu ⟨t',l,hl,b,o',len,cap,hb,by rw[Nat.add_assoc]⟩
    ·rename_i n gt y off hx
     simp only[dA,Option.some.injEq]at h
     subst h
     obtain⟨hA,b,o',cs,fp,hu,k1,k2,k3,knd,k4,k5⟩:=hop hp hx
     refine mj fK hC hf' hu ⟨hA,b,o',cs,fp,by rw[Nat.add_assoc],k1,k2,k3,knd,k4,fun i o2 j hq=> ?_⟩
     obtain⟨l,u0,b0,n8,len,cap,j1,j2,j3,j4,j5⟩:=k5 i o2 j hq
     rw[hu]at j5
     simp only[Value.pointer.injEq,Option.some.injEq,Addr.mk.injEq,and_true]at j5
     obtain⟨rfl,j5⟩:=j5
     exact⟨l,u0,b,n8,len,cap,j1,j2,j3,j4,by rw[j5,Nat.add_assoc]⟩
    ·cases h
   ·cases h
  ·cases h
 |indexAddr t x i=>
  simp only[quiet]at h
  split at h
  ·rename_i gt e hk
   have hC:=C t
   rw[hk]at hC
   split at h
   ·rename_i t' l ik n hx hi
    split at h
    ·rename_i hkk
     have hkk:=Nat.eq_of_beq_eq_true hkk
     simp only[Option.some.injEq]at h
     subst h
     obtain⟨h0,h1⟩:=hv _ (List.mem_singleton.2 rfl)
     have hx:=hop hp hx
     have hi:=(hop hp hi).lit
     obtain⟨b,off,len,cap,hu,hlt,hr⟩:=RL hx h0 h1
     exact pT fK hC hu hi h0 hlt (by rw[hkk];exact hr)
    ·cases h
   ·rename_i m ik n hx hi
    split at h
    ·rename_i t' l hl
     split at h
     ·rename_i hkk
      have hkk:=Nat.eq_of_beq_eq_true hkk
      simp only[Option.some.injEq]at h
      subst h
      obtain⟨h0,h1⟩:=hv _ (List.mem_singleton.2 rfl)
      obtain⟨_,hu⟩:=hop hp hx
      have hi:=(hop hp hi).lit
      obtain⟨b,o',cap,cs,f,hs,_⟩:=BX g hl (i:=n.toNat) (by omega)
      exact pT fK hC (hu.trans hs) hi h0 h1 ⟨t',l,hl,b,o',_,cap,hs,by rw[hkk];simp⟩
     ·cases h
    ·cases h
   ·rename_i m p' t' l ik n hx hi
    split at h
    ·rename_i hkk
     have hkk:=Nat.eq_of_beq_eq_true hkk
     simp only[Option.some.injEq]at h
     subst h
     obtain⟨h0,h1⟩:=hv _ (List.mem_singleton.2 rfl)
     have hx:=hop hp hx
     have hi:=(hop hp hi).lit
     obtain⟨b,off,len,cap,hu,hlt,hr⟩:=RQ hx h0 h1
     exact pT fK hC hu hi h0 hlt (by rw[hkk];exact hr)
    ·cases h
   ·cases h
  ·cases h
 |makeSlice t x y=>
  simp only[quiet]at h
  split at h
  ·rename_i gt e hk
   have hC:=C t
   rw[hk]at hC
   split at h
   ·rename_i k1 n1 k2 n2 hx hy
    simp only[Option.some.injEq]at h
    subst h
    have hE:Jc P ty gt e:=hv _ (by simp)
    have hab:n1=n2:=hv _ (by simp)
    have h0:0≤n1:=hv _ (by simp)
    obtain⟨h1,h2⟩:n1.toNat*cN gt≤140737488355328∧n1.toNat≤maxLen:=hv _ (by simp)
    subst hab
    obtain⟨rfl,uJ⟩:=hE
    obtain⟨w',u,fp,r1,r2,r3⟩:=Ou (P:=P) (w:=w) (a:=a) fK hC.1 uJ (hop hp hx).lit (hop hp hy).lit h0 h1 h2
    exact Ed r1 r2 r3
   ·cases h
  ·cases h
 |buildSlice t len parts=>
  simp only[quiet]at h
  split at h
  ·rename_i gt e hk
   have hC:=C t
   rw[hk]at hC
   split at h
   ·split at h
    case h_2=>cases h
    rename_i x hlen hps
    split at h
    case h_2=>cases h
    rename_i s hx
    split at h
    case h_2=>cases h
    rename_i c n hc
    split at h
    case h_2=>cases h
    rename_i vc y he BV
    simp only[Option.some.injEq]at h
    subst h
    have hE:Jc P ty gt e:=hv _ (by simp)
    obtain⟨rfl,uJ⟩:=hE
    have hs:=hop hp hx
    obtain⟨tA,lA,hl,KW⟩:=KU g (Jy g hs hc) hc
    have hrd:=rB gt he (fun q hq=>hv q (by simp[hq])) KW
    have hlen:=Nat.eq_of_beq_eq_true hlen
    subst hlen
    have hO:=RO.own (g.obj n _ hl)
    have hfl:([(env n).fp]:List (List Nat)).flatten=(env n).fp:=by simp
    obtain⟨w',r1,r2,r3⟩:=tG (P:=P) (w:=w) (a:=a) fK hC.1 uJ (by rw[Nat.one_mul];exact Nat.le_of_ble_eq_true BV) (by rw[hps];rfl) (Nat.zero_le _) (xs:= [y]) (bk:= [(env n).fp]) (by rw[hps];rfl) (by rw[hps];rfl) rfl
     (fun i x' f hx' hf=>by
      cases i with
      |zero=>simp at hx' hf;subst hx';subst hf;exact⟨(0,x),by rw[hps];rfl,hrd⟩
      |succ i=>simp at hx') (by rw[hfl];exact hO)
    rw[hfl]at r3
    unfold Oper.wp
    rw[r1]
    refine⟨_,env,rfl,lf.none r2,⟨tA,lA,hl⟩,w.heap.size,(env n).fp,iR.sl r3,fun ho=> ?_,hO.nodup,fun _ h=>h⟩
    have:=(g.ow ho).2
    omega
   split at h
   ·rename_i vc xs hlen BV hb
    simp only[Option.some.injEq]at h
    subst h
    have hE:Jc P ty gt e:=hv _ (by simp)
    obtain⟨rfl,uJ⟩:=hE
    obtain⟨q1,q2,q3⟩:=Ee g hp hb (fun q hq=>hv q (by simp[hq]))
    have hfl:(List.replicate xs.length ([]:List Nat)).flatten= []:=by simp
    obtain⟨w',r1,r2,r3⟩:=tG (P:=P) (w:=w) (a:=a) fK hC.1 uJ (Nat.le_of_ble_eq_true BV) (Nat.eq_of_beq_eq_true hlen) (Nat.le_refl _) (xs:=xs) (bk:=List.replicate xs.length []) q1 q2 (by simp)
     (fun i x f hx hf=>by
      obtain⟨p,h1,h2⟩:=q3 i x hx
      rw[List.getElem?_replicate]at hf
      split at hf
      ·simp only[Option.some.injEq]at hf;subst hf;exact⟨p,h1,h2⟩
      ·cases hf) (by rw[hfl];exact Own.nil _ _)
    exact Ed r1 r2 r3
   ·cases h
  ·cases h
 |build t parts=>
  simp only[quiet]at h
  split at h
  ·rename_i z tg fo hk
   have hC:=C t
   rw[hk]at hC
   obtain⟨fs,hu,hi,h1,_,places,G7,oy⟩:=hC
   split at h
   ·rename_i c hb
    simp only[dA,Option.some.injEq]at h
    subst h
    cases hq:P.info? t with
    |none=>simp[hq]at hi
    |some inf=>
     simp[hq]at hi
     obtain⟨cs',h3,h4⟩:=G5 (st:=st) (zb:=zb) g hp (pl:=fun j=>places[j]?) oy hb (BW h1)
     refine dh (u:= .agg (Array.mk cs')) ?_ ⟨cs',rfl,h4⟩
     have hrun:=run_build (P:=P) w t (parts.map fun(q:Nat×Operand)=>(q.1,a.eval q.2)) (Array.mk cs') (by
      unfold Program.built
      rw[hq,hu]
      simp only[hi.2,G7]
      rw[Array.toList_map]
      simpa[Value.cells]using h3)
     unfold execOp
     simp only[fK,Sem.run_bind,hrun,Result.andThen_ok,Sem.run_pure]
   ·cases h
  ·cases h
 |nilCheck x=>
  simp only[quiet]at h
  split at h
  ·rename_i n off hx
   simp only[dA,Option.some.injEq]at h
   subst h
   obtain⟨hA,b,hb,hu⟩:=hop hp hx
   refine dh (u:=a.eval x) ?_ ⟨hA,b,hb,hu⟩
   unfold execOp
   simp[fK,hu]
  ·rename_i n i off hx
   simp only[dA,Option.some.injEq]at h
   subst h
   obtain⟨t,l,hl,b,o',len,cap,hb,hu⟩:=hop hp hx
   refine dh (u:=a.eval x) ?_ ⟨t,l,hl,b,o',len,cap,hb,hu⟩
   unfold execOp
   simp[fK,hu]
  ·cases h
 |extract x i=>
  cases x with
  |tmp t=>
   simp only[quiet]at h
   split at h
   ·rename_i l hl
    split at h
    ·rename_i x hx
     simp only[dA,Option.some.injEq]at h
     subst h
     obtain⟨us,hu,iI⟩:=g.slot t _ hl
     obtain⟨u,k1,k2⟩:=iI.at hx
     refine dh ?_ k2
     unfold execOp
     have Ym:a.eval (.tmp t)= .tuple us.toArray:=hu
     simp[fK,Ym,Instr.extract,k1]
    ·cases h
   ·cases h
  |_=>simp[quiet]at h
 |call c=>
  obtain⟨callee,xs,ts⟩:=c
  cases callee with
  |value x=>
   cases x with
   |func f=>
    simp only[quiet]at h
    split at h
    ·rename_i as c h1 h2
     simp only[Option.some.injEq]at h
     obtain⟨own,rs⟩:=c
     have RT:out.vc= [Sound ty P f as rs]:=by
      rw[←h]
      unfold outs
      dsimp only
      (repeat' split)<;>rfl
     exact KP fK rfl (hv _ (by rw[RT];simp)) hA g (Fq g hp h1) h hn
    ·cases h
   |tmp x=>
    simp only[quiet]at h
    split at h
    ·rename_i v hx
     split at h
     ·rename_i f hfn
      split at h
      ·rename_i as c h1 h2
       simp only[Option.some.injEq]at h
       obtain⟨own,rs⟩:=c
       have RT:out.vc= [Sound ty P f as rs]:=by
        rw[←h]
        unfold outs
        dsimp only
        (repeat' split)<;>rfl
       exact KP fK (KR (hop hp hx) hfn) (hv _ (by rw[RT];simp)) hA g (Fq g hp h1) h hn
      ·cases h
     ·cases h
    ·cases h
   |_=>simp[quiet]at h
  |builtin b=>
   cases b with
   |max=>
    simp only[quiet]at h
    split at h
    ·rename_i k x r hxs
     split at h
     ·rename_i y hy
      simp only[dA,Option.some.injEq]at h
      subst h
      have he:=BY g hp hxs
      refine dh (u:= .int k y) ?_ ⟨rfl,rfl⟩
      have hf:=BZ (P:=P) (w:=w) (f:=Builtin.max2) (F:=Fo) (fun k x y=>rfl) hy
      unfold execOp
      simp[fK,resolve,invoke,builtin,Builtin.max_,he,hf]
     ·cases h
    ·cases h
   |min=>
    simp only[quiet]at h
    split at h
    ·rename_i k x r hxs
     split at h
     ·rename_i y hy
      simp only[dA,Option.some.injEq]at h
      subst h
      have he:=BY g hp hxs
      refine dh (u:= .int k y) ?_ ⟨rfl,rfl⟩
      have hf:=BZ (P:=P) (w:=w) (f:=Builtin.min2) (F:=k9) (fun k x y=>rfl) hy
      unfold execOp
      simp[fK,resolve,invoke,builtin,Builtin.min_,he,hf]
     ·cases h
    ·cases h
   |len=>
    simp only[quiet]at h
    split at h
    ·rename_i x t hxl htl
     obtain rfl:xs= #[x]:=by cases xs;simp_all
     obtain rfl:ts= #[t]:=by cases ts;simp_all
     split at h
     ·rename_i v hx
      split at h
      ·rename_i n hn'
       simp only[dA,Option.some.injEq]at h
       subst h
       have hr:=hop hp hx
       have hC:=C t
       cases v with
       |sl t' l=>
        simp only[lenOf]at hn'
        split at hn'
        ·rename_i g' e' hk
         simp only[Option.some.injEq]at hn'
         subst hn'
         rw[hk]at hC
         obtain⟨fp,⟨oa,cap,hu,_⟩,_⟩:=hr
         exact BR rfl fK hC.1 hu (Or.inl ⟨_,oa,cap,l.length,rfl,rfl,rfl⟩)
        ·cases hn'
       |own m=>
        simp only[lenOf]at hn'
        split at hn'
        ·rename_i g' e' hk
         rw[hk]at hC
         split at hn'
         ·rename_i t' l hl
          simp only[Option.some.injEq]at hn'
          subst hn'
          obtain⟨_,hu⟩:=hr
          obtain⟨oa,cap,hs,_⟩:=RO.sl (g.obj m _ hl)
          exact BR rfl fK hC.1 (hu.trans hs) (Or.inl ⟨_,oa,cap,l.length,rfl,rfl,rfl⟩)
         ·cases hn'
        ·cases hn'
       |vw m p' t' l=>
        simp only[lenOf]at hn'
        split at hn'
        ·rename_i g' e' hk
         simp only[Option.some.injEq]at hn'
         subst hn'
         rw[hk]at hC
         obtain⟨_,⟨fp,⟨oa,cap,hu,_⟩,_⟩,_⟩:=hr
         exact BR rfl fK hC.1 hu (Or.inl ⟨_,oa,cap,l.length,rfl,rfl,rfl⟩)
        ·cases hn'
       |lit v=>
        have hu:=(show fG w st.hp env (.a (.lit v)) _ from hr).lit
        simp only[lenOf]at hn'
        split at hn'
        ·rename_i heq;cases heq
        ·rename_i heq;cases heq
        ·rename_i heq;cases heq
        ·rename_i heq
         simp only[V.lit.injEq]at heq
         subst heq
         split at hn'
         ·rename_i g' e' hk
          simp only[Option.some.injEq]at hn'
          subst hn'
          rw[hk]at hC
          exact BR rfl fK hC.1 hu (Or.inl ⟨_,none,0,0,rfl,rfl,rfl⟩)
         ·cases hn'
        ·rename_i s heq
         simp only[V.lit.injEq]at heq
         subst heq
         split at hn'
         ·rename_i hk
          simp only[Option.some.injEq]at hn'
          subst hn'
          rw[hk]at hC
          exact BR rfl fK hC hu (Or.inr ⟨_,rfl,rfl,rfl⟩)
         ·cases hn'
        ·cases hn'
       |_=>simp[lenOf]at hn'
      ·cases h
     ·cases h
    ·cases h
   |_=>simp[quiet]at h
  |invoke _ _=>simp[quiet]at h
 |_=>simp[quiet]at h
end
end
section
variable{ty:Tag→Nat}
theorem jH{α:Type}{f:Nat×α→α}: ∀{l:List (Nat×α)} {s:Nat},look (l.map fun e=>(e.1,f e)) s=(look l s).map fun x=>f (s,x)
 | [],_=>rfl
 | (j,x)::r,s=>by
   by_cases h:s=j
   ·subst h;rw[List.map_cons,look_eq,look_eq];rfl
   ·rw[List.map_cons,aW h,aW h];exact jH
theorem Ef{tmps:Array Value}{d:Nat}{u:Value}{p:List (Nat×Bool)}(h:(p.any fun e=>Nat.beq e.1 d)=false):holds (tmps.setIfInBounds d u) p↔holds tmps p:=by
 have hne: ∀e,e∈p→d≠e.1:=by
  rintro e he rfl
  rw[List.any_eq_false]at h
  exact h e he (by simp)
 constructor
 ·intro hh e he
  have:=hh e he
  rwa [Array.getElem?_setIfInBounds_ne (hne e he)]at this
 ·intro hh e he
  rw[Array.getElem?_setIfInBounds_ne (hne e he)]
  exact hh e he
theorem oC.put{w:World}{hp:Hp}{env:Env}{tmps:Array Value}{d:Nat}{u y:Value}{x:SV}(hm:x.mentions d=false)(h:oC w hp env tmps x y):oC w hp env (tmps.setIfInBounds d u) x y:=by
 cases x with
 |one x=>exact h
 |rC l=>exact h
 |cond p x=>exact⟨fun hh=>h.1 ((Ef hm).1 hh),fun hh=>h.2 fun k=>hh ((Ef hm).2 k)⟩
theorem Good.Wb{zb:cA}{st:St}{tmps:Array Value}{w:World}{env:Env}(g:Good ty zb st tmps w env){d:Nat}(hd:d<tmps.size){v:SV}{u:Value}(hv:oC w st.hp env tmps v u)(hm:v.mentions d=false)(f:SV→SV)(hf: ∀s y,look st.sl s=some y→f y= .one (.a .any)∨(f y=y∧y.mentions d=false)):
  Good ty zb ⟨st.n,(d,v)::st.sl.map fun e=>(e.1,f e.2),st.hp⟩ (tmps.setIfInBounds d u) w env:=by
 refine⟨g.obj,g.kj,fun s x hl=> ?_,g.dom,g.pins⟩
 by_cases hs:s=d
 ·subst hs
  have hl:look ((s,v)::_) s=some x:=hl
  rw[look_eq]at hl
  simp only[Option.some.injEq]at hl
  subst hl
  have:(tmps.setIfInBounds s u).getD s undef=u:=by
   rw[Array.getD_eq_getD_getElem?,Array.getElem?_setIfInBounds_self_of_lt hd];rfl
  rw[this]
  exact hv.put hm
 ·have hl:look ((d,v)::_) s=some x:=hl
  rw[aW hs,jH (α:=SV) (f:=fun e:Nat×SV=>f e.2)]at hl
  cases hq:look st.sl s with
  |none=>rw[hq]at hl;cases hl
  |some y=>
   rw[hq]at hl
   simp only[Option.map_some,Option.some.injEq]at hl
   subst hl
   have hgd:(tmps.setIfInBounds d u).getD s undef=tmps.getD s undef:=by
    rw[Array.getD_eq_getD_getElem?,Array.getD_eq_getD_getElem?,Array.getElem?_setIfInBounds_ne (Ne.symm hs)]
   rw[hgd]
   show oC w st.hp env _ (f y) _
   rcases hf s y hq with h| ⟨h,hm'⟩
   ·rw[h];trivial
   ·rw[h];exact(g.slot s y hq).put hm'
theorem Good.put{zb:cA}{st:St}{tmps:Array Value}{w:World}{env:Env}(g:Good ty zb st tmps w env){d:Nat}(hd:d<tmps.size){v:SV}{u:Value}(hv:oC w st.hp env tmps v u)(hm:v.mentions d=false):
  Good ty zb (st.put (some d) v) (tmps.setIfInBounds d u) w env:=by
 unfold St.put
 dsimp only
 split
 ·rename_i hno
  have:=g.Wb hd hv hm id (fun s y hl=>Or.inr ⟨rfl,by
   rw[List.any_eq_false]at hno
   simpa using hno _ (eU hl)⟩)
  simpa using this
 ·refine g.Wb hd hv hm (SV.Ob d) fun s y hl=> ?_
  unfold SV.Ob
  split
  ·exact Or.inl rfl
  ·rename_i hm';exact Or.inr ⟨rfl,hm'⟩
theorem oE{zb:cA}{st:St}{a:Act}{w:World}{env:Env}(g:Good ty zb st a.tmps w env){dst:Option Nat}(hd: ∀d,dst=some d→d<a.tmps.size){v:SV}{u:Value}(hv:oC w st.hp env a.tmps v u)(hm: ∀d,dst=some d→v.mentions d=false):
  Good ty zb (st.put dst v) (a.put dst u).tmps w env:=by
 cases dst with
 |none=>exact g
 |some d=>exact g.put (hd d rfl) hv (hm d rfl)
theorem gB(a:Act)(dst:Option Nat)(u:Value):(a.put dst u).tmps.size=a.tmps.size:=by
 cases dst<;>simp[Act.put]
theorem wD(st:St)(d:Option Nat)(v:SV):(st.put d v).n=st.n:=by
 unfold St.put
 split
 ·split<;>rfl
 ·rfl
theorem Ua(st:St)(d:Option Nat)(v:SV):(st.put d v).hp=st.hp:=by
 unfold St.put
 split
 ·split<;>rfl
 ·rfl
theorem put_defers(a:Act)(dst:Option Nat)(u:Value):(a.put dst u).defers=a.defers:=by
 cases dst<;>rfl
theorem mH{ops:Array Oper}{o:Oper}{j:Nat}{x:Bool}(hg:o.guard=some (j,x)){q:Oper}(hj:ops[j]? =some q){d:Nat}(hd:q.dst=some d)(tmps:Array Value):
  Region.wanted o (yielded ops tmps)=true↔tmps[d]? =some (.bool x):=by
 simp only[Region.wanted,hg,yielded,hj,Option.bind_some,hd]
 constructor
 ·intro h
  have h:=eq_of_beq h
  split at h
  ·rename_i b hb
   simp at h
   rw[hb,h]
  ·cases h
 ·intro h
  rw[h];simp
theorem tH{zb:cA}{st:St}{tmps:Array Value}{w:World}{env:Env}(g:Good ty zb st tmps w env){d:Nat}{p:List (Nat×Bool)}{b x:Bool}(hl:look st.sl d=some (.cond p (.a (.lit (.bool b)))))(h:tmps[d]? =some (.bool x)):holds tmps p∧b=x:=by
 have hs:=g.slot d _ hl
 rw[Array.getD_eq_getD_getElem?,h]at hs
 by_cases hh:holds tmps p
 ·have:=(hs.1 hh).lit
  simp at this
  exact⟨hh,this.symm⟩
 ·have:=hs.2 hh
  simp[undef]at this
theorem OA{zb:cA}{st:St}{tmps:Array Value}{w:World}{env:Env}(g:Good ty zb st tmps w env){d:Nat}{b x:Bool}(hl:look st.sl d=some (.one (.a (.lit (.bool b)))))(h:tmps[d]? =some (.bool x)):b=x:=by
 have hs:=g.slot d _ hl
 rw[Array.getD_eq_getD_getElem?,h]at hs
 have:=(show fG w st.hp env (.a (.lit (.bool b))) (.bool x)from hs).lit
 simp at this
 exact this.symm
theorem A7{zb:cA}{st:St}{tmps:Array Value}{w:World}{env:Env}(g:Good ty zb st tmps w env): ∀{p:List (Nat×Bool)},holds tmps p→ ∀q,q∈hyps st p→q
 | [],_,q,hq=>by simp[hyps]at hq
 | (d,x)::r,h,q,hq=>by
   have h0:tmps[d]? =some (.bool x):=h (d,x) (by simp)
   have hr:holds tmps r:=fun e he=>h e (by simp[he])
   simp only[hyps]at hq
   split at hq
   ·rename_i b hl
    rcases List.mem_cons.1 hq with rfl|hq
    ·exact OA g hl h0
    ·exact A7 g hr q hq
   ·rename_i p' b hl
    rcases List.mem_cons.1 hq with rfl|hq
    ·exact(tH g hl h0).2
    ·exact A7 g hr q hq
   ·exact A7 g hr q hq
theorem KX: ∀{hs:List Prop} {q:Prop},GW hs q→(∀h,h∈hs→h)→q
 | [],_,h,_=>h
 |h'::r,q,h,hh=>KX (hs:=r) (h (hh h' (by simp))) fun x hx=>hh x (by simp[hx])
section
variable{P:Program}{zb:cA}{st st':St}{a:Act}{w:World}{Q:Exit→Act→World→Prop}{o:Oper}
def oF(P:Program)(ops:Array Oper)(o:Oper)(a:Act)(w:World)(K:Act→World→Prop)(Q:Exit→Act→World→Prop):Prop:=
 if Region.wanted o (yielded ops a.tmps)then o.wp P a w K Q∨(o.asks P a w∧LetsOut Q)else K (a.put o.dst undef) w
theorem iW{ops:Array Oper}(hg:o.guard=none){K:Act→World→Prop}(h:o.wp P a w K Q):oF P ops o a w K Q:=by
 unfold oF
 rw[if_pos (by simp[Region.wanted,hg])]
 exact .inl h
theorem JA(iv:Inv ty zb st a w)(h:uI st o.dst=true): ∀d,o.dst=some d→d<a.tmps.size:=by
 intro d hd
 rw[hd]at h
 rw[iv.size]
 exact Nat.le_of_ble_eq_true h
theorem B0{Γ:Nat→TK}(C: ∀t,cw P t (Γ t)){cO:List (Nat×Nat)}{cr:List (Nat×CR)}{ops:List Oper}{vc:List Prop}{v2:SV}{os:Hp}(h:ld Γ (Jc P ty) (Sound ty P) cO cr ops st o=some (vc,v2,os))(iv:Inv ty zb st a w)(hv: ∀q,q∈vc→q):
  oF P ops.toArray o a w (fun a' w'=>Inv ty zb (St.put ⟨st.n,st.sl,os++st.hp⟩ o.dst v2) a' w') Q:=by
 obtain⟨env,g⟩:=iv.good
 have Ub:=iv.kept.size
 simp only[ld]at h
 split at h
 ·rename_i m hd _ eY
  have wE:=JA iv hd
  have hg:o.guard=none:=by
   cases hg:o.guard with
   |none=>rfl
   |some e=>
    obtain⟨j,x⟩:=e
    exfalso
    simp only[eN,hg]at eY
    repeat' split at eY
    all_goals simp at eY
  split at h
  ·rename_i v1 v os hq
   split at h
   ·rename_i hf hn
    simp only[Option.some.injEq,Prod.mk.injEq]at h
    obtain⟨rfl,rfl,rfl⟩:=h
    refine iW hg (Oper.wp_mono ?_ (G6 (Q:=Q) C hq g (fun e he=>by simp at he) (iv.A3.now iv.kept) hv hf hn))
    rintro a' w' ⟨u,env',rfl,hN,hr⟩
    have g':=g.grow Ub hf hN
    have hnm: ∀d,o.dst=some d→v.mentions d=false:=by
     intro d _
     cases v with
     |one x=>rfl
     |rC l=>rfl
     |cond p x=>
      exfalso
      have: ∀(op:Op) (d m:Nat) (out:Out) (p:List (Nat×Bool)) (x:S1),quiet Γ (Jc P ty) (Sound ty P) cr st [] d m op=some out→out.v≠ .cond p x:=by
       intro op d m out p x hh
       unfold quiet Oc at hh
       repeat' split at hh
       all_goals first
        | (cases hh;done)
        | (simp only[dA,Option.some.injEq]at hh;subst hh;intro e;cases e;done)
        | (simp only[Option.some.injEq]at hh;subst hh;unfold outs;(repeat' split)<;>(intro e;cases e))
      exact this _ _ _ _ p x hq rfl
    refine⟨by rw[gB,wD];exact iv.size,by rw[put_defers];exact iv.defers,iv.kept.trans (iV hN.below Ub),iv.A3,env',oE g' wE hr hnm⟩
   ·cases h
  ·cases h
 ·rename_i m e p hd _ eY
  have wE:=JA iv hd
  split at h
  ·rename_i hne
   split at h
   ·rename_i v1 v hq
    simp only[Option.some.injEq,Prod.mk.injEq]at h
    obtain⟨rfl,rfl,rfl⟩:=h
    have hmn: ∀d,o.dst=some d→(SV.cond (e::p) v).mentions d=false:=by
     intro d Wc
     show((e::p).any fun e=>Nat.beq e.1 d)=false
     rw[List.any_eq_false]at hne ⊢
     intro x hx hb
     have:=Nat.eq_of_beq_eq_true hb
     exact hne x hx (by rw[Wc,this];simp)
    have fin: ∀{u:Value} {w':World},Below w.heap.size w w'→lf (ty:=ty) w w' st.hp [] env env→oC w' st.hp env a.tmps (.cond (e::p) v) u→Inv ty zb (st.put o.dst (.cond (e::p) v)) (a.put o.dst u) w':=by
     intro u w' hb hN hr
     have g':=g.grow (os:= []) Ub rfl hN
     exact⟨by rw[gB,wD];exact iv.size,by rw[put_defers];exact iv.defers,iv.kept.trans (iV hb Ub),iv.A3,env,oE g' wE hr hmn⟩
    have key: ∃j x q d,o.guard=some (j,x)∧ops[j]? =some q∧q.dst=some d∧(d,x)∈e::p∧(a.tmps[d]? =some (.bool x)→holds a.tmps (e::p)):=by
     unfold eN at eY
     split at eY
     ·simp at eY
     ·rename_i j x hg
      split at eY
      ·rename_i q hj
       split at eY
       ·rename_i d Jg
        split at eY
        ·rename_i b hl
         simp only[Option.some.injEq]at eY
         refine⟨j,x,q,d,hg,hj,Jg,by rw[←eY];simp,fun hh=> ?_⟩
         rw[←eY]
         intro y hy
         simp at hy
         subst hy
         exact hh
        ·rename_i p' b hl
         simp only[Option.some.injEq]at eY
         refine⟨j,x,q,d,hg,hj,Jg,by rw[←eY];simp,fun hh=> ?_⟩
         rw[←eY]
         intro y hy
         rcases List.mem_cons.1 hy with rfl|hy
         ·exact hh
         ·exact(tH g hl hh).1 y hy
        ·cases eY
       ·cases eY
      ·cases eY
    obtain⟨j,x,q,d,hg,hj,Jg,hmem,Wd⟩:=key
    have hw:=mH (ops:=ops.toArray) hg (by simpa using hj) Jg a.tmps
    unfold oF
    by_cases hb:a.tmps[d]? =some (.bool x)
    ·rw[if_pos (hw.2 hb)]
     have hp:=Wd hb
     left
     refine Oper.wp_mono ?_ (G6 (Q:=Q) C hq g hp (iv.A3.now iv.kept) (fun z hz=> ?_) rfl rfl)
     ·rintro a' w' ⟨u,env',rfl,hN,hr⟩
      have he:env'=env:=funext fun n=>hN.old n rfl
      subst he
      exact fin hN.below hN ⟨fun _=>hr,fun hh=>absurd (fun y hy=>hp y hy) hh⟩
     ·exact KX (hv _ (List.mem_map.2 ⟨z,hz,rfl⟩)) (A7 g hp)
    ·rw[if_neg (fun hh=>hb (hw.1 hh))]
     exact fin (Below.refl _ _) (lf.none (Below.refl _ _)) ⟨fun hh=>absurd (hh (d,x) hmem) hb,fun _=>rfl⟩
   ·cases h
  ·cases h
 ·cases h
theorem OB{Γ:Nat→TK}(C: ∀t,cw P t (Γ t)){cO:List (Nat×Nat)}{cr:List (Nat×CR)}{ops:List Oper}{vc:List Prop}(h:Od Γ (Jc P ty) (Sound ty P) cO cr ops st o=some (vc,st'))(iv:Inv ty zb st a w)(hv: ∀q,q∈vc→q):
  oF P ops.toArray o a w (fun a' w'=>Inv ty zb st' a' w') Q:=by
 unfold Od at h
 split at h
 ·rename_i oc v os hq
  simp only[Option.some.injEq,Prod.mk.injEq]at h
  obtain⟨rfl,rfl⟩:=h
  exact B0 C hq iv hv
 ·cases h
end
end
section
variable{ty:Tag→Nat}
def V.dead:V→V
 | .vw _ _ _ l=> .tY l.length
 |_=> .any
def V.bE(ks kv:List Nat)(v:V):V:=match v.name with
 |some m=>match ks.any (Nat.beq m)with
  |true=>v.dead
  |false=>match kv with
   | []=>v
   |kv=>match v.view with
    |some _=>match kv.any (Nat.beq m)with|true=>v.dead|false=>v
    |none=>v
 |none=>v
def S1.bE(ks kv:List Nat):S1→S1
 | .a v=> .a (v.bE ks kv)
 | .agg l=> .agg (l.map (V.bE ks kv))
def SV.bE(ks kv:List Nat):SV→SV
 | .one x=> .one (x.bE ks kv)
 | .rC l=> .rC (l.map (S1.bE ks kv))
 | .cond p x=> .cond p (x.bE ks kv)
def Ja.bE(ks kv:List Nat):Ja→Ja
 | .of n=>match ks.any (Nat.beq n)||kv.any (Nat.beq n)with|true=> .gone|false=> .of n
 |s=>s
def Obj.bE(ks kv:List Nat):Obj→Obj
 | .box c=> .box (c.map (V.bE ks kv))
 | .arr t l=> .arr t l
 | .lT t l s=> .lT t l (s.bE ks kv)
def cm(ks kv:List Nat)(hp:Hp):Hp:=(hp.filter fun e=> !ks.any (Nat.beq e.1)).map fun e=>(e.1,e.2.bE ks kv)
def pinned(ks:List Nat):Bool:=ks.any soft
theorem V.JB{ks kv:List Nat}{v:V}:(v.bE ks kv).rF (fun n=>n∉ks) (fun n=>n∉ks∧n∉kv):=by
 have hx: ∀{l:List Nat} {m:Nat},(l.any (Nat.beq m))=false→m∉l:=by
  intro l m h hm
  rw[List.any_eq_false]at h
  exact h m hm (by simp)
 have Ti: ∀x:V,x.dead.rF (fun n=>n∉ks) (fun n=>n∉ks∧n∉kv):=by
  intro x
  cases x<;>exact⟨fun _ h=>by simp[V.dead,V.name]at h,fun _ h=>by simp[V.dead,V.view]at h⟩
 unfold V.bE
 split
 ·rename_i m hm
  split
  ·exact Ti v
  ·rename_i hk
   have hk:=hx hk
   have hn: ∀n,v.name=some n→n∉ks:=by
    intro n h;rw[hm]at h;simp only[Option.some.injEq]at h;subst h;exact hk
   split
   ·exact⟨hn,fun n h=>⟨hn n (V.oD h),by simp⟩⟩
   ·split
    ·split
     ·exact Ti v
     ·rename_i hv
      have hv:=hx hv
      refine⟨hn,fun n h=>⟨hn n (V.oD h),?_⟩⟩
      have:=V.oD h
      rw[hm]at this;simp only[Option.some.injEq]at this;subst this;exact hv
    ·rename_i Yn
     exact⟨hn,fun n h=>by rw[Yn]at h;cases h⟩
 ·rename_i hm
  refine⟨fun n h=> ?_,fun n h=> ?_⟩
  ·rw[hm]at h;cases h
  ·have:=V.oD h;rw[hm]at this;cases this
theorem RA.dead{w:World}{hp:Hp}{env:Env}{v:V}{u:Value}(h:RA w hp env v u):RA w hp env v.dead u:=by
 cases v with
 |vw n p t l=>
  obtain⟨_,⟨fp,⟨oa,cap,rfl,hc,hm,h3⟩,_⟩,_⟩:=h
  refine⟨oa,cap,rfl,hc,hm,fun ho=> ?_⟩
  rcases h3 with⟨_,_,h4⟩| ⟨b,off,bk,h4,_⟩
  ·exact h4 ho
  ·rw[ho]at h4;cases h4
 |_=>trivial
theorem RA.bE{w:World}{hp:Hp}{env:Env}{ks kv:List Nat}{v:V}{u:Value}(h:RA w hp env v u):RA w hp env (v.bE ks kv) u:=by
 unfold V.bE
 repeat' split
 all_goals first
  |exact h
  |exact h.dead
  |trivial
abbrev qH(ks kv:List Nat)(w:World)(hp:Hp)(env:Env)(w':World)(iB:Hp)(env':Env):Prop:=Step (fun n=>n∉ks) (fun n=>n∉ks∧n∉kv) w hp env w' iB env'
section
variable{ks kv:List Nat}{w w':World}{hp iB:Hp}{env env':Env}
theorem BE.iX(s:qH ks kv w hp env w' iB env'){r:Ja}{t:Tag}{x:T t}{u:Value}(h:BE w hp env r t x u):BE w' iB env' (r.bE ks kv) t x u:=by
 cases r with
 |gone=>trivial
 |nZ=>exact BE.step s (r:= .nZ) (fun n hn=>by cases hn) h
 |of n=>
  unfold Ja.bE
  dsimp only
  split
  ·trivial
  ·rename_i hk
   rw[Bool.or_eq_false_iff,List.any_eq_false,List.any_eq_false]at hk
   refine BE.step s (r:= .of n) (fun m hm=> ?_) h
   simp only[Ja.name,Option.some.injEq]at hm
   subst hm
   exact⟨fun hm=>hk.1 n hm (by simp),fun hm=>hk.2 n hm (by simp)⟩
theorem RA.iX(s:qH ks kv w hp env w' iB env'){v:V}{u:Value}(h:RA w hp env v u):RA w' iB env' (v.bE ks kv) u:=
 RA.step s V.JB h.bE
theorem bn.map{α β γ:Type}{R:α→β→Prop}{R':γ→β→Prop}{f:α→γ}: ∀{as:List α} {bs:List β},(∀a b,R a b→R' (f a) b)→bn R as bs→bn R' (as.map f) bs
 | [],[],_,_=>trivial
 |a::as,b::bs,h,⟨h1,h2⟩=>⟨h a b h1,bn.map h h2⟩
 | [],_::_,_,h=>h.elim
 |_::_,[],_,h=>h.elim
theorem fG.iX(s:qH ks kv w hp env w' iB env'){x:S1}{u:Value}(h:fG w hp env x u):fG w' iB env' (x.bE ks kv) u:=by
 cases x with
 |a v=>exact RA.iX s h
 |agg l=>obtain⟨cs,hu,hl⟩:=h;exact⟨cs,hu,hl.map fun a b hr=>RA.iX s hr⟩
theorem oC.iX(s:qH ks kv w hp env w' iB env'){tmps:Array Value}{x:SV}{u:Value}(h:oC w hp env tmps x u):oC w' iB env' tmps (x.bE ks kv) u:=by
 cases x with
 |one x=>exact fG.iX s h
 |rC l=>obtain⟨us,hu,hl⟩:=h;exact⟨us,hu,hl.map fun a b hr=>fG.iX s hr⟩
 |cond p x=>exact⟨fun hh=>fG.iX s (h.1 hh),h.2⟩
theorem Good.iX{zb:cA}{st:St}{tmps:Array Value}(g:Good ty zb st tmps w env)(s:qH ks kv w st.hp env w' iB env')
  (ho: ∀n o,look iB n=some o→RO ty w' iB env' n o (env' n))(hd: ∀n m o o',n≠m→look iB n=some o→look iB m=some o'→ ∀b,b∈(env' n).fp→b∉(env' m).fp)
  (hm: ∀n o,look iB n=some o→ ∀b,b∈(env' n).fp→b∈zb.L∨zb.w.heap.size≤b)(hp: ∀n,iA n=true→(env' n).v=(zb.pv n).v∧ ∀b,b∈(env' n).fp→b∈(zb.pv n).fp):
  Good ty zb ⟨st.n,st.sl.map fun e=>(e.1,e.2.bE ks kv),iB⟩ tmps w' env':=by
 refine⟨ho,hd,fun t v hl=> ?_,hm,hp⟩
 have hl:look (st.sl.map fun e=>(e.1,e.2.bE ks kv)) t=some v:=hl
 rw[jH (α:=SV) (f:=fun e:Nat×SV=>e.2.bE ks kv)]at hl
 cases hq:look st.sl t with
 |none=>rw[hq]at hl;cases hl
 |some y=>
  rw[hq]at hl
  simp only[Option.map_some,Option.some.injEq]at hl
  subst hl
  exact oC.iX s (g.slot t y hq)
end
theorem bO{ks kv:List Nat}{hp:Hp}{n:Nat}:look (cm ks kv hp) n=if n∈ks then none else(look hp n).map (Obj.bE ks kv):=by
 unfold cm
 rw[jH (α:=Obj) (f:=fun e:Nat×Obj=>e.2.bE ks kv)]
 have:look (hp.filter fun e=> !ks.any (Nat.beq e.1)) n=if n∈ks then none else look hp n:=by
  induction hp with
  |nil=>simp[look]
  |cons e r ih=>
   obtain⟨j,x⟩:=e
   by_cases hj:j∈ks
   ·have:(ks.any (Nat.beq j))=true:=List.any_eq_true.2 ⟨j,hj,by simp⟩
    rw[List.filter_cons_of_neg (by simp[this]),ih]
    by_cases hn:n∈ks
    ·simp[hn]
    ·have:n≠j:=by rintro rfl;exact hn hj
     rw[aW this]
   ·have:(ks.any (Nat.beq j))=false:=List.any_eq_false.2 fun y hy hb=>hj (by have:=Nat.eq_of_beq_eq_true hb;rw[this];exact hy)
    rw[List.filter_cons_of_pos (by simp[this])]
    by_cases hn:n=j
    ·subst hn;rw[look_eq,look_eq,if_neg hj]
    ·rw[aW hn,aW hn,ih]
 rw[this]
 split<;>rfl
theorem oG: ∀{l:List V},rE l=true→ ∀v,v∈l→v≠ .any
 |x::r,h,v,hv=>by
  cases x with
  |any=>simp[rE]at h
  |_=>
   rcases List.mem_cons.1 hv with rfl|hv
   ·exact fun e=>by cases e
   ·exact oG (l:=r) (by simpa[rE]using h) v hv
def Fx(Γ:Nat→TK)(st:St):Op→Option St
 | .store t x y=>match gf st [] x,gf st [] y with
   |some (.a (.ptr n off)),some v=>match look st.hp n with
    |some (.box c)=>match Γ t,v with
     | .st z _ _, .agg l=>match Nat.beq l.length z.length&&rE l,Jb c off l with
       |true,some c'=>some ⟨st.n,st.sl,(n, .box c')::st.hp⟩
       |_,_=>none
     | .st _ _ _, .a _=>none
     | .other,_=>none
     |_, .a .any=>none
     |_, .a v=>match Jb c off [v]with
      |some c'=>some ⟨st.n,st.sl,(n, .box c')::st.hp⟩
      |none=>none
     |_,_=>none
    |_=>none
   |_,_=>none
 |_=>none
section
variable{P:Program}{zb:cA}{st st':St}{a:Act}{w:World}{env:Env}{Q:Exit→Act→World→Prop}{o:Oper}
theorem RA.one(g:Good ty zb st a.tmps w env){v:V}{u:Value}(h:RA w st.hp env v u)(hv:v≠ .any):u.oneCell'=true:=by
 cases v with
 |any=>exact absurd rfl hv
 |lit x=>obtain⟨rfl,h1⟩:=h;exact h1
 |sl t l=>obtain⟨fp,⟨oa,cap,rfl,_⟩,_⟩:=h;rfl
 |own n=>
  obtain⟨⟨t,l,hl⟩,rfl⟩:=h
  obtain⟨oa,cap,h,_⟩:=RO.sl (g.obj n _ hl)
  rw[h];rfl
 |ptr n off=>obtain⟨_,b,_,rfl⟩:=h;rfl
 |yx f n=>obtain⟨_,b,_,rfl⟩:=h;rfl
 |tY k=>obtain⟨oa,cap,rfl,_⟩:=h;rfl
 |lS n i off=>obtain⟨t,l,_,b,o,len,cap,_,rfl⟩:=h;rfl
 |ip t x off=>obtain⟨b,o,cs,fp,rfl,_⟩:=h;rfl
 |vw n p t l=>obtain⟨_,⟨fp,⟨oa,cap,rfl,_⟩,_⟩,_⟩:=h;rfl
 |AX n t l=>obtain⟨_,b,fp,⟨oa,cap,rfl,_⟩,_⟩:=h;rfl
 |mix n c t l=>obtain⟨_,⟨fp,⟨oa,cap,rfl,_⟩,_⟩,_⟩:=h;rfl
 |yu n=>
  obtain⟨⟨t,l,s,hl⟩,rfl⟩:=h
  obtain⟨_,us,hB,_⟩:=g.obj n _ hl
  obtain⟨oa,cap,h,_⟩:=hB.sl
  rw[h];rfl
 |Aw n p t x off=>obtain⟨_,b,o,cs,fp,rfl,_⟩:=h;rfl
theorem tI(g:Good ty zb st a.tmps w env): ∀{l:List V} {us:List Value},bn (RA w st.hp env) l us→(∀v,v∈l→v≠ .any)→ ∀u,u∈us→u.oneCell'=true
 |v::l,u::us,⟨h1,h2⟩,hn,x,hx=>by
  rcases List.mem_cons.1 hx with rfl|hx
  ·exact RA.one g h1 (hn v (by simp))
  ·exact tI g h2 (fun y hy=>hn y (by simp[hy])) x hx
 | [],_::_,h,_,_,_=>h.elim
theorem B1(g:Good ty zb st a.tmps w env){n:Nat}{c c':List V}(hl:look st.hp n=some (.box c)){b:Nat}{cs us:List Value}{e:TypeId}{off:Nat}(GI:env n=⟨.pointer (some ⟨b,0,none⟩),[b]⟩)(hh:w.heap[b]? =some (.cells (Array.mk cs) e (0,0)))
  (hlen:off+us.length≤cs.length)(hc:bn (RA w st.hp env) c' (cs.take off++(us++cs.drop (off+us.length)))):
  Good ty zb ⟨st.n,st.sl,(n, .box c')::st.hp⟩ a.tmps (w.setCells b off us) env:=by
 have hk: ∀x,x≠b→(w.setCells b off us).heap[x]? =w.heap[x]? :=fun x hx=>cz b us off w x hx
 have hlk: ∀m o,look ((n,Obj.box c')::st.hp) m=some o→(m=n∧o= .box c')∨(m≠n∧look st.hp m=some o):=by
  intro m o hm
  by_cases hmn:m=n
  ·subst hmn;rw[look_eq]at hm;simp only[Option.some.injEq]at hm;exact Or.inl ⟨rfl,hm.symm⟩
  ·rw[aW hmn]at hm;exact Or.inr ⟨hmn,hm⟩
 have how:Ow st.hp env b:=⟨n,_,hl,by rw[GI];simp⟩
 have s:Step (fun _=>True) (fun _=>True) w st.hp env (w.setCells b off us) ((n, .box c')::st.hp) env:=by
  refine⟨fun x _ hx=>hk x (fun e=>hx (e▸how)),?_,?_,?_⟩
  ·rintro x _ ⟨m,o,h1,h2⟩
   rcases hlk m o h1 with⟨rfl,rfl⟩| ⟨_,h1⟩
   ·exact⟨m,_,hl,h2⟩
   ·exact⟨m,o,h1,h2⟩
  ·intro m o _ h1
   by_cases hmn:m=n
   ·subst hmn
    rw[hl]at h1
    simp only[Option.some.injEq]at h1
    subst h1
    exact⟨_,look_eq,trivial,rfl⟩
   ·exact⟨o,by rw[aW hmn];exact h1,by cases o<;>simp[Obj.like],rfl⟩
  ·intro m t l _ h1
   have hmn:m≠n:=by rintro rfl;rw[hl]at h1;cases h1
   refine⟨by rw[aW hmn];exact h1,rfl,fun x hx=>hk x ?_⟩
   rintro rfl
   exact g.kj m n _ _ hmn h1 hl x hx (by rw[GI];simp)
 refine⟨fun m o hm=> ?_,fun m m' o o' hne h1 h2=> ?_,fun t v hv=>oC.step s (fun v _=>v.eD) (g.slot t v hv),fun m o hm b hb=> ?_,g.pins⟩
 ·rcases hlk m o hm with⟨rfl,rfl⟩| ⟨hmn,hm⟩
  ·refine⟨b,_,e,GI,?_,hc.mono fun v u _ h=>RA.step s v.eD h⟩
   rw[BH hh,nB us cs off hlen]
  ·have hro:=g.obj m o hm
   refine hro.step s (Obj.eD _) fun x hx=>hk x ?_
   rintro rfl
   exact g.kj m n o _ hmn hm hl x hx (by rw[GI];simp)
 ·rcases hlk m o h1 with⟨e1,e2⟩| ⟨_,k1⟩<;>rcases hlk m' o' h2 with⟨e3,e4⟩| ⟨_,k2⟩
  ·exact absurd (e1.trans e3.symm) hne
  ·exact g.kj m m' _ _ hne (e1▸hl) k2
  ·exact g.kj m m' _ _ hne k1 (e3▸hl)
  ·exact g.kj m m' _ _ hne k1 k2
 ·rcases hlk m o hm with⟨e1,_⟩| ⟨_,k1⟩
  ·subst e1;exact g.dom m _ hl b hb
  ·exact g.dom m o k1 b hb
theorem B2{b:Nat}(hb:b∈zb.L∨zb.w.heap.size≤b){c:Array Value}{e:TypeId}(hh:w.heap[b]? =some (.cells c e (0,0)))(off:Nat)(us:List Value):Kept zb w (w.setCells b off us):=by
 have h0:=Bw (B:=0) (w:=w) (Below.refl 0 w) (Nat.zero_le b) off us
 refine⟨h0.os,h0.tape,h0.output,h0.size,fun x hx hn=>cz b us off w x ?_,fun x c' e' hx=> ?_⟩
 ·rintro rfl
  rcases hb with h|h
  ·exact hn h
  ·omega
 ·by_cases Tj:x=b
  ·subst Tj
   rw[hh]at hx
   simp only[Option.some.injEq,Go.Obj.cells.injEq,and_true]at hx
   obtain⟨rfl,rfl⟩:=hx
   obtain⟨c2,h1,h2⟩:=ef x e us off w c hh
   exact⟨c2,h1,h2⟩
  ·exact⟨c',by rw[cz b us off w x Tj];exact hx,rfl⟩
theorem pV{t b off:Nat}{v:Value}{us:List Value}(hv:v.cells=us.toArray)(ht:w.there b off us.length)(hi:(P.info? t).map (·.size)=some us.length)(h1: ∀u,u∈us→u.oneCell'=true):
  (storeVar t ⟨b,off,none⟩ v).run P w= .ok () (w.setCells b off us):=by
 have:=run_storeVar_mid (P:=P) w b off t us.toArray (by simpa using ht) (by simpa using hi) (all_oneCell_toArray h1)
 unfold storeVar at this ⊢
 rw[hv]
 exact this
theorem MK{Γ:Nat→TK}(C: ∀t,cw P t (Γ t))(Z: ∀t,(∀z tg fo,Γ t≠ .st z tg fo)→Γ t≠ .other→(P.info? t).map (·.size)=some 1)(h:Fx Γ st o.op=some st')(g:Good ty zb st a.tmps w env):
  o.wp P a w (fun a' w'=>a'=a.put o.dst undef∧Kept zb w w'∧Good ty zb st' a.tmps w' env∧st'.n=st.n∧st'.sl=st.sl) Q:=by
 have hop: ∀{x v},gf st [] x=some v→fG w st.hp env v (a.eval x):=fun hx=>eg g (fun e he=>by simp at he) hx
 generalize fK:o.op=op at h
 cases op with
 |store t x y=>
  simp only[Fx]at h
  split at h
  ·rename_i n off v hx hy
   have hx:=hop hx
   have hy:=hop hy
   split at h
   ·rename_i c hl
    obtain⟨_,b,hb,hu⟩:=hx
    obtain⟨b',cs,e,GI,hh,hc⟩:=g.obj n _ hl
    have hM:=g.dom n _ hl b' (by rw[GI];simp)
    have T9:b=b':=by rw[GI]at hb;simpa using hb.symm
    subst T9
    have fin: ∀{us:List Value} {c':List V},(a.eval y).cells=us.toArray→(P.info? t).map (·.size)=some us.length→(∀u,u∈us→u.oneCell'=true)→off+us.length≤cs.length→bn (RA w st.hp env) c' (cs.take off++(us++cs.drop (off+us.length)))→st'=⟨st.n,st.sl,(n, .box c')::st.hp⟩→
      o.wp P a w (fun a' w'=>a'=a.put o.dst undef∧Kept zb w w'∧Good ty zb st' a.tmps w' env∧st'.n=st.n∧st'.sl=st.sl) Q:=by
     intro us c' h1 h2 h3 h4 h5 h6
     subst h6
     unfold Oper.wp execOp
     simp only[fK,hu,Instr.storeAt,Instr.sureAddr,Sem.run_bind,Sem.run_pure,Result.andThen_ok,pV h1 (Jt hh off us.length h4) h2 h3]
     exact⟨by trivial,B2 hM hh off us,B1 g hl GI hh h4 h5,by trivial,by trivial⟩
    split at h
    ·rename_i z tg fo l hk _
     split at h
     ·rename_i c' hlen hs
      simp only[Option.some.injEq]at h
      obtain⟨us,RR,Jz⟩:=hy
      obtain⟨k1,k2⟩:=Fu hc Jz hs
      have hC:=C t
      rw[hk]at hC
      obtain⟨fs,_,hi,_⟩:=hC
      simp only[Bool.and_eq_true]at hlen
      have jr:=Nat.eq_of_beq_eq_true hlen.1
      refine fin (us:=us) (by rw[RR];rfl) ?_ ?_ k1 k2 h.symm
      ·rw[Jz.len,jr]
       cases hq:P.info? t with
       |none=>simp[hq]at hi
       |some i=>simp[hq]at hi;simp[hi.1]
      ·exact tI g Jz (oG hlen.2)
     ·cases h
    ·cases h
    ·cases h
    ·cases h
    ·rename_i v k1 k2 k3 _
     split at h
     ·rename_i c' hs
      simp only[Option.some.injEq]at h
      obtain⟨q1,q2⟩:=Fu (vs:= [v]) (us:= [a.eval y]) hc ⟨hy,trivial⟩ hs
      have hne:v≠ .any:=fun e=>k1 e
      refine fin (us:= [a.eval y]) (jq g hy hne) (Z t (fun z tg fo hz=>k2 z tg fo hz) k3) ?_ q1 q2 h.symm
      intro u Ym
      rw[List.mem_singleton.1 Ym]
      exact RA.one g hy hne
     ·cases h
    ·cases h
   ·cases h
  ·cases h
 |_=>simp[Fx]at h
end
end
section
variable{ty:Tag→Nat}
theorem G8{α:Type}{k:Nat}{E:ER α}(G:fF k E)(hk:0<k){w:World}{u:Value}{l:List α}{fp:List Nat}(h:Sl k E w u l fp):
  ∃(news:List Value) (fx:List (List Nat)),Src w u l.length news∧fx.length=l.length∧news.length=l.length*k∧(∀i x f,l[i]? =some x→fx[i]? =some f→E w ((news.drop (i*k)).take k) x f)∧fx.flatten.Sublist fp∧ ∀b r,fp=b::r→fx.flatten=r:=by
 obtain⟨oa,cap,rfl,hc,hm,h3⟩:=h
 rcases h3 with⟨rfl,rfl,hno⟩| ⟨b,off,bk,rfl,hb,rfl,he⟩
 ·refine⟨[],[],?_,rfl,by simp,by simp,by simp,fun b r h=>by cases h⟩
  cases oa with
  |none=>exact Or.inl ⟨by simp[hno rfl],rfl,rfl⟩
  |some a=>exact Or.inr ⟨a,cap,rfl,by simp⟩
 ·have hcell: ∀j,j<l.length*k→ ∃v,w.cell? ⟨b,off+j,none⟩=some v:=by
   intro j hj
   have hi:j/k<l.length:=Nat.div_lt_of_lt_mul (by rw[Nat.mul_comm];omega)
   obtain⟨f,hf⟩:=iz he.1 (List.getElem?_eq_getElem hi)
   obtain⟨cs,hr,hE⟩:=he.2 _ _ f (List.getElem?_eq_getElem hi) hf
   have hl:=G.len hE
   have hml:=Nat.mod_lt j hk
   have:=hr (j % k) cs[j % k] (List.getElem?_eq_getElem (by omega))
   refine⟨cs[j % k]'(by omega),?_⟩
   rw[←this]
   congr 2
   have:=Nat.div_add_mod j k
   have:=Nat.mul_comm k (j/k)
   omega
  refine⟨(List.range (l.length*k)).map fun j=>(w.cell? ⟨b,off+j,none⟩).getD undef,bk,Or.inr ⟨_,cap,rfl,?_⟩,he.1,by simp,?_,List.sublist_cons_self _ _,fun b r h=>by cases h;rfl⟩
  ·intro j u hu
   have hj:j<l.length*k:=by have:=(List.getElem?_eq_some_iff.1 hu).1;simpa using this
   obtain⟨v,hv⟩:=hcell j hj
   simp[hj,hv]at hu
   rw[Addr.add_mid,hv,hu]
  ·intro i x f hx hf
   obtain⟨cs,hr,hE⟩:=he.2 i x f hx hf
   have hl:=G.len hE
   have hi:i<l.length:=(List.getElem?_eq_some_iff.1 hx).1
   have h5:i*k+k≤l.length*k:=by
    have:=Nat.mul_le_mul_right k (show i+1≤l.length by omega)
    rw[Nat.add_mul]at this;omega
   have:(((List.range (l.length*k)).map fun j=>(w.cell? ⟨b,off+j,none⟩).getD undef).drop (i*k)).take k=cs:=by
    apply List.ext_getElem?
    intro j
    by_cases hj:j<k
    ·rw[List.getElem?_take,if_pos hj,List.getElem?_drop]
     have h6:=hr j cs[j] (List.getElem?_eq_getElem (by omega))
     rw[List.getElem?_map,List.getElem?_range (by omega)]
     simp[←Nat.add_assoc,h6,show j<cs.length by omega]
    ·rw[List.getElem?_take,if_neg hj,List.getElem?_eq_none (by omega)]
   rw[this];exact hE
theorem wF{α:Type}{k:Nat}{E:ER α}(G:fF k E)(hk:0<k){w:World}{u:Value}{l:List α}{fp:List Nat}(h:Sl k E w u l fp):
  ∃(news:List Value) (fx:List (List Nat)),Src w u l.length news∧fx.length=l.length∧news.length=l.length*k∧(∀i x f,l[i]? =some x→fx[i]? =some f→E w ((news.drop (i*k)).take k) x f)∧fx.flatten.Sublist fp:=by
 obtain⟨news,fx,h1,h2,h3,h4,h5,_⟩:=G8 G hk h
 exact⟨news,fx,h1,h2,h3,h4,h5⟩
theorem RO.iX{ks kv:List Nat}{w w':World}{hp iB:Hp}{env env':Env}(s:qH ks kv w hp env w' iB env'){n:Nat}{o:Obj}{co:CO}
  (hk: ∀b,b∈co.fp→w'.heap[b]? =w.heap[b]?)(h:RO ty w hp env n o co):RO ty w' iB env' n (o.bE ks kv) co:=by
 cases o with
 |box c=>
  obtain⟨b,cs,e,rfl,hh,hc⟩:=h
  exact⟨b,cs,e,rfl,by rw[hk b (by simp)];exact hh,hc.map fun a u hr=>RA.iX s hr⟩
 |arr t l=>exact RO.bp h hk
 |lT t l r=>
  obtain⟨h1,us,hB,h2,h3⟩:=h
  exact⟨h1,us,iR.bp wu hB hk,h2,fun i x u hx hu=>BE.iX s (h3 i x u hx hu)⟩
def St.gone(st:St)(ks:List Nat)(d:Nat)(t:Tag)(l:List (T t)):St:=
 match ks with
 | []=>⟨st.n,st.sl,(d, .arr t l)::st.hp⟩
 |ks=>⟨st.n,st.sl.map fun e=>(e.1,e.2.bE ks []),(d, .arr t l)::cm ks [] st.hp⟩
theorem V.gP(v:V):v.bE [] []=v:=by
 unfold V.bE;split<;>simp
theorem S1.gP(x:S1):x.bE [] []=x:=by
 cases x with
 |a v=>simp[S1.bE,V.gP]
 |agg l=>simp only[S1.bE,S1.agg.injEq];rw[List.map_congr_left (g:=id) fun v _=>V.gP v,List.map_id]
theorem SV.gP(x:SV):x.bE [] []=x:=by
 cases x with
 |one x=>simp[SV.bE,S1.gP]
 |rC l=>simp only[SV.bE,SV.rC.injEq];rw[List.map_congr_left (g:=id) fun v _=>S1.gP v,List.map_id]
 |cond p x=>simp[SV.bE,S1.gP]
theorem JC(hp:Hp):cm [] [] hp=hp:=by
 unfold cm
 rw[List.filter_eq_self.2 (by simp),List.map_congr_left (g:=id),List.map_id]
 rintro⟨n,o⟩ _
 cases o with
 |box c=>simp only[Obj.bE,id];rw[List.map_congr_left (g:=id) fun v _=>V.gP v,List.map_id]
 |arr t l=>rfl
 |lT t l s=>cases s<;>rfl
theorem St.gone_eq(st:St)(ks:List Nat)(d:Nat)(t:Tag)(l:List (T t)):st.gone ks d t l=⟨st.n,st.sl.map fun e=>(e.1,e.2.bE ks []),(d, .arr t l)::cm ks [] st.hp⟩:=by
 unfold St.gone
 split
 ·rw[JC,List.map_congr_left (g:=id),List.map_id]
  rintro⟨n,x⟩ _
  simp[SV.gP]
 ·rfl
section
variable{P:Program}{zb:cA}{st st':St}{a:Act}{w:World}{env:Env}{Q:Exit→Act→World→Prop}{o:Oper}
theorem pW{ks:List Nat}(h:pinned ks=false){n:Nat}(hn:n∈ks):soft n=false:=by
 unfold pinned at h
 rw[List.any_eq_false]at h
 simpa using h n hn
theorem yF(g:Good ty zb st a.tmps w env)(hB:zb.w.heap.size≤w.heap.size){ks:List Nat}(hpk:pinned ks=false){d:Nat}(Uc:iA d=false)(hd:look (cm ks [] st.hp) d=none){v v':Value}{w':World}{ob:Obj}{fp fx ga:List Nat}
  (gA: ∀b,b∈fp++fx→ ∃i o,i∈ks∧look st.hp i=some o∧b∈(env i).fp)(Dv: ∀b,v.ownBlock=some b→b∈fp)
  (hRO: ∀env':Env,env' d=⟨v',ga⟩→qH ks [] w st.hp env w' ((d,ob)::cm ks [] st.hp) env'→RO ty w' ((d,ob)::cm ks [] st.hp) env' d ob ⟨v',ga⟩)(hg:w.grownBy w' v.ownBlock)(hsub: ∀b,b∈ga→b∈fp∨b∈fx∨b=w.heap.size):
  ∃env',Good ty zb ⟨st.n,st.sl.map fun e=>(e.1,e.2.bE ks []),(d,ob)::cm ks [] st.hp⟩ a.tmps w' env'∧(env' d).v=v'∧(∀n,n≠d→env' n=env n)∧(env' d).fp=ga:=by
 refine⟨fun n=>if n=d then⟨v',ga⟩else env n,?_,by simp,fun n hn=>by simp[hn],by simp⟩
 have hlk: ∀m o,look ((d,ob)::cm ks [] st.hp) m=some o→(m=d∧o=ob)∨(m≠d∧m∉ks∧ ∃o',look st.hp m=some o'∧o=o'.bE ks []):=by
  intro m o hm
  by_cases lQ:m=d
  ·subst lQ;rw[look_eq]at hm;simp only[Option.some.injEq]at hm;exact Or.inl ⟨rfl,hm.symm⟩
  ·rw[aW lQ,bO]at hm
   split at hm
   ·cases hm
   ·rename_i hks
    cases hq:look st.hp m with
    |none=>rw[hq]at hm;cases hm
    |some o'=>rw[hq]at hm;simp only[Option.map_some,Option.some.injEq]at hm;exact Or.inr ⟨lQ,hks,o',rfl,hm.symm⟩
 have how: ∀b,b∈ga→b<w.heap.size→ ∃i o,i∈ks∧look st.hp i=some o∧b∈(env i).fp:=by
  intro b hb hlt
  rcases hsub b hb with h|h|h
  ·exact gA b (List.mem_append_left _ h)
  ·exact gA b (List.mem_append_right _ h)
  ·omega
 have hnd: ∀m o,m∉ks→look st.hp m=some o→m≠d:=by
  rintro m o hks h1 rfl
  rw[bO,if_neg hks,h1]at hd
  cases hd
 have hst: ∀m o,m∉ks→look st.hp m=some o→ ∀b,b∈(env m).fp→w'.heap[b]? =w.heap[b]? :=by
  intro m o hks h3 b hb
  refine hg.block b ((g.obj m o h3).uV b hb) fun e=> ?_
  obtain⟨i,oi,hi,h5,h6⟩:=gA b (List.mem_append_left _ (Dv b e.symm))
  exact g.kj m i _ _ (fun e=>hks (e▸hi)) h3 h5 b hb h6
 have s:qH ks [] w st.hp env w' ((d,ob)::cm ks [] st.hp) (fun n=>if n=d then⟨v',ga⟩else env n):=by
  refine⟨fun b hb hno=>hg.block b hb fun e=> ?_,?_,?_,?_⟩
  ·obtain⟨i,o',_,h1,h2⟩:=gA b (List.mem_append_left _ (Dv b e.symm))
   exact hno ⟨i,o',h1,h2⟩
  ·rintro b hb ⟨m,o',h1,h2⟩
   rcases hlk m o' h1 with⟨rfl,_⟩| ⟨lQ,hks,AA,h3,rfl⟩
   ·simp at h2
    obtain⟨i,o',_,h3,h4⟩:=how b h2 hb
    exact⟨i,o',h3,h4⟩
   ·simp[lQ]at h2
    exact⟨m,AA,h3,h2⟩
  ·intro m o' hks h1
   have lQ:=hnd m o' hks h1
   refine⟨o'.bE ks [],by rw[aW lQ,bO,if_neg hks,h1];rfl,by cases o'<;>simp[Obj.like,Obj.bE],by simp[lQ]⟩
  ·rintro m t' l' ⟨hks,_⟩ h1
   have lQ:=hnd m _ hks h1
   exact⟨by rw[aW lQ,bO,if_neg hks,h1];rfl,by simp[lQ],hst m _ hks h1⟩
 refine g.iX s (fun m o' hm=> ?_) (fun m m' o1 o2 hne h1 h2 b hb hb'=> ?_) (fun m o' hm b hb=> ?_) (fun m hm=> ?_)
 ·rcases hlk m o' hm with⟨e1,e2⟩| ⟨lQ,hks,AA,h3,rfl⟩
  ·rw[e1,e2]
   simp only[if_true]
   exact hRO _ (by simp) s
  ·simp only[if_neg lQ]
   have hro:=g.obj m AA h3
   exact hro.iX s (hst m AA hks h3)
 ·rcases hlk m o1 h1 with⟨e1,_⟩| ⟨lQ,hks,q1,h3,_⟩<;>rcases hlk m' o2 h2 with⟨e2,_⟩| ⟨Fy,OC,q2,h4,_⟩
  ·exact hne (e1.trans e2.symm)
  ·simp only[if_pos e1]at hb
   simp only[if_neg Fy]at hb'
   have hlt:=(g.obj m' q2 h4).uV b hb'
   obtain⟨i,oi,hi,h5,h6⟩:=how b hb hlt
   exact g.kj m' i _ _ (fun e=>OC (e▸hi)) h4 h5 b hb' h6
  ·simp only[if_pos e2]at hb'
   simp only[if_neg lQ]at hb
   have hlt:=(g.obj m q1 h3).uV b hb
   obtain⟨i,oi,hi,h5,h6⟩:=how b hb' hlt
   exact g.kj m i _ _ (fun e=>hks (e▸hi)) h3 h5 b hb h6
  ·simp only[if_neg lQ]at hb
   simp only[if_neg Fy]at hb'
   exact g.kj m m' _ _ hne h3 h4 b hb hb'
 ·rcases hlk m o' hm with⟨e1,_⟩| ⟨lQ,hks,q1,h3,_⟩
  ·simp only[if_pos e1]at hb
   by_cases hlt:b<w.heap.size
   ·obtain⟨i,oi,hi,h5,h6⟩:=how b hb hlt
    exact g.dom i oi h5 b h6
   ·exact Or.inr (by omega)
  ·simp only[if_neg lQ]at hb
   exact g.dom m q1 h3 b hb
 ·have:m≠d:=by rintro rfl;rw[Uc]at hm;cases hm
  simp only[if_neg this]
  exact g.pins m hm
theorem Eg(g:Good ty zb st a.tmps w env)(hB:zb.w.heap.size≤w.heap.size){ks:List Nat}(hpk:pinned ks=false){d:Nat}(Uc:iA d=false)(hd:look (cm ks [] st.hp) d=none){v v':Value}{w':World}{t:Tag}{l:List (T t)}{fp fx ga:List Nat}
  (gA: ∀b,b∈fp++fx→ ∃i o,i∈ks∧look st.hp i=some o∧b∈(env i).fp)(Dv: ∀b,v.ownBlock=some b→b∈fp)
  (We:iR (kk t) (rd t) 0 (ty t) w' v' l ga)(hg:w.grownBy w' v.ownBlock)(hsub: ∀b,b∈ga→b∈fp∨b∈fx∨b=w.heap.size):
  ∃env',Good ty zb ⟨st.n,st.sl.map fun e=>(e.1,e.2.bE ks []),(d, .arr t l)::cm ks [] st.hp⟩ a.tmps w' env'∧(env' d).v=v'∧(∀n,n≠d→env' n=env n)∧(env' d).fp=ga:=
 yF g hB hpk Uc hd gA Dv (fun _ _ _=>RO.D8 We) hg hsub
theorem B3(g:Good ty zb st a.tmps w env)(hB:zb.w.heap.size≤w.heap.size){ks:List Nat}(hpk:pinned ks=false){d:Nat}(Uc:iA d=false)(hd:look (cm ks [] st.hp) d=none){v v':Value}{w':World}{t:Tag}{l:List (T t)}{fp fx ga:List Nat}
  (gA: ∀b,b∈fp++fx→ ∃i o,i∈ks∧look st.hp i=some o∧b∈(env i).fp)(Dv: ∀b,v.ownBlock=some b→b∈fp)
  (We:iR (kk t) (rd t) 0 (ty t) w' v' l ga)(hg:w.grownBy w' v.ownBlock)(hsub: ∀b,b∈ga→b∈fp∨b∈fx∨b=w.heap.size):
  ∃env',Good ty zb ⟨st.n,st.sl.map fun e=>(e.1,e.2.bE ks []),(d, .arr t l)::cm ks [] st.hp⟩ a.tmps w' env'∧(env' d).v=v':=by
 obtain⟨env',h1,h2,_⟩:=Eg g hB hpk Uc hd gA Dv We hg hsub
 exact⟨env',h1,h2⟩
end
def Fz(st:St)(t:Tag):S1→Option (List (T t)×List Nat)
 | .a (.own n)=>match look st.hp n with
   |some (.arr t' l)=>match kg t t' l with|some l=>some (l,[n])|none=>none
   |_=>none
 | .a (.lit (.slice none 0 0))=>some ([],[])
 |_=>none
def JD(st:St)(t:Tag):S1→Option (List (T t)×List Nat)
 | .a (.own n)=>match look st.hp n with
   |some (.arr t' l)=>match kg t t' l with|some l=>some (l,match flat t with|true=> []|false=> [n])|none=>none
   |_=>none
 | .a (.sl t' l)=>match flat t,kg t t' l with
   |true,some l=>some (l,[])
   |false,some l=>match l with| []=>some ([],[])|_=>none
   |_,_=>none
 | .a (.vw n _ t' l)=>match kg t t' l with
   |some l=>some (l,match flat t with|true=> []|false=> [n])
   |none=>none
 | .a (.AX n t' l)=>match kg t t' l with
   |some l=>some (l,[n])
   |none=>none
 | .a (.lit (.slice none 0 0))=>some ([],[])
 |_=>none
def mI{α:Type}:List α→List α→List α
 | [],l=>l
 | [x],l=>x::l
 |k,l=>k++l
theorem eo{α:Type}(k l:List α):mI k l=k++l:=by
 unfold mI;split<;>rfl
def G9(k m:List Nat):Bool:=k.all fun x=> !m.any fun y=>Nat.beq x y
def JE(P:Program)(ty:Tag→Nat)(Γ:Nat→TK)(st:St)(m0:Nat):Op→Option (List Prop×St×SV)
 | .call ⟨.builtin .append,xs,ts⟩=>match xs.toList,ts.toList with
   | [s,x],[t1,t2]=>match Γ t1,Nat.beq t1 t2 with
     | .sl t e,true=>match Nat.beq e (ty t),gf st [] s,gf st [] x with
       |true,some vs,some vx=>match Fz st t vs,JD st t vx with
        |some (l,k),some (lx,m)=>match G9 k m&& !pinned (mI k m)&& !iA m0,look (cm (mI k m) [] st.hp) m0 with
         |true,none=>some ([El P ty t,(l.length+lx.length)*cN t≤140737488355328∧l.length+lx.length≤maxLen],
           st.gone (mI k m) m0 t (l++lx), .one (.a (.own m0)))
         |_,_=>none
        |_,_=>none
       |_,_,_=>none
     |_,_=>none
   |_,_=>none
 |_=>none
section
variable{P:Program}{zb:cA}{st:St}{a:Act}{w:World}{env:Env}{Q:Exit→Act→World→Prop}{o:Oper}
theorem Eh(g:Good ty zb st a.tmps w env){t:Tag}{x:S1}{u:Value}{l:List (T t)}{k:List Nat}(hr:fG w st.hp env x u)(h:Fz st t x=some (l,k)):
  pinned k=false→ ∃fp,iR (kk t) (rd t) 0 (ty t) w u l fp∧(∀b,b∈fp→ ∃i o,i∈k∧look st.hp i=some o∧b∈(env i).fp)
  :=by
 intro hpk
 unfold Fz at h
 split at h
 ·rename_i n
  split at h
  ·rename_i t' l' hl
   split at h
   ·rename_i l2 hc
    simp only[Option.some.injEq,Prod.mk.injEq]at h
    obtain⟨rfl,rfl⟩:=h
    obtain⟨e,rfl⟩:=dW hc
    subst e
    obtain⟨_,rfl⟩:=hr
    exact⟨(env n).fp,RO.KN (pW hpk (by simp)) (g.obj n _ hl),fun b hb=>⟨n,_,by simp,hl,hb⟩⟩
   ·cases h
  ·cases h
 ·simp only[Option.some.injEq,Prod.mk.injEq]at h
  obtain⟨rfl,rfl⟩:=h
  have hu:=(show fG w st.hp env (.a (.lit Fm)) u from hr).lit
  subst hu
  exact⟨[],iR.nil _ _ _ _ _,by simp⟩
 ·cases h
theorem B4{t:Tag}(hf:flat t=true){u:Value}{l:List (T t)}{fp:List Nat}(hs:Sl (kk t) (rd t) w u l fp):
  ∃(news:List Value) (fx:List (List Nat)),Src w u l.length news∧fx.length=l.length∧news.length=l.length*kk t∧(∀i x f,l[i]? =some x→fx[i]? =some f→rd t w ((news.drop (i*kk t)).take (kk t)) x f)∧fx.flatten= []:=by
 obtain⟨news,fx,h1,h2,h3,h4,h5⟩:=wF (eT t) (kB t) hs
 refine⟨news,fx,h1,h2,h3,h4,?_⟩
 rw[List.flatten_eq_nil_iff]
 intro f hf'
 obtain⟨i,hi⟩:=List.getElem?_of_mem hf'
 have hil:i<l.length:=by have:=(List.getElem?_eq_some_iff.1 hi).1;omega
 exact Ry t hf (h4 i _ f (List.getElem?_eq_getElem hil) hi)
theorem ML(g:Good ty zb st a.tmps w env){t:Tag}{x:S1}{u:Value}{l:List (T t)}{k:List Nat}(hr:fG w st.hp env x u)(h:JD st t x=some (l,k)):
  ∃(news:List Value) (fx:List (List Nat)),Src w u l.length news∧fx.length=l.length∧news.length=l.length*kk t∧(∀i x f,l[i]? =some x→fx[i]? =some f→rd t w ((news.drop (i*kk t)).take (kk t)) x f)∧
   (∀b,b∈fx.flatten→ ∃i o,i∈k∧look st.hp i=some o∧b∈(env i).fp)∧Own 0 w fx.flatten:=by
 unfold JD at h
 split at h
 ·rename_i n
  split at h
  ·rename_i t' l' hl
   split at h
   ·rename_i l2 hc
    simp only[Option.some.injEq,Prod.mk.injEq]at h
    obtain⟨rfl,hk⟩:=h
    obtain⟨e,rfl⟩:=dW hc
    subst e
    obtain⟨_,rfl⟩:=hr
    have hb:=RO.sl (g.obj n _ hl)
    split at hk
    ·rename_i hf
     subst hk
     obtain⟨news,fx,h1,h2,h3,h4,h5⟩:=B4 hf hb
     exact⟨news,fx,h1,h2,h3,h4,by simp[h5],by rw[h5];exact Own.nil _ _⟩
    ·subst hk
     obtain⟨news,fx,h1,h2,h3,h4,h5⟩:=wF (eT t') (kB t') hb
     have ho:=RO.own (g.obj n _ hl)
     exact⟨news,fx,h1,h2,h3,h4,fun b hb=>⟨n,_,by simp,hl,h5.subset hb⟩,⟨h5.nodup ho.nodup,fun b hb=>ho.ge b (h5.subset hb),fun b hb=>ho.kind b (h5.subset hb)⟩⟩
   ·cases h
  ·cases h
 ·rename_i t' l'
  split at h
  ·rename_i l2 hf hc
   simp only[Option.some.injEq,Prod.mk.injEq]at h
   obtain⟨rfl,rfl⟩:=h
   obtain⟨e,rfl⟩:=dW hc
   subst e
   obtain⟨fp,hs,_⟩:=hr
   obtain⟨news,fx,h1,h2,h3,h4,h5⟩:=B4 hf hs
   exact⟨news,fx,h1,h2,h3,h4,by simp[h5],by rw[h5];exact Own.nil _ _⟩
  ·rename_i l2 hf hc
   split at h
   ·simp only[Option.some.injEq,Prod.mk.injEq]at h
    obtain⟨rfl,rfl⟩:=h
    obtain⟨e,he⟩:=dW hc
    subst e
    obtain rfl:l'= []:=he.symm
    obtain⟨fp,hs,_⟩:=hr
    obtain⟨news,fx,h1,h2,h3,h4,h5⟩:=wF (eT t') (kB t') hs
    have I8:fx= []:=List.eq_nil_of_length_eq_zero h2
    subst I8
    exact⟨news,[],h1,rfl,h3,by simp,by simp,Own.nil _ _⟩
   ·cases h
  ·cases h
 ·rename_i n _ t' l'
  split at h
  ·rename_i l2 hc
   simp only[Option.some.injEq,Prod.mk.injEq]at h
   obtain⟨rfl,hk⟩:=h
   obtain⟨e,rfl⟩:=dW hc
   subst e
   obtain⟨⟨tA,lA,hl⟩,⟨fp,hs,hnd,hsub⟩,_⟩:=hr
   split at hk
   ·rename_i hf
    subst hk
    obtain⟨news,fx,h1,h2,h3,h4,h5⟩:=B4 hf hs
    exact⟨news,fx,h1,h2,h3,h4,by simp[h5],by rw[h5];exact Own.nil _ _⟩
   ·subst hk
    obtain⟨news,fx,h1,h2,h3,h4,h5⟩:=wF (eT t') (kB t') hs
    have ho:=RO.own (g.obj n _ hl)
    exact⟨news,fx,h1,h2,h3,h4,fun b hb=>⟨n,_,by simp,hl,hsub b (h5.subset hb)⟩,⟨h5.nodup hnd,fun b _=>Nat.zero_le _,fun b hb=>ho.kind b (hsub b (h5.subset hb))⟩⟩
  ·cases h
 ·rename_i n t' l'
  split at h
  ·rename_i l2 hc
   simp only[Option.some.injEq,Prod.mk.injEq]at h
   obtain⟨rfl,rfl⟩:=h
   obtain⟨e,rfl⟩:=dW hc
   subst e
   obtain⟨⟨tA,lA,hl⟩,b,fp,hs,hb,hnd,hsub⟩:=hr
   obtain⟨news,fx,h1,h2,h3,h4,_,h5⟩:=G8 (eT t') (kB t') hs
   have h5:=h5 b fp rfl
   have ho:=RO.own (g.obj n _ hl)
   exact⟨news,fx,h1,h2,h3,h4,fun c hc=>⟨n,_,by simp,hl,hsub c (by rw[←h5];exact hc)⟩,⟨by rw[h5];exact hnd,fun c _=>Nat.zero_le _,fun c hc=>ho.kind c (hsub c (by rw[←h5];exact hc))⟩⟩
  ·cases h
 ·simp only[Option.some.injEq,Prod.mk.injEq]at h
  obtain⟨rfl,rfl⟩:=h
  have hu:=(show fG w st.hp env (.a (.lit Fm)) u from hr).lit
  subst hu
  exact⟨[],[],Or.inl ⟨rfl,rfl,rfl⟩,rfl,by simp,by simp,by simp,Own.nil _ _⟩
 ·cases h
theorem RU{Γ:Nat→TK}(C: ∀t,cw P t (Γ t)){m0:Nat}{vc:List Prop}{st':St}{v:SV}(h:JE P ty Γ st m0 o.op=some (vc,st',v))(g:Good ty zb st a.tmps w env)(hB:zb.w.heap.size≤w.heap.size)(hv: ∀q,q∈vc→q):
  o.wp P a w (fun a' w'=> ∃u env',a'=a.put o.dst u∧Kept zb w w'∧Good ty zb st' a.tmps w' env'∧st'.n=st.n∧oC w' st'.hp env' a.tmps v u) Q:=by
 have hop: ∀{x v},gf st [] x=some v→fG w st.hp env v (a.eval x):=fun hx=>eg g (fun e he=>by simp at he) hx
 generalize fK:o.op=op at h
 cases op with
 |call c=>
  obtain⟨callee,xs,ts⟩:=c
  cases callee with
  |builtin b=>
   cases b with
   |append=>
    simp only[JE]at h
    split at h
    ·rename_i s x t1 t2 hxl htl
     obtain rfl:xs= #[s,x]:=by cases xs;simp_all
     obtain rfl:ts= #[t1,t2]:=by cases ts;simp_all
     split at h
     ·rename_i t e hk JF
      have JF:=Nat.eq_of_beq_eq_true JF
      subst JF
      split at h
      ·rename_i vs vx he hs hx
       have he:=Nat.eq_of_beq_eq_true he
       split at h
       ·rename_i l k lx m hds hsr
        split at h
        ·rename_i hno hlk
         simp only[Bool.and_eq_true,Bool.not_eq_true']at hno
         obtain⟨⟨hno,hpk⟩,G7⟩:=hno
         rw[eo]at hpk
         have Yo:pinned k=false:=by
          unfold pinned at hpk ⊢
          rw[List.any_append,Bool.or_eq_false_iff]at hpk
          exact hpk.1
         simp only[Option.some.injEq,Prod.mk.injEq,eo]at h
         rw[eo]at hlk
         obtain⟨rfl,h2,rfl⟩:=h
         rw[St.gone_eq]at h2
         subst h2
         have uJ:El P ty t:=hv _ (by simp)
         obtain⟨aD,aR⟩:(l.length+lx.length)*cN t≤140737488355328∧l.length+lx.length≤maxLen:=hv _ (by simp)
         obtain⟨fp,hD,lR⟩:=Eh g (hop hs) hds Yo
         obtain⟨news,fx,n1,n2,n3,n4,n5,n6⟩:=ML g (hop hx) hsr
         have hC:=C t1
         rw[hk]at hC
         have Rs:Own 0 w (fp++fx.flatten):=by
          have ho:=hD.own
          refine⟨List.nodup_append.2 ⟨ho.nodup,n6.nodup,?_⟩,fun b hb=> ?_,fun b hb=> ?_⟩
          ·rintro b hb c hc rfl
           obtain⟨i,oi,hi,h1,h2⟩:=lR b hb
           obtain⟨j,oj,hj,h3,h4⟩:=n5 b hc
           have hij:i≠j:=by
            rintro rfl
            simp only[G9,List.all_eq_true,Bool.not_eq_true',List.any_eq_false]at hno
            exact hno i hi i hj (by simp)
           exact g.kj i j _ _ hij h1 h3 b h2 h4
          ·rcases List.mem_append.1 hb with hb|hb
           ·exact ho.ge b hb
           ·exact n6.ge b hb
          ·rcases List.mem_append.1 hb with hb|hb
           ·exact ho.kind b hb
           ·exact n6.kind b hb
         refine Fc s x t1 fK (eT t) (kB t) 0 (ty t) (eM t) (cN t) (by rw[←he];exact hC.1) uJ (pR t) _ l fp rfl hD _ rfl lx news fx n1 n2 n3 n4 Rs aR aD (Nat.zero_le _) ?_
         intro v' w' ga k1 k2 k3 k4 k5 _
         obtain⟨env',hg',Jh⟩:=B3 (ty:=ty) g hB (ks:=k++m) hpk G7 hlk (v:=a.eval s) (fp:=fp) (fx:=fx.flatten)
          (by
           intro b hb
           rcases List.mem_append.1 hb with hb|hb
           ·obtain⟨i,oi,hi,h1⟩:=lR b hb;exact⟨i,oi,List.mem_append_left _ hi,h1⟩
           ·obtain⟨i,oi,hi,h1⟩:=n5 b hb;exact⟨i,oi,List.mem_append_right _ hi,h1⟩)
          (by
           intro b hb
           obtain⟨xs,bk,_,_,_,gA,_⟩:=hD
           rw[gA,hb];simp)
          k1 k2 k4
         refine⟨v',env',rfl,⟨k2.os,k2.tape,k2.output,k2.size,fun b hb hn=>k2.block b (by omega) fun e=> ?_,k5⟩,hg',rfl,⟨t,_,look_eq⟩,Jh.symm⟩
         have MM:b∈fp:=by
          obtain⟨xs,bk,_,_,_,gA,_⟩:=hD
          rw[gA, ←e];simp
         obtain⟨i,oi,hi,h1,h2⟩:=lR b MM
         rcases g.dom i oi h1 b h2 with h|h
         ·exact hn h
         ·omega
        ·cases h
       ·cases h
      ·cases h
     ·cases h
    ·cases h
   |_=>simp[JE]at h
  |_=>simp[JE]at h
 |_=>simp[JE]at h
end
end
section
variable{ty:Tag→Nat}
def takes(st:St):List V→Option (List V×List Nat)
 | []=>some ([],[])
 | .lit v::r=>match takes st r with|some (c,k)=>some (.lit v::c,k)|none=>none
 | .own n::r=>match look st.hp n,takes st r with
   |some (.arr t l),some (c,k)=>some (.sl t l::c,n::k)
   |_,_=>none
 |_=>none
def B5(st:St)(g:Tag):Nat→List (Nat×Operand)→Option (List Prop×List (T g)×List Nat)
 |_,[]=>some ([],[],[])
 |i,(j,x)::r=>match Nat.beq i j,gf st [] x with
  |true,some s=>match takes st (cellsOf s)with
   |some (c,k)=>match enc g c,B5 st g (i+1) r with
    |some (vc,y),some (vcs,ys,ks)=>some (vc++vcs,y::ys,k++ks)
    |_,_=>none
   |none=>none
  |_,_=>none
def iY(st:St):List V→Option (List V×List Nat)
 | []=>some ([],[])
 | .lit v::r=>match iY st r with|some (c,k)=>some (.lit v::c,k)|none=>none
 | .own n::r=>match look st.hp n,iY st r with
   |some (.arr t l),some (c,k)=>some (.sl t l::c,n::k)
   |_,_=>none
 | .vw n _ t l::r=>match look st.hp n,iY st r with
   |some (.arr _ _),some (c,k)=>some (.sl t l::c,n::k)
   |_,_=>none
 |_=>none
def wG(st:St)(g:Tag):Nat→List (Nat×Operand)→Option (List Prop×List (T g)×List Nat)
 |_,[]=>some ([],[],[])
 |i,(j,x)::r=>match Nat.beq i j,gf st [] x with
  |true,some s=>match iY st (cellsOf s)with
   |some (c,k)=>match enc g c,wG st g (i+1) r with
    |some (vc,y),some (vcs,ys,ks)=>some (vc++vcs,y::ys,k++ks)
    |_,_=>none
   |none=>none
  |_,_=>none
def og:List Nat→Bool
 | []=>true
 |n::r=> !(r.any fun m=>Nat.beq n m)&&og r
def B6(P:Program)(ty:Tag→Nat)(Γ:Nat→TK)(st:St)(m0:Nat):Op→Option (List Prop×St×SV)
 | .buildSlice t len parts=>match Γ t with
   | .sl g e=>match Nat.beq e (ty g),Nat.beq parts.toList.length len,Nat.ble (len*kk g) 16777216,wG st g 0 parts.toList with
     |true,true,true,some (vc,xs,ks)=>match og ks&& !pinned ks&& !iA m0,look (cm ks [] st.hp) m0 with
      |true,none=>some (El P ty g::vc,st.gone ks m0 g xs, .one (.a (.own m0)))
      |_,_=>none
     |_,_,_,_=>none
   |_=>none
 |_=>none
theorem jt: ∀{l:List Nat},og l=true→l.Nodup
 | [],_=>List.nodup_nil
 |n::r,h=>by
  simp only[og,Bool.and_eq_true,Bool.not_eq_true',List.any_eq_false]at h
  exact List.nodup_cons.2 ⟨fun hm=>h.1 n hm (by simp),jt h.2⟩
section
variable{P:Program}{zb:cA}{st:St}{a:Act}{w:World}{env:Env}{Q:Exit→Act→World→Prop}{o:Oper}
theorem wH(g:Good ty zb st a.tmps w env): ∀{l c:List V} {k:List Nat} {us:List Value},bn (RA w st.hp env) l us→takes st l=some (c,k)→k.Nodup→
  ∃fp,bR w c us fp∧Own 0 w fp∧ ∀b,b∈fp→ ∃i o,i∈k∧look st.hp i=some o∧b∈(env i).fp
 | [],c,k,us,hr,h,_=>by
   simp only[takes,Option.some.injEq,Prod.mk.injEq]at h
   obtain⟨rfl,rfl⟩:=h
   cases us with
   |nil=>exact⟨[],rfl,Own.nil _ _,by simp⟩
   |cons _ _=>exact hr.elim
 |v::r,c,k,us,hr,h,hnd=>by
  cases us with
  |nil=>exact hr.elim
  |cons u us=>
   cases v with
   |lit x=>
    simp only[takes]at h
    split at h
    ·rename_i c' k' h'
     simp only[Option.some.injEq,Prod.mk.injEq]at h
     obtain⟨rfl,rfl⟩:=h
     obtain⟨fp,h1,h2,h3⟩:=wH g hr.2 h' hnd
     obtain⟨e1,e2⟩:=hr.1
     exact⟨fp,⟨[],fp,⟨e1,e2,rfl⟩,h1,rfl⟩,h2,h3⟩
    ·cases h
   |own n=>
    simp only[takes]at h
    split at h
    ·rename_i t l c' k' hl h'
     simp only[Option.some.injEq,Prod.mk.injEq]at h
     obtain⟨rfl,rfl⟩:=h
     obtain⟨hn1,hn2⟩:=List.nodup_cons.1 hnd
     obtain⟨fp,h1,h2,h3⟩:=wH g hr.2 h' hn2
     obtain⟨_,rfl⟩:=hr.1
     have hb:=RO.sl (g.obj n _ hl)
     have ho:=RO.own (g.obj n _ hl)
     refine⟨(env n).fp++fp,⟨_,_,hb,h1,rfl⟩,⟨List.nodup_append.2 ⟨ho.nodup,h2.nodup,?_⟩,fun b hb=> ?_,fun b hb=> ?_⟩,fun b hb=> ?_⟩
     ·rintro b hb x hx rfl
      obtain⟨i,o,hi,h4,h5⟩:=h3 b hx
      exact g.kj n i _ _ (fun e=>hn1 (e▸hi)) hl h4 b hb h5
     ·rcases List.mem_append.1 hb with hb|hb
      ·exact ho.ge b hb
      ·exact h2.ge b hb
     ·rcases List.mem_append.1 hb with hb|hb
      ·exact ho.kind b hb
      ·exact h2.kind b hb
     ·rcases List.mem_append.1 hb with hb|hb
      ·exact⟨n,_,by simp,hl,hb⟩
      ·obtain⟨i,o,hi,h4,h5⟩:=h3 b hb
       exact⟨i,o,List.mem_cons_of_mem _ hi,h4,h5⟩
    ·cases h
   |_=>simp[takes]at h
theorem iZ(g:Good ty zb st a.tmps w env){s:S1}{u:Value}(hr:fG w st.hp env s u)(hn:rE (cellsOf s)=true):bn (RA w st.hp env) (cellsOf s) u.cells.toList:=by
 cases s with
 |a v=>
  have:=jq g (show RA w st.hp env v u from hr) (oG hn v (by simp[cellsOf]))
  rw[this]
  exact⟨hr,trivial⟩
 |agg l=>
  obtain⟨cs,rfl,hl⟩:=hr
  exact hl
theorem eV{st:St}: ∀{l c:List V} {k:List Nat},takes st l=some (c,k)→rE l=true
 | [],_,_,_=>rfl
 |v::r,c,k,h=>by
  cases v with
  |lit x=>
   simp only[takes]at h
   split at h
   ·rename_i h';exact eV (l:=r) h'
   ·cases h
  |own n=>
   simp only[takes]at h
   split at h
   ·rename_i h';exact eV (l:=r) h'
   ·cases h
  |_=>simp[takes]at h
theorem tJ(g:Good ty zb st a.tmps w env): ∀{l c:List V} {k:List Nat} {us:List Value},bn (RA w st.hp env) l us→iY st l=some (c,k)→k.Nodup→
  ∃fp,bR w c us fp∧Own 0 w fp∧ ∀b,b∈fp→ ∃i o,i∈k∧look st.hp i=some o∧b∈(env i).fp
 | [],c,k,us,hr,h,_=>by
   simp only[iY,Option.some.injEq,Prod.mk.injEq]at h
   obtain⟨rfl,rfl⟩:=h
   cases us with
   |nil=>exact⟨[],rfl,Own.nil _ _,by simp⟩
   |cons _ _=>exact hr.elim
 |v::r,c,k,us,hr,h,hnd=>by
  cases us with
  |nil=>exact hr.elim
  |cons u us=>
   cases v with
   |lit x=>
    simp only[iY]at h
    split at h
    ·rename_i c' k' h'
     simp only[Option.some.injEq,Prod.mk.injEq]at h
     obtain⟨rfl,rfl⟩:=h
     obtain⟨fp,h1,h2,h3⟩:=tJ g hr.2 h' hnd
     obtain⟨e1,e2⟩:=hr.1
     exact⟨fp,⟨[],fp,⟨e1,e2,rfl⟩,h1,rfl⟩,h2,h3⟩
    ·cases h
   |own n=>
    simp only[iY]at h
    split at h
    ·rename_i t l c' k' hl h'
     simp only[Option.some.injEq,Prod.mk.injEq]at h
     obtain⟨rfl,rfl⟩:=h
     obtain⟨hn1,hn2⟩:=List.nodup_cons.1 hnd
     obtain⟨fp,h1,h2,h3⟩:=tJ g hr.2 h' hn2
     obtain⟨_,rfl⟩:=hr.1
     have hb:=RO.sl (g.obj n _ hl)
     have ho:=RO.own (g.obj n _ hl)
     refine⟨(env n).fp++fp,⟨_,_,hb,h1,rfl⟩,⟨List.nodup_append.2 ⟨ho.nodup,h2.nodup,?_⟩,fun b hb=> ?_,fun b hb=> ?_⟩,fun b hb=> ?_⟩
     ·rintro b hb x hx rfl
      obtain⟨i,o,hi,h4,h5⟩:=h3 b hx
      exact g.kj n i _ _ (fun e=>hn1 (e▸hi)) hl h4 b hb h5
     ·rcases List.mem_append.1 hb with hb|hb
      ·exact ho.ge b hb
      ·exact h2.ge b hb
     ·rcases List.mem_append.1 hb with hb|hb
      ·exact ho.kind b hb
      ·exact h2.kind b hb
     ·rcases List.mem_append.1 hb with hb|hb
      ·exact⟨n,_,by simp,hl,hb⟩
      ·obtain⟨i,o,hi,h4,h5⟩:=h3 b hb
       exact⟨i,o,List.mem_cons_of_mem _ hi,h4,h5⟩
    ·cases h
   |vw n p t l=>
    simp only[iY]at h
    split at h
    ·rename_i t0 l0 c' k' hl h'
     simp only[Option.some.injEq,Prod.mk.injEq]at h
     obtain⟨rfl,rfl⟩:=h
     obtain⟨hn1,hn2⟩:=List.nodup_cons.1 hnd
     obtain⟨fp,h1,h2,h3⟩:=tJ g hr.2 h' hn2
     obtain⟨_,⟨fv,hs,Yn,hsub⟩,_⟩:=hr.1
     have ho:=RO.own (g.obj n _ hl)
     refine⟨fv++fp,⟨_,_,hs,h1,rfl⟩,⟨List.nodup_append.2 ⟨Yn,h2.nodup,?_⟩,fun b hb=> ?_,fun b hb=> ?_⟩,fun b hb=> ?_⟩
     ·rintro b hb x hx rfl
      obtain⟨i,o,hi,h4,h5⟩:=h3 b hx
      exact g.kj n i _ _ (fun e=>hn1 (e▸hi)) hl h4 b (hsub b hb) h5
     ·rcases List.mem_append.1 hb with hb|hb
      ·exact ho.ge b (hsub b hb)
      ·exact h2.ge b hb
     ·rcases List.mem_append.1 hb with hb|hb
      ·exact ho.kind b (hsub b hb)
      ·exact h2.kind b hb
     ·rcases List.mem_append.1 hb with hb|hb
      ·exact⟨n,_,by simp,hl,hsub b hb⟩
      ·obtain⟨i,o,hi,h4,h5⟩:=h3 b hb
       exact⟨i,o,List.mem_cons_of_mem _ hi,h4,h5⟩
    ·cases h
   |_=>simp[iY]at h
theorem mm{st:St}: ∀{l c:List V} {k:List Nat},iY st l=some (c,k)→rE l=true
 | [],_,_,_=>rfl
 |v::r,c,k,h=>by
  cases v with
  |lit x=>
   simp only[iY]at h
   split at h
   ·rename_i h';exact mm (l:=r) h'
   ·cases h
  |own n=>
   simp only[iY]at h
   split at h
   ·rename_i h';exact mm (l:=r) h'
   ·cases h
  |vw n p t l=>
   simp only[iY]at h
   split at h
   ·rename_i h';exact mm (l:=r) h'
   ·cases h
  |_=>simp[iY]at h
theorem B7(g:Good ty zb st a.tmps w env){t:Tag}: ∀{ps:List (Nat×Operand)} {i:Nat} {vc:List Prop} {xs:List (T t)} {ks:List Nat},wG st t i ps=some (vc,xs,ks)→ks.Nodup→(∀q,q∈vc→q)→
  (ps.map fun p=>(p.1,a.eval p.2))=tZ i (ps.map fun p=>a.eval p.2)∧xs.length=ps.length∧ ∃bk:List (List Nat),bk.length=xs.length∧
   (∀(i:Nat) (x:T t) (f:List Nat),xs[i]? =some x→bk[i]? =some f→ ∃p:Nat×Operand,ps[i]? =some p∧rd t w (a.eval p.2).cells.toList x f)∧Own 0 w bk.flatten∧ ∀b,b∈bk.flatten→ ∃i o,i∈ks∧look st.hp i=some o∧b∈(env i).fp
 | [],i,vc,xs,ks,h,_,_=>by
   simp only[wG,Option.some.injEq,Prod.mk.injEq]at h
   obtain⟨rfl,rfl,rfl⟩:=h
   exact⟨rfl,rfl,[],rfl,by simp,Own.nil _ _,by simp⟩
 | (j,x)::r,i,vc,xs,ks,h,hnd,hv=>by
   simp only[wG]at h
   split at h
   ·rename_i s hij hx
    have hij:=Nat.eq_of_beq_eq_true hij
    subst hij
    split at h
    ·rename_i c k hc
     split at h
     ·rename_i oc y vcs ys ZG he hb
      simp only[Option.some.injEq,Prod.mk.injEq]at h
      obtain⟨rfl,rfl,rfl⟩:=h
      obtain⟨hn1,hn2,RM⟩:=List.nodup_append.1 hnd
      obtain⟨q1,q2,bk,q3,q4,q5,q6⟩:=B7 g hb hn2 (fun q hq=>hv q (List.mem_append_right _ hq))
      obtain⟨fp,r1,r2,r3⟩:=tJ g (iZ g (eg g (fun e he=>by simp at he) hx) (mm hc)) hc hn1
      have hE:=rB t he (fun q hq=>hv q (List.mem_append_left _ hq)) r1
      refine⟨by simp[tZ,q1],by simp[q2],fp::bk,by simp[q3],?_,⟨?_,?_,?_⟩,?_⟩
      ·intro i' x' f hx' hf
       cases i' with
       |zero=>simp at hx' hf;subst hx';subst hf;exact⟨(i,x),rfl,hE⟩
       |succ n=>simp at hx' hf;obtain⟨p,h1,h2⟩:=q4 n x' f hx' hf;exact⟨p,by simpa using h1,h2⟩
      ·rw[List.flatten_cons]
       refine List.nodup_append.2 ⟨r2.nodup,q5.nodup,?_⟩
       rintro b hb z hz rfl
       obtain⟨n,o1,h1,h2,h3⟩:=r3 b hb
       obtain⟨m,o2,h4,h5,h6⟩:=q6 b hz
       exact g.kj n m _ _ (fun e=>RM n h1 m h4 e) h2 h5 b h3 h6
      ·intro b hb
       rw[List.flatten_cons]at hb
       rcases List.mem_append.1 hb with hb|hb
       ·exact r2.ge b hb
       ·exact q5.ge b hb
      ·intro b hb
       rw[List.flatten_cons]at hb
       rcases List.mem_append.1 hb with hb|hb
       ·exact r2.kind b hb
       ·exact q5.kind b hb
      ·intro b hb
       rw[List.flatten_cons]at hb
       rcases List.mem_append.1 hb with hb|hb
       ·obtain⟨n,o1,h1,h2,h3⟩:=r3 b hb;exact⟨n,o1,List.mem_append_left _ h1,h2,h3⟩
       ·obtain⟨n,o1,h1,h2,h3⟩:=q6 b hb;exact⟨n,o1,List.mem_append_right _ h1,h2,h3⟩
     ·cases h
    ·cases h
   ·cases h
theorem MN{Γ:Nat→TK}(C: ∀t,cw P t (Γ t)){m0:Nat}{vc:List Prop}{st':St}{v:SV}(h:B6 P ty Γ st m0 o.op=some (vc,st',v))(g:Good ty zb st a.tmps w env)(hB:zb.w.heap.size≤w.heap.size)(hv: ∀q,q∈vc→q):
  o.wp P a w (fun a' w'=> ∃u env',a'=a.put o.dst u∧Kept zb w w'∧Good ty zb st' a.tmps w' env'∧st'.n=st.n∧oC w' st'.hp env' a.tmps v u) Q:=by
 generalize fK:o.op=op at h
 cases op with
 |buildSlice t len parts=>
  simp only[B6]at h
  split at h
  ·rename_i gt e hk
   split at h
   ·rename_i oc xs ks he hlen BV hb
    have he:=Nat.eq_of_beq_eq_true he
    split at h
    ·rename_i hnd hlk
     simp only[Bool.and_eq_true,Bool.not_eq_true']at hnd
     obtain⟨⟨hnd,hpk⟩,G7⟩:=hnd
     simp only[Option.some.injEq,Prod.mk.injEq]at h
     obtain⟨rfl,h2,rfl⟩:=h
     rw[St.gone_eq]at h2
     subst h2
     have uJ:El P ty gt:=hv _ (by simp)
     obtain⟨q1,q2,bk,q3,q4,q5,q6⟩:=B7 g hb (jt hnd) (fun q hq=>hv q (by simp[hq]))
     have hC:=C t
     rw[hk,he]at hC
     obtain⟨w',r1,r2,r3⟩:=tG (P:=P) (w:=w) (a:=a) fK hC.1 uJ (Nat.le_of_ble_eq_true BV) (Nat.eq_of_beq_eq_true hlen) (Nat.zero_le _) q1 q2 q3 q4 q5
     obtain⟨env',hg',Jh⟩:=B3 (ty:=ty) g hB (ks:=ks) hpk G7 hlk (v:=Fm) (fp:= []) (fx:=bk.flatten) (by simpa using q6) (by intro b hb;cases hb) r3
      ⟨r2.os,r2.tape,r2.output,r2.size,fun b hb _=>r2.block b hb⟩ (by
       intro b hb
       rcases List.mem_cons.1 hb with h|h
       ·exact Or.inr (Or.inr h)
       ·exact Or.inr (Or.inl h))
     unfold Oper.wp
     rw[r1]
     exact⟨_,env',rfl,iV r2 hB,hg',rfl,⟨gt,_,look_eq⟩,Jh.symm⟩
    ·cases h
   ·cases h
  ·cases h
 |_=>simp[B6]at h
end
end
section
variable{ty:Tag→Nat}
theorem Aa{w:World}{b o:Nat}{x y:List Value}(hx:w.rangeAt b o x)(hy:w.rangeAt b (o+x.length) y):w.rangeAt b o (x++y):=by
 intro j v hv
 by_cases hj:j<x.length
 ·rw[List.getElem?_append_left hj]at hv;exact hx j v hv
 ·rw[List.getElem?_append_right (by omega)]at hv
  have:=hy _ v hv
  rwa [show o+x.length+(j-x.length)=o+j by omega]at this
theorem FA{w:World}{b o n:Nat}{cs:List Value}(h:w.rangeAt b o cs):w.rangeAt b o (cs.take n):=by
 intro j v hv
 rw[List.getElem?_take]at hv
 split at hv
 ·exact h j v hv
 ·cases hv
theorem FB{w:World}{b o n:Nat}{cs:List Value}(h:w.rangeAt b o cs):w.rangeAt b (o+n) (cs.drop n):=by
 intro j v hv
 rw[List.getElem?_drop]at hv
 have:=h _ v hv
 rwa [show o+n+j=o+(n+j)by omega]
theorem rJ{w:World}{b o off:Nat}{cs us:List Value}(h:w.rangeAt b o cs)(hl:off+us.length≤cs.length)(ht:w.there b (o+off) us.length):
  (w.setCells b (o+off) us).rangeAt b o (cs.take off++(us++cs.drop (off+us.length))):=by
 have l1:(cs.take off).length=off:=by rw[List.length_take];omega
 refine Aa (World.rangeAt_setCells_apart (FA h) _ _ _ (Or.inr (Or.inl (by rw[l1];exact Nat.le_refl _)))) ?_
 rw[l1]
 refine Aa (World.rangeAt_setCells_same w b _ us ht) ?_
 rw[Nat.add_assoc]
 exact World.rangeAt_setCells_apart (FB h) _ _ _ (Or.inr (Or.inr (by omega)))
theorem bR.Wf{w:World}{x y z:List V}{us vs ts:List Value}{f g h:List Nat}(a:bR w x us f)(b:bR w y vs g)(c:bR w z ts h):bR w (x++(y++z)) (us++(vs++ts)) (f++(g++h)):=bR.app a (bR.app b c)
theorem bR.split{w:World}: ∀(n:Nat) {c:List V} {cs:List Value} {f:List Nat},bR w c cs f→ ∃f1 f2,f=f1++f2∧bR w (c.take n) (cs.take n) f1∧bR w (c.drop n) (cs.drop n) f2
 |0,c,cs,f,h=>⟨[],f,rfl,by simp[bR],by simpa using h⟩
 |n+1,[],[],f,h=>⟨[],f,rfl,by simp[bR],by simpa using h⟩
 |n+1,v::r,u::us,f,⟨f1,f2,h1,h2,e⟩=>by
  obtain⟨g1,g2,k1,k2,k3⟩:=bR.split n h2
  exact⟨f1++g1,g2,by rw[e,k1,List.append_assoc],⟨f1,g1,h1,k2,rfl⟩,by simpa using k3⟩
 |_+1,[],_::_,_,h=>h.elim
 |_+1,_::_,[],_,h=>h.elim
theorem bR.Jb{w:World}{c d vs:List V}{cs us:List Value}{f g:List Nat}{off:Nat}(h:bR w c cs f)(hv:bR w vs us g)(hs:G.Jb c off vs=some d):
  ∃f1 f2 f3,f=f1++(f2++f3)∧bR w d (cs.take off++(us++cs.drop (off+us.length))) (f1++(g++f3))∧off+us.length≤cs.length:=by
 unfold G.Jb at hs
 split at hs
 ·rename_i hb
  have hb:=Nat.le_of_ble_eq_true hb
  simp only[Option.some.injEq]at hs
  subst hs
  obtain⟨f1,f',e1,k1,k2⟩:=bR.split off h
  obtain⟨f2,f3,e2,_,k4⟩:=bR.split us.length k2
  have h1:=h.len
  have h2:=hv.len
  refine⟨f1,f2,f3,by rw[e1,e2],?_,by omega⟩
  have:=bR.Wf k1 hv k4
  rw[List.drop_drop,List.drop_drop]at this
  rw[←h2]
  exact this
 ·cases hs
theorem rK{bk:List (List Nat)}{i:Nat}{f':List Nat}{b:Nat}(h:b∈(bk.set i f').flatten):b∈f'∨ ∃j f,j≠i∧bk[j]? =some f∧b∈f:=by
 obtain⟨f,hf,hb⟩:=List.mem_flatten.1 h
 obtain⟨j,hj⟩:=List.getElem?_of_mem hf
 by_cases hji:j=i
 ·subst hji
  have hlt:=(List.getElem?_eq_some_iff.1 hj).1
  rw[List.length_set]at hlt
  rw[List.getElem?_set_self hlt]at hj
  simp only[Option.some.injEq]at hj
  subst hj
  exact Or.inl hb
 ·rw[List.getElem?_set_ne (Ne.symm hji)]at hj
  exact Or.inr ⟨j,f,hji,hj,hb⟩
theorem oo{bk:List (List Nat)}{i:Nat}{f':List Nat}(h:bk.flatten.Nodup)(hf:f'.Nodup)(hd: ∀j f,j≠i→bk[j]? =some f→ ∀b,b∈f→b∉f'):(bk.set i f').flatten.Nodup:=by
 have h1:=List.pairwise_flatten.1 h
 refine List.pairwise_flatten.2 ⟨fun l hl=> ?_,?_⟩
 ·obtain⟨j,hj⟩:=List.getElem?_of_mem hl
  by_cases hji:j=i
  ·subst hji
   have hlt:=(List.getElem?_eq_some_iff.1 hj).1
   rw[List.length_set]at hlt
   rw[List.getElem?_set_self hlt]at hj
   simp only[Option.some.injEq]at hj
   subst hj
   exact hf
  ·rw[List.getElem?_set_ne (Ne.symm hji)]at hj
   exact h1.1 _ (List.mem_of_getElem? hj)
 ·have h2:=List.pairwise_iff_getElem.1 h1.2
  rw[List.pairwise_iff_getElem]
  intro p q hp hq hpq x hx y hy e
  subst e
  rw[List.length_set]at hp hq
  rw[List.getElem_set]at hx hy
  split at hx<;>split at hy
  ·omega
  ·rename_i e1 e2
   subst e1
   exact hd q _ (by omega) (List.getElem?_eq_getElem hq) x hy hx
  ·rename_i e1 e2
   subst e2
   exact hd p _ (by omega) (List.getElem?_eq_getElem hp) x hx hy
  ·exact h2 p q hp hq hpq x hx x hy rfl
theorem yG{α:Type}{k:Nat}{E:ER α}(G:fF k E){w w':World}{b off:Nat}{l:List α}{bk:List (List Nat)}(h:uF k E w b off l bk){i:Nat}{x':α}{f':List Nat}{cs':List Value}
  (hr:w'.rangeAt b (off+i*k) cs')(hE:E w' cs' x' f')(ho: ∀j cs,j≠i→cs.length=k→w.rangeAt b (off+j*k) cs→w'.rangeAt b (off+j*k) cs)(ha: ∀j f,j≠i→bk[j]? =some f→ew w w' f):
  uF k E w' b off (l.set i x') (bk.set i f'):=by
 refine⟨by rw[List.length_set,List.length_set];exact h.1,fun j y fy hy tB=> ?_⟩
 by_cases hj:i=j
 ·subst hj
  have hi:=(List.getElem?_eq_some_iff.1 hy).1
  rw[List.length_set]at hi
  have hi2:=(List.getElem?_eq_some_iff.1 tB).1
  rw[List.length_set]at hi2
  rw[List.getElem?_set_self hi]at hy
  rw[List.getElem?_set_self hi2]at tB
  simp only[Option.some.injEq]at hy tB
  subst hy;subst tB
  exact⟨cs',hr,hE⟩
 ·rw[List.getElem?_set_ne hj]at hy tB
  obtain⟨cy,hry,NT⟩:=h.2 j y fy hy tB
  exact⟨cy,ho j cy (Ne.symm hj) (G.len NT) hry,G.bp NT (ha j fy (Ne.symm hj) tB)⟩
theorem Ud{α:Type}{k:Nat}{E:ER α}(G:fF k E){e:Nat}{w w':World}{v:Value}{l l':List α}{fp ga:List Nat}(h:iR k E 0 e w v l fp)(hs:Shape w w')(h':Sl k E w' v l' ga)(ho:Own 0 w' ga)(hsub: ∀b,b∈ga→b∈fp):
  ∃NN,iR k E 0 e w' v l' NN∧ ∀b,b∈NN→b∈fp:=by
 rcases h.part with⟨rfl,rfl,rfl⟩| ⟨g,n,bk,rfl,hn,rfl,hp⟩
 ·obtain⟨oa,cap,hv,_,_,h3⟩:=h'
  simp only[Value.slice.injEq]at hv
  obtain⟨rfl,hl,rfl⟩:=hv
  have:l'= []:=List.eq_nil_of_length_eq_zero hl.symm
  subst this
  exact⟨[],iR.nil _ _ _ _ _,by simp⟩
 ·obtain⟨oa,cap,hv,hc,hm,h3⟩:=h'
  simp only[Value.slice.injEq]at hv
  obtain⟨rfl,hl,rfl⟩:=hv
  obtain⟨c,pX,Ji⟩:=hp.uV
  obtain⟨c',hs1,Av⟩:=hs g c e pX
  rcases h3 with⟨rfl,rfl,_⟩| ⟨b,off,jI,hb,aal,rfl,hE⟩
  ·rw[hl]
   refine⟨[g],Part.KN G (l:= []) (bk:= []) ⟨⟨c',hs1,by rw[Av,Ji]⟩,⟨rfl,by simp⟩,⟨by simp,by simp,fun b hb=> ?_⟩,hm⟩ (Nat.zero_le _),by simp⟩
   simp only[List.flatten_nil,List.mem_singleton]at hb
   exact⟨_,_,by rw[hb];exact hs1⟩
  ·simp only[Option.some.injEq,Addr.mk.injEq,and_true]at hb
   obtain⟨rfl,rfl⟩:=hb
   rw[hl]
   exact⟨_,Part.KN G ⟨⟨c',hs1,by rw[Av,Ji]⟩,hE,ho,hm⟩ hc,hsub⟩
def fits:TK→S1→Bool
 | .st z _ _, .agg c=>Nat.beq c.length z.length
 | .st _ _ _,_=>false
 | .other,_=>false
 |_, .a _=>true
 |_,_=>false
theorem He{k:TK}{c:List V}(h:fits k (.agg c)=true): ∃z tg fo,k= .st z tg fo∧Nat.beq c.length z.length=true:=by
 cases k with
 |st z tg fo=>exact⟨z,tg,fo,rfl,h⟩
 |_=>cases h
theorem Hf{k:TK}{v:V}(h:fits k (.a v)=true):(∀z tg fo,k≠ .st z tg fo)∧k≠ .other:=by
 cases k with
 |st z tg fo=>cases h
 |other=>cases h
 |_=>exact⟨fun _ _ _ e=>(by cases e),fun e=>(by cases e)⟩
def St.OF(st:St)(ms:List Nat)(n:Nat)(t:Tag)(l:List (T t)):St:=⟨st.n,st.sl.map fun e=>(e.1,e.2.bE ms [n]),(n, .arr t l)::cm ms [n] st.hp⟩
def KY(n:Nat)(ms:List Nat):Bool:=og (n::ms)&& !pinned ms&&(match ms with| []=>true|_=> !iA n)
def RW(Γ:Nat→TK)(st:St):Op→Option (List Prop×St)
 | .store t x y=>match gf st [] x,gf st [] y with
   |some (.a (.lS n i off)),some v=>match look st.hp n with
    |some (.arr g l)=>match fits (Γ t) v,takes st (cellsOf v)with
     |true,some (c,ms)=>match Jb (dec g (l.getD i (av g))) off c with
      |some d=>match enc g d,KY n ms with
       |some (vc,y'),true=>some ((i<l.length)::vc,st.OF ms n g (l.set i y'))
       |_,_=>none
      |none=>none
     |_,_=>none
    |_=>none
   |_,_=>none
 |_=>none
section
variable{P:Program}{zb:cA}{st st':St}{a:Act}{w:World}{env:Env}{Q:Exit→Act→World→Prop}{o:Oper}
theorem Hg(g:Good ty zb st a.tmps w env){n:Nat}{t:Tag}{l l':List (T t)}(hl:look st.hp n=some (.arr t l)){ms:List Nat}(hok:KY n ms=true){w':World}{ga fx:List Nat}
  (I8: ∀b,b∈fx→ ∃i o,i∈ms∧look st.hp i=some o∧b∈(env i).fp)(hsub: ∀b,b∈ga→b∈(env n).fp∨b∈fx)(DC:iA n=true→ ∀b,b∈ga→b∈(env n).fp)
  (hk: ∀b,b∉(env n).fp→b∉fx→b<w.heap.size→w'.heap[b]? =w.heap[b]?)(Yq:mh ty w' n t l' ⟨(env n).v,ga⟩):
  ∃env',Good ty zb (st.OF ms n t l') a.tmps w' env'∧(env' n).v=(env n).v:=by
 simp only[KY,Bool.and_eq_true,Bool.not_eq_true']at hok
 obtain⟨⟨hnd,hpk⟩,Wg⟩:=hok
 have hnd:=jt hnd
 have hnm:n∉ms:=(List.nodup_cons.1 hnd).1
 refine⟨fun m=>if m=n then⟨(env n).v,ga⟩else env m,?_,by simp⟩
 have hlk: ∀m o,look ((n,Obj.arr t l')::cm ms [n] st.hp) m=some o→(m=n∧o= .arr t l')∨(m≠n∧m∉ms∧ ∃o',look st.hp m=some o'∧o=o'.bE ms [n]):=by
  intro m o hm
  by_cases lQ:m=n
  ·subst lQ;rw[look_eq]at hm;simp only[Option.some.injEq]at hm;exact Or.inl ⟨rfl,hm.symm⟩
  ·rw[aW lQ,bO]at hm
   split at hm
   ·cases hm
   ·rename_i hks
    cases hq:look st.hp m with
    |none=>rw[hq]at hm;cases hm
    |some o'=>rw[hq]at hm;simp only[Option.map_some,Option.some.injEq]at hm;exact Or.inr ⟨lQ,hks,o',rfl,hm.symm⟩
 have how: ∀b,b∈ga→ ∃i o,(i=n∨i∈ms)∧look st.hp i=some o∧b∈(env i).fp:=by
  intro b hb
  rcases hsub b hb with h|h
  ·exact⟨n,_,Or.inl rfl,hl,h⟩
  ·obtain⟨i,o,h1,h2,h3⟩:=I8 b h;exact⟨i,o,Or.inr h1,h2,h3⟩
 have hst: ∀m o,m≠n→m∉ms→look st.hp m=some o→ ∀b,b∈(env m).fp→w'.heap[b]? =w.heap[b]? :=by
  intro m o hmn hks h3 b hb
  refine hk b (fun h=>g.kj m n _ _ hmn h3 hl b hb h) (fun h=> ?_) ((g.obj m o h3).uV b hb)
  obtain⟨i,oi,hi,h5,h6⟩:=I8 b h
  exact g.kj m i _ _ (fun e=>hks (e▸hi)) h3 h5 b hb h6
 have s:qH ms [n] w st.hp env w' ((n, .arr t l')::cm ms [n] st.hp) (fun m=>if m=n then⟨(env n).v,ga⟩else env m):=by
  refine⟨fun b hb hno=>hk b (fun h=>hno ⟨n,_,hl,h⟩) (fun h=> ?_) hb,?_,?_,?_⟩
  ·obtain⟨i,oi,hi,h5,h6⟩:=I8 b h
   exact hno ⟨i,oi,h5,h6⟩
  ·rintro b hb ⟨m,o',h1,h2⟩
   rcases hlk m o' h1 with⟨rfl,rfl⟩| ⟨lQ,hks,AA,h3,rfl⟩
   ·simp at h2
    obtain⟨i,o',_,h3,h4⟩:=how b h2
    exact⟨i,o',h3,h4⟩
   ·simp[lQ]at h2
    exact⟨m,AA,h3,h2⟩
  ·intro m o' hks h1
   by_cases hmn:m=n
   ·subst hmn
    rw[hl]at h1
    simp only[Option.some.injEq]at h1
    subst h1
    exact⟨_,look_eq,rfl,by simp⟩
   ·exact⟨o'.bE ms [n],by rw[aW hmn,bO,if_neg hks,h1];rfl,by cases o'<;>simp[Obj.like,Obj.bE],by simp[hmn]⟩
  ·rintro m t' l2 ⟨hks,hmn⟩ h1
   have hmn:m≠n:=by simpa using hmn
   exact⟨by rw[aW hmn,bO,if_neg hks,h1];rfl,by simp[hmn],hst m _ hmn hks h1⟩
 refine g.iX s (fun m o' hm=> ?_) (fun m m' o1 o2 hne h1 h2 b hb hb'=> ?_) (fun m o' hm b hb=> ?_) (fun m hm=> ?_)
 ·rcases hlk m o' hm with⟨rfl,rfl⟩| ⟨lQ,hks,AA,h3,rfl⟩
  ·simp only[if_true];exact Yq
  ·simp only[if_neg lQ]
   exact(g.obj m AA h3).iX s (hst m AA lQ hks h3)
 ·rcases hlk m o1 h1 with⟨e1,_⟩| ⟨lQ,hks,q1,h3,_⟩<;>rcases hlk m' o2 h2 with⟨e2,_⟩| ⟨Fy,OC,q2,h4,_⟩
  ·exact hne (e1.trans e2.symm)
  ·simp only[if_pos e1]at hb
   simp only[if_neg Fy]at hb'
   obtain⟨i,oi,hi,h5,h6⟩:=how b hb
   refine g.kj m' i _ _ (fun e=> ?_) h4 h5 b hb' h6
   rcases hi with hi|hi
   ·exact Fy (e.trans hi)
   ·exact OC (e▸hi)
  ·simp only[if_pos e2]at hb'
   simp only[if_neg lQ]at hb
   obtain⟨i,oi,hi,h5,h6⟩:=how b hb'
   refine g.kj m i _ _ (fun e=> ?_) h3 h5 b hb h6
   rcases hi with hi|hi
   ·exact lQ (e.trans hi)
   ·exact hks (e▸hi)
  ·simp only[if_neg lQ]at hb
   simp only[if_neg Fy]at hb'
   exact g.kj m m' _ _ hne h3 h4 b hb hb'
 ·rcases hlk m o' hm with⟨e1,_⟩| ⟨lQ,hks,q1,h3,_⟩
  ·simp only[if_pos e1]at hb
   obtain⟨i,oi,_,h5,h6⟩:=how b hb
   exact g.dom i oi h5 b h6
  ·simp only[if_neg lQ]at hb
   exact g.dom m q1 h3 b hb
 ·by_cases hmn:m=n
  ·subst hmn
   simp only[if_true]
   exact⟨(g.pins m hm).1,fun b hb=>(g.pins m hm).2 b (DC hm b hb)⟩
  ·simp only[if_neg hmn]
   exact g.pins m hm
theorem RX{Γ:Nat→TK}(C: ∀t,cw P t (Γ t))(Z: ∀t,(∀z tg fo,Γ t≠ .st z tg fo)→Γ t≠ .other→(P.info? t).map (·.size)=some 1){vc:List Prop}(h:RW Γ st o.op=some (vc,st'))(g:Good ty zb st a.tmps w env)(hv: ∀q,q∈vc→q):
  o.wp P a w (fun a' w'=> ∃env',a'=a.put o.dst undef∧Kept zb w w'∧Good ty zb st' a.tmps w' env'∧st'.n=st.n) Q:=by
 have hop: ∀{x v},gf st [] x=some v→fG w st.hp env v (a.eval x):=fun hx=>eg g (fun e he=>by simp at he) hx
 generalize fK:o.op=op at h
 cases op with
 |store t x y=>
  simp only[RW]at h
  split at h
  ·rename_i n i off v hx hy
   have hx:=hop hx
   have hy:=hop hy
   split at h
   ·rename_i gt l hl
    split at h
    ·rename_i c ms hfit MP
     split at h
     ·rename_i d hs
      split at h
      ·rename_i oc y' he hok
       simp only[Option.some.injEq,Prod.mk.injEq]at h
       obtain⟨rfl,rfl⟩:=h
       have hi:i<l.length:=hv _ (by simp)
       have Wh:=hok
       simp only[KY,Bool.and_eq_true,Bool.not_eq_true']at Wh
       obtain⟨⟨hnd,hpk⟩,Wg⟩:=Wh
       have hnd:=jt hnd
       have hnm:n∉ms:=(List.nodup_cons.1 hnd).1
       obtain⟨t1,l1,nr,b2,o2,Ue,RY,Jf,hu⟩:=hx
       rw[hl]at nr
       simp only[Option.some.injEq,Obj.arr.injEq]at nr
       obtain⟨rfl,_⟩:=nr
       have hro:=g.obj n _ hl
       obtain⟨oa,cap,qy,pX,Ji,h3⟩:=RO.sl hro
       have hown:=RO.own hro
       rcases h3 with⟨rfl,_⟩| ⟨b,o1,bk,Je,aR,gA,hE⟩
       ·simp at hi
       rw[qy,Je]at Jf
       simp only[Value.slice.injEq,Option.some.injEq,Addr.mk.injEq,and_true]at Jf
       obtain⟨⟨rfl,rfl⟩,rfl,rfl⟩:=Jf
       have Tk:l[i]? =some (l.getD i (av gt)):=by rw[List.getD_eq_getElem?_getD,List.getElem?_eq_getElem hi];rfl
       obtain⟨f,hf⟩:=iz hE.1 Tk
       obtain⟨cs,Az,Uf⟩:=hE.2 _ _ f Tk hf
       have hlen:=(eT gt).len Uf
       rw[gA]at hown
       have pY:=List.nodup_cons.1 hown.nodup
       obtain⟨fx,KW,Yr,I8⟩:=wH g (iZ g hy (eV MP)) MP (List.nodup_cons.1 hnd).2
       obtain⟨f1,f2,f3,KQ,hrd,hlo⟩:=bR.Jb (reads gt Uf) KW hs
       have Wi:=rB gt he (fun q hq=>hv q (by simp[hq])) hrd
       have hsz:(P.info? t).map (·.size)=some (a.eval y).cells.toList.length∧ ∀u,u∈(a.eval y).cells.toList→u.oneCell'=true:=by
        refine⟨?_,tI g (iZ g hy (eV MP)) (oG (eV MP))⟩
        cases v with
        |agg c'=>
         have hk: ∃z tg fo,Γ t= .st z tg fo∧Nat.beq c'.length z.length=true:=by
          exact He hfit
         obtain⟨z,tg,fo,hk,hfit⟩:=hk
         have hC:=C t
         rw[hk]at hC
         obtain⟨fs,_,hi2,_⟩:=hC
         obtain⟨us,RR,Jz⟩:=hy
         have:=Nat.eq_of_beq_eq_true hfit
         have OG:=Jz.len
         rw[RR]
         cases hq:P.info? t with
         |none=>simp[hq]at hi2
         |some inf=>simp[hq]at hi2;simp[hi2.1,Value.cells,OG,this]
        |a v'=>
         have hk:(∀z tg fo,Γ t≠ .st z tg fo)∧Γ t≠ .other:=by
          exact Hf hfit
         have hne:v'≠ .any:=by rintro rfl;simp[cellsOf,takes]at MP
         have:=jq g (show RA w st.hp env v' (a.eval y)from hy) hne
         rw[this]
         exact Z t hk.1 hk.2
       obtain⟨cb,eb,B8⟩:=hown.kind b (by simp)
       have Rt:w.there b (o1+i*kk gt+off) (a.eval y).cells.toList.length:=by
        refine Jt B8 _ _ ?_
        have zZ:o1+i*kk gt+cs.length≤cb.size:=by
         have gO:=kB gt
         have:=Az (cs.length-1) _ (List.getElem?_eq_getElem (by omega))
         rw[GO B8]at this
         have:=(Array.getElem?_eq_some_iff.1 this).1
         omega
        omega
       have hkeep: ∀x,x≠b→(w.setCells b (o1+i*kk gt+off) (a.eval y).cells.toList).heap[x]? =w.heap[x]? :=fun x hx=>cz b _ _ w x hx
       have GJ: ∀x,x∈fx→x≠b:=by
        rintro x hx rfl
        obtain⟨m,om,hm,h5,h6⟩:=I8 x hx
        exact g.kj n m _ _ (fun e=>hnm (e▸hm)) hl h5 x (by rw[gA];simp) h6
       have MM: ∀x,x∈bk.flatten→x≠b:=fun x hx e=>pY.1 (e▸hx)
       have uK: ∀x,x∈f1++(fx++f3)→x∈f∨x∈fx:=by
        intro x hx
        rw[KQ]
        rcases List.mem_append.1 hx with hx|hx
        ·exact Or.inl (List.mem_append_left _ hx)
        ·rcases List.mem_append.1 hx with hx|hx
         ·exact Or.inr hx
         ·exact Or.inl (List.mem_append_right _ (List.mem_append_right _ hx))
       have T5: ∀x,x∈f1++(fx++f3)→x≠b:=by
        intro x hx
        rcases uK x hx with h|h
        ·exact MM x (b9 hf h)
        ·exact GJ x h
       have Mw:ew w (w.setCells b (o1+i*kk gt+off) (a.eval y).cells.toList) (f1++(fx++f3)):=fun x hx=>hkeep x (T5 x hx)
       have MQ:=yG (eT gt) (w':=w.setCells b (o1+i*kk gt+off) (a.eval y).cells.toList) hE (i:=i) (x':=y') (f':=f1++(fx++f3))
        (rJ Az hlo Rt) ((eT gt).bp Wi Mw)
        (fun j cs' hj zZ hr=>World.rangeAt_setCells_apart hr _ _ _ (Or.inr (by
         rw[zZ]
         rcases Nat.lt_or_ge j i with h1|h1
         ·left
          have:=Nat.mul_le_mul_right (kk gt) (show j+1≤i by omega)
          rw[Nat.add_mul]at this;omega
         ·right
          have:=Nat.mul_le_mul_right (kk gt) (show i+1≤j by omega)
          rw[Nat.add_mul]at this;omega)))
        (fun j f' _ hf' x hx=>hkeep x (MM x (b9 hf' hx)))
       have Ug:(f1++(fx++f3)).Nodup:=by
        have h1:=(List.pairwise_flatten.1 pY.2).1 f (List.mem_of_getElem? hf)
        rw[KQ]at h1
        obtain⟨h2,h3,h4⟩:=List.nodup_append.1 h1
        obtain⟨_,h6,_⟩:=List.nodup_append.1 h3
        have hap: ∀x,x∈fx→x∉f:=by
         intro x hx hxf
         obtain⟨m,om,hm,h5,h7⟩:=I8 x hx
         exact g.kj n m _ _ (fun e=>hnm (e▸hm)) hl h5 x (by rw[gA];exact List.mem_cons_of_mem _ (b9 hf hxf)) h7
        rw[KQ]at hap
        refine List.nodup_append.2 ⟨h2,List.nodup_append.2 ⟨Yr.nodup,h6,?_⟩,?_⟩
        ·rintro x hx z hz rfl
         exact hap x hx (by simp[hz])
        ·rintro x hx z hz rfl
         rcases List.mem_append.1 hz with hz|hz
         ·exact hap x hz (by simp[hx])
         ·exact h4 x hx x (by simp[hz]) rfl
       have hmem: ∀x,x∈(bk.set i (f1++(fx++f3))).flatten→x∈bk.flatten∨x∈fx:=by
        intro x hx
        rcases rK hx with h| ⟨j,f',_,hj,h⟩
        ·rcases uK x h with h|h
         ·exact Or.inl (b9 hf h)
         ·exact Or.inr h
        ·exact Or.inl (b9 hj h)
       have VS:Own 0 (w.setCells b (o1+i*kk gt+off) (a.eval y).cells.toList) (b::(bk.set i (f1++(fx++f3))).flatten):=by
        refine⟨List.nodup_cons.2 ⟨fun hm=> ?_,oo pY.2 Ug fun j f' hj hf' x hx hx'=> ?_⟩,fun _ _=>Nat.zero_le _,fun x hx=> ?_⟩
        ·rcases hmem b hm with h|h
         ·exact pY.1 h
         ·exact GJ b h rfl
        ·rcases uK x hx' with h|h
         ·exact tK pY.2 hf' hf hj x hx h
         ·obtain⟨m,om,hm,h5,h7⟩:=I8 x h
          exact g.kj n m _ _ (fun e=>hnm (e▸hm)) hl h5 x (by rw[gA];exact List.mem_cons_of_mem _ (b9 hf' hx)) h7
        ·rcases List.mem_cons.1 hx with rfl|hx
         ·obtain⟨c',q1,_⟩:=ef x eb (a.eval y).cells.toList (o1+i*kk gt+off) w cb B8
          exact⟨_,_,q1⟩
         ·rcases hmem x hx with h|h
          ·rw[hkeep x (MM x h)];exact hown.kind x (List.mem_cons_of_mem _ h)
          ·rw[hkeep x (GJ x h)];exact Yr.kind x h
       have Uh:Sl (kk gt) (rd gt) (w.setCells b (o1+i*kk gt+off) (a.eval y).cells.toList) (env n).v (l.set i y') (b::(bk.set i (f1++(fx++f3))).flatten):=by
        refine⟨some ⟨b,o1,none⟩,cap,by rw[qy,Je,List.length_set],by rw[List.length_set];exact pX,Ji,Or.inr ⟨b,o1,_,rfl,?_,rfl,MQ⟩⟩
        rw[kX];exact aR
       have hM:=g.dom n _ hl b (by rw[gA];simp)
       have OH:=B2 hM B8 (o1+i*kk gt+off) (a.eval y).cells.toList
       have hrun:(storeVar t ⟨b,o1+i*kk gt+off,none⟩ (a.eval y)).run P w= .ok () (w.setCells b (o1+i*kk gt+off) (a.eval y).cells.toList):=pV (by simp) Rt hsz.1 hsz.2
       have Ys: ∃ga,(∀x,x∈ga→x∈(env n).fp∨x∈fx)∧(iA n=true→ ∀x,x∈ga→x∈(env n).fp)∧mh ty (w.setCells b (o1+i*kk gt+off) (a.eval y).cells.toList) n gt (l.set i y') ⟨(env n).v,ga⟩:=by
        have hall: ∀x,x∈b::(bk.set i (f1++(fx++f3))).flatten→x∈(env n).fp∨x∈fx:=by
         intro x hx
         rw[gA]
         rcases List.mem_cons.1 hx with rfl|hx
         ·exact Or.inl (by simp)
         ·rcases hmem x hx with h|h
          ·exact Or.inl (List.mem_cons_of_mem _ h)
          ·exact Or.inr h
        cases hp:soft n with
        |true=>
         refine⟨_,hall,fun hpt x hx=> ?_,by unfold mh;rw[hp];exact⟨Uh,VS⟩⟩
         rcases hall x hx with h|h
         ·exact h
         ·obtain⟨m,om,hm,_⟩:=I8 x h
          cases ms with
          |nil=>simp at hm
          |cons _ _=>rw[hpt]at Wg;simp at Wg
        |false=>
         obtain⟨c',e',DA⟩: ∃xs Ui,w.ownsRow 0 (ty gt) (kk gt) (env n).v l.length xs∧Ui=bk:=by
          obtain⟨xs,Ui,h1,_⟩:=RO.KN hp hro
          exact⟨xs,bk,h1,rfl⟩
         have hB:=RO.KN hp hro
         have Wj:iR (kk gt) (rd gt) 0 (ty gt) (w.setCells b (o1+i*kk gt+off) (a.eval y).cells.toList) (env n).v (l.set i y') (b::(bk.set i (f1++(fx++f3))).flatten):=by
          rcases hB.part with⟨h1,rfl,_⟩| ⟨g0,n0,Ui,h1,hn0,h2,fQ⟩
          ·simp at hi
          ·rw[qy,Je]at h1
           simp only[Value.slice.injEq,Option.some.injEq,Addr.mk.injEq,and_true,true_and]at h1
           obtain⟨⟨rfl,rfl⟩,rfl⟩:=h1
           obtain⟨cc,q1,q2⟩:=fQ.uV
           obtain⟨cc',q3,q4⟩:=ef b (ty gt) (a.eval y).cells.toList (0+i*kk gt+off) w cc q1
           rw[qy,Je, ←List.length_set (as:=l) (i:=i) (a:=y')]
           exact Part.KN (eT gt) ⟨⟨cc',q3,by rw[q4,q2]⟩,MQ,VS,Ji⟩ (by rw[List.length_set];exact pX)
         refine⟨_,hall,?_,?_⟩
         ·intro h;rw[Oh hp]at h;cases h
         ·unfold mh;rw[hp];exact Wj
       obtain⟨ga,k1,k2,k3⟩:=Ys
       obtain⟨env',hg',Jh⟩:=Hg g hl hok (w':=w.setCells b (o1+i*kk gt+off) (a.eval y).cells.toList) I8 k1 k2 (fun x hx _ _=>hkeep x (fun e=>hx (by rw[e,gA];simp))) k3
       unfold Oper.wp execOp
       simp only[fK,hu,Instr.storeAt,Instr.sureAddr,Sem.run_bind,Sem.run_pure,Result.andThen_ok,hrun]
       exact⟨env',rfl,OH,hg',rfl⟩
      ·cases h
     ·cases h
    ·cases h
   ·cases h
  ·cases h
 |_=>simp[RW]at h
end
end
section
variable{ty:Tag→Nat}
def RF(w:World):List V→List Value→List (List Nat)→Prop
 | [],[],bk=>bk= []
 |v::vs,u::us,bk=> ∃f g,RI w v u f∧RF w vs us g∧bk=f::g
 |_,_,_=>False
def oH(w:World):List S1→List Value→List (List Nat)→Prop
 | [],[],bk=>bk= []
 | .a v::as,u::us,bk=> ∃f g,RI w v u f∧oH w as us g∧bk=f::g
 | .agg l::as,u::us,bk=> ∃cs f g,u= .agg cs.toArray∧RF w l cs f∧oH w as us g∧bk=f++g
 |_,_,_=>False
def uc:List (List Nat)→List (List Nat)→Prop
 | [],[]=>True
 |f::r,g::s=>(∀b,b∈f→b∈g)∧uc r s
 |_,_=>False
def dr(P:Program)(f:FuncId)(as as':List S1)(v:Value):Prop:=
 (∀(args:Array Value) (w:World),(callFunc f args).run P w= .ok (.enter f args) w)∧
 ∀w us bk,D6 w→(∀b,GS b→b∉bk.flatten)→oH w as us bk→Own 0 w bk.flatten→Calls P f us.toArray w fun e w'=> ∃jI,e= .returned v∧Kept ⟨w,bk.flatten,fun _=>⟨v,[]⟩⟩ w w'∧oH w' as' us jI∧Own 0 w' jI.flatten∧uc jI bk
def St.upd(st:St)(os:Hp):St:=⟨st.n,st.sl.map fun e=>(e.1,e.2.bE [] (os.map Prod.fst)),os++cm [] (os.map Prod.fst) st.hp⟩
theorem MR{os:Hp}{n:Nat}:n∈os.map Prod.fst↔look os n≠none:=by
 induction os with
 |nil=>simp[look]
 |cons e r ih=>
  obtain⟨j,x⟩:=e
  by_cases h:n=j
  ·subst h;simp[look_eq]
  ·rw[aW h, ←ih];simp[h]
section
variable{P:Program}{zb:cA}{st st':St}{a:Act}{w:World}{env:Env}{Q:Exit→Act→World→Prop}{o:Oper}
theorem Hh(g:Good ty zb st a.tmps w env){os:Hp}(hos: ∀n o,look os n=some o→ ∃t l l',look st.hp n=some (.arr t l)∧o= .arr t l'){w':World}{Uj:Nat→List Nat}
  (hsub: ∀n o,look os n=some o→ ∀b,b∈Uj n→b∈(env n).fp)(hk: ∀b,b<w.heap.size→(∀n o,look os n=some o→b∉(env n).fp)→w'.heap[b]? =w.heap[b]?)
  (hro: ∀n t l',look os n=some (.arr t l')→mh ty w' n t l' ⟨(env n).v,Uj n⟩):
  ∃env',Good ty zb (st.upd os) a.tmps w' env'∧ ∀n,(env' n).v=(env n).v:=by
 refine⟨fun m=>match look os m with|some _=>⟨(env m).v,Uj m⟩|none=>env m,?_,fun n=>by dsimp only;split<;>rfl⟩
 have hlk: ∀m o,look (os++cm [] (os.map Prod.fst) st.hp) m=some o→(look os m=some o)∨(look os m=none∧ ∃o',look st.hp m=some o'∧o=o'.bE [] (os.map Prod.fst)):=by
  intro m o hm
  cases hq:look os m with
  |some x=>rw[bG hq]at hm;exact Or.inl hm
  |none=>
   rw[aQ hq,bO,if_neg (by simp)]at hm
   cases KZ:look st.hp m with
   |none=>rw[KZ]at hm;cases hm
   |some o'=>rw[KZ]at hm;simp only[Option.map_some,Option.some.injEq]at hm;exact Or.inr ⟨rfl,o',rfl,hm.symm⟩
 have hst: ∀m o,look os m=none→look st.hp m=some o→ ∀b,b∈(env m).fp→w'.heap[b]? =w.heap[b]? :=by
  intro m o hm h3 b hb
  refine hk b ((g.obj m o h3).uV b hb) fun n o' hn h=> ?_
  obtain⟨t,l,l',h4,_⟩:=hos n o' hn
  exact g.kj m n _ _ (fun e=>by rw[e,hn]at hm;cases hm) h3 h4 b hb h
 have gA: ∀m o,look (os++cm [] (os.map Prod.fst) st.hp) m=some o→ ∀b,b∈(match look os m with|some _=>(⟨(env m).v,Uj m⟩:CO)|none=>env m).fp→b∈(env m).fp∧ ∃o',look st.hp m=some o':=by
  intro m o hm b hb
  rcases hlk m o hm with h| ⟨h,o',h2,_⟩
  ·rw[h]at hb
   obtain⟨t,l,l',h4,_⟩:=hos m o h
   exact⟨hsub m o h b hb,_,h4⟩
  ·rw[h]at hb
   exact⟨hb,o',h2⟩
 have s:qH [] (os.map Prod.fst) w st.hp env w' (os++cm [] (os.map Prod.fst) st.hp) (fun m=>match look os m with|some _=>⟨(env m).v,Uj m⟩|none=>env m):=by
  refine⟨fun b hb hno=>hk b hb fun n o hn h=> ?_,?_,?_,?_⟩
  ·obtain⟨t,l,l',h4,_⟩:=hos n o hn
   exact hno ⟨n,_,h4,h⟩
  ·rintro b hb ⟨m,o',h1,h2⟩
   obtain⟨h3,o2,h4⟩:=gA m o' h1 b h2
   exact⟨m,o2,h4,h3⟩
  ·intro m o' _ h1
   cases hq:look os m with
   |some x=>
    obtain⟨t,l,l',h4,rfl⟩:=hos m x hq
    rw[h4]at h1
    simp only[Option.some.injEq]at h1
    subst h1
    exact⟨_,bG hq,rfl,rfl⟩
   |none=>
    exact⟨o'.bE [] (os.map Prod.fst),by rw[aQ hq,bO,if_neg (by simp),h1];rfl,by cases o'<;>simp[Obj.like,Obj.bE],rfl⟩
  ·rintro m t' l2 ⟨_,hmn⟩ h1
   have hq:look os m=none:=by
    cases hq:look os m with
    |none=>rfl
    |some x=>exact absurd (MR.2 (by rw[hq];simp)) hmn
   exact⟨by rw[aQ hq,bO,if_neg (by simp),h1];rfl,by simp[hq],hst m _ hq h1⟩
 refine g.iX s (fun m o' hm=> ?_) (fun m m' o1 o2 hne h1 h2 b hb hb'=> ?_) (fun m o' hm b hb=> ?_) (fun m hm=> ?_)
 ·rcases hlk m o' hm with h| ⟨h,AA,h3,rfl⟩
  ·obtain⟨t,l,l',h4,rfl⟩:=hos m o' h
   simp only[h]
   exact hro m t l' h
  ·simp only[h]
   exact(g.obj m AA h3).iX s (hst m AA h h3)
 ·obtain⟨h3,q1,h4⟩:=gA m o1 h1 b hb
  obtain⟨h5,q2,h6⟩:=gA m' o2 h2 b hb'
  exact g.kj m m' _ _ hne h4 h6 b h3 h5
 ·obtain⟨h3,q1,h4⟩:=gA m o' hm b hb
  exact g.dom m q1 h4 b h3
 ·refine⟨?_,fun b hb=> ?_⟩
  ·have:=(g.pins m hm).1
   split<;>exact this
  ·cases hq:look os m with
   |none=>simp only[hq]at hb;exact(g.pins m hm).2 b hb
   |some x=>simp only[hq]at hb;exact(g.pins m hm).2 b (hsub m x hq b hb)
theorem B9{n:Nat}{t:Tag}{l l':List (T t)}{co:CO}{ga:List Nat}{w':World}{hp:Hp}(h:RO ty w hp env n (.arr t l) co)(hs:Shape w w')(h':Sl (kk t) (rd t) w' co.v l' ga)(ho:Own 0 w' ga)(hsub: ∀b,b∈ga→b∈co.fp):
  ∃NN,mh ty w' n t l' ⟨co.v,NN⟩∧ ∀b,b∈NN→b∈co.fp:=by
 unfold mh
 cases hp:soft n with
 |true=>exact⟨ga,⟨h',ho⟩,hsub⟩
 |false=>exact Ud (eT t) (RO.KN hp h) hs h' ho hsub
end
def MS(st:St)(tg:Option Tag):V→Option V
 | .own n=>match look st.hp n with|some (.arr t l)=>some (.sl t l)|_=>none
 | .lit (.slice none 0 0)=>match tg with|some t=>some (.sl t [])|none=>none
 | .lit (.slice _ _ _)=>none
 | .lit v=>some (.lit v)
 |_=>none
def Hi(st:St):List (Option Tag)→List V→Option (List V)
 |_,[]=>some []
 |tg,v::r=>match MS st (match tg with|t::_=>t| []=>none) v,Hi st (match tg with|_::ts=>ts| []=> []) r with
  |some x,some y=>some (x::y)
  |_,_=>none
def OI(st:St)(k:TK):S1→Option S1
 | .a v=>match MS st (match k with| .sl t _=>some t|_=>none) v with|some x=>some (.a x)|none=>none
 | .agg l=>match Hi st (match k with| .st _ tg _=>tg|_=> []) l with|some x=>some (.agg x)|none=>none
def rL(Γ:Nat→TK)(st:St):List Operand→List Nat→Option (List S1×List S1)
 | [],_=>some ([],[])
 |x::r,t=>match gf st [] x with
  |some v=>match OI st (match t with|t::_=>Γ t| []=> .other) v,rL Γ st r (match t with|_::ts=>ts| []=> [])with
   |some y,some (vs,ys)=>some (v::vs,y::ys)
   |_,_=>none
  |none=>none
def back(st:St):List V→List V→Option Hp
 | [],[]=>some []
 | .own n::r, .sl t' l'::s=>match look st.hp n,back st r s with
   |some (.arr t _),some os=>match kg t t' l' with|some l'=>some ((n, .arr t l')::os)|none=>none
   |_,_=>none
 | .lit _::r,_::s=>back st r s
 |_,_=>none
def XU(P:Program)(ty:Tag→Nat)(Γ:Nat→TK)(cr:List (Nat×CR))(st:St)(d:Option Nat):Op→Option (List Prop×St×SV)
 | .call ⟨.value (.func f),xs,ts⟩=>match rL Γ st xs.toList ts.toList,look cr (d.getD 0+100000)with
   |some (vs,as),some ⟨_, .a (.lit v)::as'⟩=>match back st (vs.flatMap cellsOf) (as'.flatMap cellsOf),v.oneCell' with
    |some os,true=>match gb os with
     |true=>some ([dr P f as as' v],st.upd os, .one (.a (.lit v)))
     |false=>none
    |_,_=>none
   |_,_=>none
 |_=>none
def wI(st:St):List Operand→Option (List S1)
 | []=>some []
 |x::r=>match gf st [] x,wI st r with
  |some (.a (.lit (.slice _ _ _))),_=>none
  |some (.a (.lit v)),some ys=>some (.a (.lit v)::ys)
  |_,_=>none
def XV(P:Program)(ty:Tag→Nat)(cr:List (Nat×CR))(st:St)(d:Option Nat):Op→Option (List Prop×St×SV)
 | .call ⟨.value (.func f),xs,_⟩=>match xs.toList with
   |x::r=>match gf st [] x,wI st r,look cr (d.getD 0+200000)with
    |some (.a (.vw n (some (i,off)) t l)),some ls,some ⟨_, .a (.lit v):: .a (.sl t' l')::ls'⟩=>match look st.hp n,kg t t' l',v.oneCell' with
     |some (.arr g l0),some l',true=>match Jb (dec g (l0.getD i (av g))) off [.sl t l']with
      |some c=>match enc g c with
       |some (vc,x')=>some (dr P f (.a (.sl t l)::ls) (.a (.sl t l')::ls') v::vc,st.upd [(n, .arr g (l0.set i x'))], .one (.a (.lit v)))
       |none=>none
      |none=>none
     |_,_,_=>none
    |_,_,_=>none
   | []=>none
 |_=>none
section
variable{P:Program}{zb:cA}{st st':St}{a:Act}{w:World}{env:Env}{Q:Exit→Act→World→Prop}{o:Oper}
theorem RI.cells{v:V}{u:Value}{f:List Nat}(h:RI w v u f):u.cells= #[u]:=by
 cases v with
 |lit x=>obtain⟨rfl,h1,_⟩:=h;cases u<;>simp_all [Value.cells,Value.oneCell']
 |sl t l=>obtain⟨oa,cap,rfl,_⟩:=h;rfl
 |_=>exact h.elim
theorem RF.app{w:World}: ∀{x y:List V} {us vs:List Value} {f g:List (List Nat)},RF w x us f→RF w y vs g→RF w (x++y) (us++vs) (f++g)
 | [],_,[],_,_,_,h,k=>by rw[show _=_ from h];exact k
 |_::_,_,_::_,_,_,_,⟨f1,f2,h1,h2,e⟩,k=>⟨f1,f2++_,h1,RF.app h2 k,by rw[e,List.cons_append]⟩
 | [],_,_::_,_,_,_,h,_=>h.elim
 |_::_,_,[],_,_,_,h,_=>h.elim
theorem uX{w:World}: ∀{as:List S1} {us:List Value} {bk:List (List Nat)},oH w as us bk→RF w (as.flatMap cellsOf) (us.flatMap fun u=>u.cells.toList) bk
 | [],[],_,h=>h
 | .a v::as,u::us,_,⟨f,g,h1,h2,e⟩=>by
   have:=RF.app (x:= [v]) (us:= [u]) (f:= [f]) ⟨f,[],h1,rfl,rfl⟩ (uX h2)
   rw[List.flatMap_cons,List.flatMap_cons,RI.cells h1,e]
   exact this
 | .agg l::as,u::us,_,⟨cs,f,g,hu,h1,h2,e⟩=>by
   rw[List.flatMap_cons,List.flatMap_cons,hu,e]
   exact RF.app h1 (uX h2)
 | [],_::_,_,h=>h.elim
 | .a _::_,[],_,h=>h.elim
 | .agg _::_,[],_,h=>h.elim
def FC(env:Env):V→List Nat
 | .own n=>(env n).fp
 |_=> []
theorem K0(g:Good ty zb st a.tmps w env){tg:Option Tag}{v x:V}{u:Value}(hr:RA w st.hp env v u)(h:MS st tg v=some x):RI w x u (FC env v):=by
 cases v with
 |own n=>
  simp only[MS]at h
  split at h
  ·rename_i t l hl
   simp only[Option.some.injEq]at h
   subst h
   obtain⟨_,rfl⟩:=hr
   exact RO.sl (g.obj n _ hl)
  ·cases h
 |lit v=>
  obtain⟨rfl,h1⟩:=hr
  simp only[MS]at h
  split at h
  ·rename_i heq;cases heq
  ·rename_i heq
   simp only[V.lit.injEq]at heq
   subst heq
   split at h
   ·simp only[Option.some.injEq]at h
    subst h
    exact⟨none,0,rfl,Nat.le_refl _,Nat.zero_le _,Or.inl ⟨rfl,rfl,fun _=>rfl⟩⟩
   ·cases h
  ·cases h
  ·rename_i heq
   simp only[V.lit.injEq]at heq
   subst heq
   simp only[Option.some.injEq]at h
   subst h
   exact⟨rfl,h1,rfl⟩
  ·cases h
 |_=>simp[MS]at h
theorem Hj(g:Good ty zb st a.tmps w env): ∀{vs:List V} {tg:List (Option Tag)} {xs:List V} {us:List Value},bn (RA w st.hp env) vs us→Hi st tg vs=some xs→RF w xs us (vs.map (FC env))
 | [],tg,xs,us,hr,h=>by
   simp only[Hi,Option.some.injEq]at h
   subst h
   cases us with
   |nil=>rfl
   |cons _ _=>exact hr.elim
 |v::r,tg,xs,us,hr,h=>by
  cases us with
  |nil=>exact hr.elim
  |cons u us=>
   simp only[Hi]at h
   split at h
   ·rename_i x y h1 h2
    simp only[Option.some.injEq]at h
    subst h
    exact⟨_,_,K0 g hr.1 h1,Hj g hr.2 h2,rfl⟩
   ·cases h
theorem Ab{Γ:Nat→TK}(g:Good ty zb st a.tmps w env): ∀{xs:List Operand} {ts:List Nat} {vs as:List S1},rL Γ st xs ts=some (vs,as)→
  oH w as (xs.map a.eval) ((vs.flatMap cellsOf).map (FC env))∧bn (RA w st.hp env) (vs.flatMap cellsOf) ((xs.map a.eval).flatMap fun u=>u.cells.toList)
 | [],ts,vs,as,h=>by
   simp only[rL,Option.some.injEq,Prod.mk.injEq]at h
   obtain⟨rfl,rfl⟩:=h
   exact⟨rfl,trivial⟩
 |x::r,ts,vs,as,h=>by
  simp only[rL]at h
  split at h
  ·rename_i v hx
   split at h
   ·rename_i y vs' ys h1 h2
    simp only[Option.some.injEq,Prod.mk.injEq]at h
    obtain⟨rfl,rfl⟩:=h
    have A6:=eg g (fun e he=>by simp at he) hx
    obtain⟨k1,k2⟩:=Ab g h2
    cases v with
    |a v=>
     simp only[OI]at h1
     split at h1
     ·rename_i x' hl
      simp only[Option.some.injEq]at h1
      subst h1
      have KW:=K0 g A6 hl
      refine⟨⟨_,_,KW,k1,rfl⟩,?_⟩
      rw[List.map_cons,List.flatMap_cons,List.flatMap_cons,RI.cells KW]
      exact⟨A6,k2⟩
     ·cases h1
    |agg l=>
     simp only[OI]at h1
     split at h1
     ·rename_i x' hl
      simp only[Option.some.injEq]at h1
      subst h1
      obtain⟨cs,hu,iI⟩:=A6
      refine⟨⟨cs,_,_,hu,Hj g iI hl,k1,by rw[List.flatMap_cons,List.map_append];rfl⟩,?_⟩
      rw[List.map_cons,List.flatMap_cons,List.flatMap_cons,hu]
      exact bn.app iI k2
     ·cases h1
   ·cases h
  ·cases h
theorem FD(g:Good ty zb st a.tmps w env){w':World}: ∀{vs as:List V} {us:List Value} {bk:List (List Nat)} {os:Hp},back st vs as=some os→bn (RA w st.hp env) vs us→RF w' as us bk→uc bk (vs.map (FC env))→Own 0 w' bk.flatten→gb os=true→
  (∀b,b∈(vs.map (FC env)).flatten→ ∃n o,look os n=some o∧b∈(env n).fp)∧
  (∀n o,look os n=some o→(∃t l l' ga,look st.hp n=some (.arr t l)∧o= .arr t l'∧Sl (kk t) (rd t) w' (env n).v l' ga∧Own 0 w' ga∧ ∀b,b∈ga→b∈(env n).fp)∧ ∀b,b∈(env n).fp→b∈(vs.map (FC env)).flatten)∧
  ((vs.map (FC env)).flatten.Nodup)
 | [],[],us,bk,os,h,_,_,_,_,_=>by
   simp only[back,Option.some.injEq]at h
   subst h
   exact⟨by simp,by simp[look],by simp⟩
 | .own n::r, .sl t' l'::s,us,bk,os,h,hr,hf,hsub,hown,hnd=>by
   cases us with
   |nil=>exact hr.elim
   |cons u us=>
    obtain⟨f,fr,h1,h2,rfl⟩:=hf
    simp only[back]at h
    split at h
    ·rename_i t l os' hl hb
     split at h
     ·rename_i l2 hc
      simp only[Option.some.injEq]at h
      subst h
      obtain⟨e,rfl⟩:=dW hc
      subst e
      simp only[gb,Bool.and_eq_true]at hnd
      rw[List.flatten_cons]at hown
      obtain⟨hn1,hn2,RM⟩:=List.nodup_append.1 hown.nodup
      have o1:Own 0 w' f:=⟨hn1,fun _ _=>Nat.zero_le _,fun b hb=>hown.kind b (List.mem_append_left _ hb)⟩
      have o2:Own 0 w' fr.flatten:=⟨hn2,fun _ _=>Nat.zero_le _,fun b hb=>hown.kind b (List.mem_append_right _ hb)⟩
      obtain⟨q1,q2,q3⟩:=FD g hb hr.2 h2 hsub.2 o2 hnd.2
      have hu:u=(env n).v:=hr.1.2
      have hno:look os' n=none:=by
       cases hq:look os' n with
       |none=>rfl
       |some x=>simp[hq]at hnd
      refine⟨fun b hb=> ?_,fun m o hm=> ?_,?_⟩
      ·rw[List.map_cons,List.flatten_cons]at hb
       rcases List.mem_append.1 hb with hb|hb
       ·exact⟨n,_,look_eq,hb⟩
       ·obtain⟨m,o,h3,h4⟩:=q1 b hb
        have hmn:m≠n:=by rintro rfl;rw[hno]at h3;cases h3
        exact⟨m,o,by rw[aW hmn];exact h3,h4⟩
      ·by_cases hmn:m=n
       ·subst hmn
        rw[look_eq]at hm
        simp only[Option.some.injEq]at hm
        exact⟨⟨t',l,l',f,hl,hm.symm,by rw[←hu];exact h1,o1,hsub.1⟩,fun b hb=>by rw[List.map_cons,List.flatten_cons];exact List.mem_append_left _ hb⟩
       ·rw[aW hmn]at hm
        obtain⟨h3,h4⟩:=q2 m o hm
        exact⟨h3,fun b hb=>by rw[List.map_cons,List.flatten_cons];exact List.mem_append_right _ (h4 b hb)⟩
      ·rw[List.map_cons,List.flatten_cons]
       refine List.nodup_append.2 ⟨(RO.own (g.obj n _ hl)).nodup,q3,?_⟩
       rintro b hb c hc rfl
       obtain⟨m,o,h3,h4⟩:=q1 b hc
       have hmn:n≠m:=by rintro rfl;rw[hno]at h3;cases h3
       obtain⟨⟨t2,l2,_,_,h5,_⟩,_⟩:=q2 m o h3
       exact g.kj n m _ _ hmn hl h5 b hb h4
     ·cases h
    ·cases h
 | .lit x::r,y::s,us,bk,os,h,hr,hf,hsub,hown,hnd=>by
   cases us with
   |nil=>exact hr.elim
   |cons u us=>
    obtain⟨f,fr,h1,h2,rfl⟩:=hf
    simp only[back]at h
    rw[List.flatten_cons]at hown
    obtain⟨_,hn2,_⟩:=List.nodup_append.1 hown.nodup
    obtain⟨q1,q2,q3⟩:=FD g h hr.2 h2 hsub.2 ⟨hn2,fun _ _=>Nat.zero_le _,fun b hb=>hown.kind b (List.mem_append_right _ hb)⟩ hnd
    exact⟨q1,q2,q3⟩
 | .own _::_, .lit _::_,_,_,_,h,_,_,_,_,_=>by simp[back]at h
 | .own _::_, .any::_,_,_,_,h,_,_,_,_,_=>by simp[back]at h
 | .own _::_, .own _::_,_,_,_,h,_,_,_,_,_=>by simp[back]at h
 | .own _::_, .ptr _ _::_,_,_,_,h,_,_,_,_,_=>by simp[back]at h
 | .own _::_, .lS _ _ _::_,_,_,_,h,_,_,_,_,_=>by simp[back]at h
 | .own _::_, .ip _ _ _::_,_,_,_,h,_,_,_,_,_=>by simp[back]at h
 | .own _::_, .vw _ _ _ _::_,_,_,_,h,_,_,_,_,_=>by simp[back]at h
 | .own _::_, .Aw _ _ _ _ _::_,_,_,_,h,_,_,_,_,_=>by simp[back]at h
 | .own _::_, .AX _ _ _::_,_,_,_,h,_,_,_,_,_=>by simp[back]at h
 | .own _::_, .mix _ _ _ _::_,_,_,_,h,_,_,_,_,_=>by simp[back]at h
 | .own _::_, .yu _::_,_,_,_,h,_,_,_,_,_=>by simp[back]at h
 | .own _::_, .yx _ _::_,_,_,_,h,_,_,_,_,_=>by simp[back]at h
 | .own _::_, .tY _::_,_,_,_,h,_,_,_,_,_=>by simp[back]at h
 | .own _::_,[],_,_,_,h,_,_,_,_,_=>by simp[back]at h
 | .lit _::_,[],_,_,_,h,_,_,_,_,_=>by simp[back]at h
 | [],_::_,_,_,_,h,_,_,_,_,_=>by simp[back]at h
 | .any::_,_,_,_,_,h,_,_,_,_,_=>by simp[back]at h
 | .sl _ _::_,_,_,_,_,h,_,_,_,_,_=>by simp[back]at h
 | .ptr _ _::_,_,_,_,_,h,_,_,_,_,_=>by simp[back]at h
 | .lS _ _ _::_,_,_,_,_,h,_,_,_,_,_=>by simp[back]at h
 | .ip _ _ _::_,_,_,_,_,h,_,_,_,_,_=>by simp[back]at h
 | .vw _ _ _ _::_,_,_,_,_,h,_,_,_,_,_=>by simp[back]at h
 | .Aw _ _ _ _ _::_,_,_,_,_,h,_,_,_,_,_=>by simp[back]at h
 | .AX _ _ _::_,_,_,_,_,h,_,_,_,_,_=>by simp[back]at h
 | .mix _ _ _ _::_,_,_,_,_,h,_,_,_,_,_=>by simp[back]at h
 | .yu _::_,_,_,_,_,h,_,_,_,_,_=>by simp[back]at h
 | .yx _ _::_,_,_,_,_,h,_,_,_,_,_=>by simp[back]at h
 | .tY _::_,_,_,_,_,h,_,_,_,_,_=>by simp[back]at h
theorem Ca(g:Good ty zb st a.tmps w env): ∀{vs as:List V} {os:Hp},back st vs as=some os→gb os=true→
  Own 0 w (vs.map (FC env)).flatten∧(∀b,b∈(vs.map (FC env)).flatten→ ∃n o o',look os n=some o∧look st.hp n=some o'∧b∈(env n).fp)
 | [],[],os,h,_=>⟨Own.nil _ _,by simp⟩
 | .own n::r, .sl t' l'::s,os,h,hnd=>by
   simp only[back]at h
   split at h
   ·rename_i t l os' hl hb
    split at h
    ·rename_i l2 hc
     simp only[Option.some.injEq]at h
     subst h
     simp only[gb,Bool.and_eq_true]at hnd
     obtain⟨q1,q2⟩:=Ca g hb hnd.2
     have hno:look os' n=none:=by
      cases hq:look os' n with
      |none=>rfl
      |some x=>simp[hq]at hnd
     have ho:=RO.own (g.obj n _ hl)
     rw[List.map_cons,List.flatten_cons]
     refine⟨⟨List.nodup_append.2 ⟨ho.nodup,q1.nodup,?_⟩,fun _ _=>Nat.zero_le _,fun b hb=> ?_⟩,fun b hb=> ?_⟩
     ·rintro b hb c I9 rfl
      obtain⟨m,o,o',h3,h5,h4⟩:=q2 b I9
      have hmn:n≠m:=by rintro rfl;rw[hno]at h3;cases h3
      exact g.kj n m _ _ hmn hl h5 b hb h4
     ·rcases List.mem_append.1 hb with hb|hb
      ·exact ho.kind b hb
      ·exact q1.kind b hb
     ·rcases List.mem_append.1 hb with hb|hb
      ·exact⟨n,_,_,look_eq,hl,hb⟩
      ·obtain⟨m,o,o',h3,h5,h4⟩:=q2 b hb
       have hmn:m≠n:=by rintro rfl;rw[hno]at h3;cases h3
       exact⟨m,o,o',by rw[aW hmn];exact h3,h5,h4⟩
    ·cases h
   ·cases h
 | .lit x::r,y::s,os,h,hnd=>by
   simp only[back]at h
   have q:=Ca g h hnd
   exact q
 | .own _::_, .lit _::_,_,h,_=>by simp[back]at h
 | .own _::_, .any::_,_,h,_=>by simp[back]at h
 | .own _::_, .own _::_,_,h,_=>by simp[back]at h
 | .own _::_, .ptr _ _::_,_,h,_=>by simp[back]at h
 | .own _::_, .lS _ _ _::_,_,h,_=>by simp[back]at h
 | .own _::_, .ip _ _ _::_,_,h,_=>by simp[back]at h
 | .own _::_, .vw _ _ _ _::_,_,h,_=>by simp[back]at h
 | .own _::_, .Aw _ _ _ _ _::_,_,h,_=>by simp[back]at h
 | .own _::_, .AX _ _ _::_,_,h,_=>by simp[back]at h
 | .own _::_, .mix _ _ _ _::_,_,h,_=>by simp[back]at h
 | .own _::_, .yu _::_,_,h,_=>by simp[back]at h
 | .own _::_, .yx _ _::_,_,h,_=>by simp[back]at h
 | .own _::_, .tY _::_,_,h,_=>by simp[back]at h
 | .own _::_,[],_,h,_=>by simp[back]at h
 | .lit _::_,[],_,h,_=>by simp[back]at h
 | [],_::_,_,h,_=>by simp[back]at h
 | .any::_,_,_,h,_=>by simp[back]at h
 | .sl _ _::_,_,_,h,_=>by simp[back]at h
 | .ptr _ _::_,_,_,h,_=>by simp[back]at h
 | .lS _ _ _::_,_,_,h,_=>by simp[back]at h
 | .ip _ _ _::_,_,_,h,_=>by simp[back]at h
 | .vw _ _ _ _::_,_,_,h,_=>by simp[back]at h
 | .Aw _ _ _ _ _::_,_,_,h,_=>by simp[back]at h
 | .AX _ _ _::_,_,_,h,_=>by simp[back]at h
 | .mix _ _ _ _::_,_,_,h,_=>by simp[back]at h
 | .yu _::_,_,_,h,_=>by simp[back]at h
 | .yx _ _::_,_,_,h,_=>by simp[back]at h
 | .tY _::_,_,_,h,_=>by simp[back]at h
theorem Kept.Uk{L:List Nat}{pv:Nat→CO}{w':World}(h:Kept ⟨w,L,pv⟩ w w')(hB:zb.w.heap.size≤w.heap.size)(hL: ∀b,b∈L→b∈zb.L∨zb.w.heap.size≤b):Kept zb w w':=
 ⟨h.os,h.tape,h.output,h.size,fun b hb hn=>h.block b (Nat.lt_of_lt_of_le hb hB) fun hm=>(hL b hm).elim hn fun h=>by omega,h.shape⟩
theorem Ei{f:FuncId}{xs:Array Operand}{ts:Array TypeId}(ho:o.op= .call ⟨.value (.func f),xs,ts⟩)(hS: ∀(args:Array Value) (w:World),(callFunc f args).run P w= .ok (.enter f args) w):
  (execOp a.eval o).run P w= .ok (.enter f (xs.toList.map a.eval).toArray) w:=by
 have hx:xs.map a.eval=(xs.toList.map a.eval).toArray:=by rw[←List.map_toArray]
 rw[←hx]
 have h0:a.eval (.func f)= .func (.func f) #[] #[]:=rfl
 unfold execOp
 simp[ho,resolve,invoke,Deferred.ofValue,h0,hS]
theorem Ul{Γ:Nat→TK}{cr:List (Nat×CR)}{vc:List Prop}{v:SV}{d:Option Nat}(h:XU P ty Γ cr st d o.op=some (vc,st',v))(g:Good ty zb st a.tmps w env)(hB:zb.w.heap.size≤w.heap.size)(hA:Fp zb)(hN:D6 w)(hv: ∀q,q∈vc→q):
  o.wp P a w (fun a' w'=> ∃u env',a'=a.put o.dst u∧Kept zb w w'∧Good ty zb st' a.tmps w' env'∧st'.n=st.n∧oC w' st'.hp env' a.tmps v u) Q:=by
 generalize fK:o.op=op at h
 unfold XU at h
 split at h
 ·rename_i f xs ts
  split at h
  ·rename_i vs as own v0 as' hl hcr
   split at h
   ·rename_i os hb h1
    split at h
    ·rename_i hnd
     simp only[Option.some.injEq,Prod.mk.injEq]at h
     obtain⟨rfl,rfl,rfl⟩:=h
     obtain⟨Yt,Yu⟩:dr P f as as' v0:=hv _ (by simp)
     obtain⟨q1,q2⟩:=Ab g hl
     obtain⟨q3,q4⟩:=Ca g hb hnd
     unfold Oper.wp
     rw[Ei fK Yt]
     simp only[Oper.upon]
     refine(Yu w _ _ hN (fun b h0 hb=>by obtain⟨n,o,o',_,hl',DD⟩:=q4 b hb;exact hA.free (g.dom n o' hl' b DD) h0) q1 q3).mono ?_
     rintro e w' ⟨jI,rfl,hk,ha,hown,hsub⟩
     obtain⟨r1,r2,_⟩:=FD g hb q2 (uX ha) hsub hown hnd
     have gA: ∀n, ∃NN, ∀t l',look os n=some (.arr t l')→mh ty w' n t l' ⟨(env n).v,NN⟩∧ ∀b,b∈NN→b∈(env n).fp:=by
      intro n
      cases hq:look os n with
      |none=>exact⟨[],fun _ _ h=>by cases h⟩
      |some o'=>
       obtain⟨⟨t,l,l',ga,h3,rfl,h5,h6,h7⟩,_⟩:=r2 n o' hq
       obtain⟨NN,k1,k2⟩:=B9 (hp:=st.hp) (g.obj n _ h3) hk.shape h5 h6 h7
       refine⟨NN,fun t2 l2 h=> ?_⟩
       simp only[Option.some.injEq,Obj.arr.injEq]at h
       obtain⟨rfl,h⟩:=h
       cases h
       exact⟨k1,k2⟩
     obtain⟨env',hg',Jh⟩:=Hh g (os:=os) (w':=w') (Uj:=fun n=>Classical.choose (gA n))
      (fun n o' hn=>by
       obtain⟨⟨t,l,l',ga,h3,h4,_⟩,_⟩:=r2 n o' hn
       exact⟨t,l,l',h3,h4⟩)
      (fun n o' hn b hb'=>by
       obtain⟨⟨t,l,l',ga,h3,rfl,_⟩,_⟩:=r2 n o' hn
       exact(Classical.choose_spec (gA n) t l' hn).2 b hb')
      (fun b hlt hno=>hk.block b hlt fun hm=>by
       obtain⟨n,o',h3,h4⟩:=r1 b hm
       exact hno n o' h3 h4)
      (fun n t l' hn=>(Classical.choose_spec (gA n) t l' hn).1)
     refine⟨v0,env',rfl,hk.Uk hB fun b hm=> ?_,hg',rfl,rfl,h1⟩
     obtain⟨n,o1,o2,h3,h4,h5⟩:=q4 b hm
     exact g.dom n o2 h4 b h5
    ·cases h
   ·cases h
  ·cases h
 ·cases h
theorem Cb(g:Good ty zb st a.tmps w env): ∀{xs:List Operand} {as:List S1},wI st xs=some as→oH w as (xs.map a.eval) (as.map fun _=> [])
 | [],as,h=>by
   simp only[wI,Option.some.injEq]at h
   subst h;rfl
 |x::r,as,h=>by
  simp only[wI]at h
  split at h
  ·cases h
  ·rename_i v ys hne hx h2
   simp only[Option.some.injEq]at h
   subst h
   obtain⟨h3,h4⟩:=eg g (fun e he=>by simp at he) hx
   exact⟨[],_,⟨h3,h4,rfl⟩,Cb g h2,rfl⟩
  ·cases h
theorem Cc{n i off:Nat}{t:Tag}{l l2:List (T t)}{u0:Value}{gt:Tag}{l0:List (T gt)}{c:List V}{x':T gt}{oc:List Prop}{pv:Nat→CO}(g:Good ty zb st a.tmps w env)(hB:zb.w.heap.size≤w.heap.size)
  (VR:RV w st.hp env n (some (i,off)) t l u0)(hl:look st.hp n=some (.arr gt l0))(hs:Jb (dec gt (l0.getD i (av gt))) off [.sl t l2]=some c)(he:enc gt c=some (oc,x'))(hv: ∀q,q∈oc→q):
  ∃fv,RI w (.sl t l) u0 fv∧(∀y,y∈fv→y∈zb.L∨zb.w.heap.size≤y)∧Own 0 w fv∧ ∀w' K1,Kept ⟨w,fv,pv⟩ w w'→RI w' (.sl t l2) u0 K1→Own 0 w' K1→(∀y,y∈K1→y∈fv)→ ∃env',Kept zb w w'∧Good ty zb (st.upd [(n, .arr gt (l0.set i x'))]) a.tmps w' env':=by
 obtain⟨_,_,Wk⟩:=VR
 obtain⟨t1,l1,b2,o2,Ue,RY,nr,hi,Um,Un,Ej,hcell⟩:=Wk i off rfl
 rw[hl]at nr
 simp only[Option.some.injEq,Obj.arr.injEq]at nr
 obtain⟨rfl,nr⟩:=nr
 cases nr
 have hro:=g.obj n _ hl
 obtain⟨oa,cap,qy,pX,Ji,h3⟩:=RO.sl hro
 have hown:=RO.own hro
 rcases h3 with⟨rfl,_⟩| ⟨b,o1,bk,Je,aR,gA,hE⟩
 ·simp at hi
 rw[qy,Je]at Un
 simp only[Value.slice.injEq,Option.some.injEq,Addr.mk.injEq,and_true]at Un
 obtain⟨⟨rfl,rfl⟩,rfl,rfl⟩:=Un
 have Tk:l0[i]? =some (l0.getD i (av gt)):=by rw[List.getD_eq_getElem?_getD,List.getElem?_eq_getElem hi];rfl
 obtain⟨fe,hf⟩:=iz hE.1 Tk
 obtain⟨cs,Az,Uf⟩:=hE.2 _ _ fe Tk hf
 rw[gA]at hown
 have pY:=List.nodup_cons.1 hown.nodup
 have hR:=reads gt Uf
 obtain⟨f1,f',Uo,k1,k2⟩:=bR.split off hR
 have wE: ∃r',(dec gt (l0.getD i (av gt))).drop off= .sl t l::r':=by
  rw[A5]at Um
  have hlt:=(List.getElem?_eq_some_iff.1 Um).1
  rw[List.drop_eq_getElem_cons hlt]
  have:=(List.getElem?_eq_some_iff.1 Um).2
  rw[this]
  exact⟨_,rfl⟩
 obtain⟨r',wE⟩:=wE
 rw[wE]at k2
 have OJ: ∃u us,cs.drop off=u::us:=by
  cases hq:cs.drop off with
  |nil=>rw[hq]at k2;exact k2.elim
  |cons u us=>exact⟨u,us,rfl⟩
 obtain⟨u,us,OJ⟩:=OJ
 rw[OJ]at k2
 obtain⟨fv,f3,KW,Wl,hf'⟩:=k2
 have huc:cs[off]? =some u:=by
  have:=congrArg (fun l=>l[0]?) OJ
  simpa using this
 have hue:u0=u:=by
  have:=Az off u huc
  rw[hcell]at this
  simpa using this
 rw[hue]at hcell ⊢
 have Ek: ∀y,y∈fv→y∈fe:=fun y hy=>by rw[Uo,hf'];simp[hy]
 have Wm:=(List.pairwise_flatten.1 pY.2).1 fe (List.mem_of_getElem? hf)
 rw[Uo,hf']at Wm
 obtain⟨n1,n2,n3⟩:=List.nodup_append.1 Wm
 obtain⟨n4,n5,n6⟩:=List.nodup_append.1 n2
 have OK:Own 0 w fv:=⟨n4,fun _ _=>Nat.zero_le _,fun y hy=>hown.kind y (List.mem_cons_of_mem _ (b9 hf (Ek y hy)))⟩
 refine⟨fv,KW,fun y hy=>g.dom n _ hl y (by rw[gA];exact List.mem_cons_of_mem _ (b9 hf (Ek y hy))),OK,?_⟩
 intro w' K1 hk Up JG JH
 have m1:=JG.nodup
 have hkeep: ∀y,y<w.heap.size→y∉fv→w'.heap[y]? =w.heap[y]? :=fun y hy hn=>hk.block y hy hn
 have MM: ∀y,y∈bk.flatten→y≠b:=fun y hy e=>pY.1 (e▸hy)
 have Uq: ∀y,y∈bk.flatten→y<w.heap.size:=fun y hy=>hown.lt y (List.mem_cons_of_mem _ hy)
 have hkb:w'.heap[b]? =w.heap[b]? :=hkeep b aR fun hm=>pY.1 (b9 hf (Ek b hm))
 have Wn: ∀{o:Nat} {cs:List Value},w.rangeAt b o cs→w'.rangeAt b o cs:=by
  intro o cs hr j v hv
  rw[World.cell?_of_block (w:=w) (a:=⟨b,_,none⟩) hkb];exact hr j v hv
 have ag1:ew w w' f1:=fun y hy=>hkeep y (Uq y (b9 hf (by rw[Uo];simp[hy]))) fun hm=>n3 y hy y (by simp[hm]) rfl
 have ag3:ew w w' f3:=fun y hy=>hkeep y (Uq y (b9 hf (by rw[Uo,hf'];simp[hy]))) fun hm=>n6 y hm y hy rfl
 have OL: ∀{c:List V} {us:List Value} {f:List Nat},bR w c us f→ew w w' f→bR w' c us f:=by
  intro c
  induction c with
  |nil=>intro us f h _;cases us with
   |nil=>exact h
   |cons _ _=>exact h.elim
  |cons v r ih=>
   intro us f h ha
   cases us with
   |nil=>exact h.elim
   |cons u us=>
    obtain⟨f1,f2,h1,h2,rfl⟩:=h
    refine⟨f1,f2,?_,ih h2 (ha.sub fun y hy=>List.mem_append_right _ hy),rfl⟩
    cases v with
    |lit x=>exact h1
    |sl t l=>exact Sl.bp (eT t) h1 (ha.sub fun y hy=>List.mem_append_left _ hy)
    |_=>exact h1.elim
 have I9:c=(dec gt (l0.getD i (av gt))).take off++([.sl t l2]++r'):=by
  unfold Jb at hs
  split at hs
  ·simp only[Option.some.injEq]at hs
   rw[←hs]
   congr 2
   have:(dec gt (l0.getD i (av gt))).drop (off+ [V.sl t l2].length)=((dec gt (l0.getD i (av gt))).drop off).drop 1:=by rw[List.drop_drop];rfl
   rw[this,wE];rfl
  ·cases hs
 have Yv:cs=cs.take off++([u]++us):=by
  have:=(List.take_append_drop off cs).symm
  rw[OJ]at this
  exact this
 have hrd:bR w' c cs (f1++(K1++f3)):=by
  rw[I9,Yv]
  refine bR.Wf (OL k1 ag1) (y:= [.sl t l2]) (vs:= [u]) ?_ (OL Wl ag3)
  exact⟨K1,[],Up,rfl,by simp⟩
 have Wi:=rB gt he (fun q hq=>hv q hq) hrd
 have uK: ∀y,y∈f1++(K1++f3)→y∈fe:=by
  intro y hy
  rw[Uo,hf']
  simp only[List.mem_append]at hy ⊢
  rcases hy with hy|hy|hy
  ·exact Or.inl hy
  ·exact Or.inr (Or.inl (JH y hy))
  ·exact Or.inr (Or.inr hy)
 have MQ:=yG (eT gt) (w':=w') hE (i:=i) (x':=x') (f':=f1++(K1++f3)) (Wn Az) Wi (fun j cs' _ _ hr=>Wn hr)
  (fun j f' hj hf' y hy=>hkeep y (Uq y (b9 hf' hy)) fun hm=>tK pY.2 hf' hf hj y hy (Ek y hm))
 have hmem: ∀y,y∈(bk.set i (f1++(K1++f3))).flatten→y∈bk.flatten:=by
  intro y hy
  rcases rK hy with h| ⟨j,f',_,hj,h⟩
  ·exact b9 hf (uK y h)
  ·exact b9 hj h
 have VS:Own 0 w' (b::(bk.set i (f1++(K1++f3))).flatten):=by
  refine⟨List.nodup_cons.2 ⟨fun hm=>pY.1 (hmem b hm),oo pY.2 ?_ fun j f' hj hf' y hy hy'=>tK pY.2 hf' hf hj y hy (uK y hy')⟩,fun _ _=>Nat.zero_le _,fun y hy=> ?_⟩
  ·refine List.nodup_append.2 ⟨n1,List.nodup_append.2 ⟨m1,n5,fun y hy z hz e=>n6 y (JH y hy) z hz e⟩,fun y hy z hz e=> ?_⟩
   rcases List.mem_append.1 hz with hz|hz
   ·exact n3 y hy z (by simp[JH z hz]) e
   ·exact n3 y hy z (by simp[hz]) e
  ·obtain⟨cb,eb,B8⟩:=hown.kind y (by
    rcases List.mem_cons.1 hy with rfl|hy
    ·simp
    ·exact List.mem_cons_of_mem _ (hmem y hy))
   obtain⟨cb',h5,_⟩:=hk.shape y cb eb B8
   exact⟨_,_,h5⟩
 have Uh:Sl (kk gt) (rd gt) w' (env n).v (l0.set i x') (b::(bk.set i (f1++(K1++f3))).flatten):=by
  refine⟨some ⟨b,o1,none⟩,cap,by rw[qy,Je,List.length_set],by rw[List.length_set];exact pX,Ji,Or.inr ⟨b,o1,_,rfl,Nat.lt_of_lt_of_le aR hk.size,rfl,MQ⟩⟩
 obtain⟨NN,w1,w2⟩:=B9 (hp:=st.hp) hro hk.shape Uh VS (fun y hy=>by
  rw[gA]
  rcases List.mem_cons.1 hy with rfl|hy
  ·simp
  ·exact List.mem_cons_of_mem _ (hmem y hy))
 have hlk: ∀m o',look [(n,Obj.arr gt (l0.set i x'))] m=some o'→m=n∧o'= .arr gt (l0.set i x'):=by
  intro m o' hm
  by_cases hmn:m=n
  ·subst hmn;rw[look_eq]at hm;simp only[Option.some.injEq]at hm;exact⟨rfl,hm.symm⟩
  ·rw[aW hmn]at hm;cases hm
 obtain⟨env',hg',Jh⟩:=Hh g (os:= [(n, .arr gt (l0.set i x'))]) (w':=w') (Uj:=fun _=>NN)
  (fun m o' hm=>by obtain⟨rfl,rfl⟩:=hlk m o' hm;exact⟨_,_,_,hl,rfl⟩)
  (fun m o' hm y hy=>by obtain⟨rfl,_⟩:=hlk m o' hm;exact w2 y hy)
  (fun y hlt hno=>hkeep y hlt fun hm=>hno n _ look_eq (by rw[gA];exact List.mem_cons_of_mem _ (b9 hf (Ek y hm))))
  (fun m t2 l3 hm=>by
   obtain⟨rfl,h5⟩:=hlk m _ hm
   simp only[Obj.arr.injEq]at h5
   obtain⟨rfl,h5⟩:=h5
   cases h5
   exact w1)
 refine⟨env',hk.Uk hB fun y hm=> ?_,hg'⟩
 exact g.dom n _ hl y (by rw[gA];exact List.mem_cons_of_mem _ (b9 hf (Ek y hm)))
theorem Ur{Γ:Nat→TK}{cr:List (Nat×CR)}{vc:List Prop}{v:SV}{d:Option Nat}(h:XV P ty cr st d o.op=some (vc,st',v))(g:Good ty zb st a.tmps w env)(hB:zb.w.heap.size≤w.heap.size)(hA:Fp zb)(hN:D6 w)(hv: ∀q,q∈vc→q):
  o.wp P a w (fun a' w'=> ∃u env',a'=a.put o.dst u∧Kept zb w w'∧Good ty zb st' a.tmps w' env'∧st'.n=st.n∧oC w' st'.hp env' a.tmps v u) Q:=by
 generalize fK:o.op=op at h
 unfold XV at h
 split at h
 ·rename_i f xs ts
  split at h
  ·rename_i x r hxs
   split at h
   ·rename_i n i off t l ls own v0 t' l' ls' hx hls hcr
    split at h
    ·rename_i gt l0 l2 hl hc hv0
     split at h
     ·rename_i c hs
      split at h
      ·rename_i oc x' he
       simp only[Option.some.injEq,Prod.mk.injEq]at h
       obtain⟨rfl,rfl,rfl⟩:=h
       obtain⟨Yt,Yu⟩:dr P f (.a (.sl t l)::ls) (.a (.sl t l2)::ls') v0:=hv _ (by simp)
       obtain⟨fv,KW,Wo,OK,OM⟩:=Cc (pv:=fun _=>⟨v0,[]⟩) g hB (eg g (fun e he=>by simp at he) hx) hl hs he (fun q hq=>hv q (by simp[hq]))
       have ON:((fv::ls.map fun _=>([]:List Nat))).flatten=fv:=by
        rw[List.flatten_cons]
        have:(ls.map fun _=>([]:List Nat)).flatten= []:=by simp
        rw[this,List.append_nil]
       unfold Oper.wp
       rw[Ei fK Yt]
       simp only[Oper.upon]
       rw[hxs,List.map_cons]
       have hargs:oH w (.a (.sl t l)::ls) (a.eval x::r.map a.eval) (fv::ls.map fun _=> []):=⟨fv,_,KW,Cb g hls,rfl⟩
       refine(Yu w _ (fv::ls.map fun _=> []) hN (by rw[ON];exact fun b h0 hb=>hA.free (Wo b hb) h0) hargs (by rw[ON];exact OK)).mono ?_
       rintro e w' ⟨jI,rfl,hk,⟨K1,fr,Up,_,rfl⟩,OO,hsub⟩
       rw[ON]at hk
       rw[List.flatten_cons]at OO
       obtain⟨m1,_,_⟩:=List.nodup_append.1 OO.nodup
       have JG:Own 0 w' K1:=⟨m1,fun _ _=>Nat.zero_le _,fun y hy=>OO.kind y (List.mem_append_left _ hy)⟩
       obtain⟨env',hk2,hg'⟩:=OM w' K1 hk Up JG hsub.1
       exact⟨v0,env',rfl,hk2,hg',rfl,rfl,hv0⟩
      ·cases h
     ·cases h
    ·cases h
   ·cases h
  ·cases h
 ·cases h
def XW(Γ:Nat→TK)(st:St):Op→Option (List Prop×St)
 | .store t x y=>match gf st [] x,gf st [] y with
   |some (.a (.Aw n (some (i,o2,j)) tg _ off)),some v=>match look st.hp n with
    |some (.arr g l0)=>match fits (Γ t) v,takes st (cellsOf v),wm (dec g (l0.getD i (av g))) o2 with
     |true,some (cv,[]),some (.sl t' l')=>match kg tg t' l' with
      |some l=>match Jb (dec tg (l.getD j (av tg))) off cv with
       |some d=>match enc tg d with
        |some (RZ,y')=>match Jb (dec g (l0.getD i (av g))) o2 [.sl tg (l.set j y')]with
         |some c=>match enc g c with
          |some (oc,x')=>some (oc++RZ,st.upd [(n, .arr g (l0.set i x'))])
          |none=>none
         |none=>none
        |none=>none
       |none=>none
      |none=>none
     |_,_,_=>none
    |_=>none
   |_,_=>none
 |_=>none
theorem Ut{Γ:Nat→TK}(C: ∀t,cw P t (Γ t))(Z: ∀t,(∀z tg fo,Γ t≠ .st z tg fo)→Γ t≠ .other→(P.info? t).map (·.size)=some 1){vc:List Prop}(h:XW Γ st o.op=some (vc,st'))(g:Good ty zb st a.tmps w env)(hB:zb.w.heap.size≤w.heap.size)(hv: ∀q,q∈vc→q):
  o.wp P a w (fun a' w'=> ∃env',a'=a.put o.dst undef∧Kept zb w w'∧Good ty zb st' a.tmps w' env'∧st'.n=st.n) Q:=by
 have hop: ∀{x v},gf st [] x=some v→fG w st.hp env v (a.eval x):=fun hx=>eg g (fun e he=>by simp at he) hx
 generalize fK:o.op=op at h
 cases op with
 |store t x y=>
  simp only[XW]at h
  split at h
  case h_2=>cases h
  rename_i n i o2 j tg xx off v hx hy
  have hx:=hop hx
  have hy:=hop hy
  split at h
  case h_2=>cases h
  rename_i gt l0 hl
  split at h
  case h_2=>cases h
  rename_i cv t' l' hfit MP Hl
  split at h
  case h_2=>cases h
  rename_i l hcast
  split at h
  case h_2=>cases h
  rename_i d hs1
  split at h
  case h_2=>cases h
  rename_i RZ y' he1
  split at h
  case h_2=>cases h
  rename_i c Av
  split at h
  case h_2=>cases h
  rename_i oc x' wJ
  simp only[Option.some.injEq,Prod.mk.injEq]at h
  obtain⟨rfl,rfl⟩:=h
  obtain⟨_,_,_,_,_,_,_,_,_,_,_,hpos⟩:=hx
  obtain⟨l3,u0,b0,n8,len,cap,VR,hj,_,ZH,hu⟩:=hpos i o2 j rfl
  have OG:l3=l:=by
   obtain⟨_,_,XX⟩:=VR
   obtain⟨t1,l1,_,_,_,_,nr,_,hel,_⟩:=XX i o2 rfl
   rw[hl]at nr
   simp only[Option.some.injEq,Obj.arr.injEq]at nr
   obtain⟨rfl,nr⟩:=nr
   cases nr
   rw[hel]at Hl
   simp only[Option.some.injEq,V.sl.injEq]at Hl
   obtain⟨rfl,Hl⟩:=Hl
   cases Hl
   obtain⟨e,rfl⟩:=dW hcast
   rfl
  subst OG
  obtain⟨fv,KW,_,hown,OM⟩:=Cc (pv:=fun _=>⟨u0,[]⟩) g hB VR hl Av wJ (fun q hq=>hv q (by simp[hq]))
  obtain⟨oa,RY,qy,pX,Ji,h3⟩:=KW
  rcases h3 with⟨rfl,_⟩| ⟨b,o1,bk,Je,aR,gA,hE⟩
  ·simp at hj
  rw[ZH,Je]at qy
  simp only[Value.slice.injEq,Option.some.injEq,Addr.mk.injEq,and_true]at qy
  obtain⟨⟨rfl,rfl⟩,rfl,rfl⟩:=qy
  have Tk:l3[j]? =some (l3.getD j (av tg)):=by rw[List.getD_eq_getElem?_getD,List.getElem?_eq_getElem hj];rfl
  obtain⟨f,hf⟩:=iz hE.1 Tk
  obtain⟨cs,Az,Uf⟩:=hE.2 _ _ f Tk hf
  have hlen:=(eT tg).len Uf
  rw[gA]at hown
  have pY:=List.nodup_cons.1 hown.nodup
  obtain⟨fx,XY,Yr,I8⟩:=wH g (iZ g hy (eV MP)) MP List.nodup_nil
  have Yw:fx= []:=by
   cases fx with
   |nil=>rfl
   |cons y r=>obtain⟨m,_,hm,_⟩:=I8 y (by simp);simp at hm
  subst Yw
  obtain⟨f1,f2,f3,KQ,hrd,hlo⟩:=bR.Jb (reads tg Uf) XY hs1
  have Wi:=rB tg he1 (fun q hq=>hv q (by simp[hq])) hrd
  have hsz:(P.info? t).map (·.size)=some (a.eval y).cells.toList.length∧ ∀u,u∈(a.eval y).cells.toList→u.oneCell'=true:=by
   refine⟨?_,tI g (iZ g hy (eV MP)) (oG (eV MP))⟩
   cases v with
   |agg c'=>
    obtain⟨z,tg',fo,hk,hfit⟩:=He hfit
    have hC:=C t
    rw[hk]at hC
    obtain⟨fs,_,hi2,_⟩:=hC
    obtain⟨us,RR,Jz⟩:=hy
    have:=Nat.eq_of_beq_eq_true hfit
    have OG:=Jz.len
    rw[RR]
    cases hq:P.info? t with
    |none=>simp[hq]at hi2
    |some inf=>simp[hq]at hi2;simp[hi2.1,Value.cells,OG,this]
   |a v'=>
    have hk:=Hf hfit
    have hne:v'≠ .any:=by rintro rfl;simp[cellsOf,takes]at MP
    have:=jq g (show RA w st.hp env v' (a.eval y)from hy) hne
    rw[this]
    exact Z t hk.1 hk.2
  obtain⟨cb,eb,B8⟩:=hown.kind b0 (by simp)
  have Rt:w.there b0 (n8+j*kk tg+off) (a.eval y).cells.toList.length:=by
   refine Jt B8 _ _ ?_
   have zZ:n8+j*kk tg+cs.length≤cb.size:=by
    have gO:=kB tg
    have:=Az (cs.length-1) _ (List.getElem?_eq_getElem (by omega))
    rw[GO B8]at this
    have:=(Array.getElem?_eq_some_iff.1 this).1
    omega
   omega
  have hkeep: ∀x,x≠b0→(w.setCells b0 (n8+j*kk tg+off) (a.eval y).cells.toList).heap[x]? =w.heap[x]? :=fun x hx=>cz b0 _ _ w x hx
  have MM: ∀x,x∈bk.flatten→x≠b0:=fun x hx e=>pY.1 (e▸hx)
  have uK: ∀x,x∈f1++([]++f3)→x∈f:=by
   intro x hx
   rw[KQ]
   rcases List.mem_append.1 hx with hx|hx
   ·exact List.mem_append_left _ hx
   ·rw[List.nil_append]at hx;exact List.mem_append_right _ (List.mem_append_right _ hx)
  have Mw:ew w (w.setCells b0 (n8+j*kk tg+off) (a.eval y).cells.toList) (f1++([]++f3)):=fun x hx=>hkeep x (MM x (b9 hf (uK x hx)))
  have MQ:=yG (eT tg) (w':=w.setCells b0 (n8+j*kk tg+off) (a.eval y).cells.toList) hE (i:=j) (x':=y') (f':=f1++([]++f3))
   (rJ Az hlo Rt) ((eT tg).bp Wi Mw)
   (fun j1 cs' OD zZ hr=>World.rangeAt_setCells_apart hr _ _ _ (Or.inr (by
    rw[zZ]
    rcases Nat.lt_or_ge j1 j with h1|h1
    ·left
     have:=Nat.mul_le_mul_right (kk tg) (show j1+1≤j by omega)
     rw[Nat.add_mul]at this;omega
    ·right
     have:=Nat.mul_le_mul_right (kk tg) (show j+1≤j1 by omega)
     rw[Nat.add_mul]at this;omega)))
   (fun j1 f' _ hf' x hx=>hkeep x (MM x (b9 hf' hx)))
  have Ug:(f1++([]++f3)).Nodup:=by
   have h1:=(List.pairwise_flatten.1 pY.2).1 f (List.mem_of_getElem? hf)
   rw[KQ]at h1
   obtain⟨h2,h3,h4⟩:=List.nodup_append.1 h1
   obtain⟨_,h6,_⟩:=List.nodup_append.1 h3
   rw[List.nil_append]
   exact List.nodup_append.2 ⟨h2,h6,fun x hx z hz=>h4 x hx z (List.mem_append_right _ hz)⟩
  have hmem: ∀x,x∈(bk.set j (f1++([]++f3))).flatten→x∈bk.flatten:=by
   intro x hx
   rcases rK hx with h| ⟨j1,f',_,OD,h⟩
   ·exact b9 hf (uK x h)
   ·exact b9 OD h
  have VS:Own 0 (w.setCells b0 (n8+j*kk tg+off) (a.eval y).cells.toList) (b0::(bk.set j (f1++([]++f3))).flatten):=by
   refine⟨List.nodup_cons.2 ⟨fun hm=>pY.1 (hmem b0 hm),oo pY.2 Ug fun j1 f' OD hf' x hx hx'=>tK pY.2 hf' hf OD x hx (uK x hx')⟩,fun _ _=>Nat.zero_le _,fun x hx=> ?_⟩
   rcases List.mem_cons.1 hx with rfl|hx
   ·obtain⟨c',q1,_⟩:=ef x eb (a.eval y).cells.toList (n8+j*kk tg+off) w cb B8
    exact⟨_,_,q1⟩
   ·rw[hkeep x (MM x (hmem x hx))];exact hown.kind x (List.mem_cons_of_mem _ (hmem x hx))
  have OH:Kept ⟨w,fv,fun _=>⟨u0,[]⟩⟩ w (w.setCells b0 (n8+j*kk tg+off) (a.eval y).cells.toList):=
   B2 (zb:=⟨w,fv,fun _=>⟨u0,[]⟩⟩) (Or.inl (by rw[gA];simp)) B8 _ _
  have hrun:(storeVar t ⟨b0,n8+j*kk tg+off,none⟩ (a.eval y)).run P w= .ok () (w.setCells b0 (n8+j*kk tg+off) (a.eval y).cells.toList):=pV (by simp) Rt hsz.1 hsz.2
  obtain⟨env',hk2,hg'⟩:=OM _ (b0::(bk.set j (f1++([]++f3))).flatten) OH
   ⟨some ⟨b0,n8,none⟩,cap,by rw[ZH,List.length_set],by rw[List.length_set];exact pX,Ji,Or.inr ⟨b0,n8,_,rfl,by rw[kX];exact aR,rfl,MQ⟩⟩ VS
   (fun y hy=>by
    rw[gA]
    rcases List.mem_cons.1 hy with rfl|hy
    ·simp
    ·exact List.mem_cons_of_mem _ (hmem y hy))
  unfold Oper.wp execOp
  simp only[fK,hu,Instr.storeAt,Instr.sureAddr,Sem.run_bind,Sem.run_pure,Result.andThen_ok,hrun]
  exact⟨env',rfl,hk2,hg',rfl⟩
 |_=>simp[XW]at h
end
end
section
variable{ty:Tag→Nat}
def R1(st:St):List V→Option (List V×List Nat)
 | []=>some ([],[])
 | .lit (.slice _ _ _)::_=>none
 | .lit v::r=>match R1 st r with|some (c,k)=>some (.lit v::c,k)|none=>none
 | .sl t l::r=>match R1 st r with|some (c,k)=>some (.sl t l::c,k)|none=>none
 | .own n::r=>match look st.hp n,R1 st r with
   |some (.arr t l),some (c,k)=>some (.sl t l::c,n::k)
   |_,_=>none
 |_=>none
def Cd(st:St)(g:Tag):Nat→List (Nat×Operand)→Option (List Prop×List (T g)×List Nat)
 |_,[]=>some ([],[],[])
 |i,(j,x)::r=>match Nat.beq i j,gf st [] x with
  |true,some s=>match R1 st (cellsOf s)with
   |some (c,k)=>match enc g c,Cd st g (i+1) r with
    |some (vc,y),some (vcs,ys,ks)=>some (vc++vcs,y::ys,k++ks)
    |_,_=>none
   |none=>none
  |_,_=>none
def Wp(P:Program)(ty:Tag→Nat)(Γ:Nat→TK)(st:St):Op→Option (List Prop×St×SV)
 | .buildSlice t len parts=>match Γ t with
   | .sl g e=>match Nat.beq e (ty g),Nat.beq parts.toList.length len,Nat.ble (len*kk g) 16777216,Cd st g 0 parts.toList with
     |true,true,true,some (vc,xs,ks)=>match og ks&& !pinned ks with
      |true=>some (El P ty g::vc,⟨st.n,st.sl.map fun e=>(e.1,e.2.bE ks []),cm ks [] st.hp⟩, .one (.a (.sl g xs)))
      |_=>none
     |_,_,_,_=>none
   |_=>none
 |_=>none
section
variable{P:Program}{zb:cA}{st:St}{a:Act}{w:World}{env:Env}{Q:Exit→Act→World→Prop}{o:Oper}
theorem tL{st:St}: ∀{l c:List V} {k:List Nat},R1 st l=some (c,k)→rE l=true
 | [],_,_,_=>rfl
 |v::r,c,k,h=>by
  unfold R1 at h
  split at h
  ·rename_i he;cases he
  ·cases h
  ·rename_i x r' _ he
   simp only[List.cons.injEq]at he
   obtain⟨rfl,rfl⟩:=he
   split at h
   ·rename_i h';have h2:=tL h';exact h2
   ·cases h
  ·rename_i t l r' he
   simp only[List.cons.injEq]at he
   obtain⟨rfl,rfl⟩:=he
   split at h
   ·rename_i h';have h2:=tL h';exact h2
   ·cases h
  ·rename_i n r' he
   simp only[List.cons.injEq]at he
   obtain⟨rfl,rfl⟩:=he
   split at h
   ·rename_i h';have h2:=tL h';exact h2
   ·cases h
  ·cases h
theorem FE(g:Good ty zb st a.tmps w env): ∀{l c:List V} {k:List Nat} {us:List Value},bn (RA w st.hp env) l us→R1 st l=some (c,k)→
  ∃fp,bR w c us fp∧ ∀b,b∈fp→b<w.heap.size∧(¬Ow st.hp env b∨ ∃i o,i∈k∧look st.hp i=some o∧b∈(env i).fp)
 | [],c,k,us,hr,h=>by
   simp only[R1,Option.some.injEq,Prod.mk.injEq]at h
   obtain⟨rfl,rfl⟩:=h
   cases us with
   |nil=>exact⟨[],rfl,by simp⟩
   |cons _ _=>exact hr.elim
 |v::r,c,k,us,hr,h=>by
  cases us with
  |nil=>exact hr.elim
  |cons u us=>
   unfold R1 at h
   split at h
   ·rename_i he;cases he
   ·cases h
   ·rename_i x r' _ he
    simp only[List.cons.injEq]at he
    obtain⟨rfl,rfl⟩:=he
    split at h
    ·rename_i c' k' h'
     simp only[Option.some.injEq,Prod.mk.injEq]at h
     obtain⟨rfl,rfl⟩:=h
     obtain⟨fp,h1,h3⟩:=FE g hr.2 h'
     obtain⟨e1,e2⟩:=hr.1
     exact⟨fp,⟨[],fp,⟨e1,e2,rfl⟩,h1,rfl⟩,h3⟩
    ·cases h
   ·rename_i t l r' he
    simp only[List.cons.injEq]at he
    obtain⟨rfl,rfl⟩:=he
    split at h
    ·rename_i c' k' h'
     simp only[Option.some.injEq,Prod.mk.injEq]at h
     obtain⟨rfl,rfl⟩:=h
     obtain⟨fp,h1,h3⟩:=FE g hr.2 h'
     obtain⟨f0,k1,k2⟩:=hr.1
     refine⟨f0++fp,⟨f0,fp,k1,h1,rfl⟩,fun b hb=> ?_⟩
     rcases List.mem_append.1 hb with hb|hb
     ·exact⟨Sl.lt (eT t) k1 b hb,Or.inl (k2 b hb)⟩
     ·exact h3 b hb
    ·cases h
   ·rename_i n r' he
    simp only[List.cons.injEq]at he
    obtain⟨rfl,rfl⟩:=he
    split at h
    ·rename_i t l c' k' hl h'
     simp only[Option.some.injEq,Prod.mk.injEq]at h
     obtain⟨rfl,rfl⟩:=h
     obtain⟨fp,h1,h3⟩:=FE g hr.2 h'
     obtain⟨_,rfl⟩:=hr.1
     have hb:=RO.sl (g.obj n _ hl)
     refine⟨(env n).fp++fp,⟨_,_,hb,h1,rfl⟩,fun b hb=> ?_⟩
     rcases List.mem_append.1 hb with hb|hb
     ·exact⟨(g.obj n _ hl).uV b hb,Or.inr ⟨n,_,by simp,hl,hb⟩⟩
     ·obtain⟨q1,q2⟩:=h3 b hb
      refine⟨q1,q2.imp id ?_⟩
      rintro⟨i,o,hi,h4,h5⟩
      exact⟨i,o,List.mem_cons_of_mem _ hi,h4,h5⟩
    ·cases h
   ·cases h
theorem Em(g:Good ty zb st a.tmps w env){t:Tag}: ∀{ps:List (Nat×Operand)} {i:Nat} {vc:List Prop} {xs:List (T t)} {ks:List Nat},Cd st t i ps=some (vc,xs,ks)→(∀q,q∈vc→q)→
  (ps.map fun p=>(p.1,a.eval p.2))=tZ i (ps.map fun p=>a.eval p.2)∧xs.length=ps.length∧ ∃bk:List (List Nat),bk.length=xs.length∧
   (∀(i:Nat) (x:T t) (f:List Nat),xs[i]? =some x→bk[i]? =some f→ ∃p:Nat×Operand,ps[i]? =some p∧rd t w (a.eval p.2).cells.toList x f)∧ ∀b,b∈bk.flatten→b<w.heap.size∧(¬Ow st.hp env b∨ ∃i o,i∈ks∧look st.hp i=some o∧b∈(env i).fp)
 | [],i,vc,xs,ks,h,_=>by
   simp only[Cd,Option.some.injEq,Prod.mk.injEq]at h
   obtain⟨rfl,rfl,rfl⟩:=h
   exact⟨rfl,rfl,[],rfl,by simp,by simp⟩
 | (j,x)::r,i,vc,xs,ks,h,hv=>by
   simp only[Cd]at h
   split at h
   ·rename_i s hij hx
    have hij:=Nat.eq_of_beq_eq_true hij
    subst hij
    split at h
    ·rename_i c k hc
     split at h
     ·rename_i oc y vcs ys ZG he hb
      simp only[Option.some.injEq,Prod.mk.injEq]at h
      obtain⟨rfl,rfl,rfl⟩:=h
      obtain⟨q1,q2,bk,q3,q4,q6⟩:=Em g hb (fun q hq=>hv q (List.mem_append_right _ hq))
      obtain⟨fp,r1,r3⟩:=FE g (iZ g (eg g (fun e he=>by simp at he) hx) (tL hc)) hc
      have hE:=rB t he (fun q hq=>hv q (List.mem_append_left _ hq)) r1
      refine⟨by simp[tZ,q1],by simp[q2],fp::bk,by simp[q3],?_,?_⟩
      ·intro i' x' f hx' hf
       cases i' with
       |zero=>simp at hx' hf;subst hx';subst hf;exact⟨(i,x),rfl,hE⟩
       |succ n=>simp at hx' hf;obtain⟨p,h1,h2⟩:=q4 n x' f hx' hf;exact⟨p,by simpa using h1,h2⟩
      ·intro b hb
       rw[List.flatten_cons]at hb
       rcases List.mem_append.1 hb with hb|hb
       ·obtain⟨z1,z2⟩:=r3 b hb
        exact⟨z1,z2.imp id fun⟨n,o1,h1,h2,h3⟩=>⟨n,o1,List.mem_append_left _ h1,h2,h3⟩⟩
       ·obtain⟨z1,z2⟩:=q6 b hb
        exact⟨z1,z2.imp id fun⟨n,o1,h1,h2,h3⟩=>⟨n,o1,List.mem_append_right _ h1,h2,h3⟩⟩
     ·cases h
    ·cases h
   ·cases h
theorem run_frozen{t len:Nat}{parts:Array (Nat×Operand)}(ho:o.op= .buildSlice t len parts){g:Tag}(hu:P.underlying t=some (.slice (ty g)))(uJ:El P ty g)(BV:len*kk g≤16777216)(hlen:parts.toList.length=len)
  {xs:List (T g)}{bk:List (List Nat)}(q1:(parts.toList.map fun p=>(p.1,a.eval p.2))=tZ 0 (parts.toList.map fun p=>a.eval p.2))(q2:xs.length=parts.toList.length)(q3:bk.length=xs.length)
  (q4: ∀(i:Nat) (x:T g) (f:List Nat),xs[i]? =some x→bk[i]? =some f→ ∃p:Nat×Operand,parts.toList[i]? =some p∧rd g w (a.eval p.2).cells.toList x f):
  ∃w',(execOp a.eval o).run P w= .ok (.value (.slice (some ⟨w.heap.size,0,none⟩) len len)) w'∧Below w.heap.size w w'∧Sl (kk g) (rd g) w' (.slice (some ⟨w.heap.size,0,none⟩) len len) xs (w.heap.size::bk.flatten):=by
 have hkp:=kB g
 have zZ: ∀v,v∈(parts.toList.map fun p=>a.eval p.2)→v.cells.size=kk g:=by
  intro v hv
  obtain⟨i,hi⟩:=List.getElem?_of_mem hv
  have hil:i<xs.length:=by have:=(List.getElem?_eq_some_iff.1 hi).1;simp at this;rw[q2];simpa using this
  have hfl:i<bk.length:=by omega
  obtain⟨p,h1,h2⟩:=q4 i xs[i] bk[i] (List.getElem?_eq_getElem hil) (List.getElem?_eq_getElem hfl)
  rw[List.getElem?_map,h1]at hi
  simp at hi
  subst hi
  simpa using(eT g).len h2
 cases hq:P.info? (ty g)with
 |none=>simp[El,hq]at uJ
 |some inf=>
  simp[El,hq]at uJ
  obtain⟨z1,z2,z3⟩:=uJ
  let zs:List Value:=(List.range (len*kk g)).map fun j=>(if len*kk g=0 then #[]else(eM g).cells)[j % (if len*kk g=0 then #[]else(eM g).cells).size]!
  have hzl:zs.length=len*kk g:=by simp[zs]
  have hf:=BU (k:=kk g) (parts.toList.map fun p=>a.eval p.2) 0 zs zZ (by rw[hzl,List.length_map,hlen,Nat.zero_add])
  rw[Nat.zero_mul,List.take_zero,List.nil_append]at hf
  have hrun:(execOp a.eval o).run P w= .ok (.value (.slice (some ⟨w.heap.size,0,none⟩) len len)) (w.alloc (.cells (Array.mk ((parts.toList.map fun p=>a.eval p.2).flatMap fun v=>v.cells.toList)) (ty g) (0,0))):=by
   unfold execOp
   have oy:(parts.map fun(p:Nat×Operand)=>(p.1,a.eval p.2)).toList=tZ 0 (parts.toList.map fun p=>a.eval p.2):=by
    rw[Array.toList_map];exact q1
   have hzs:((Array.range (len*kk g)).map fun j=>(if len*kk g=0 then #[]else(eM g).cells)[j % (if len*kk g=0 then #[]else(eM g).cells).size]!)=Array.mk zs:=by
    simp only[zs]
    apply Array.ext'
    simp
   have Yi:(sizeOf (ty g)).run P w= .ok (kk g) w:=by simp[sizeOf,typeInfo,hq,z2]
   simp only[ho,Instr.buildSlice,Sem.run_bind,run_underlying hu,Result.andThen_ok,Yi]
   rw[if_neg (by omega)]
   by_cases V9:len*kk g=0
   ·simp only[if_pos V9]at hzs ⊢
    simp only[Sem.run_bind,Sem.run_pure,Result.andThen_ok]
    rw[hzs,oy,hf]
    simp[newRow]
   ·have Yj:(zeroValue (ty g)).run P w= .ok (eM g) w:=by simp[zeroValue,typeInfo,hq,z1]
    simp only[if_neg V9]at hzs ⊢
    simp only[Sem.run_bind,Yj,Sem.run_pure,Result.andThen_ok]
    rw[hzs,oy,hf]
    simp[newRow]
  have hps:((parts.toList.map fun p=>a.eval p.2).flatMap fun v=>v.cells.toList)=((parts.toList.map fun p=>(a.eval p.2).cells.toList).flatMap id):=by
   simp[List.flatMap_map]
  have Oq: ∀v,v∈(parts.toList.map fun p=>(a.eval p.2).cells.toList)→v.length=kk g:=by
   intro v hv
   obtain⟨p,hp,rfl⟩:=List.mem_map.1 hv
   simpa using zZ _ (List.mem_map.2 ⟨p,hp,rfl⟩)
  have Ec:=rI Oq
  rw[List.length_map,hlen]at Ec
  have hb0:Below w.heap.size w (w.alloc (.cells (Array.mk ((parts.toList.map fun p=>a.eval p.2).flatMap fun v=>v.cells.toList)) (ty g) (0,0))):=(Below.refl _ _).alloc (Nat.le_refl _) _
  have Wq:=oz (w:=w) (o:= .cells (Array.mk ((parts.toList.map fun p=>a.eval p.2).flatMap fun v=>v.cells.toList)) (ty g) (0,0)) (k:=w.heap.size) rfl
  refine⟨_,hrun,hb0,some ⟨w.heap.size,0,none⟩,len,by rw[q2,hlen],by rw[q2,hlen];exact Nat.le_refl _,?_,Or.inr ⟨w.heap.size,0,bk,rfl,N9 Wq,rfl,q3,?_⟩⟩
  ·unfold maxLen;have:=Nat.le_mul_of_pos_right len hkp;omega
  ·intro i x f hx KQ
   obtain⟨p,h1,h2⟩:=q4 i x f hx KQ
   have hkey:(((parts.toList.map fun p=>a.eval p.2).flatMap fun v=>v.cells.toList).drop (i*kk g)).take (kk g)=(a.eval p.2).cells.toList:=by
    rw[hps];exact rH Oq (by rw[List.getElem?_map,h1];rfl)
   refine⟨_,Rx Wq _ _ fun j v hv=> ?_,(eT g).below h2 hb0⟩
   rw[←hkey]at hv
   rw[List.getElem?_take]at hv
   split at hv
   ·rw[List.getElem?_drop]at hv
    rw[Nat.zero_add,List.getElem?_toArray]
    exact hv
   ·cases hv
theorem MT(g:Good ty zb st a.tmps w env){ks:List Nat}{w':World}(hb:Below w.heap.size w w'):Good ty zb ⟨st.n,st.sl.map fun e=>(e.1,e.2.bE ks []),cm ks [] st.hp⟩ a.tmps w' env:=by
 have hlk: ∀m o,look (cm ks [] st.hp) m=some o→m∉ks∧ ∃o',look st.hp m=some o'∧o=o'.bE ks []:=by
  intro m o hm
  rw[bO]at hm
  split at hm
  ·cases hm
  ·rename_i hks
   cases hq:look st.hp m with
   |none=>rw[hq]at hm;cases hm
   |some o'=>rw[hq]at hm;simp only[Option.map_some,Option.some.injEq]at hm;exact⟨hks,o',rfl,hm.symm⟩
 have s:qH ks [] w st.hp env w' (cm ks [] st.hp) env:=by
  refine⟨fun b hlt _=>hb.block b hlt,?_,?_,?_⟩
  ·rintro b hlt ⟨m,o',h1,h2⟩
   obtain⟨_,AA,h3,rfl⟩:=hlk m o' h1
   exact⟨m,AA,h3,h2⟩
  ·intro m o' hks h1
   exact⟨o'.bE ks [],by rw[bO,if_neg hks,h1];rfl,by cases o'<;>simp[Obj.like,Obj.bE],rfl⟩
  ·rintro m t' l' ⟨hks,_⟩ h1
   exact⟨by rw[bO,if_neg hks,h1];rfl,rfl,fun b Ej=>hb.block b ((g.obj m _ h1).uV b Ej)⟩
 refine g.iX s (fun m o' hm=> ?_) (fun m m' o1 o2 hne h1 h2 b Ej hb'=> ?_) (fun m o' hm b Ej=> ?_) g.pins
 ·obtain⟨hks,AA,h3,rfl⟩:=hlk m o' hm
  exact(g.obj m AA h3).iX s fun b Ej=>hb.block b ((g.obj m AA h3).uV b Ej)
 ·obtain⟨_,q1,h3,_⟩:=hlk m o1 h1
  obtain⟨_,q2,h4,_⟩:=hlk m' o2 h2
  exact g.kj m m' _ _ hne h3 h4 b Ej hb'
 ·obtain⟨_,q1,h3,_⟩:=hlk m o' hm
  exact g.dom m q1 h3 b Ej
theorem Uu{Γ:Nat→TK}(C: ∀t,cw P t (Γ t)){vc:List Prop}{st':St}{v:SV}(h:Wp P ty Γ st o.op=some (vc,st',v))(g:Good ty zb st a.tmps w env)(hB:zb.w.heap.size≤w.heap.size)(hv: ∀q,q∈vc→q):
  o.wp P a w (fun a' w'=> ∃u env',a'=a.put o.dst u∧Kept zb w w'∧Good ty zb st' a.tmps w' env'∧st'.n=st.n∧oC w' st'.hp env' a.tmps v u) Q:=by
 generalize fK:o.op=op at h
 cases op with
 |buildSlice t len parts=>
  simp only[Wp]at h
  split at h
  ·rename_i gt e hk
   split at h
   ·rename_i oc xs ks he hlen BV hb
    have he:=Nat.eq_of_beq_eq_true he
    split at h
    ·rename_i hnd
     simp only[Option.some.injEq,Prod.mk.injEq]at h
     obtain⟨rfl,rfl,rfl⟩:=h
     have uJ:El P ty gt:=hv _ (by simp)
     obtain⟨q1,q2,bk,q3,q4,q6⟩:=Em g hb (fun q hq=>hv q (by simp[hq]))
     have hC:=C t
     rw[hk,he]at hC
     obtain⟨w',r1,r2,r3⟩:=run_frozen (P:=P) (w:=w) (a:=a) fK hC.1 uJ (Nat.le_of_ble_eq_true BV) (Nat.eq_of_beq_eq_true hlen) q1 q2 q3 q4
     have hg':=MT g (ks:=ks) r2
     unfold Oper.wp
     rw[r1]
     refine⟨_,env,rfl,iV r2 hB,hg',rfl,_,r3,?_⟩
     rintro b Ej ⟨m,o',h1,h2⟩
     rw[bO]at h1
     split at h1
     ·cases h1
     ·rename_i hks
      cases hq:look st.hp m with
      |none=>rw[hq]at h1;cases h1
      |some AA=>
       have hlt:=(g.obj m AA hq).uV b h2
       rcases List.mem_cons.1 Ej with rfl|Ej
       ·omega
       ·rcases(q6 b Ej).2 with h3| ⟨i,oi,hi,h4,h5⟩
        ·exact h3 ⟨m,AA,hq,h2⟩
        ·exact g.kj m i _ _ (fun e=>hks (e▸hi)) hq h4 b h2 h5
    ·cases h
   ·cases h
  ·cases h
 |_=>simp[Wp]at h
end
end
section
variable{ty:Tag→Nat}
def inv:List (Nat×Nat)→Nat→Option Nat
 | [],_=>none
 | (n,m)::r,k=>match Nat.beq k m with|true=>some n|false=>inv r k
def V.toF(ρ:List (Nat×Nat)):V→V
 | .lit v=> .lit v
 | .sl t l=> .sl t l
 | .own m=>match inv ρ m with|some n=> .own n|none=> .any
 | .ptr m o=>match inv ρ m with|some n=> .ptr n o|none=> .any
 | .yx f m=>match inv ρ m with|some n=> .yx f n|none=> .any
 |_=> .any
def Obj.toF(ρ:List (Nat×Nat)):Obj→Obj
 | .box c=> .box (c.map (V.toF ρ))
 | .arr t l=> .arr t l
 | .lT t l _=> .lT t l .gone
def wK(st:St)(ρ:List (Nat×Nat)):List (Nat×Nat)→Option Hp
 | []=>some []
 | (n,m)::r=>match look st.hp m, !iA m||iA n, !soft m||soft n,wK st ρ r with
   |some o,true,true,some h=>some ((n,o.toF ρ)::h)
   |_,_,_,_=>none
def R2(st:St)(ρ:List (Nat×Nat))(tg:Option Tag)(v:V):Option V:=match v.name with
 |some m=>match inv ρ m with
  |some n=>match v with
   | .own _=>some (.own n)
   | .ptr _ o=>some (.ptr n o)
   | .yx f _=>some (.yx f n)
   |_=>none
  |none=>match v with
   | .mix _ _ _ _=>none
   | .yu _=>none
   |v=>nZ st tg v
 |none=>nZ st tg v
def Ho(st:St)(ρ:List (Nat×Nat)):List (Option Tag)→List V→Option (List V)
 |_,[]=>some []
 |tg,v::r=>match R2 st ρ (match tg with|t::_=>t| []=>none) v,Ho st ρ (match tg with|_::ts=>ts| []=> []) r with
  |some x,some y=>some (x::y)
  |_,_=>none
def Uv(st:St)(ρ:List (Nat×Nat))(k:TK):S1→Option S1
 | .a v=>match R2 st ρ (match k with| .sl t _=>some t|_=>none) v with|some x=>some (.a x)|none=>none
 | .agg l=>match Ho st ρ (match k with| .st _ tg _=>tg|_=> []) l with|some x=>some (.agg x)|none=>none
def Hq(Γ:Nat→TK)(st:St)(ρ:List (Nat×Nat)):List Operand→List Nat→Option (List S1)
 | [],_=>some []
 |x::r,t=>match gf st [] x with
  |some v=>match Uv st ρ (match t with|t::_=>Γ t| []=> .other) v,Hq Γ st ρ r (match t with|_::ts=>ts| []=> [])with
   |some y,some ys=>some (y::ys)
   |_,_=>none
  |none=>none
def FF(st:St)(ρ:List (Nat×Nat))(x:Operand):Option (FuncId×List S1):=match gf st [] x with
 |some (.a (.yx f m))=>match inv ρ m with|some n=>some (f,[.a (.ptr n 0)])|none=>none
 |some v=>match RD v with|some f=>some (f,[])|none=>none
 |none=>none
def Uw:List V→Option (List (Nat×Nat))
 | []=>some []
 | .ptr n m::r=>match Uw r with|some l=>some ((n,m)::l)|none=>none
 |_=>none
def Wr:List V→Option (List Nat)
 | []=>some []
 | .own n::r=>match Wr r with|some l=>some (n::l)|none=>none
 |_=>none
def OP:List Nat→List S1→Option Hp
 | [],[]=>some []
 |n::ns, .a (.sl t l)::r=>match OP ns r with|some h=>some ((n, .arr t l)::h)|none=>none
 |n::ns, .agg c::r=>match OP ns r with|some h=>some ((n, .box c)::h)|none=>none
 |_,_=>none
def V.toA(ρ:List (Nat×Nat)):V→Option V
 | .any=>some .any
 | .lit v=>some (.lit v)
 | .own n=>match look ρ n with|some m=>some (.own m)|none=>none
 | .ptr n o=>match look ρ n with|some m=>some (.ptr m o)|none=>none
 |_=>none
def toAs(ρ:List (Nat×Nat)):List V→Option (List V)
 | []=>some []
 |v::r=>match v.toA ρ,toAs ρ r with|some x,some y=>some (x::y)|_,_=>none
def S1.toA(ρ:List (Nat×Nat)):S1→Option S1
 | .a v=>match v.toA ρ with|some x=>some (.a x)|none=>none
 | .agg l=>match toAs ρ l with|some x=>some (.agg x)|none=>none
def R3(ρ:List (Nat×Nat)):List S1→Option (List S1)
 | []=>some []
 |v::r=>match v.toA ρ,R3 ρ r with|some x,some y=>some (x::y)|_,_=>none
def Obj.toA(ρ:List (Nat×Nat)):Obj→Option Obj
 | .box c=>match toAs ρ c with|some x=>some (.box x)|none=>none
 | .arr t l=>some (.arr t l)
 | .lT _ _ _=>none
def Ce(ρ:List (Nat×Nat)):Hp→Option (List (Nat×Nat×Obj))
 | []=>some []
 | (n,o)::r=>match look ρ n,o.toA ρ,Ce ρ r with
   |some m,some o',some h=>match !iA m||iA n, !soft n||soft m with|true,true=>some ((n,m,o')::h)|_,_=>none
   |_,_,_=>none
def Cf:Option Obj→Bool
 |some (.box _)=>true
 |_=>false
def Hr(ty:Tag→Nat)(w:World)(hp:Hp)(env:Env):Prop:=(∀n o,look hp n=some o→RO ty w hp env n o (env n))∧ ∀n m o o',n≠m→look hp n=some o→look hp m=some o'→ ∀b,b∈(env n).fp→b∉(env m).fp
def wL(hp:Hp)(env:Env):List Nat:=hp.flatMap fun e=>(env e.1).fp
def Ws(w:World)(hp:Hp)(env:Env)(rs:List S1)(u:Value):Prop:=match rs with
 | [r]=>fG w hp env r u
 |rs=> ∃us,u= .tuple us.toArray∧bn (fG w hp env) rs us
def gZ(ty:Tag→Nat)(P:Program)(f:FuncId)(fQ:Hp)(as:List S1)(eZ:Hp)(rs:List S1):Prop:=
 (∀(args:Array Value) (w:World),(callFunc f args).run P w= .ok (.enter f args) w)∧
 ∀w env us,D6 w→(∀b,GS b→b∉wL fQ env)→Hr ty w fQ env→bn (fG w fQ env) as us→Calls P f us.toArray w fun e w'=> ∃env' u,e= .returned u∧Kept ⟨w,wL fQ env,env⟩ w w'∧Hr ty w' eZ env'∧
  (∀n o,look eZ n=some o→ ∀b,b∈(env' n).fp→b∈wL fQ env∨w.heap.size≤b)∧(∀n,iA n=true→(env' n).v=(env n).v∧ ∀b,b∈(env' n).fp→b∈(env n).fp)∧Ws w' eZ env' rs u
def A8(B:List (Nat×Nat×Obj)):Hp:=B.map fun e=>(e.2.1,e.2.2)
def DE:List (Nat×Nat×Obj)→Nat→Option Nat
 | [],_=>none
 | (n,m,_)::r,k=>match Nat.beq k m with|true=>some n|false=>DE r k
def Cg(kv ks:List Nat)(hp:Hp):Hp:=(hp.filter fun e=> !kv.any (Nat.beq e.1)).map fun e=>(e.1,e.2.bE ks kv)
def FG(hp:Hp):Hp→Bool
 | []=>true
 | (m,_)::r=>(match look hp m with|none=>true|some _=>false)&&FG hp r
def OQ(P:Program)(ty:Tag→Nat)(Γ:Nat→TK)(cr:List (Nat×CR))(st:St)(d:Option Nat):Op→Option (List Prop×St×SV)
 | .call ⟨.value x,xs,ts⟩=>match look cr (d.getD 99999+700000),look cr (d.getD 99999+800000)with
   |some ⟨_, .agg a:: .agg b:: .agg c::os⟩,some ⟨_,rs⟩=>match Uw a,Uw b,Wr c with
    |some ρ0,some ρ1,some ns=>match OP ns os,wK st ρ0 ρ0,FF st ρ0 x,Hq Γ st ρ0 xs.toList ts.toList with
     |some eZ,some fQ,some (f,ex),some as=>match Ce (ρ0++ρ1) eZ,R3 (ρ0++ρ1) rs with
      |some B,some Yx=>match og ((ρ0++ρ1).map Prod.fst)&&og (ρ0.map Prod.snd)&&gb eZ&&gb (A8 B)&&FG (Cg (ρ0.map Prod.snd) ((ρ0.filter fun e=> !iA e.1).map Prod.snd) st.hp) (A8 B)&&ρ0.all (fun e=> !iA e.1|| (Cf (look fQ e.1)&&Cf (look eZ e.1)))&&ρ1.all (fun e=> !iA e.2)with
       |true=>some ([gZ ty P f fQ (mI as ex) eZ rs],⟨st.n,st.sl.map fun e=>(e.1,e.2.bE ((ρ0.filter fun e=> !iA e.1).map Prod.snd) (ρ0.map Prod.snd)),A8 B++Cg (ρ0.map Prod.snd) ((ρ0.filter fun e=> !iA e.1).map Prod.snd) st.hp⟩,match Yx with| [r]=> .one r|l=> .rC l)
       |false=>none
      |_,_=>none
     |_,_,_,_=>none
    |_,_,_=>none
   |_,_=>none
 |_=>none
theorem mo: ∀{ρ:List (Nat×Nat)} {m n:Nat},inv ρ m=some n→(n,m)∈ρ
 | (a,b)::r,m,n,h=>by
   simp only[inv]at h
   split at h
   ·rename_i hb
    have:=Nat.eq_of_beq_eq_true hb
    simp only[Option.some.injEq]at h
    subst h;subst this;simp
   ·exact List.mem_cons_of_mem _ (mo h)
theorem Hs: ∀{ρ:List (Nat×Nat)} {m:Nat},inv ρ m=none→m∉ρ.map Prod.snd
 | [],_,_=>by simp
 | (a,b)::r,m,h=>by
   simp only[inv]at h
   split at h
   ·cases h
   ·rename_i hb
    have hne:m≠b:=fun e=>by rw[e,Nat.beq_refl]at hb;cases hb
    have:=Hs h
    simp only[List.map_cons,List.mem_cons,not_or]
    exact⟨hne,this⟩
theorem ey{α:Type}: ∀{l:List (Nat×α)} {n:Nat} {x:α},(l.map Prod.fst).Nodup→(n,x)∈l→look l n=some x
 | (j,y)::r,n,x,hnd,h=>by
   obtain⟨h1,h2⟩:=List.nodup_cons.1 hnd
   rcases List.mem_cons.1 h with h'|h'
   ·simp only[Prod.mk.injEq]at h'
    obtain⟨rfl,rfl⟩:=h'
    exact look_eq
   ·have hne:n≠j:=fun e=>h1 (List.mem_map.2 ⟨(n,x),h',e⟩)
    rw[aW hne];exact ey h2 h'
theorem tM: ∀{l:Hp},gb l=true→(l.map Prod.fst).Nodup
 | [],_=>List.nodup_nil
 | (n,x)::r,h=>by
   simp only[gb,Bool.and_eq_true]at h
   refine List.nodup_cons.2 ⟨fun hm=> ?_,tM h.2⟩
   obtain⟨e,he,rfl⟩:=List.mem_map.1 hm
   have:=ey (tM h.2) (show(e.1,e.2)∈r from he)
   rw[this]at h;simp at h
theorem mB: ∀{B:List (Nat×Nat×Obj)} {m:Nat} {o:Obj},look (A8 B) m=some o→ ∃n,(n,m,o)∈B∧DE B m=some n
 | (n,k,x)::r,m,o,h=>by
   have h:look ((k,x)::A8 r) m=some o:=h
   by_cases hm:m=k
   ·subst hm
    rw[look_eq]at h
    simp only[Option.some.injEq]at h
    subst h
    exact⟨n,by simp,by simp[DE]⟩
   ·rw[aW hm]at h
    obtain⟨n',h1,h2⟩:=mB h
    refine⟨n',List.mem_cons_of_mem _ h1,?_⟩
    simp only[DE]
    cases hb:Nat.beq m k with
    |true=>exact absurd (Nat.eq_of_beq_eq_true hb) hm
    |false=>exact h2
theorem En: ∀{B:List (Nat×Nat×Obj)} {m:Nat},look (A8 B) m=none→DE B m=none
 | [],_,_=>rfl
 | (n,k,x)::r,m,h=>by
   have h:look ((k,x)::A8 r) m=none:=h
   have hm:m≠k:=by rintro rfl;rw[look_eq]at h;cases h
   rw[aW hm]at h
   simp only[DE]
   cases hb:Nat.beq m k with
   |true=>exact absurd (Nat.eq_of_beq_eq_true hb) hm
   |false=>exact En h
theorem kC{ρ:List (Nat×Nat)}: ∀{hp:Hp} {B:List (Nat×Nat×Obj)},Ce ρ hp=some B→ ∀n m o',(n,m,o')∈B→ ∃o,(n,o)∈hp∧look ρ n=some m∧o.toA ρ=some o'∧(iA m=true→iA n=true)∧(soft n=true→soft m=true)
 | [],B,h,n,m,o',hm=>by
   simp only[Ce,Option.some.injEq]at h
   subst h;cases hm
 | (k,x)::r,B,h,n,m,o',hm=>by
   simp only[Ce]at h
   split at h
   ·rename_i m1 o1 h1 e1 e2 e3
    split at h
    ·rename_i hp hs
     simp only[Option.some.injEq]at h
     subst h
     rcases List.mem_cons.1 hm with h|h
     ·simp only[Prod.mk.injEq]at h
      obtain⟨rfl,rfl,rfl⟩:=h
      refine⟨x,by simp,e1,e2,fun hn=> ?_,fun hn=> ?_⟩
      ·rw[hn]at hp;simpa using hp
      ·rw[hn]at hs;simpa using hs
     ·obtain⟨o,q1,q2⟩:=kC e3 n m o' h
      exact⟨o,List.mem_cons_of_mem _ q1,q2⟩
    ·cases h
   ·cases h
theorem Eo{ρ:List (Nat×Nat)}: ∀{hp:Hp} {B:List (Nat×Nat×Obj)},Ce ρ hp=some B→ ∀n o,(n,o)∈hp→ ∃m o',(n,m,o')∈B∧look ρ n=some m∧o.toA ρ=some o'
 | [],B,h,n,o,hm=>by cases hm
 | (k,x)::r,B,h,n,o,hm=>by
   simp only[Ce]at h
   split at h
   ·rename_i m1 o1 h1 e1 e2 e3
    split at h
    ·simp only[Option.some.injEq]at h
     subst h
     rcases List.mem_cons.1 hm with h|h
     ·simp only[Prod.mk.injEq]at h
      obtain⟨rfl,rfl⟩:=h
      exact⟨m1,o1,by simp,e1,e2⟩
     ·obtain⟨m,o',q1,q2⟩:=Eo e3 n o h
      exact⟨m,o',List.mem_cons_of_mem _ q1,q2⟩
    ·cases h
   ·cases h
theorem Ep{st:St}{ρ:List (Nat×Nat)}: ∀{r:List (Nat×Nat)} {hp:Hp},wK st ρ r=some hp→(∀n o,(n,o)∈hp→ ∃m x,(n,m)∈r∧look st.hp m=some x∧o=x.toF ρ∧(iA m=true→iA n=true)∧(soft m=true→soft n=true))∧ ∀n m,(n,m)∈r→ ∃x,look st.hp m=some x∧(n,x.toF ρ)∈hp
 | [],hp,h=>by
   simp only[wK,Option.some.injEq]at h
   subst h
   exact⟨(fun n o hm=>nomatch hm),(fun n m hm=>nomatch hm)⟩
 | (k,j)::r,hp,h=>by
   simp only[wK]at h
   split at h
   ·rename_i x h' e1 e2 e3 e4
    simp only[Option.some.injEq]at h
    subst h
    obtain⟨q1,q2⟩:=Ep e4
    refine⟨fun n o hm=> ?_,fun n m hm=> ?_⟩
    ·rcases List.mem_cons.1 hm with h|h
     ·simp only[Prod.mk.injEq]at h
      obtain⟨rfl,rfl⟩:=h
      exact⟨j,x,by simp,e1,rfl,fun hs=>by rw[hs]at e2;simpa using e2,fun hs=>by rw[hs]at e3;simpa using e3⟩
     ·obtain⟨m,y,p1,p2⟩:=q1 n o h
      exact⟨m,y,List.mem_cons_of_mem _ p1,p2⟩
    ·rcases List.mem_cons.1 hm with h|h
     ·simp only[Prod.mk.injEq]at h
      obtain⟨rfl,rfl⟩:=h
      exact⟨x,e1,by simp⟩
     ·obtain⟨y,p1,p2⟩:=q2 n m h
      exact⟨y,p1,List.mem_cons_of_mem _ p2⟩
   ·cases h
theorem yH{st:St}{ρ:List (Nat×Nat)}: ∀{r:List (Nat×Nat)} {hp:Hp},wK st ρ r=some hp→hp.map Prod.fst=r.map Prod.fst
 | [],hp,h=>by simp only[wK,Option.some.injEq]at h;subst h;rfl
 | (k,j)::r,hp,h=>by
   simp only[wK]at h
   split at h
   ·rename_i e4
    simp only[Option.some.injEq]at h
    subst h
    rw[List.map_cons,List.map_cons,yH e4]
   ·cases h
theorem pZ{kv ks:List Nat}{hp:Hp}{n:Nat}:look (Cg kv ks hp) n=if n∈kv then none else(look hp n).map (Obj.bE ks kv):=by
 unfold Cg
 rw[jH (α:=Obj) (f:=fun e:Nat×Obj=>e.2.bE ks kv)]
 have:look (hp.filter fun e=> !kv.any (Nat.beq e.1)) n=if n∈kv then none else look hp n:=by
  induction hp with
  |nil=>simp[look]
  |cons e r ih=>
   obtain⟨j,x⟩:=e
   by_cases hj:j∈kv
   ·have:(kv.any (Nat.beq j))=true:=List.any_eq_true.2 ⟨j,hj,by simp⟩
    rw[List.filter_cons_of_neg (by simp[this]),ih]
    by_cases hn:n∈kv
    ·simp[hn]
    ·have:n≠j:=by rintro rfl;exact hn hj
     rw[if_neg hn,if_neg hn,aW this]
   ·have:(kv.any (Nat.beq j))=false:=by
     rw[List.any_eq_false]
     intro y hy hb
     exact hj (by rw[Nat.eq_of_beq_eq_true hb];exact hy)
    rw[List.filter_cons_of_pos (by simp[this])]
    by_cases Ux:n=j
    ·subst Ux;rw[look_eq,if_neg hj,look_eq]
    ·rw[aW Ux,aW Ux,ih]
 rw[this]
 split<;>simp
theorem Er{hp:Hp}: ∀{l:Hp},FG hp l=true→ ∀m o,look l m=some o→look hp m=none
 | (k,x)::r,h,m,o,hl=>by
   simp only[FG,Bool.and_eq_true]at h
   by_cases hm:m=k
   ·subst hm
    cases hq:look hp m with
    |none=>rfl
    |some y=>rw[hq]at h;simp at h
   ·rw[aW hm]at hl;exact Er h.2 m o hl
end
section
variable{ty:Tag→Nat}
def wM(env:Env)(ρ:List (Nat×Nat)):Env:=fun n=>match look ρ n with|some m=>env m|none=>⟨Fm,[]⟩
section
variable{P:Program}{zb:cA}{st st':St}{a:Act}{w:World}{env:Env}{Q:Exit→Act→World→Prop}{o:Oper}{ρ:List (Nat×Nat)}{fQ:Hp}
structure wN(st:St)(env:Env)(ρ:List (Nat×Nat))(fQ:Hp):Prop where
 at_: ∀n m,(n,m)∈ρ→look ρ n=some m
 obj: ∀n m,(n,m)∈ρ→ ∃x,look st.hp m=some x∧look fQ n=some (x.toF ρ)
 back: ∀n o,look fQ n=some o→ ∃m x,(n,m)∈ρ∧look st.hp m=some x∧o=x.toF ρ∧(iA m=true→iA n=true)∧(soft m=true→soft n=true)
 uniq:(ρ.map Prod.snd).Nodup
theorem wN.of{st:St}{env:Env}{fQ:Hp}(h:wK st ρ ρ=some fQ)(h1:(ρ.map Prod.fst).Nodup)(h2:(ρ.map Prod.snd).Nodup):wN st env ρ fQ:=by
 obtain⟨q1,q2⟩:=Ep h
 have hnd:(fQ.map Prod.fst).Nodup:=by rw[yH h];exact h1
 refine⟨fun n m hm=>ey h1 hm,fun n m hm=> ?_,fun n o hl=> ?_,h2⟩
 ·obtain⟨x,p1,p2⟩:=q2 n m hm
  exact⟨x,p1,ey hnd p2⟩
 ·obtain⟨m,x,p1,p2,p3,p4⟩:=q1 n o (eU hl)
  exact⟨m,x,p1,p2,p3,p4⟩
theorem wN.en(L:wN st env ρ fQ){n m:Nat}(h:(n,m)∈ρ):wM env ρ n=env m:=by unfold wM;rw[L.at_ n m h]
theorem wN.ow(L:wN st env ρ fQ){b:Nat}(h:Ow fQ (wM env ρ) b): ∃n m x,(n,m)∈ρ∧look st.hp m=some x∧b∈(env m).fp:=by
 obtain⟨n,o,h1,h2⟩:=h
 obtain⟨m,x,p1,p2,_⟩:=L.back n o h1
 rw[L.en p1]at h2
 exact⟨n,m,x,p1,p2,h2⟩
theorem K2: ∀{ρ:List (Nat×Nat)} {n n' m:Nat},(ρ.map Prod.snd).Nodup→(n,m)∈ρ→(n',m)∈ρ→n=n'
 | (a,b)::r,n,n',m,hnd,h1,h2=>by
   obtain⟨q1,q2⟩:=List.nodup_cons.1 hnd
   rcases List.mem_cons.1 h1 with e1|e1<;>rcases List.mem_cons.1 h2 with e2|e2
   ·rw[Prod.mk.injEq]at e1 e2;rw[e1.1,e2.1]
   ·rw[Prod.mk.injEq]at e1;exact absurd (List.mem_map.2 ⟨_,e2,e1.2⟩) q1
   ·rw[Prod.mk.injEq]at e2;exact absurd (List.mem_map.2 ⟨_,e1,e2.2⟩) q1
   ·exact K2 q2 e1 e2
theorem toF_ok(L:wN st env ρ fQ){v:V}{u:Value}(h:RA w st.hp env v u):RA w fQ (wM env ρ) (v.toF ρ) u:=by
 cases v with
 |lit x=>exact h
 |sl t l=>
  obtain⟨fp,h1,h2⟩:=h
  refine⟨fp,h1,fun b hb ho=>h2 b hb ?_⟩
  obtain⟨n,m,x,_,p2,p3⟩:=L.ow ho
  exact⟨m,x,p2,p3⟩
 |own m=>
  simp only[V.toF]
  split
  ·rename_i n hn
   obtain⟨⟨t,l,hl⟩,hu⟩:=h
   obtain⟨x,p1,p2⟩:=L.obj n m (mo hn)
   rw[hl]at p1
   simp only[Option.some.injEq]at p1
   subst p1
   exact⟨⟨t,l,p2⟩,by rw[L.en (mo hn)];exact hu⟩
  ·trivial
 |ptr m off=>
  simp only[V.toF]
  split
  ·rename_i n hn
   obtain⟨⟨c,hl⟩,hu⟩:=h
   obtain⟨x,p1,p2⟩:=L.obj n m (mo hn)
   rw[hl]at p1
   simp only[Option.some.injEq]at p1
   subst p1
   exact⟨⟨_,p2⟩,by rw[L.en (mo hn)];exact hu⟩
  ·trivial
 |yx f m=>
  simp only[V.toF]
  split
  ·rename_i n hn
   obtain⟨⟨c,hl⟩,hu⟩:=h
   obtain⟨x,p1,p2⟩:=L.obj n m (mo hn)
   rw[hl]at p1
   simp only[Option.some.injEq]at p1
   subst p1
   exact⟨⟨_,p2⟩,by rw[L.en (mo hn)];exact hu⟩
  ·trivial
 |_=>trivial
theorem K3{w:World}{hp iB:Hp}{env env':Env}{n m:Nat}{t:Tag}{l:List (T t)}{co:CO}(hs:soft m=true→soft n=true)(h:RO ty w hp env m (.arr t l) co):RO ty w iB env' n (.arr t l) co:=by
 cases hm:soft m with
 |false=>exact RO.D8 (RO.KN hm h)
 |true=>exact RO.Of (hs hm) (RO.sl h) (RO.own h)
theorem MU(g:Good ty zb st a.tmps w env)(L:wN st env ρ fQ):Hr ty w fQ (wM env ρ):=by
 refine⟨fun n o hl=> ?_,fun n n' o o' hne h1 h2 b hb hb'=> ?_⟩
 ·obtain⟨m,x,p1,p2,rfl,_,p4⟩:=L.back n o hl
  rw[L.en p1]
  have hro:=g.obj m x p2
  cases x with
  |arr t l=>exact K3 p4 hro
  |box c=>
   obtain⟨b,cs,e,h1,h2,h3⟩:=hro
   exact⟨b,cs,e,h1,h2,h3.map fun x y hr=>toF_ok L hr⟩
  |lT t l s=>
   obtain⟨h1,us,hB,h2,_⟩:=hro
   exact⟨h1,us,hB,h2,fun _ _ _ _ _=>trivial⟩
 ·obtain⟨m,x,p1,p2,_⟩:=L.back n o h1
  obtain⟨m',x',p1',p2',_⟩:=L.back n' o' h2
  rw[L.en p1]at hb
  rw[L.en p1']at hb'
  refine g.kj m m' x x' (fun e=> ?_) p2 p2' b hb hb'
  subst e
  exact hne (K2 L.uniq p1 p1')
theorem K4(g:Good ty zb st a.tmps w env)(L:wN st env ρ fQ){tg:Option Tag}{v v':V}{u:Value}(h:RA w st.hp env v u)(hf:R2 st ρ tg v=some v'):RA w fQ (wM env ρ) v' u:=by
 have Wt:(∀n c t l,v≠ .mix n c t l)→(∀n,v≠ .yu n)→(∀m,v.name=some m→inv ρ m=none)→nZ st tg v=some v'→RA w fQ (wM env ρ) v' u:=by
  intro Jd hbw hno hi
  have Wu: ∀{m:Nat} {x:Obj},v.name=some m→look st.hp m=some x→ ∀b,b∈(env m).fp→ ¬Ow fQ (wM env ρ) b:=by
   intro m x hm hl b hb ho
   obtain⟨n,m',x',p1,p2,p3⟩:=L.ow ho
   have hne:m≠m':=by
    rintro rfl
    exact Hs (hno m hm) (List.mem_map.2 ⟨_,p1,rfl⟩)
   exact g.kj m m' x x' hne hl p2 b hb p3
  cases v with
  |sl t l=>
   simp only[nZ,Option.some.injEq]at hi
   subst hi
   exact toF_ok L h
  |own m=>
   simp only[nZ]at hi
   split at hi
   ·rename_i t l hl
    simp only[Option.some.injEq]at hi
    subst hi
    obtain⟨_,hu⟩:=h
    refine⟨(env m).fp,?_,Wu rfl hl⟩
    rw[hu];exact RO.sl (g.obj m _ hl)
   ·cases hi
  |vw m p t l=>
   simp only[nZ,Option.some.injEq]at hi
   subst hi
   obtain⟨⟨tA,lA,hl⟩,⟨fp,hs,_,hsub⟩,_⟩:=h
   exact⟨fp,hs,fun b hb=>Wu rfl hl b (hsub b hb)⟩
  |lit x=>
   unfold nZ at hi
   split at hi
   ·rename_i he;cases he
   ·rename_i he;cases he
   ·rename_i he;cases he
   ·rename_i he;cases he
   ·rename_i he;cases he
   ·rename_i he
    simp only[V.lit.injEq]at he
    subst he
    obtain⟨hu,_⟩:=h
    split at hi
    ·simp only[Option.some.injEq]at hi
     subst hi
     refine⟨[],?_,by simp⟩
     rw[hu]
     exact⟨none,0,rfl,Nat.le_refl _,Nat.zero_le _,Or.inl ⟨rfl,rfl,fun _=>rfl⟩⟩
    ·cases hi
   ·cases hi
   ·rename_i he
    simp only[V.lit.injEq]at he
    subst he
    simp only[Option.some.injEq]at hi
    subst hi
    exact h
   ·cases hi
  |mix n c t l=>exact absurd rfl (Jd n c t l)
  |yu n=>exact absurd rfl (hbw n)
  |_=>simp[nZ]at hi
 unfold R2 at hf
 split at hf
 ·rename_i m hm
  split at hf
  ·rename_i n hn
   have hF:=toF_ok L h
   split at hf
   ·rename_i m'
    simp only[V.name,Option.some.injEq]at hm
    subst hm
    simp only[Option.some.injEq]at hf
    subst hf
    simpa only[V.toF,hn]using hF
   ·rename_i m' off
    simp only[V.name,Option.some.injEq]at hm
    subst hm
    simp only[Option.some.injEq]at hf
    subst hf
    simpa only[V.toF,hn]using hF
   ·rename_i f m'
    simp only[V.name,Option.some.injEq]at hm
    subst hm
    simp only[Option.some.injEq]at hf
    subst hf
    simpa only[V.toF,hn]using hF
   ·cases hf
  ·rename_i hn
   split at hf
   ·cases hf
   ·cases hf
   ·rename_i h1 h2
    exact Wt (fun n c t l e=>h1 n c t l e) (fun n e=>h2 n e) (fun k hk=>by rw[hm]at hk;simp only[Option.some.injEq]at hk;subst hk;exact hn) hf
 ·rename_i hm
  exact Wt (fun n c t l e=>by rw[e]at hm;cases hm) (fun n e=>by rw[e]at hm;cases hm) (fun k hk=>by rw[hm]at hk;cases hk) hf
theorem Ht(g:Good ty zb st a.tmps w env)(L:wN st env ρ fQ): ∀{vs vs':List V} {tg:List (Option Tag)} {us:List Value},bn (RA w st.hp env) vs us→Ho st ρ tg vs=some vs'→bn (RA w fQ (wM env ρ)) vs' us
 | [],vs',tg,us,h,hf=>by
   simp only[Ho,Option.some.injEq]at hf
   subst hf
   cases us with
   |nil=>trivial
   |cons _ _=>exact h.elim
 |v::r,vs',tg,us,h,hf=>by
  cases us with
  |nil=>exact h.elim
  |cons u us=>
   simp only[Ho]at hf
   split at hf
   ·rename_i x y h1 h2
    simp only[Option.some.injEq]at hf
    subst hf
    exact⟨K4 g L h.1 h1,Ht g L h.2 h2⟩
   ·cases hf
theorem Hu(g:Good ty zb st a.tmps w env)(L:wN st env ρ fQ){Γ:Nat→TK}: ∀{xs:List Operand} {ts:List Nat} {as:List S1},Hq Γ st ρ xs ts=some as→bn (fG w fQ (wM env ρ)) as (xs.map a.eval)
 | [],_,as,h=>by
   simp only[Hq,Option.some.injEq]at h
   subst h;trivial
 |x::r,ts,as,h=>by
  simp only[Hq]at h
  split at h
  ·rename_i v hv
   split at h
   ·rename_i y ys h1 h2
    simp only[Option.some.injEq]at h
    subst h
    have hr:=eg g (fun e he=>by simp at he) hv
    refine⟨?_,Hu g L h2⟩
    cases v with
    |a v=>
     simp only[Uv]at h1
     split at h1
     ·rename_i z hz
      simp only[Option.some.injEq]at h1
      subst h1
      exact K4 g L hr hz
     ·cases h1
    |agg l=>
     simp only[Uv]at h1
     split at h1
     ·rename_i z hz
      simp only[Option.some.injEq]at h1
      subst h1
      obtain⟨cs,hu,hl⟩:=hr
      exact⟨cs,hu,Ht g L hl hz⟩
     ·cases h1
   ·cases h
  ·cases h
theorem bn.append{α β:Type}{R:α→β→Prop}: ∀{as as':List α} {bs bs':List β},bn R as bs→bn R as' bs'→bn R (as++as') (bs++bs'):=bn.app
theorem JI(g:Good ty zb st a.tmps w env)(L:wN st env ρ fQ){x:Operand}{xs:Array Operand}{ts:Array TypeId}(ho:o.op= .call ⟨.value x,xs,ts⟩){f:FuncId}{ex:List S1}(h:FF st ρ x=some (f,ex))(hS: ∀(args:Array Value) (w:World),(callFunc f args).run P w= .ok (.enter f args) w):
  ∃us,(execOp a.eval o).run P w= .ok (.enter f (xs.toList.map a.eval++us).toArray) w∧bn (fG w fQ (wM env ρ)) ex us:=by
 have hx:xs.map a.eval=(xs.toList.map a.eval).toArray:=by rw[←List.map_toArray]
 unfold FF at h
 split at h
 ·rename_i f' m hv
  split at h
  ·rename_i n hn
   simp only[Option.some.injEq,Prod.mk.injEq]at h
   obtain⟨rfl,rfl⟩:=h
   have hr:=eg g (fun e he=>by simp at he) hv
   have hA:RA w st.hp env (.yx f' m) (a.eval x):=hr
   obtain⟨⟨c,hl⟩,b,hb,hu⟩:=hA
   refine⟨[.pointer (some ⟨b,0,none⟩)],?_,?_,trivial⟩
   ·unfold execOp
    simp[ho,resolve,invoke,Deferred.ofValue,hu,hS]
    rw[hx];simp
   ·obtain⟨y,p1,p2⟩:=L.obj n m (mo hn)
    rw[hl]at p1
    simp only[Option.some.injEq]at p1
    subst p1
    exact⟨⟨_,p2⟩,b,by rw[L.en (mo hn)];exact hb,rfl⟩
  ·cases h
 ·rename_i v _ hv
  split at h
  ·rename_i f' hf
   simp only[Option.some.injEq,Prod.mk.injEq]at h
   obtain⟨rfl,rfl⟩:=h
   have h0:=KR (eg g (fun e he=>by simp at he) hv) hf
   refine⟨[],?_,trivial⟩
   unfold execOp
   simp[ho,resolve,invoke,Deferred.ofValue,h0,hS]
   exact hx
  ·cases h
 ·cases h
theorem toA_ok{w:World}{eZ OR:Hp}{mJ env':Env}{ρ:List (Nat×Nat)}(hn: ∀n m,look ρ n=some m→ ∀o,look eZ n=some o→(∃o',look OR m=some o'∧o.toA ρ=some o')∧env' m=mJ n){v v':V}{u:Value}(h:RA w eZ mJ v u)(hv:v.toA ρ=some v'):RA w OR env' v' u:=by
 cases v with
 |any=>simp only[V.toA,Option.some.injEq]at hv;subst hv;trivial
 |lit x=>simp only[V.toA,Option.some.injEq]at hv;subst hv;exact h
 |own n=>
  simp only[V.toA]at hv
  split at hv
  ·rename_i m hm
   simp only[Option.some.injEq]at hv
   subst hv
   obtain⟨⟨t,l,hl⟩,hu⟩:=h
   obtain⟨⟨o',q1,q2⟩,q3⟩:=hn n m hm _ hl
   simp only[Obj.toA,Option.some.injEq]at q2
   subst q2
   exact⟨⟨t,l,q1⟩,by rw[q3];exact hu⟩
  ·cases hv
 |ptr n off=>
  simp only[V.toA]at hv
  split at hv
  ·rename_i m hm
   simp only[Option.some.injEq]at hv
   subst hv
   obtain⟨⟨c,hl⟩,hu⟩:=h
   obtain⟨⟨o',q1,q2⟩,q3⟩:=hn n m hm _ hl
   simp only[Obj.toA]at q2
   split at q2
   ·simp only[Option.some.injEq]at q2
    subst q2
    exact⟨⟨_,q1⟩,by rw[q3];exact hu⟩
   ·cases q2
  ·cases hv
 |_=>simp[V.toA]at hv
theorem toAs_ok{w:World}{eZ OR:Hp}{mJ env':Env}{ρ:List (Nat×Nat)}(hn: ∀n m,look ρ n=some m→ ∀o,look eZ n=some o→(∃o',look OR m=some o'∧o.toA ρ=some o')∧env' m=mJ n): ∀{vs vs':List V} {us:List Value},bn (RA w eZ mJ) vs us→toAs ρ vs=some vs'→bn (RA w OR env') vs' us
 | [],vs',us,h,hv=>by
   simp only[toAs,Option.some.injEq]at hv
   subst hv
   cases us with
   |nil=>trivial
   |cons _ _=>exact h.elim
 |v::r,vs',us,h,hv=>by
  cases us with
  |nil=>exact h.elim
  |cons u us=>
   simp only[toAs]at hv
   split at hv
   ·rename_i x y h1 h2
    simp only[Option.some.injEq]at hv
    subst hv
    exact⟨toA_ok hn h.1 h1,toAs_ok hn h.2 h2⟩
   ·cases hv
theorem OS{w:World}{eZ OR:Hp}{mJ env':Env}{ρ:List (Nat×Nat)}(hn: ∀n m,look ρ n=some m→ ∀o,look eZ n=some o→(∃o',look OR m=some o'∧o.toA ρ=some o')∧env' m=mJ n){v v':S1}{u:Value}(h:fG w eZ mJ v u)(hv:v.toA ρ=some v'):fG w OR env' v' u:=by
 cases v with
 |a v=>
  simp only[S1.toA]at hv
  split at hv
  ·rename_i x hx
   simp only[Option.some.injEq]at hv
   subst hv
   exact toA_ok hn h hx
  ·cases hv
 |agg l=>
  simp only[S1.toA]at hv
  split at hv
  ·rename_i x hx
   simp only[Option.some.injEq]at hv
   subst hv
   obtain⟨cs,hu,hl⟩:=h
   exact⟨cs,hu,toAs_ok hn hl hx⟩
  ·cases hv
theorem JJ{w:World}{eZ OR:Hp}{mJ env':Env}{ρ:List (Nat×Nat)}(hn: ∀n m,look ρ n=some m→ ∀o,look eZ n=some o→(∃o',look OR m=some o'∧o.toA ρ=some o')∧env' m=mJ n): ∀{vs vs':List S1} {us:List Value},bn (fG w eZ mJ) vs us→R3 ρ vs=some vs'→bn (fG w OR env') vs' us
 | [],vs',us,h,hv=>by
   simp only[R3,Option.some.injEq]at hv
   subst hv
   cases us with
   |nil=>trivial
   |cons _ _=>exact h.elim
 |v::r,vs',us,h,hv=>by
  cases us with
  |nil=>exact h.elim
  |cons u us=>
   simp only[R3]at hv
   split at hv
   ·rename_i x y h1 h2
    simp only[Option.some.injEq]at hv
    subst hv
    exact⟨OS hn h.1 h1,JJ hn h.2 h2⟩
   ·cases hv
theorem K5{ρ:List (Nat×Nat)}: ∀{vs vs':List S1},R3 ρ vs=some vs'→vs'.length=vs.length
 | [],vs',h=>by simp only[R3,Option.some.injEq]at h;subst h;rfl
 |v::r,vs',h=>by
  simp only[R3]at h
  split at h
  ·rename_i x y h1 h2
   simp only[Option.some.injEq]at h
   subst h
   rw[List.length_cons,List.length_cons,K5 h2]
  ·cases h
theorem R4{Γ:Nat→TK}{cr:List (Nat×CR)}{d:Option Nat}{vc:List Prop}{v:SV}(h:OQ P ty Γ cr st d o.op=some (vc,st',v))(g:Good ty zb st a.tmps w env)(hB:zb.w.heap.size≤w.heap.size)(hA:Fp zb)(hN:D6 w)(hv: ∀q,q∈vc→q):
  (∀k,v.mentions k=false)∧o.wp P a w (fun a' w'=> ∃u env',a'=a.put o.dst u∧Kept zb w w'∧Good ty zb st' a.tmps w' env'∧st'.n=st.n∧oC w' st'.hp env' a.tmps v u) Q:=by
 generalize fK:o.op=op at h
 cases op with
 |call c=>
  obtain⟨callee,xs,ts⟩:=c
  cases callee with
  |value x=>
   simp only[OQ]at h
   split at h
   case h_2=>cases h
   rename_i _ ca cb cc os _ rs _ _
   split at h
   case h_2=>cases h
   rename_i ρ0 ρ1 ns _ _ _
   split at h
   case h_2=>cases h
   rename_i eZ fQ f ex as _ Tl Yy hargs
   split at h
   case h_2=>cases h
   rename_i B Yx Ch A6
   split at h
   case h_2=>cases h
   rename_i Wv
   simp only[Bool.and_eq_true]at Wv
   obtain⟨⟨⟨⟨⟨⟨c1,c2⟩,c3⟩,c4⟩,c5⟩,c6⟩,c7⟩:=Wv
   simp only[Option.some.injEq,Prod.mk.injEq,eo]at h
   obtain⟨rfl,rfl,rfl⟩:=h
   have hS:gZ ty P f fQ (as++ex) eZ rs:=hv _ (List.mem_singleton.2 rfl)
   have OT:=jt c1
   rw[List.map_append]at OT
   have Ww:=(List.nodup_append.1 OT).1
   have L:wN st env ρ0 fQ:=wN.of Tl Ww (jt c2)
   refine⟨fun k=>by split<;>rfl,?_⟩
   have R5: ∀b,b∈wL fQ (wM env ρ0)→ ∃m x,m∈ρ0.map Prod.snd∧look st.hp m=some x∧b∈(env m).fp:=by
    intro b hb
    obtain⟨e,he,DD⟩:=List.mem_flatMap.1 hb
    have Yz:(fQ.map Prod.fst).Nodup:=by rw[yH Tl];exact Ww
    obtain⟨m,x,p1,p2,_⟩:=L.back e.1 e.2 (ey Yz he)
    rw[L.en p1]at DD
    exact⟨m,x,List.mem_map.2 ⟨_,p1,rfl⟩,p2,DD⟩
   have YA: ∀b,b∈wL fQ (wM env ρ0)→b∈zb.L∨zb.w.heap.size≤b:=by
    intro b hb
    obtain⟨m,x,_,p2,p3⟩:=R5 b hb
    exact g.dom m x p2 b p3
   obtain⟨us,hrun,hex⟩:=JI (P:=P) g L fK Yy hS.1
   unfold Oper.wp
   rw[hrun]
   simp only[Oper.upon]
   refine(hS.2 w (wM env ρ0) _ hN (fun b h0 hb=>hA.free (YA b hb) h0) (MU g L) (bn.app (Hu g L hargs) hex)).mono ?_
   rintro e w' ⟨mJ,u,rfl,hK,⟨hG1,hG2⟩,gA,DC,hres⟩
   have Wx: ∀n m,(n,m)∈ρ0→look (ρ0++ρ1) n=some m:=fun n m hm=>ey (by rw[List.map_append];exact OT) (List.mem_append_left _ hm)
   have Uy:=tM c3
   have Wy:=tM c4
   have YB: ∀{n m n':Nat} {o1 o2:Obj},(n,m,o1)∈B→(n',m,o2)∈B→n=n':=by
    intro n m n' o1 o2 h1 h2
    have: ∀{B:List (Nat×Nat×Obj)},((A8 B).map Prod.fst).Nodup→(n,m,o1)∈B→(n',m,o2)∈B→n=n':=by
     intro B
     induction B with
     |nil=>intro _ h;cases h
     |cons x r ih=>
      intro hnd h1 h2
      obtain⟨q1,q2⟩:=List.nodup_cons.1 (show((x.2.1)::(A8 r).map Prod.fst).Nodup from hnd)
      have hin: ∀{k:Nat} {o:Obj},(k,m,o)∈r→m∈(A8 r).map Prod.fst:=fun h=>List.mem_map.2 ⟨(m,_),List.mem_map.2 ⟨_,h,rfl⟩,rfl⟩
      rcases List.mem_cons.1 h1 with e1|e1<;>rcases List.mem_cons.1 h2 with e2|e2
      ·rw[←e1]at e2;simp only[Prod.mk.injEq]at e2;exact e2.1.symm
      ·rw[←e1]at q1;exact absurd (hin e2) q1
      ·rw[←e2]at q1;exact absurd (hin e1) q1
      ·exact ih q2 e1 e2
    exact this Wy h1 h2
   have Wz: ∀{n m:Nat} {o':Obj},(n,m,o')∈B→look (A8 B) m=some o'∧DE B m=some n:=by
    intro n m o' hm
    have h1:look (A8 B) m=some o':=ey Wy (List.mem_map.2 ⟨_,hm,rfl⟩)
    obtain⟨n',h2,h3⟩:=mB h1
    rw[YB hm h2]
    exact⟨h1,h3⟩
   let env':Env:=fun m=>match DE B m with|some n=>mJ n|none=>env m
   have Hv: ∀{n m:Nat} {o':Obj},(n,m,o')∈B→env' m=mJ n:=by
    intro n m o' hm
    show(match DE B m with|some n=>mJ n|none=>env m)=mJ n
    rw[(Wz hm).2]
   have K6: ∀{m:Nat},look (A8 B) m=none→env' m=env m:=by
    intro m hm
    show(match DE B m with|some n=>mJ n|none=>env m)=env m
    rw[En hm]
   have hn: ∀n m,look (ρ0++ρ1) n=some m→ ∀o,look eZ n=some o→(∃o',look (A8 B) m=some o'∧o.toA (ρ0++ρ1)=some o')∧env' m=mJ n:=by
    intro n m hm o hl
    obtain⟨m',o',q1,q2,q3⟩:=Eo Ch n o (eU hl)
    rw[hm]at q2
    simp only[Option.some.injEq]at q2
    subst q2
    exact⟨⟨o',(Wz q1).1,q3⟩,Hv q1⟩
   have hfr:=Er c5
   have hlk: ∀m o,look (A8 B++Cg (ρ0.map Prod.snd) ((ρ0.filter fun e=> !iA e.1).map Prod.snd) st.hp) m=some o→(∃n o1,look (A8 B) m=some o∧look eZ n=some o1∧o1.toA (ρ0++ρ1)=some o∧env' m=mJ n∧(iA m=true→iA n=true)∧(soft n=true→soft m=true))∨(look (A8 B) m=none∧m∉ρ0.map Prod.snd∧ ∃x,look st.hp m=some x∧o=x.bE ((ρ0.filter fun e=> !iA e.1).map Prod.snd) (ρ0.map Prod.snd)∧env' m=env m):=by
    intro m o hm
    cases hq:look (A8 B) m with
    |some o2=>
     rw[bG hq]at hm
     simp only[Option.some.injEq]at hm
     subst hm
     obtain⟨n,h1,_⟩:=mB hq
     obtain⟨o1,p1,p2,p3,p4,p5⟩:=kC Ch n m _ h1
     exact Or.inl ⟨n,o1,rfl,ey Uy p1,p3,Hv h1,p4,p5⟩
    |none=>
     rw[aQ hq,pZ]at hm
     split at hm
     ·cases hm
     ·rename_i hnk
      cases hx:look st.hp m with
      |none=>rw[hx]at hm;cases hm
      |some x=>
       rw[hx]at hm
       simp only[Option.map_some,Option.some.injEq]at hm
       exact Or.inr ⟨rfl,hnk,x,rfl,hm.symm,K6 hq⟩
   have hold: ∀m x,m∉ρ0.map Prod.snd→look st.hp m=some x→look (A8 B) m=none:=by
    intro m x hnk hx
    cases hq:look (A8 B) m with
    |none=>rfl
    |some o2=>
     have:=hfr m o2 hq
     rw[pZ,if_neg hnk,hx]at this
     cases this
   have hst: ∀m x,m∉ρ0.map Prod.snd→look st.hp m=some x→ ∀b,b∈(env m).fp→w'.heap[b]? =w.heap[b]? :=by
    intro m x hnk hx b hb
    refine hK.block b ((g.obj m x hx).uV b hb) fun hL=> ?_
    obtain⟨m',x',p1,p2,p3⟩:=R5 b hL
    exact g.kj m m' x x' (fun e=>hnk (e▸p1)) hx p2 b hb p3
   have hnew: ∀{m n:Nat} {o1:Obj},look eZ n=some o1→ ∀b,b∈(mJ n).fp→b<w.heap.size→ ∃m' x',m'∈ρ0.map Prod.snd∧look st.hp m'=some x'∧b∈(env m').fp:=by
    intro m n o1 hl b hb hlt
    rcases gA n o1 hl b hb with h|h
    ·exact R5 b h
    ·omega
   have s:qH ((ρ0.filter fun e=> !iA e.1).map Prod.snd) (ρ0.map Prod.snd) w st.hp env w' (A8 B++Cg (ρ0.map Prod.snd) ((ρ0.filter fun e=> !iA e.1).map Prod.snd) st.hp) env':=by
    refine⟨fun b hb hno=>hK.block b hb fun hL=> ?_,?_,?_,?_⟩
    ·obtain⟨m,x,_,p2,p3⟩:=R5 b hL
     exact hno ⟨m,x,p2,p3⟩
    ·rintro b hb ⟨m,o',h1,h2⟩
     rcases hlk m o' h1 with⟨n,o1,_,q2,_,q4,_⟩| ⟨_,_,x,q3,_,q5⟩
     ·rw[q4]at h2
      obtain⟨m',x',_,p2,p3⟩:=hnew (m:=m) q2 b h2 hb
      exact⟨m',x',p2,p3⟩
     ·rw[q5]at h2
      exact⟨m,x,q3,h2⟩
    ·intro m o' hks h1
     by_cases hkv:m∈ρ0.map Prod.snd
     ·obtain⟨e,he,rfl⟩:=List.mem_map.1 hkv
      have ZI:iA e.1=true:=by
       cases hp:iA e.1 with
       |true=>rfl
       |false=>exact absurd (List.mem_map.2 ⟨e,List.mem_filter.2 ⟨he,by simp[hp]⟩,rfl⟩) hks
      have GJ:=List.all_eq_true.1 c6 e he
      rw[ZI]at GJ
      simp only[Bool.not_true,Bool.false_or,Bool.and_eq_true]at GJ
      obtain⟨x,p1,p2⟩:=L.obj e.1 e.2 he
      rw[h1]at p1
      simp only[Option.some.injEq]at p1
      subst p1
      rw[p2]at GJ
      cases YC:look eZ e.1 with
      |none=>rw[YC]at GJ;simp[Cf]at GJ
      |some o1=>
       rw[YC]at GJ
       obtain⟨⟨o2,q1,q2⟩,q3⟩:=hn e.1 e.2 (Wx e.1 e.2 he) o1 YC
       refine⟨o2,bG q1,?_,by rw[q3,(DC e.1 ZI).1,L.en he]⟩
       cases o' with
       |arr t l=>simp[Obj.toF,Cf]at GJ
       |lT t l s=>simp[Obj.toF,Cf]at GJ
       |box c=>
        cases o1 with
        |arr t l=>simp[Cf]at GJ
        |lT t l s=>simp[Cf]at GJ
        |box c1=>
         simp only[Obj.toA]at q2
         split at q2
         ·simp only[Option.some.injEq]at q2;subst q2;trivial
         ·cases q2
     ·have hno:=hold m o' hkv h1
      refine⟨o'.bE _ _,by rw[aQ hno,pZ,if_neg hkv,h1];rfl,by cases o'<;>simp[Obj.like,Obj.bE],by rw[K6 hno]⟩
    ·rintro m t' l' ⟨_,hkv⟩ h1
     have hno:=hold m _ hkv h1
     refine⟨by rw[aQ hno,pZ,if_neg hkv,h1];rfl,K6 hno,hst m _ hkv h1⟩
   have OU:=g.iX s (fun m o' hm=> ?_) (fun m m' o1 o2 hne h1 h2 b hb hb'=> ?_) (fun m o' hm b hb=> ?_) (fun m hm=> ?_)
   ·refine⟨u,env',rfl,Kept.Uk hK hB YA,OU,by first|trivial|rfl,?_⟩
    have h1: ∀{hp:Hp},(∀m o,look (A8 B) m=some o→look hp m=some o)→(∀n m,look (ρ0++ρ1) n=some m→ ∀o,look eZ n=some o→(∃o',look hp m=some o'∧o.toA (ρ0++ρ1)=some o')∧env' m=mJ n):=by
     intro hp hh n m hm o hl
     obtain⟨⟨o',p1,p2⟩,p3⟩:=hn n m hm o hl
     exact⟨⟨o',hh m o' p1,p2⟩,p3⟩
    have h2:=h1 (hp:=A8 B++Cg (ρ0.map Prod.snd) ((ρ0.filter fun e=> !iA e.1).map Prod.snd) st.hp) (fun m o hm=>bG hm)
    have hlen:=K5 A6
    match rs,Yx,A6,hres,hlen with
    | [r],[ra],A6,hres,_=>
      simp only[R3]at A6
      split at A6
      ·rename_i x y e1 e2
       simp only[Option.some.injEq,List.cons.injEq]at e2 A6
       obtain⟨rfl,_⟩:=A6
       exact OS h2 hres e1
      ·cases A6
    | [],[],A6,⟨us',hu,hall⟩,_=>exact⟨us',hu,JJ h2 hall A6⟩
    |r1::r2::r,x1::x2::xr,A6,⟨us',hu,hall⟩,_=>exact⟨us',hu,JJ h2 hall A6⟩
    | [],_::_,_,_,hl=>cases hl
    | [_],[],_,_,hl=>cases hl
    | [_],_::_::_,_,_,hl=>simp at hl
    |_::_::_,[],_,_,hl=>simp at hl
    |_::_::_,[_],_,_,hl=>simp at hl
   ·rcases hlk m o' hm with⟨n,o1,q1,q2,q3,q4,_,q6⟩| ⟨q1,q2,x,q3,rfl,q5⟩
    ·rw[q4]
     have hro:=hG1 n o1 q2
     cases o1 with
     |arr t l=>
      simp only[Obj.toA,Option.some.injEq]at q3
      subst q3
      exact K3 q6 hro
     |lT t l s=>cases q3
     |box c=>
      simp only[Obj.toA]at q3
      split at q3
      ·rename_i c' I9
       simp only[Option.some.injEq]at q3
       subst q3
       obtain⟨b,cs,e,h1,h2,h3⟩:=hro
       refine⟨b,cs,e,h1,h2,toAs_ok (eZ:=eZ) (mJ:=mJ) ?_ h3 I9⟩
       intro n m hm o hl
       obtain⟨⟨o',p1,p2⟩,p3⟩:=hn n m hm o hl
       exact⟨⟨o',bG p1,p2⟩,p3⟩
      ·cases q3
    ·rw[q5]
     exact(g.obj m x q3).iX s (hst m x q2 q3)
   ·rcases hlk m o1 h1 with⟨n,p1,q1,q2,q3,q4,_⟩| ⟨q1,q2,x,q3,_,q5⟩<;>rcases hlk m' o2 h2 with⟨n',p1',ZJ,YD,XZ,YE,_⟩| ⟨ZJ,YD,x',XZ,_,ZK⟩
    ·rw[q4]at hb
     rw[YE]at hb'
     obtain⟨k1,k2,k3⟩:=mB q1
     obtain⟨ZL,X0,ZM⟩:=mB ZJ
     have e1:=Hv k2
     have e2:=Hv X0
     have YF:k1≠ZL:=by
      rintro rfl
      obtain⟨_,_,z1,_⟩:=kC Ch _ _ _ k2
      obtain⟨_,_,z2,_⟩:=kC Ch _ _ _ X0
      rw[z1]at z2
      simp only[Option.some.injEq]at z2
      exact hne z2
     rw[q4]at e1
     rw[YE]at e2
     rw[e1]at hb
     rw[e2]at hb'
     obtain⟨y1,z1,_⟩:=kC Ch _ _ _ k2
     obtain⟨y2,z2,_⟩:=kC Ch _ _ _ X0
     exact hG2 k1 ZL y1 y2 YF (ey Uy z1) (ey Uy z2) b hb hb'
    ·rw[q4]at hb
     rw[ZK]at hb'
     have hlt:=(g.obj m' x' XZ).uV b hb'
     obtain⟨k,y,p1,p2,p3⟩:=hnew (m:=m) q2 b hb hlt
     exact g.kj m' k x' y (fun e=>YD (e▸p1)) XZ p2 b hb' p3
    ·rw[q5]at hb
     rw[YE]at hb'
     have hlt:=(g.obj m x q3).uV b hb
     obtain⟨k,y,p1,p2,p3⟩:=hnew (m:=m') YD b hb' hlt
     exact g.kj m k x y (fun e=>q2 (e▸p1)) q3 p2 b hb p3
    ·rw[q5]at hb
     rw[ZK]at hb'
     exact g.kj m m' x x' hne q3 XZ b hb hb'
   ·rcases hlk m o' hm with⟨n,p1,q1,q2,q3,q4,_⟩| ⟨q1,q2,x,q3,_,q5⟩
    ·rw[q4]at hb
     rcases gA n p1 q2 b hb with h|h
     ·exact YA b h
     ·exact Or.inr (by omega)
    ·rw[q5]at hb
     exact g.dom m x q3 b hb
   ·cases hq:look (A8 B) m with
    |none=>rw[K6 hq];exact g.pins m hm
    |some o2=>
     obtain⟨n,h1,_⟩:=mB hq
     obtain⟨_,_,p2,_,p4,_⟩:=kC Ch n m _ h1
     have Wg:=p4 hm
     have hin:(n,m)∈ρ0:=by
      rcases List.mem_append.1 (eU p2)with h|h
      ·exact h
      ·have:=List.all_eq_true.1 c7 _ h
       simp only[hm]at this;cases this
     rw[Hv h1]
     obtain⟨k1,k2⟩:=DC n Wg
     rw[L.en hin]at k1 k2
     obtain⟨j1,j2⟩:=g.pins m hm
     exact⟨k1.trans j1,fun b hb=>j2 b (k2 b hb)⟩
  |_=>simp[OQ]at h
 |_=>simp[OQ]at h
end
end
end Go.Proofs.YtmcgjpdljafkeaaGreat.G
