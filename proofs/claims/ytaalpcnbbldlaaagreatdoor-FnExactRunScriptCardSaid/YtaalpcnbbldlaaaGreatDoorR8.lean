/-
  A function's call, from its entry to its results; objects renamed.
-/
import Derived.Laws.OwnMore
import Derived.Test.YtaalpcnbbldlaaaGreatDoorR7
namespace Go.Proofs.YtaalpcnbbldlaaaGreatDoor.G
set_option linter.all false
open Go.RowKit L D
section
variable{ty:Tag→Nat}
theorem nU: ∀(vs:List Value) (cs:List Value) (o:Nat),o+vs.length≤cs.length→splice (Array.mk cs) o vs=Array.mk (cs.take o++(vs++cs.drop (o+vs.length)))
 | [],cs,o,h=>by simp[splice,List.take_append_drop]
 |v::r,cs,o,h=>by
  simp only[List.length_cons]at h;have e0:cs.set o v=cs.take o++v::cs.drop (o+1):=by
   rw[List.set_eq_take_append_cons_drop,if_pos (by omega)]
  have hl:(cs.take o).length=o:=by rw[List.length_take];omega
  have t1:(cs.take o++v::cs.drop (o+1)).take (o+1)=cs.take o++ [v]:=by
   rw[List.take_append,hl,show o+1-o=1 by omega,List.take_of_length_le (by rw[hl];omega)];rfl
  have t2:(cs.take o++v::cs.drop (o+1)).drop (o+1+r.length)=cs.drop (o+1+r.length):=by
   rw[List.drop_append,hl,show o+1+r.length-o=r.length+1 by omega,List.drop_succ_cons,List.drop_drop,List.drop_eq_nil_of_le (as:=cs.take o) (by rw[hl];omega),List.nil_append]
  rw[splice,List.setIfInBounds_toArray,nU r _ _ (by simp;omega),e0,t1,t2,List.append_assoc,List.length_cons,show o+(r.length+1)=o+1+r.length by omega];rfl
theorem Hv{R:V→Value→Prop}{c c' vs:List V}{cs us:List Value}{off:Nat}(h:bK R c cs)(hv:bK R vs us)(hs:LN c off vs=some c'):off+us.length≤cs.length∧bK R c' (cs.take off++(us++cs.drop (off+us.length))):=by
 unfold LN at hs;split at hs
 ·rename_i hb;have hb:=Nat.le_of_ble_eq_true hb;simp only[oI]at hs;subst hs;have h1:=h.len;have h2:=hv.len;refine⟨by omega,bK.app (h.take off) (bK.app hv ?_)⟩;rw[h2];exact h.drop _
 ·cases hs
theorem qu(off:Nat): ∀(l:List Value) (n:Nat) (c:Array Value),(l.zipIdx n).foldl (fun cs (p:Value×Nat)=>cs.setIfInBounds (off+p.2) p.1) c=splice c (off+n) l
 | [],_,_=>rfl
 |v::r,n,c=>by rw[List.zipIdx_cons,List.foldl_cons,qu off r (n+1)];rfl
def vR:Nat→List Value→List (Nat×Value)
 |_,[]=> []
 |i,v::r=>(i,v)::vR (i+1) r
theorem DL{k:Nat}: ∀(ps:List Value) (i:Nat) (cells:List Value),(∀v,v∈ps→v.cells.size=k)→cells.length=(i+ps.length)*k→
  Instr.fill (fun i=>some (i*k,k)) (Array.mk cells) (vR i ps)=some (Array.mk (cells.take (i*k)++ps.flatMap fun v=>v.cells.toList))
 | [],i,cells,_,h=>by
   rw[vR,Instr.fill,List.take_of_length_le (by rw[h];simp)];simp
 |v::r,i,cells,hk,h=>by
  have hv:=hk v (by simp);have hlen:i*k+k≤cells.length:=by
   rw[h,List.length_cons,show i+(r.length+1)=(i+1)+r.length by omega,Nat.add_mul (i+1),Nat.add_mul i 1,Nat.one_mul];omega
  rw[vR,Instr.fill];simp only[hv,ne_eq,not_true_eq_false,decide_false,Bool.false_or,List.size_toArray];rw[if_neg (by simp;omega)];have RG:(v.cells.zipIdx.foldl (fun cs (x:Value×Nat)=>cs.setIfInBounds (i*k+x.2) x.1) (Array.mk cells))=splice (Array.mk cells) (i*k) v.cells.toList:=by
   rw[←Array.foldl_toList,Array.toList_zipIdx,qu,Nat.add_zero]
  have hsz:v.cells.toList.length=k:=by simpa using hv
  have:=nU v.cells.toList cells (i*k) (by omega);show Instr.fill _ (v.cells.zipIdx.foldl (fun cs (x:Value×Nat)=>cs.setIfInBounds (i*k+x.2) x.1) (Array.mk cells)) _=_
  rw[RG,this,DL r (i+1) _ (fun u hu=>hk u (by simp[hu])) (by
   simp only[List.length_append,List.length_take,List.length_drop,hsz];rw[h,List.length_cons]at*;have:(i+1+r.length)*k=(i+(r.length+1))*k:=by congr 1;omega
   rw[this];omega)]
  have h1:(i+1)*k=i*k+k:=by rw[Nat.add_mul,Nat.one_mul]
  have t:((cells.take (i*k))++(v.cells.toList++cells.drop (i*k+v.cells.toList.length))).take ((i+1)*k)=cells.take (i*k)++v.cells.toList:=by
   rw[←List.append_assoc];exact List.take_left' (by rw[List.length_append,List.length_take,hsz,h1];omega)
  rw[t,List.flatMap_cons,List.append_assoc]
theorem th{k:Nat}: ∀{ps:List (List Value)} {i:Nat} {c:List Value},(∀v,v∈ps→v.length=k)→ps[i]? =some c→(((ps.flatMap id).drop (i*k)).take k)=c
 |p::r,0,c,hk,h=>by
  simp at h;subst h;have:=hk p (by simp);rw[List.flatMap_cons,Nat.zero_mul,List.drop_zero,List.take_append];simp[←this]
 |p::r,i+1,c,hk,h=>by
  have hp:=hk p (by simp);rw[List.flatMap_cons,List.drop_append,show(id p).length=k from hp,List.drop_eq_nil_of_le (by rw[show(id p).length=k from hp,Nat.add_mul];omega),List.nil_append,show(i+1)*k-k=i*k by rw[Nat.add_mul];omega];exact th (fun v hv=>hk v (by simp[hv])) (by simpa using h)
theorem tj{k:Nat}: ∀{ps:List (List Value)},(∀v,v∈ps→v.length=k)→(ps.flatMap id).length=ps.length*k
 | [],_=>by simp
 |p::r,hh=>by
  rw[List.flatMap_cons,List.length_append,tj fun v hv=>hh v (by simp[hv]),show(id p).length=k from hh p (by simp),List.length_cons,Nat.add_mul];omega
section
variable{P:Program}{a:Act}{w:World}{o:Oper}
theorem vl{t len:Nat}{parts:Array (Nat×Operand)}(ho:o.op= .buildSlice t len parts){g:Tag}(hu:P.underlying t=some (.slice (ty g)))(rD:El P ty g)(hbig:len*kk g≤16777216)(hlen:parts.toList.length=len){lo:Nat}(hlo:lo≤w.heap.size)
  {xs:List (T g)}{bX:List (List Nat)}(q1:(parts.toList.map fun p=>(p.1,a.eval p.2))=vR 0 (parts.toList.map fun p=>a.eval p.2))(q2:xs.length=parts.toList.length)(q3:bX.length=xs.length)
  (q4: ∀(i:Nat) (x:T g) (f:List Nat),xs[i]? =some x→bX[i]? =some f→ ∃p:Nat×Operand,parts.toList[i]? =some p∧rd g w (a.eval p.2).cells.toList x f)(q5:Own lo w bX.flatten):
  ∃w',(execOp a.eval o).run P w= .ok (.value (.slice (some ⟨w.heap.size,0,none⟩) len len)) w'∧Below w.heap.size w w'∧iW (kk g) (rd g) lo (ty g) w' (.slice (some ⟨w.heap.size,0,none⟩) len len) xs (w.heap.size::bX.flatten):=by
 have hkp:=gy g;have hcl: ∀v,v∈(parts.toList.map fun p=>a.eval p.2)→v.cells.size=kk g:=by
  intro v hv;obtain⟨i,hi⟩:=List.getElem?_of_mem hv;have hil:i<xs.length:=by have:=(List.getElem?_eq_some_iff.1 hi).1;simp at this;rw[q2];simpa using this
  have hfl:i<bX.length:=by omega
  obtain⟨p,h1,h2⟩:=q4 i xs[i] bX[i] (List.getElem?_eq_getElem hil) (List.getElem?_eq_getElem hfl);rw[List.getElem?_map,h1]at hi;simp at hi;subst hi;simpa using(ep g).len h2
 cases hq:P.info? (ty g)with
 |none=>simp[El,hq]at rD
 |some inf=>
  simp[El,hq]at rD;obtain⟨z1,z2,z3⟩:=rD
  let zs:List Value:=(List.range (len*kk g)).map fun j=>(if len*kk g=0 then #[]else(eT g).cells)[j % (if len*kk g=0 then #[]else(eT g).cells).size]!
  have hzl:zs.length=len*kk g:=by simp[zs]
  have hf:=DL (k:=kk g) (parts.toList.map fun p=>a.eval p.2) 0 zs hcl (by rw[hzl,List.length_map,hlen,Nat.zero_add]);rw[Nat.zero_mul,List.take_zero,List.nil_append]at hf;have hrun:(execOp a.eval o).run P w= .ok (.value (.slice (some ⟨w.heap.size,0,none⟩) len len)) (w.alloc (.cells (Array.mk ((parts.toList.map fun p=>a.eval p.2).flatMap fun v=>v.cells.toList)) (ty g) (0,0))):=by
   unfold execOp;have hpl:(parts.map fun(p:Nat×Operand)=>(p.1,a.eval p.2)).toList=vR 0 (parts.toList.map fun p=>a.eval p.2):=by
    rw[Array.toList_map];exact q1
   have hzs:((Array.range (len*kk g)).map fun j=>(if len*kk g=0 then #[]else(eT g).cells)[j % (if len*kk g=0 then #[]else(eT g).cells).size]!)=Array.mk zs:=by
    simp only[zs];apply Array.ext';simp
   have hze:(sizeOf (ty g)).run P w= .ok (kk g) w:=by simp[sizeOf,typeInfo,hq,z2]
   simp only[ho,Instr.buildSlice,Sem.run_bind,run_underlying hu,Result.andThen_ok,hze];rw[if_neg (by omega)];by_cases hz0:len*kk g=0
   ·simp only[if_pos hz0]at hzs ⊢;simp only[Sem.run_bind,Sem.run_pure,Result.andThen_ok];rw[hzs,hpl,hf];simp[newRow]
   ·have hzv:(zeroValue (ty g)).run P w= .ok (eT g) w:=by simp[zeroValue,typeInfo,hq,z1]
    simp only[if_neg hz0]at hzs ⊢;simp only[Sem.run_bind,hzv,Sem.run_pure,Result.andThen_ok];rw[hzs,hpl,hf];simp[newRow]
  have hps:((parts.toList.map fun p=>a.eval p.2).flatMap fun v=>v.cells.toList)=((parts.toList.map fun p=>(a.eval p.2).cells.toList).flatMap id):=by
   simp[List.flatMap_map]
  have RH: ∀v,v∈(parts.toList.map fun p=>(a.eval p.2).cells.toList)→v.length=kk g:=by
   intro v hv;obtain⟨p,hp,rfl⟩:=List.mem_map.1 hv;simpa using hcl _ (List.mem_map.2 ⟨p,hp,rfl⟩)
  have Gb:=tj RH;rw[List.length_map,hlen]at Gb;have hb0:Below w.heap.size w (w.alloc (.cells (Array.mk ((parts.toList.map fun p=>a.eval p.2).flatMap fun v=>v.cells.toList)) (ty g) (0,0))):=(Below.refl _ _).alloc (Nat.le_refl _) _;have adN:=q5.lt;refine⟨_,hrun,hb0,((parts.toList.map fun p=>a.eval p.2).flatMap fun v=>v.cells.toList),bX,⟨?_,Or.inr ⟨w.heap.size,0,len,Array.mk ((parts.toList.map fun p=>a.eval p.2).flatMap fun v=>v.cells.toList),?_,hlo,?_,?_,?_,?_,?_⟩⟩,q3,?_,rfl,?_⟩
  ·rw[hps,Gb,q2,hlen]
  ·rw[q2,hlen]
  ·exact kI rfl
  ·rw[q2,hlen];exact Nat.le_refl _
  ·unfold maxLen;have:=Nat.le_mul_of_pos_right len hkp;omega
  ·rw[List.size_toArray,hps,Gb];omega
  ·rw[List.drop_zero,List.take_of_length_le];simp only[hps,Gb,q2,hlen];exact Nat.le_refl _
  ·intro i x f hx NO;obtain⟨p,h1,h2⟩:=q4 i x f hx NO;have hkey:(((parts.toList.map fun p=>a.eval p.2).flatMap fun v=>v.cells.toList).drop (i*kk g)).take (kk g)=(a.eval p.2).cells.toList:=by
    rw[hps];exact th RH (by rw[List.getElem?_map,h1];rfl)
   rw[hkey];exact(ep g).below h2 hb0
  ·refine⟨List.nodup_cons.2 ⟨fun hm=>by have:=adN _ hm;omega,q5.nodup⟩,fun b hb=> ?_,fun b hb=> ?_⟩
   ·rcases List.mem_cons.1 hb with rfl|hb
    ·exact hlo
    ·exact q5.ge b hb
   ·rcases List.mem_cons.1 hb with rfl|hb
    ·exact⟨_,_,kI rfl⟩
    ·exact(q5.below hb0).kind b hb
theorem RJ(z:Array Value)(n k i:Nat)(hk:z.size=k)(hi:i<n)(hk0:0<k):(((madeCells z (n*k)).toList.drop (i*k)).take k)=z.toList:=by
 apply List.ext_getElem?;intro j;have h5:i*k+k≤n*k:=by
  have:=Nat.mul_le_mul_right k (show i+1≤n by omega);rw[Nat.add_mul]at this;omega
 by_cases hj:j<k
 ·rw[List.getElem?_take,if_pos hj,List.getElem?_drop];simp only[madeCells,Array.toList_map,Array.toList_range,List.getElem?_map];rw[List.getElem?_range (by omega),hk];simp only[Option.map_some];have hm:(i*k+j)% k=j:=by rw[Nat.mul_comm,Nat.mul_add_mod];exact Nat.mod_eq_of_lt hj
  rw[hm];have:j<z.size:=by omega
  simp[this]
 ·rw[List.getElem?_take,if_neg hj];rw[List.getElem?_eq_none (by simp;omega)]
theorem RL{t:Nat}{x y:Operand}(ho:o.op= .makeSlice t x y){g:Tag}(hu:P.underlying t=some (.slice (ty g)))(rD:El P ty g){k1 k2:IntKind}{n:Int}(hx:a.eval x= .int k1 n)(hy:a.eval y= .int k2 n)(h0:0≤n)(hb:n.toNat*dN g≤140737488355328)(hm:n.toNat≤maxLen):
  ∃w' u fp,(execOp a.eval o).run P w= .ok (.value u) w'∧Below w.heap.size w w'∧iW (kk g) (rd g) w.heap.size (ty g) w' u (List.replicate n.toNat (aG g)) fp:=by
 cases hq:P.info? (ty g)with
 |none=>simp[El,hq]at rD
 |some inf=>
  simp[El,hq]at rD;obtain⟨z1,z2,z3⟩:=rD;obtain⟨w',hr,hrow,hg⟩:=run_make_full (P:=P) w w.heap.size t (ty g) inf (eT g) (kk g) hu hq z1 z2 k1 k2 n.toNat (by rw[z3,Nat.mul_comm];omega) hm (Nat.le_refl _);rw[Int.toNat_of_nonneg h0]at hr;refine⟨w', .slice (some ⟨w.heap.size,0,none⟩) n.toNat n.toNat,[w.heap.size],?_,⟨hg.os,hg.tape,hg.output,hg.size,fun b hb=>hg.block b hb (by simp)⟩,(madeCells (eT g).cells (n.toNat*kk g)).toList,List.replicate n.toNat [],?_,by simp,?_,?_,?_⟩
  ·unfold execOp;simp only[ho,hx,hy,Sem.run_bind,hr,Result.andThen_ok,Sem.run_pure]
  ·rw[List.length_replicate];exact gD.of hrow
  ·intro i v f hi hf;rw[List.getElem?_replicate]at hi hf;split at hi
   ·rename_i hlt;rw[if_pos hlt]at hf;simp only[oI]at hi hf;subst hi;subst hf;rw[RJ _ _ _ _ (mK g) hlt (gy g)];exact VF g
   ·cases hi
  ·simp[Value.ownBlock]
  ·refine⟨by simp,by simp,fun b hb=> ?_⟩;rcases hrow.2 with⟨h,_⟩| ⟨g',cap,cur,h,_,hh,_⟩
   ·cases h
   ·simp only[Value.slice.injEq,oI,Addr.mk.injEq,and_true]at h;rw[List.mem_singleton.1 hb,h.1];exact⟨_,_,hh⟩
end
end
section
variable{ty:Tag→Nat}
section
variable{P:Program}{zb:cD}{st:St}{a:Act}{w:World}{env:Env}{Q:Exit→Act→World→Prop}{o:Oper}
theorem DM{hp:Hp}{env:Env}: ∀{z:List Value},(∀v,v∈z→v.oneCell'=true)→bK (RA w hp env) (z.map V.lit) z
 | [],_=>trivial
 |v::r,h=>⟨⟨rfl,h v (by simp)⟩,DM fun u hu=>h u (by simp[hu])⟩
theorem jE(g:Good ty zb st a.tmps w env){v:V}{u:Value}(h:RA w st.hp env v u)(hv:v≠ .any):u.cells= #[u]:=by
 cases v with
 |any=>exact absurd rfl hv
 |lit x=>obtain⟨rfl,h1⟩:=h;cases u<;>simp_all [Value.cells,Value.oneCell']
 |sl t l=>obtain⟨fp,⟨oa,cap,rfl,_⟩,_⟩:=h;rfl
 |own n=>
  obtain⟨⟨t,l,hl⟩,rfl⟩:=h;obtain⟨oa,cap,h,_⟩:=RO.sl (g.obj n _ hl);rw[h];rfl
 |ptr n off=>obtain⟨_,b,_,rfl⟩:=h;rfl
 |F3 f n=>obtain⟨_,b,_,rfl⟩:=h;rfl
 |Cp k=>obtain⟨oa,cap,rfl,_⟩:=h;rfl
 |raw x=>obtain⟨rfl,h1⟩:=h;cases u<;>simp_all [Value.cells,Value.oneCell']
 |vf v t l=>obtain⟨_,fp,⟨oa,cap,rfl,_⟩,_⟩:=h;rfl
 |rQ n i off=>obtain⟨t,l,_,b,o,len,cap,_,rfl⟩:=h;rfl
 |ip t x off=>obtain⟨b,o,cs,fp,rfl,_⟩:=h;rfl
 |vw n p t l=>obtain⟨_,⟨fp,⟨oa,cap,rfl,_⟩,_⟩,_⟩:=h;rfl
 |Jb n t l=>obtain⟨_,b,fp,⟨oa,cap,rfl,_⟩,_⟩:=h;rfl
 |mix n c t l=>obtain⟨_,⟨fp,⟨oa,cap,rfl,_⟩,_⟩,_⟩:=h;rfl
 |FB n=>
  obtain⟨⟨t,l,s,hl⟩,rfl⟩:=h;rcases RO.FC (g.obj n _ hl)with⟨_,r,lx,_,h,_⟩| ⟨_,_,hv,_,_,⟨oa,cap,h,_⟩,_⟩| ⟨_,_,_,⟨oa,m,cap,h⟩,_⟩| ⟨_,_,us,hB,_⟩
  ·rw[h];rfl
  ·rw[hv,h];rfl
  ·rw[h];rfl
  ·obtain⟨oa,cap,h,_⟩:=hB.sl;rw[h];rfl
 |Ja n p t x off=>obtain⟨_,b,o,cs,fp,rfl,_⟩:=h;rfl
theorem VO{op:BinOp}{k k':IntKind}{x y:Int}{vc:List Prop}{v:Value}(h:VG op k k' x y=some (vc,v))(hv: ∀q,q∈vc→q){t:TypeId}{X Y:Operand}:
  (do eqGuard op t X Y (.int k x) (.int k' y);binOp op t (.int k x) (.int k' y):Sem Value).run P w= .ok v w∧v.oneCell'=true:=by
 have gen:(∀(_: ¬(op= .shl∨op= .shr)),(match decEq k k' with|isTrue _=>bop op k x y|isFalse _=>none)=some (vc,v)→(do eqGuard op t X Y (.int k x) (.int k' y);binOp op t (.int k x) (.int k' y):Sem Value).run P w= .ok v w∧v.oneCell'=true):=by
  intro _ h';clear h;split at h'
  ·rename_i hk _;subst hk;exact YS h' hv
  ·cases h'
 cases op with
 |shl=>
  simp only[VG,oI,pI]at h;obtain⟨rfl,rfl⟩:=h;have hy: ¬y<0:=by have:0≤y:=hv _ (List.mem_singleton.2 rfl);omega
  refine⟨?_,rfl⟩;simp[eqGuard,binOp,Op.shift,hy]
 |shr=>
  simp only[VG,oI,pI]at h;obtain⟨rfl,rfl⟩:=h;have hy: ¬y<0:=by have:0≤y:=hv _ (List.mem_singleton.2 rfl);omega
  refine⟨?_,rfl⟩;simp[eqGuard,binOp,Op.shift,hy]
 |_=>exact gen (by simp) h
theorem VP{op:BinOp}{x y:ByteArray}{vc:List Prop}{v:Value}(h:PL op x y=some (vc,v))(hv: ∀q,q∈vc→q){t:TypeId}{X Y:Operand}:
  (do eqGuard op t X Y (.string x) (.string y);binOp op t (.string x) (.string y):Sem Value).run P w= .ok v w∧v.oneCell'=true:=by
 cases op with
 |add=>
  simp only[PL,oI,pI]at h;obtain⟨rfl,rfl⟩:=h;have hy:((x.size+y.size:Nat):Int)≤IntKind.i64.max:=hv _ (List.mem_singleton.2 rfl);refine⟨?_,rfl⟩;have hy': ¬((x.size+y.size:Nat):Int)>IntKind.i64.max:=by omega
  simp only[eqGuard,binOp,Op.stringOp,if_neg hy'];rfl
 |eql=>
  simp only[PL,oI,pI]at h;obtain⟨rfl,rfl⟩:=h;exact⟨by simp[eqGuard,binOp,Op.stringOp],rfl⟩
 |neq=>
  simp only[PL,oI,pI]at h;obtain⟨rfl,rfl⟩:=h;exact⟨by simp[eqGuard,binOp,Op.stringOp],rfl⟩
 |_=>simp[PL]at h
theorem NP{v:S1}{u:Value}{f:FuncId}(hr:fD w st.hp env v u)(h:VH v=some f):u= .func (.func f) #[] #[]:=by
 unfold VH at h;split at h
 ·simp only[oI]at h;subst h;exact hr.lit
 ·cases h
theorem PU(l:List UInt8):strOfNums (l.map fun n=>(n.toNat:Int))=aX l:=by
 unfold strOfNums aX;congr 2;rw[List.map_map]
 conv=>rhs;rw[←List.map_id l]
 apply List.map_congr_left;intro n _;simp
theorem Ct(ad:Addr)(cap:Nat):(Conv.bytesToString (.slice (some ad) 0 cap)).run P w= .ok (.string (aX [])) w:=by
 have:=run_bytesToString (P:=P) w ad 0 cap [] (by simp[loadCells,loadCellsFrom]);exact this
theorem BX{a b:List (List Nat)}(h:a.Sublist b):a.flatten.Sublist b.flatten:=by
 induction h with
 |slnil=>exact List.Sublist.refl _
 |cons x _ ih=>rw[List.flatten_cons];exact ih.trans (List.sublist_append_right _ _)
 |cons_cons x _ ih=>rw[List.flatten_cons,List.flatten_cons];exact List.Sublist.append (List.Sublist.refl _) ih
theorem AD{t:Nat}{x:Operand}{lo hi:Option Operand}(ho:o.op= .slice t x lo hi none){g:Tag}{e:Nat}(hk:cT P t (.sl g e)){t':Tag}{l:List (T t')}(hkk:kk g=kk t'){fp:List Nat}(hx:Sl (kk t') (rd t') w (a.eval x) l fp){n1 n2:Int}
  (h1:(lo=none∧n1=0)∨ ∃y k,lo=some y∧a.eval y= .int k n1)(h2:(hi=none∧n2=l.length)∨ ∃y k,hi=some y∧a.eval y= .int k n2)(q0:0≤n1)(q1:n1≤n2)(q2:n2≤(l.length:Int)):
  ∃u' gC,(execOp a.eval o).run P w= .ok (.value u') w∧Sl (kk t') (rd t') w u' ((l.take n2.toNat).drop n1.toNat) gC∧gC.Sublist fp:=by
 obtain⟨hu,hs⟩:=hk;obtain⟨oa,cap,hv,hc,hm,h3⟩:=hx;cases hq:P.info? e with
 |none=>simp[hq]at hs
 |some inf=>
  have hsz:inf.size=kk g:=by simpa[hq]using hs
  have hcap:n2≤(cap:Int):=by omega
  have hn2:0≤n2:=by omega
  have Jc:max n2 0=n2:=by omega
  have hlen:((l.take n2.toNat).drop n1.toNat).length=n2.toNat-n1.toNat:=by simp;omega
  have hrun:(Instr.sliceAt t (.slice oa l.length cap) (lo.map a.eval) (hi.map a.eval) none).run P w= .ok (.slice (if cap=n1.toNat then oa else oa.map (·.add (n1.toNat*kk g))) (n2.toNat-n1.toNat) (cap-n1.toNat)) w:=by
   rcases h1 with⟨rfl,rfl⟩| ⟨y1,k1,rfl,e1⟩<;>rcases h2 with⟨rfl,rfl⟩| ⟨y2,k2,rfl,e2⟩
   all_goals simp[Instr.sliceAt,Instr.slice,Instr.sliceBounds,Instr.sliceBound,asIntOf,run_underlying hu,sizeOf,typeInfo,hq,hsz, *]
  have hex:(execOp a.eval o).run P w= .ok (.value (.slice (if cap=n1.toNat then oa else oa.map (·.add (n1.toNat*kk g))) (n2.toNat-n1.toNat) (cap-n1.toNat))) w:=by
   unfold execOp;simp only[ho,hv,Option.map_none,Sem.run_bind,hrun,Result.andThen_ok,Sem.run_pure]
  rcases h3 with⟨rfl,rfl,hn⟩| ⟨b,off,bX,rfl,hb,rfl,hE⟩
  ·have e0:n1=0:=by simp at q2;omega
   have e2:n2=0:=by simp at q2;omega
   subst e0;subst e2;refine⟨_,[],hex,⟨_,_,rfl,by simp,by omega,Or.inl ⟨by simp,rfl,by simp[hn]⟩⟩,List.nil_sublist _⟩
  ·by_cases hcn:cap=n1.toNat
   ·have e0:(l.take n2.toNat).drop n1.toNat= []:=by
     apply List.eq_nil_of_length_eq_zero;omega
    refine⟨_,[],hex,⟨_,_,by rw[hlen],by rw[hlen];omega,by omega,Or.inl ⟨e0,rfl,by omega⟩⟩,List.nil_sublist _⟩
   ·refine⟨_,b::((bX.take n2.toNat).drop n1.toNat).flatten,hex,⟨_,_,by rw[hlen],by rw[hlen];omega,by omega,Or.inr ⟨b,off+n1.toNat*kk t',(bX.take n2.toNat).drop n1.toNat,?_,hb.mono (by rw[Nat.add_assoc, ←Nat.add_mul,Nat.add_sub_cancel' (by omega)];exact Nat.le_refl _),rfl,?_,?_⟩⟩,?_⟩
    ·rw[if_neg hcn,hkk];simp[Addr.add_mid]
    ·have:=hE.1;simp[this]
    ·intro i x f hx hf;rw[List.getElem?_drop,List.getElem?_take]at hx hf;split at hx
     ·rename_i hlt;rw[if_pos hlt]at hf;obtain⟨cs,k1,k2⟩:=hE.2 _ x f hx hf;exact⟨cs,by rw[Nat.add_assoc, ←Nat.add_mul];exact k1,k2⟩
     ·cases hx
    ·exact List.Sublist.cons_cons _ (BX ((List.drop_sublist _ _).trans (List.take_sublist _ _)))
theorem VQ{t:Nat}{x:Operand}{lo hi:Option Operand}(ho:o.op= .slice t x lo hi none){g:Tag}{e:Nat}(hk:cT P t (.sl g e)){oa:Option Addr}{n cap:Nat}(hv:a.eval x= .slice oa n cap){n1 n2:Int}
  (h1:(lo=none∧n1=0)∨ ∃y k,lo=some y∧a.eval y= .int k n1)(h2:(hi=none∧n2=(n:Int))∨ ∃y k,hi=some y∧a.eval y= .int k n2)(q0:0≤n1)(q1:n1≤n2)(q2:n2≤(n:Int))(q3:n≤cap):
  (execOp a.eval o).run P w= .ok (.value (pcv oa cap (kk g) n1.toNat n2.toNat)) w:=by
 obtain⟨hu,hs⟩:=hk;cases hq:P.info? e with
 |none=>simp[hq]at hs
 |some inf=>
  have hsz:inf.size=kk g:=by simpa[hq]using hs
  have hcap:n2≤(cap:Int):=by omega
  have hn2:0≤n2:=by omega
  have Jc:max n2 0=n2:=by omega
  have hrun:(Instr.sliceAt t (.slice oa n cap) (lo.map a.eval) (hi.map a.eval) none).run P w= .ok (pcv oa cap (kk g) n1.toNat n2.toNat) w:=by
   rcases h1 with⟨rfl,rfl⟩| ⟨y1,k1,rfl,e1⟩<;>rcases h2 with⟨rfl,rfl⟩| ⟨y2,k2,rfl,e2⟩
   all_goals simp[Instr.sliceAt,Instr.slice,Instr.sliceBounds,Instr.sliceBound,asIntOf,run_underlying hu,sizeOf,typeInfo,hq,hsz,pcv, *]
  unfold execOp;simp only[ho,hv,Option.map_none,Sem.run_bind,hrun,Result.andThen_ok,Sem.run_pure]
theorem Jx{t:Nat}{x:Operand}{lo:Option Operand}(ho:o.op= .slice t x lo none none){g:Tag}{e:Nat}(hk:cT P t (.sl g e)){oa:Option Addr}{n cap:Nat}(hv:a.eval x= .slice oa n cap)(hc:n≤cap){n1:Int}
  (h1:(lo=none∧n1=0)∨ ∃y k,lo=some y∧a.eval y= .int k n1)(hn:n1=(n:Int)):
  ∃XQ,(execOp a.eval o).run P w= .ok (.value (.slice XQ 0 (cap-n))) w∧(XQ=none→oa=none):=by
 obtain⟨hu,hs⟩:=hk;cases hq:P.info? e with
 |none=>simp[hq]at hs
 |some inf=>
  have hsz:inf.size=kk g:=by simpa[hq]using hs
  subst hn;have Jc:max (n:Int) 0=n:=by omega
  refine⟨if cap=n then oa else oa.map (·.add (n*kk g)),?_,fun h=> ?_⟩
  ·have hrun:(Instr.sliceAt t (.slice oa n cap) (lo.map a.eval) none none).run P w= .ok (.slice (if cap=n then oa else oa.map (·.add (n*kk g))) 0 (cap-n)) w:=by
    have h0:(n:Int)≤(cap:Int):=by omega
    rcases h1 with⟨rfl,e1⟩| ⟨y1,k1,rfl,e1⟩
    ·have:n=0:=by omega
     subst this;simp[Instr.sliceAt,Instr.slice,Instr.sliceBounds,Instr.sliceBound,asIntOf,run_underlying hu,sizeOf,typeInfo,hq,hsz]
    ·simp[Instr.sliceAt,Instr.slice,Instr.sliceBounds,Instr.sliceBound,asIntOf,run_underlying hu,sizeOf,typeInfo,hq,hsz, *]
   unfold execOp;simp only[ho,hv,Option.map_none,Sem.run_bind,hrun,Result.andThen_ok,Sem.run_pure]
  ·split at h
   ·exact h
   ·simpa using h
theorem cq.at{w:World}: ∀{c:List V} {cs:List Value} {f:List Nat} {i:Nat} {v:V},cq w c cs f→yp c i=some v→ ∃u f',cs[i]? =some u∧RI w v u f'∧f'.Sublist f
 |x::r,u::us,_,0,v,⟨f1,f2,h1,_,rfl⟩,h=>by
  simp only[yp,oI]at h;subst h;exact⟨u,f1,rfl,h1,List.sublist_append_left _ _⟩
 |x::r,u::us,_,i+1,v,⟨f1,f2,_,h2,rfl⟩,h=>by
  obtain⟨u',f',k1,k2,k3⟩:=cq.at h2 (show yp r i=some v from h);exact⟨u',f',by simpa using k1,k2,k3.trans (List.sublist_append_right _ _)⟩
 | [],_,_,_,_,_,h=>by simp[yp]at h
 |_::_,[],_,_,_,h,_=>h.elim
theorem DN(g:Good ty zb st a.tmps w env){n:Nat}{t:Tag}{l:List (T t)}(hl:look st.hp n=some (.arr t l)){i:Nat}(hi:i<l.length):
  ∃b o cap cs f,(env n).v= .slice (some ⟨b,o,none⟩) l.length cap∧b∈(env n).fp∧w.rangeAt b (o+i*kk t) cs∧rd t w cs (l.getD i (aG t)) f∧f.Sublist (env n).fp:=by
 obtain⟨oa,cap,hv,_,_,h3⟩:=RO.sl (g.obj n _ hl);rcases h3 with⟨rfl,_⟩| ⟨b,o,bX,rfl,hb,jf,he⟩
 ·simp at hi
 ·have hx:l[i]? =some (l.getD i (aG t)):=by rw[List.getD_eq_getElem?_getD,List.getElem?_eq_getElem hi];rfl
  obtain⟨f,hf⟩:=fG he.1 hx;obtain⟨cs,hr,hE⟩:=he.2 _ _ f hx hf;exact⟨b,o,cap,cs,f,hv,by rw[jf];simp,hr,hE,by rw[jf];exact(List.sublist_flatten_of_mem (List.mem_of_getElem? hf)).trans (List.sublist_cons_self _ _)⟩
theorem Hw{hp:Hp}{n:Nat}{t0:Tag}{l0:List (T t0)}(hl:look hp n=some (.arr t0 l0)){p:Option (Nat×Nat)}{v:V}{u:Value}{f:List Nat}(h:RI w v u f)(hnd:f.Nodup)(hf: ∀b,b∈f→b∈(env n).fp)
  (hp': ∀i off,p=some (i,off)→ ∃b o len cap,i<l0.length∧yp (dec t0 (l0.getD i (aG t0))) off=some v∧(env n).v= .slice (some ⟨b,o,none⟩) len cap∧b∈(env n).fp∧w.cell? ⟨b,o+i*kk t0+off,none⟩=some u):RA w hp env (bor n p v) u:=by
 cases v with
 |sl t l=>
  refine⟨⟨t0,l0,hl⟩,⟨f,h,hnd,hf⟩,fun i off YT=> ?_⟩;obtain⟨b,o,len,cap,h1,h2,h3,h4,h5⟩:=hp' i off YT;exact⟨t0,l0,b,o,len,cap,hl,h1,h2,h3,h4,h5⟩
 |lit x=>exact⟨h.1,h.2.1⟩
 |_=>trivial
theorem NQ{hp:Hp}{n:Nat}{t0:Tag}{l0:List (T t0)}(hl:look hp n=some (.arr t0 l0)){i:Nat}(hi:i<l0.length){b o len cap:Nat}(hv:(env n).v= .slice (some ⟨b,o,none⟩) len cap)(hb:b∈(env n).fp):
  ∀{c:List V} {us:List Value} {f:List Nat} {k:Nat},cq w c us f→f.Nodup→(∀x,x∈f→x∈(env n).fp)→(∀j v,c[j]? =some v→yp (dec t0 (l0.getD i (aG t0))) (k+j)=some v)→w.rangeAt b (o+i*kk t0+k) us→bK (RA w hp env) (YN n i k c) us
 | [],[],_,_,_,_,_,_,_=>trivial
 |v::r,u::us,_,k,⟨f1,f2,h1,h2,rfl⟩,hnd,hf,hc,hr=>by
  obtain⟨hn1,hn2,_⟩:=List.nodup_append.1 hnd;refine⟨Hw hl h1 hn1 (fun x hx=>hf x (List.mem_append_left _ hx)) ?_,NQ hl hi hv hb h2 hn2 (fun x hx=>hf x (List.mem_append_right _ hx)) ?_ ?_⟩
  ·rintro i' off' YT;simp only[oI,pI]at YT;obtain⟨rfl,rfl⟩:=YT;exact⟨b,o,len,cap,hi,hc 0 v rfl,hv,hb,by have:=hr 0 u rfl;simpa using this⟩
  ·intro j v' hj;have:=hc (j+1) v' (by simpa using hj)
   rwa [show k+(j+1)=k+1+j by omega]at this
  ·intro j v' hj;have:=hr (j+1) v' (by simpa using hj)
   rwa [show o+i*kk t0+k+(j+1)=o+i*kk t0+(k+1)+j by omega]at this
 | [],_::_,_,_,h,_,_,_,_=>h.elim
 |_::_,[],_,_,h,_,_,_,_=>h.elim
theorem NR{hp:Hp}{n:Nat}{t0:Tag}{l0:List (T t0)}(hl:look hp n=some (.arr t0 l0)):
  ∀{c:List V} {us:List Value} {f:List Nat},cq w c us f→f.Nodup→(∀x,x∈f→x∈(env n).fp)→bK (RA w hp env) (YO n c) us
 | [],[],_,_,_,_=>trivial
 |v::r,u::us,_,⟨f1,f2,h1,h2,rfl⟩,hnd,hf=>
  ⟨Hw hl h1 (List.nodup_append.1 hnd).1 (fun x hx=>hf x (List.mem_append_left _ hx)) (by simp),NR hl h2 (List.nodup_append.1 hnd).2.1 (fun x hx=>hf x (List.mem_append_right _ hx))⟩
 | [],_::_,_,h,_,_=>h.elim
 |_::_,[],_,h,_,_=>h.elim
theorem C3: ∀{l:List V} {i:Nat},yp l i=l[i]?
 | [],_=>by simp[yp]
 |_::_,0=>rfl
 |_::r,i+1=>by rw[yp,C3 (l:=r)];simp
theorem cq.sub{w:World}{c d:List V}{cs:List Value}{f:List Nat}{off k:Nat}(h:cq w c cs f)(hs:sub c off k=some d): ∃f',cq w d ((cs.drop off).take k) f'∧f'.Sublist f∧d=(c.drop off).take k∧((cs.drop off).take k).length=k:=by
 have drop: ∀(n:Nat) {c:List V} {cs:List Value} {f:List Nat},cq w c cs f→ ∃f',cq w (c.drop n) (cs.drop n) f'∧f'.Sublist f:=by
  intro n;induction n with
  |zero=>intro c cs f h;exact⟨f,by simpa using h,List.Sublist.refl _⟩
  |succ n ih=>
   intro c cs f h;cases c with
   |nil=>cases cs with
    |nil=>exact⟨f,by simpa using h,List.Sublist.refl _⟩
    |cons _ _=>exact h.elim
   |cons v r=>cases cs with
    |nil=>exact h.elim
    |cons u us=>
     obtain⟨f1,f2,_,h2,rfl⟩:=h;obtain⟨f',k1,k2⟩:=ih h2;exact⟨f',by simpa using k1,k2.trans (List.sublist_append_right _ _)⟩
 have take: ∀(n:Nat) {c:List V} {cs:List Value} {f:List Nat},cq w c cs f→ ∃f',cq w (c.take n) (cs.take n) f'∧f'.Sublist f:=by
  intro n;induction n with
  |zero=>intro c cs f h;exact⟨[],by simp[cq],List.nil_sublist _⟩
  |succ n ih=>
   intro c cs f h;cases c with
   |nil=>cases cs with
    |nil=>exact⟨f,by simpa using h,List.Sublist.refl _⟩
    |cons _ _=>exact h.elim
   |cons v r=>cases cs with
    |nil=>exact h.elim
    |cons u us=>
     obtain⟨f1,f2,h1,h2,rfl⟩:=h;obtain⟨f',k1,k2⟩:=ih h2;exact⟨f1++f',⟨f1,f',h1,k1,rfl⟩,List.Sublist.append (List.Sublist.refl _) k2⟩
 unfold G.sub at hs;split at hs
 ·rename_i hb;have hb:=Nat.le_of_ble_eq_true hb;simp only[oI]at hs;obtain⟨f1,h1,h2⟩:=drop off h;obtain⟨f2,h3,h4⟩:=take k h1;refine⟨f2,by rw[←hs];exact h3,h4.trans h2,hs.symm,?_⟩;have:=h.len;rw[List.length_take,List.length_drop];omega
 ·cases hs
theorem VR{n:Nat}{p:Option (Nat×Nat)}{t:Tag}{l:List (T t)}{u:Value}{k:Int}(h:RA w st.hp env (.vw n p t l) u)(h0:0≤k)(h1:k<l.length):
  ∃b off len cap,u= .slice (some ⟨b,off,none⟩) len cap∧k<len∧RA w st.hp env (.Ja n (YP p k.toNat) t (l.getD k.toNat (aG t)) 0) (.pointer (some ⟨b,off+k.toNat*kk t,none⟩)):=by
 have hRV:RV w st.hp env n p t l u:=h;obtain⟨hA,⟨fp,⟨oa,cap,rfl,hc,hm,h3⟩,hnd,hd⟩,_⟩:=h;have hn:k.toNat<l.length:=by omega
 rcases h3 with⟨rfl,_⟩| ⟨b,off,bX,rfl,hb,rfl,he⟩
 ·simp at hn
 ·have hx:l[k.toNat]? =some (l.getD k.toNat (aG t)):=by rw[List.getD_eq_getElem?_getD,List.getElem?_eq_getElem hn];rfl
  obtain⟨f,hf⟩:=fG he.1 hx;obtain⟨cs,hr,hE⟩:=he.2 _ _ f hx hf;refine⟨b,off,l.length,cap,rfl,h1,hA,b,off+k.toNat*kk t,cs,f,rfl,hd b (by simp),hr,hE,((List.sublist_flatten_of_mem (List.mem_of_getElem? hf)).trans (List.sublist_cons_self _ _)).nodup hnd,fun c hc=>hd c (List.mem_cons_of_mem _ (cI hf hc)),fun i o2 j hp=> ?_⟩;cases p with
  |none=>cases hp
  |some ab=>
   obtain⟨a1,b1⟩:=ab;simp only[YP,oI,pI]at hp;obtain⟨rfl,rfl,rfl⟩:=hp;exact⟨l,_,b,off,l.length,cap,hRV,hn,rfl,rfl,rfl⟩
theorem Hy{t:Nat}{x:Operand}{lo hi:Option Operand}(ho:o.op= .slice t x lo hi none)(hu:P.underlying t=some .string){s:ByteArray}(hv:a.eval x= .string s){n1 n2:Int}
  (h1:(lo=none∧n1=0)∨ ∃y k,lo=some y∧a.eval y= .int k n1)(h2:(hi=none∧n2=s.size)∨ ∃y k,hi=some y∧a.eval y= .int k n2)(q0:0≤n1)(q1:n1≤n2)(q2:n2≤(s.size:Int)):
  o.wp P a w (AA ty st a w env o.dst (.one (.a (.lit (.string (s.extract n1.toNat n2.toNat))))) []) Q:=by
 have hn2:0≤n2:=by omega
 have Jc:max n2 0=n2:=by omega
 have hrun:(Instr.sliceAt t (.string s) (lo.map a.eval) (hi.map a.eval) none).run P w= .ok (.string (s.extract n1.toNat n2.toNat)) w:=by
  rcases h1 with⟨rfl,rfl⟩| ⟨y1,k1,rfl,e1⟩<;>rcases h2 with⟨rfl,rfl⟩| ⟨y2,k2,rfl,e2⟩
  all_goals simp[Instr.sliceAt,Instr.slice,Instr.sliceBounds,Instr.sliceBound,asIntOf,run_underlying hu, *]
 refine dx (u:= .string (s.extract n1.toNat n2.toNat)) ?_ ⟨rfl,rfl⟩;unfold execOp;simp only[ho,hv,Option.map_none,Sem.run_bind,hrun,Result.andThen_ok,Sem.run_pure]
theorem PV(g:Good ty zb st a.tmps w env){v:V}{u:Value}(hr:fD w st.hp env (.a v) u){l:List UInt8}(hl:bytesOf st v=some l){s e t:Nat}(hs:P.underlying s=some (.slice e))(he:P.underlying e=some (.int .u8))(ht:P.underlying t=some .string):
  (convert s t u).run P w= .ok (.string (aX l)) w:=by
 have key: ∀{b off len cap:Nat},len=l.length→(∀i x,l[i]? =some x→w.cell? ⟨b,off+i,none⟩=some (.int .u8 x.toNat))→(convert s t (.slice (some ⟨b,off,none⟩) len cap)).run P w= .ok (.string (aX l)) w:=by
  intro b off len cap hlen hc;rw[run_convert_bytes_arg w s e hs he b off len cap (l.map fun n=>(n.toNat:Int)) (by simp[hlen]) (fun i hi=> ?_) t ht,PU];have hi2:i<l.length:=by omega
  rw[hc i _ (List.getElem?_eq_getElem hi2),List.getD_eq_getElem?_getD,List.getElem?_map,List.getElem?_eq_getElem hi2];rfl
 have nil: ∀{c:Nat},(convert s t (.slice none 0 c)).run P w= .ok (.string (aX [])) w:=by
  intro c;rw[run_convert_bytes_nil w s e hs he 0 c t ht];rfl
 have sl: ∀{fp:List Nat},Sl 1 NB w u l fp→(convert s t u).run P w= .ok (.string (aX l)) w:=by
  rintro fp ⟨oa,cap,rfl,_,_,h3⟩;rcases h3 with⟨rfl,_,_⟩| ⟨b,off,bX,rfl,_,_,hE⟩
  ·cases oa with
   |none=>exact nil
   |some ad=>
    rw[run_convert_bytes_string w s t e _ _ _ hs he ht];exact Ct ad cap
  ·refine key rfl fun i x hx=> ?_;obtain⟨f,hf⟩:=fG hE.1 hx;obtain⟨cs,q1,rfl,_⟩:=hE.2 i x f hx hf;have:=q1 0 _ rfl;simpa using this
 unfold bytesOf at hl;split at hl
 ·simp only[oI]at hl;subst hl;obtain⟨fp,h,_⟩:=hr;exact sl h
 ·rename_i n;split at hl
  ·rename_i l' hlk;simp only[oI]at hl;subst hl;obtain⟨_,hu⟩:=hr;have hb:Sl 1 NB w (env n).v l' (env n).fp:=RO.sl (g.obj n _ hlk);rw[←show u=(env n).v from hu]at hb;exact sl hb
  ·cases hl
 ·simp only[oI]at hl;subst hl;obtain⟨_,⟨fp,h,_⟩,_⟩:=hr;exact sl h
 ·simp only[oI]at hl;subst hl;have hu:=(show fD w st.hp env (.a (.lit DE)) u from hr).lit;rw[hu];exact nil
 ·cases hl
theorem jS{p:List (Nat×Bool)}(hop: ∀{x v},gQ st p x=some v→fD w st.hp env v (a.eval x)){z n:Int}{b:Option Operand}(h:Hr st p z b=some n):(b=none∧n=z)∨ ∃x k,b=some x∧a.eval x= .int k n:=by
 cases b with
 |none=>simp only[Hr,oI]at h;exact Or.inl ⟨rfl,h.symm⟩
 |some x=>
  simp only[Hr]at h;split at h
  ·rename_i k i hx;simp only[oI]at h;subst h;exact Or.inr ⟨x,k,rfl,(hop hx).lit⟩
  ·cases h
theorem Gc{m:Nat}{t:Tag}{l:List (T t)}{w':World}{u:Value}{fp:List Nat}(hr:(execOp a.eval o).run P w= .ok (.value u) w')(hb:Below w.heap.size w w')(hB:iW (kk t) (rd t) w.heap.size (ty t) w' u l fp):
  o.wp P a w (AA ty st a w env o.dst (.one (.a (.own m))) [(m, .arr t l)]) Q:=by
 unfold Oper.wp;rw[hr];obtain⟨env',hN,hl⟩:=kL.list (ty:=ty) (hp:=st.hp) (env:=env) (os:= [(m, .arr t l)]) (ce:= [⟨u,fp⟩]) hb (by simp[kJ,look]) ⟨⟨fun _ _=>RO.F7 (iW.mono hB (Nat.zero_le _)),(iW.own hB).ge⟩,trivial⟩ (by simpa using(iW.own hB).nodup);have h2:env' m=⟨u,fp⟩:=hl.1.2;exact⟨u,env',rfl,hN,⟨t,l,look_eq⟩,by rw[h2]⟩
theorem yy{α:Type}{k:Nat}{E:ER α}(G:fN k E)(hk:0<k){w:World}{u:Value}{l:List α}{fp:List Nat}(h:Sl k E w u l fp):
  ∃(news:List Value) (fx:List (List Nat)),Src w u l.length news∧fx.length=l.length∧news.length=l.length*k∧(∀i x f,l[i]? =some x→fx[i]? =some f→E w ((news.drop (i*k)).take k) x f)∧fx.flatten.Sublist fp∧ ∀b r,fp=b::r→fx.flatten=r:=by
 obtain⟨oa,cap,rfl,hc,hm,h3⟩:=h;rcases h3 with⟨rfl,rfl,hno⟩| ⟨b,off,bX,rfl,hb,rfl,he⟩
 ·refine⟨[],[],?_,rfl,by simp,by simp,by simp,fun b r h=>by cases h⟩;cases oa with
  |none=>exact Or.inl ⟨by simp[hno],rfl,rfl⟩
  |some a=>exact Or.inr ⟨a,cap,rfl,by simp⟩
 ·have hcell: ∀j,j<l.length*k→ ∃v,w.cell? ⟨b,off+j,none⟩=some v:=by
   intro j hj;have hi:j/k<l.length:=Nat.div_lt_of_lt_mul (by rw[Nat.mul_comm];omega);obtain⟨f,hf⟩:=fG he.1 (List.getElem?_eq_getElem hi);obtain⟨cs,hr,hE⟩:=he.2 _ _ f (List.getElem?_eq_getElem hi) hf;have hl:=G.len hE;have hml:=Nat.mod_lt j hk;have:=hr (j % k) cs[j % k] (List.getElem?_eq_getElem (by omega));refine⟨cs[j % k]'(by omega),?_⟩;rw[←this];congr 2;have:=Nat.div_add_mod j k;have:=Nat.mul_comm k (j/k);omega
  refine⟨(List.range (l.length*k)).map fun j=>(w.cell? ⟨b,off+j,none⟩).getD undef,bX,Or.inr ⟨_,cap,rfl,?_⟩,he.1,by simp,?_,List.sublist_cons_self _ _,fun b r h=>by cases h;rfl⟩
  ·intro j u hu;have hj:j<l.length*k:=by have:=(List.getElem?_eq_some_iff.1 hu).1;simpa using this
   obtain⟨v,hv⟩:=hcell j hj;simp[hj,hv]at hu;rw[Addr.add_mid,hv,hu]
  ·intro i x f hx hf;obtain⟨cs,hr,hE⟩:=he.2 i x f hx hf;have hl:=G.len hE;have hi:i<l.length:=(List.getElem?_eq_some_iff.1 hx).1;have h5:i*k+k≤l.length*k:=by
    have:=Nat.mul_le_mul_right k (show i+1≤l.length by omega);rw[Nat.add_mul]at this;omega
   have:(((List.range (l.length*k)).map fun j=>(w.cell? ⟨b,off+j,none⟩).getD undef).drop (i*k)).take k=cs:=by
    apply List.ext_getElem?;intro j;by_cases hj:j<k
    ·rw[List.getElem?_take,if_pos hj,List.getElem?_drop];have h6:=hr j cs[j] (List.getElem?_eq_getElem (by omega));rw[List.getElem?_map,List.getElem?_range (by omega)];simp[←Nat.add_assoc,h6,show j<cs.length by omega]
    ·rw[List.getElem?_take,if_neg hj,List.getElem?_eq_none (by omega)]
   rw[this];exact hE
theorem VS{α:Type}{k:Nat}{E:ER α}(G:fN k E)(hk:0<k){w:World}{l:List α}{news:List Value}{fx:List (List Nat)}(hf:fx.length=l.length)(hl:news.length=l.length*k)
  (hE: ∀i x f,l[i]? =some x→fx[i]? =some f→E w ((news.drop (i*k)).take k) x f): ∀u,u∈news→u.oneCell'=true:=yf G hf hl hk hE
theorem VT{P:Program}{w:World}{t ty' e:TypeId}{z:Value}{k bytes:Nat}(ht:P.underlying t=some (.slice e))(Q4:(P.info? e).map (fun i=>(i.zero,i.size,i.bytes))=some (some z,k,bytes))(hzs:z.cells.size=k)(hk:0<k)
  {n:Nat}{oa:Option Addr}{olds:List Value}(hsx:Src w (.slice oa n n) n olds)(hlo:olds.length=n*k)
  {m:Nat}{y:Value}{news:List Value}(hsy:Src w y m news)(hl:news.length=m*k)(h1: ∀u,u∈news→u.oneCell'=true)(b1:n+m≤maxLen)(b2:(n+m)*bytes≤140737488355328):
  ∃v' w',(Builtin.append_ #[t,t] ty' #[.slice oa n n,y]).run P w= .ok v' w'∧((m=0∧v'= .slice oa n n∧w'=w)∨(w'.ownsRow w.heap.size e k v' (n+m) (olds++news)∧w.grownBy w' none)):=by
 obtain⟨i,hi,hz,hsize,hby⟩:=info_parts Q4;rcases hsy with⟨rfl,rfl,rfl⟩| ⟨a,c,rfl,hnews⟩
 ·refine⟨.slice oa n n,w,?_,Or.inl ⟨rfl,rfl,rfl⟩⟩;cases oa with
  |none=>simp[Builtin.append_,run_underlying ht,sizeOf,typeInfo,hi,Builtin.lenOf,Builtin.firstCells,storeCells]
  |some b=>simp[Builtin.append_,run_underlying ht,sizeOf,typeInfo,hi,Builtin.lenOf,Builtin.firstCells,storeCells]
 ·by_cases hm:m=0
  ·subst hm;have hn0:news= []:=List.eq_nil_of_length_eq_zero (by omega);subst hn0;refine⟨.slice oa n n,w,?_,Or.inl ⟨rfl,rfl,rfl⟩⟩;have hfc:=run_firstCells_some (P:=P) w i.size 0 a 0 c [] (by simp) (by simp);cases oa with
   |none=>simp[Builtin.append_,run_underlying ht,sizeOf,typeInfo,hi,Builtin.lenOf,hfc]
   |some b=>simp[Builtin.append_,run_underlying ht,sizeOf,typeInfo,hi,Builtin.lenOf,hfc,storeCells]
  ·rcases hsx with⟨hx,rfl,rfl⟩| ⟨b,cb,hx,holds⟩
   ·simp only[Value.slice.injEq]at hx;obtain⟨rfl,_⟩:=hx;obtain⟨v',w',hrun,r1,r2,_⟩:=run_append_own (P:=P) w w.heap.size t ty' e i z k bytes ht hi hz hsize hby hzs hk (.slice none 0 0) 0 [] (World.ownsRow_nil w _ e k) a m c news hl hnews h1 b1 b2 (Nat.le_refl _);exact⟨v',w',hrun,Or.inr ⟨r1,r2⟩⟩
   ·simp only[Value.slice.injEq]at hx;obtain⟨rfl,_,rfl⟩:=hx;obtain⟨v',w',hrun,r1,r2⟩:=run_append_arg_grows (P:=P) w t ty' e i z k bytes ht hi hz hsize hby hzs hk b n n olds hlo holds a m c news hl hnews (by omega) b1 b2;exact⟨v',w',hrun,Or.inr ⟨r1,r2⟩⟩
theorem YU{α:Type}{k:Nat}{E:ER α}{w:World}{oa:Option Addr}{cap:Nat}{l:List α}{fp:List Nat}(h:Sl k E w (.slice oa l.length cap) l fp){j q:Nat}(hj:j≤l.length)(hq:q=0):
  ∃gC,Sl k E w (.slice (if j=0 then oa else oa.map (·.add q)) j j) (l.take j) gC∧ ∀b,b∈gC→b∈fp:=by
 subst hq;obtain⟨XQ,cap',hu,hc,hm,h3⟩:=h;simp only[Value.slice.injEq,true_and]at hu;obtain⟨rfl,rfl⟩:=hu;have hlen:(l.take j).length=j:=by rw[List.length_take];omega
 by_cases h0:j=0
 ·subst h0;refine⟨[],⟨oa,0,by simp,by simp,Nat.zero_le _,Or.inl ⟨by simp,rfl,rfl⟩⟩,by simp⟩
 ·rcases h3 with⟨rfl,_⟩| ⟨b,off,bX,rfl,hb,rfl,he⟩
  ·simp at hj;omega
  ·rw[if_neg h0];refine⟨b::(bX.take j).flatten,⟨_,j,by rw[hlen],by omega,by omega,Or.inr ⟨b,off,bX.take j,by simp[Addr.add_mid],hb.mono (Nat.add_le_add_left (Nat.mul_le_mul_right _ (by omega)) _),rfl,?_,fun i x f hx hf=> ?_⟩⟩,fun c hc=> ?_⟩
   ·have:=he.1;simp[this]
   ·rw[List.getElem?_take]at hx hf;split at hx
    ·rename_i hij;rw[if_pos hij]at hf;exact he.2 i x f hx hf
    ·cases hx
   ·rcases List.mem_cons.1 hc with rfl|hc
    ·simp
    ·exact List.mem_cons_of_mem _ ((BX (List.take_sublist j bX)).subset hc)
theorem YV{α:Type}{k:Nat}{E:ER α}{w:World}{lo e:Nat}{v:Value}{l:List α}{xs:List Value}{bX:List (List Nat)}(h:w.ownsRow lo e k v l.length xs)(hf:bX.length=l.length)(he: ∀i x f,l[i]? =some x→bX[i]? =some f→E w ((xs.drop (i*k)).take k) x f):
  Sl k E w v l (v.ownBlock.toList++bX.flatten):=by
 have hlt:=h.lt;have hcells: ∀g,v.ownBlock=some g→ ∀j u,xs[j]? =some u→w.cell? ((⟨g,0,none⟩:Addr).add j)=some u:=fun g hg=>h.cells (g:=g) hg;rcases h.2 with⟨rfl,h0⟩| ⟨g,cap,cur,rfl,Q3,hg,hnc,hcm,hcs,BR⟩
 ·have hl:l= []:=List.eq_nil_of_length_eq_zero h0;subst hl;have:bX= []:=List.eq_nil_of_length_eq_zero (by simpa using hf);subst this;exact⟨none,0,rfl,Nat.le_refl _,Nat.zero_le _,Or.inl ⟨rfl,rfl,rfl⟩⟩
 ·refine⟨some ⟨g,0,none⟩,cap,rfl,hnc,hcm,Or.inr ⟨g,0,bX,rfl,⟨cur,e,(0,0),hg,by omega⟩,rfl,He hf (fun j u hu=> ?_) he⟩⟩;have:=hcells g rfl j u hu
  rwa [Addr.add_mid,Nat.zero_add]at this
theorem Jy{w:World}{hp:Hp}{env:Env}: ∀{l:List V} {us:List Value},plain l=true→bK (RA w hp env) l us→cq w l us []:=by
 intro l;induction l with
 |nil=>intro us _ h;cases us with
  |nil=>rfl
  |cons _ _=>exact h.elim
 |cons v r ih=>
  intro us hpl h;cases us with
  |nil=>exact h.elim
  |cons u us=>
   unfold plain at hpl;split at hpl
   ·rename_i heq;cases heq
   ·cases hpl
   ·rename_i heq;simp only[List.cons.injEq]at heq;obtain⟨rfl,rfl⟩:=heq;exact⟨[],[],⟨h.1.1,h.1.2,rfl⟩,ih hpl h.2,rfl⟩
   ·cases hpl
theorem NS(g:Good ty zb st a.tmps w env): ∀{l c:List V} {n:Nat} {us:List Value},bK (RA w st.hp env) l us→w9 st.hp l=some (c,n)→ ∃t l' fp,look st.hp n=some (.arr t l')∧cq w c us fp∧fp.Nodup∧ ∀b,b∈fp→b∈(env n).fp
 | [],_,_,_,_,h=>by simp[w9]at h
 |v::r,c,n,us,hr,h=>by
  cases us with
  |nil=>exact hr.elim
  |cons u us=>
   unfold w9 at h;split at h
   ·rename_i m r' he;simp only[List.cons.injEq]at he;obtain⟨rfl,rfl⟩:=he;split at h
    ·rename_i t l hl hpl;simp only[oI,pI]at h;obtain⟨rfl,rfl⟩:=h;obtain⟨_,rfl⟩:=hr.1;exact⟨t,l,(env m).fp,hl,⟨_,[],RO.sl (g.obj m _ hl),Jy hpl hr.2,by simp⟩,(RO.own (g.obj m _ hl)).nodup,fun _ hb=>hb⟩
    ·cases h
   ·rename_i m pp t l r' he;simp only[List.cons.injEq]at he;obtain⟨rfl,rfl⟩:=he;split at h
    ·rename_i t0 l0 hl hpl;simp only[oI,pI]at h;obtain⟨rfl,rfl⟩:=h;obtain⟨_,⟨fp,h1,h2,h3⟩,_⟩:=hr.1;exact⟨t0,l0,fp,hl,⟨fp,[],h1,Jy hpl hr.2,by simp⟩,h2,h3⟩
    ·cases h
   ·cases h
   ·rename_i x r' _ he;simp only[List.cons.injEq]at he;obtain⟨rfl,rfl⟩:=he;split at h
    ·rename_i c' n' h';simp only[oI,pI]at h;obtain⟨rfl,rfl⟩:=h;obtain⟨t,l',fp,h1,h2,h3,h4⟩:=NS g hr.2 h';exact⟨t,l',fp,h1,⟨[],_,⟨hr.1.1,hr.1.2,rfl⟩,h2,by simp⟩,h3,h4⟩
    ·cases h
   ·cases h
theorem L5(g:Good ty zb st a.tmps w env){s:S1}{u:Value}(hr:fD w st.hp env s u){c:List V}{n:Nat}(h:w9 st.hp (cellsOf s)=some (c,n)):bK (RA w st.hp env) (cellsOf s) u.cells.toList:=by
 cases s with
 |agg l=>obtain⟨cs,rfl,hl⟩:=hr;exact hl
 |a v=>
  have hv:v≠ .any:=by rintro rfl;simp[cellsOf,w9]at h
  have:=jE g (show RA w st.hp env v u from hr) hv;rw[this];exact⟨hr,trivial⟩
theorem Gd(g:Good ty zb st a.tmps w env){p:List (Nat×Bool)}(hp:holds a.tmps p){t:Tag}: ∀{ps:List (Nat×Operand)} {i:Nat} {vc:List Prop} {xs:List (T t)},oC st p t i ps=some (vc,xs)→(∀q,q∈vc→q)→
  (ps.map fun p=>(p.1,a.eval p.2))=vR i (ps.map fun p=>a.eval p.2)∧xs.length=ps.length∧ ∀(i:Nat) (x:T t),xs[i]? =some x→ ∃p:Nat×Operand,ps[i]? =some p∧rd t w (a.eval p.2).cells.toList x []
 | [],i,vc,xs,h,_=>by
   simp only[oC,oI,pI]at h;obtain⟨rfl,rfl⟩:=h;exact⟨rfl,rfl,by simp⟩
 | (j,x)::r,i,vc,xs,h,hv=>by
   simp only[oC]at h;split at h
   ·rename_i s hij hx;have hij:=Nat.eq_of_beq_eq_true hij;subst hij;split at h
    ·rename_i oV y vcs ys hpl he hb;simp only[oI,pI]at h;obtain⟨rfl,rfl⟩:=h;obtain⟨q1,q2,q3⟩:=Gd g hp hb (fun q hq=>hv q (List.mem_append_right _ hq));have hc: ∃us,(a.eval x).cells.toList=us∧cq w (cellsOf s) us []:=by
      have hs:=e9 g hp hx;have key: ∀{l:List V} {us:List Value},plain l=true→bK (RA w st.hp env) l us→cq w l us []:=by
       intro l;induction l with
       |nil=>intro us _ h;cases us with
        |nil=>rfl
        |cons _ _=>exact h.elim
       |cons v r ih=>
        intro us hpl h;cases us with
        |nil=>exact h.elim
        |cons u us=>
         unfold plain at hpl;split at hpl
         ·rename_i heq;cases heq
         ·cases hpl
         ·rename_i heq;simp only[List.cons.injEq]at heq;obtain⟨rfl,rfl⟩:=heq;exact⟨[],[],⟨h.1.1,h.1.2,rfl⟩,ih hpl h.2,rfl⟩
         ·cases hpl
      cases s with
      |agg l=>
       obtain⟨cs,hu,hl⟩:=hs;exact⟨cs,by rw[hu];rfl,key hpl hl⟩
      |a v=>
       have hne:v≠ .any:=by rintro rfl;cases hpl
       exact⟨[a.eval x],by rw[jE g hs hne],key hpl ⟨hs,trivial⟩⟩
     obtain⟨us,VU,VV⟩:=hc;refine⟨by simp[vR,q1],by simp[q2],fun i' x' hx'=> ?_⟩;cases i' with
     |zero=>
      simp at hx';subst hx';exact⟨(i,x),rfl,by rw[VU];exact s6 t he (fun q hq=>hv q (List.mem_append_left _ hq)) VV⟩
     |succ n=>
      obtain⟨p,h1,h2⟩:=q3 n x' (by simpa using hx');exact⟨p,by simpa using h1,h2⟩
    ·cases h
   ·cases h
theorem VW(g:Good ty zb st a.tmps w env){p:List (Nat×Bool)}(hp:holds a.tmps p){x:Operand}{k:IntKind}{i:Int}(h:VI st p x=some (k,i)):a.eval x= .int k i:=by
 unfold VI at h;split at h
 ·rename_i k' i' hx;simp only[oI,pI]at h;obtain⟨rfl,rfl⟩:=h;exact(e9 g hp hx).lit
 ·cases h
theorem DO(g:Good ty zb st a.tmps w env){p:List (Nat×Bool)}(hp:holds a.tmps p): ∀{xs:List Operand} {ys:List (IntKind×Int)},yq st p xs=some ys→xs.map a.eval=ys.map fun y=> .int y.1 y.2
 | [],ys,h=>by simp only[yq,oI]at h;subst h;rfl
 |x::r,ys,h=>by
  simp only[yq]at h;split at h
  ·rename_i y ys' h1 h2;simp only[oI]at h;subst h;rw[List.map_cons,List.map_cons,DO g hp h2,VW g hp h1]
  ·cases h
theorem DP{F:Int→Int→Int}{f:Value→Value→Sem Value}(hf: ∀(k:IntKind) (x y:Int),f (.int k x) (.int k y)=pure (.int k (F x y))){k:IntKind}: ∀{ys:List (IntKind×Int)} {x z:Int},F6 F k x ys=some z→(List.foldlM f (.int k x) (ys.map fun y=> .int y.1 y.2)).run P w= .ok (.int k z) w
 | [],x,z,h=>by simp only[F6,oI]at h;subst h;rfl
 | (k',y)::r,x,z,h=>by
   simp only[F6]at h;split at h
   ·rename_i hk _;subst hk;rw[List.map_cons,List.foldlM_cons,hf];simp only[pure_bind];exact DP hf h
   ·cases h
theorem Jz(g:Good ty zb st a.tmps w env){p:List (Nat×Bool)}(hp:holds a.tmps p){n:Nat}{fo:List Nat}{pl:Nat→Option (Nat×Nat)}(hpl: ∀j o k,nN fo j=some o→XS n fo j=some k→pl j=some (o,k)):
  ∀{ps:List (Nat×Operand)} {c c':List V} {cs:List Value},rC st p n fo ps c=some c'→bK (RA w st.hp env) c cs→
   ∃cs',Instr.fill pl (Array.mk cs) (ps.map fun q=>(q.1,a.eval q.2))=some (Array.mk cs')∧bK (RA w st.hp env) c' cs'
 | [],c,c',cs,h,hc=>by
   simp only[rC,oI]at h;subst h;exact⟨cs,rfl,hc⟩
 | (j,x)::r,c,c',cs,h,hc=>by
   simp only[rC]at h;split at h
   ·rename_i o' k s h1 h2 hx;split at h
    ·rename_i c1 hna hs;simp only[Bool.and_eq_true]at hna;have hk:=Nat.eq_of_beq_eq_true hna.2;have hrs:=xd g hp hx;have hcs: ∃us,(a.eval x).cells=Array.mk us∧bK (RA w st.hp env) (cellsOf s) us:=by
      cases s with
      |agg l=>obtain⟨us,hu,hl⟩:=hrs;exact⟨us,by rw[hu];rfl,hl⟩
      |a v=>
       have hne:v≠ .any:=by rintro rfl;simp[cellsOf,s8]at hna
       exact⟨[a.eval x],jE g hrs hne,hrs,trivial⟩
     obtain⟨us,VU,L6⟩:=hcs;obtain⟨q1,q2⟩:=Hv hc L6 hs;obtain⟨cs',h3,h4⟩:=Jz g hp hpl h q2;refine⟨cs',?_,h4⟩;rw[List.map_cons,Instr.fill,hpl j o' k h1 h2];simp only[VU];have hl:=L6.len;rw[if_neg (by simp;omega)];have RG:((Array.mk us).zipIdx.foldl (fun cs (x:Value×Nat)=>cs.setIfInBounds (o'+x.2) x.1) (Array.mk cs))=splice (Array.mk cs) o' us:=by
      rw[←Array.foldl_toList,Array.toList_zipIdx,qu,Nat.add_zero]
     show Instr.fill _ ((Array.mk us).zipIdx.foldl (fun cs (x:Value×Nat)=>cs.setIfInBounds (o'+x.2) x.1) (Array.mk cs)) _=_
     rw[RG,nU us cs o' q1];exact h3
    ·cases h
   ·cases h
theorem yz{w:World}{t:Nat}{d:Nat}(hu:P.underlying t=some .bool){x y:Bool}:(Op.equalIn (d+1) t (.bool x) (.bool y)).run P w= .ok (x==y) w:=by
 simp[Op.equalIn,run_underlying hu]
theorem RM{x:Operand}{op:Op}{out:Out}(fQ:o.op=op)(hm:op= .move x∨op= .assign x)(g:Good ty zb st a.tmps w env)(h:Ro st x=some out):o.wp P a w (AA ty st a w env o.dst out.v out.o) Q:=by
 unfold Ro at h;split at h
 ·rename_i t;split at h
  ·rename_i l hl;simp only[oI]at h;subst h;have hr:=g.slot t _ hl;rcases hm with rfl|rfl
   ·exact DH (by unfold execOp;simp only[fQ,Sem.run_pure];rfl) hr
   ·exact DH (by unfold execOp;simp only[fQ,Sem.run_pure];rfl) hr
  ·cases h
 ·cases h
theorem JA{Γ:Nat→TK}(C: ∀t,cT P t (Γ t)){cr:List (Nat×CR)}{p:List (Nat×Bool)}{d m:Nat}{out:Out}(h:quiet Γ (PR P ty) (Sound ty P) cr st p d m o.op=some out)
  (g:Good ty zb st a.tmps w env)(hp:holds a.tmps p)(hA:Cq w)(hv: ∀q,q∈out.vc→q)(hf:fresh st.hp out.o=true)(hn:kJ out.o=true):
  o.wp P a w (AA ty st a w env o.dst out.v out.o) Q:=by
 have hop: ∀{q x v},holds a.tmps q→gQ st q x=some v→fD w st.hp env v (a.eval x):=fun hq hx=>e9 g hq hx;generalize fQ:o.op=op at h;cases op with
 |move x=>
  simp only[quiet]at h;split at h
  ·rename_i v hx;simp only[dW,oI]at h;subst h;exact dx (by unfold execOp;simp only[fQ,Sem.run_pure]) (xd g hp hx)
  ·exact RM fQ (Or.inl rfl) g h
 |assign x=>
  simp only[quiet]at h;split at h
  ·rename_i v hx;simp only[dW,oI]at h;subst h;exact dx (by unfold execOp;simp only[fQ,Sem.run_pure]) (xd g hp hx)
  ·exact RM fQ (Or.inr rfl) g h
 |pick c x y=>
  cases c with
  |tmp c=>
   simp only[quiet]at h;split at h
   ·rename_i t u v h1 h2 h3;simp only[dW,oI]at h;subst h;have hc:=(hop hp h1).lit;have NC:a.tmps[c]? =some (.bool t):=L4 hc;refine dx (u:= .bool (if t then u else v)) ?_ ⟨rfl,rfl⟩;unfold execOp;cases t with
    |true=>
     have hx:=(hop (q:=(c,true)::p) (by intro e he;rcases List.mem_cons.1 he with rfl|he;exact NC;exact hp e he) h2).lit;simp[fQ,hc,hx,asBool]
    |false=>
     have hx:=(hop (q:=(c,false)::p) (by intro e he;rcases List.mem_cons.1 he with rfl|he;exact NC;exact hp e he) h3).lit;simp[fQ,hc,hx,asBool]
   ·cases h
  |_=>simp[quiet]at h
 |box e x=>
  simp only[quiet]at h;split at h
  ·rename_i l hx;simp only[oI]at h;subst h;obtain⟨cs,hu,hl⟩:=hop hp hx;exact AB (cs:=cs) (e:=e) (by unfold execOp;simp[fQ,Instr.box,newVar,newRow,hu,Value.cells]) g hf hl
  ·cases h
  ·rename_i v hne hx;simp only[oI]at h;subst h;have hr:=hop hp hx;have hc:=jE g (show RA w st.hp env v (a.eval x)from hr) (fun e=>hne e);exact AB (cs:= [a.eval x]) (e:=e) (by unfold execOp;simp[fQ,Instr.box,newVar,newRow,hc]) g hf ⟨hr,trivial⟩
  ·cases h
 |alloc t=>
  simp only[quiet]at h;split at h
  ·rename_i z tg fo hk;simp only[oI]at h;subst h;have hC:=C t;rw[hk]at hC;obtain⟨fs,hu,hi,h1,_⟩:=hC;refine AB (cs:=z) (e:=t) ?_ g hf (DM h1);unfold execOp;cases hq:P.info? t with
   |none=>simp[hq]at hi
   |some i=>
    simp[hq]at hi;simp[fQ,Instr.alloc,zeroValue,typeInfo,hq,hi.2,newVar,newRow,Value.cells]
  ·cases h
 |load t x=>
  simp only[quiet]at h;split at h
  ·rename_i n off hx;obtain⟨_,b,hb,hu⟩:=hop hp hx;split at h
   ·rename_i c hl;obtain⟨b',cs,e,Jd,hh,hc⟩:=g.obj n _ hl;have YW:b=b':=by
     rw[Jd]at hb;simpa using hb.symm
    subst YW;have Cu:w.rangeAt b 0 cs:=by simpa using Rk hh
    split at h
    ·rename_i z tg fo hk;split at h
     ·rename_i l hs;simp only[dW,oI]at h;subst h;have hC:=C t;rw[hk]at hC;obtain⟨k1,k2⟩:=Rz hc hs;exact wp_load_row fQ hC hu (by have:=lu (k:=z.length) (j:=off) Cu;rwa [Nat.zero_add]at this) k2 k1
     ·cases h
    ·cases h
    ·rename_i k1 k2;split at h
     ·rename_i v hs;simp only[dW,oI]at h;subst h;obtain⟨u,q1,q2⟩:=hc.at (Hu hs);refine nT fQ (C t) ?_ ?_ hu (by have:=lz Cu q1;rwa [Nat.zero_add]at this) (RA.Rm q2)
      ·intro z tg fo hz;exact k1 z tg fo hz
      ·exact k2
     ·cases h
   ·cases h
  ·rename_i gt y off hx;obtain⟨b,o',cs,fp,hu,_,Cu,hE,_,hd⟩:=hop hp hx;have hc:=RC hE hd;split at h
   ·rename_i z tg fo hk;split at h
    ·rename_i l hs;simp only[dW,oI]at h;subst h;have hC:=C t;rw[hk]at hC;obtain⟨k1,k2⟩:=Rz hc hs;exact wp_load_row fQ hC hu (lu Cu) k2 k1
    ·cases h
   ·cases h
   ·rename_i k1 k2;split at h
    ·rename_i v hs;simp only[dW,oI]at h;subst h;obtain⟨u,q1,q2⟩:=hc.at (Hu hs);refine nT fQ (C t) ?_ ?_ hu (lz Cu q1) q2
     ·intro z tg fo hz;exact k1 z tg fo hz
     ·exact k2
    ·cases h
  ·rename_i n gt y off hx;obtain⟨⟨tA,lA,hl⟩,b,o',cs,fp,hu,hb,Cu,hE,hd⟩:=hop hp hx;have hR:=reads gt hE;split at h
   ·rename_i z tg fo hk;split at h
    ·rename_i l hs;simp only[dW,oI]at h;subst h;have hC:=C t;rw[hk]at hC;obtain⟨f',r1,r2,r3,r4⟩:=cq.sub hR hs;exact wp_load_row fQ hC hu (lu Cu) r4 (NR hl r1 (r2.nodup hd.1) (fun x hx=>hd.2.1 x (r2.subset hx)))
    ·cases h
   ·cases h
   ·rename_i k1 k2;split at h
    ·rename_i v hs;simp only[dW,oI]at h;subst h;obtain⟨u,f',q1,q2,q3⟩:=cq.at hR hs;refine nT fQ (C t) ?_ ?_ hu (lz Cu q1) (Hw hl q2 (q3.nodup hd.1) (fun x hx=>hd.2.1 x (q3.subset hx)) (by simp))
     ·intro z tg fo hz;exact k1 z tg fo hz
     ·exact k2
    ·cases h
  ·rename_i n i off hx;obtain⟨tA,lA,hlA,b,o',len,cap,hv1,hu⟩:=hop hp hx;split at h
   ·rename_i gt l hl;rw[hl]at hlA;simp only[oI,Obj.arr.injEq]at hlA;obtain⟨rfl,_⟩:=hlA;split at h
    ·rename_i z tg fo hk;split at h
     ·rename_i c hs;simp only[oI]at h;subst h;have hi:i<l.length:=hv _ (List.mem_singleton.2 rfl);obtain⟨b2,o2,cap2,cs,f,hv2,hb,Cu,hE,hd⟩:=DN g hl hi;rw[hv2]at hv1;simp only[Value.slice.injEq,oI,Addr.mk.injEq,and_true]at hv1;obtain⟨⟨rfl,rfl⟩,rfl,rfl⟩:=hv1;have hC:=C t;rw[hk]at hC;obtain⟨f',r1,r2,r3,r4⟩:=cq.sub (reads gt hE) hs;refine wp_load_row fQ hC hu (lu Cu) r4 (NQ hl hi hv2 hb r1 ((r2.trans hd).nodup (RO.own (g.obj _ _ hl)).nodup) (fun x hx=>hd.subset (r2.subset hx)) (fun j v hj=> ?_) (lu Cu));rw[r3,List.getElem?_take]at hj;split at hj
      ·rw[List.getElem?_drop]at hj;rw[C3];exact hj
      ·cases hj
     ·cases h
    ·cases h
    ·rename_i k1 k2;split at h
     ·rename_i v hs;simp only[oI]at h;subst h;have hi:i<l.length:=hv _ (List.mem_singleton.2 rfl);obtain⟨b2,o2,cap2,cs,f,hv2,hb,Cu,hE,hd⟩:=DN g hl hi;rw[hv2]at hv1;simp only[Value.slice.injEq,oI,Addr.mk.injEq,and_true]at hv1;obtain⟨⟨rfl,rfl⟩,rfl,rfl⟩:=hv1;obtain⟨u,f',q1,q2,q3⟩:=cq.at (reads gt hE) hs;refine nT fQ (C t) ?_ ?_ hu (lz Cu q1) (Hw hl q2 ((q3.trans hd).nodup (RO.own (g.obj _ _ hl)).nodup) (fun x hx=>hd.subset (q3.subset hx)) ?_)
      ·intro z tg fo hz;exact k1 z tg fo hz
      ·exact k2
      ·rintro i' off' YT;simp only[oI,pI]at YT;obtain⟨rfl,rfl⟩:=YT;exact⟨b2,o2,_,cap2,hi,hs,hv2,hb,lz Cu q1⟩
     ·cases h
   ·cases h
  ·cases h
 |binOp op t x y t'=>
  simp only[quiet]at h;split at h
  ·rename_i k m k' m' h1 h2;split at h
   ·rename_i vc v hb;simp only[oI]at h;subst h;have hx:=(hop hp h1).lit;have hy:=(hop hp h2).lit;obtain⟨q1,q2⟩:=VO (P:=P) (w:=w) hb hv (t:=t) (X:=x) (Y:=y);refine dx (u:=v) ?_ ⟨rfl,q2⟩;unfold execOp;simp only[fQ,hx,hy];rw[Sem.run_bind,q1];rfl
   ·cases h
  ·rename_i m m' h1 h2;split at h
   ·rename_i vc v hb;simp only[oI]at h;subst h;have hx:=(hop hp h1).lit;have hy:=(hop hp h2).lit;obtain⟨q1,q2⟩:=VP (P:=P) (w:=w) hb hv (t:=t) (X:=x) (Y:=y);refine dx (u:=v) ?_ ⟨rfl,q2⟩;unfold execOp;simp only[fQ,hx,hy];rw[Sem.run_bind,q1];rfl
   ·cases h
  ·rename_i m m' h1 h2;have hx:=(hop hp h1).lit;have hy:=(hop hp h2).lit;have hC:=C t;split at h
   ·rename_i hk;rw[hk]at hC;simp only[dW,oI]at h;subst h;refine dx (u:= .bool (m==m')) ?_ ⟨rfl,rfl⟩;unfold execOp;simp only[fQ,hx,hy];have he:(Op.equal t (.bool m) (.bool m')).run P w= .ok (m==m') w:=yz hC;simp[eqGuard,binOp,he]
   ·rename_i hk;rw[hk]at hC;simp only[dW,oI]at h;subst h;refine dx (u:= .bool (m !=m')) ?_ ⟨rfl,rfl⟩;unfold execOp;simp only[fQ,hx,hy];have he:(Op.equal t (.bool m) (.bool m')).run P w= .ok (m==m') w:=yz hC;simp[eqGuard,binOp,he];cases m<;>cases m'<;>rfl
   ·cases h
  ·cases h
 |unOp op t x=>
  cases op with
  |not=>
   simp only[quiet]at h;split at h
   ·rename_i b hx;simp only[dW,oI]at h;subst h;have hx:=(hop hp hx).lit;refine dx (u:= .bool (!b)) ?_ ⟨rfl,rfl⟩;unfold execOp;simp[fQ,hx,Op.unary]
   ·cases h
  |neg=>
   simp only[quiet]at h;split at h
   ·rename_i k n hx;simp only[dW,oI]at h;subst h;have hx:=(hop hp hx).lit;refine dx (u:= .int k (k.wrap (0-n))) ?_ ⟨rfl,rfl⟩;unfold execOp;simp[fQ,hx,Op.unary,Op.intArith]
   ·cases h
  |_=>simp[quiet]at h
 |convert s t x=>
  simp only[quiet]at h;split at h
  ·rename_i k n k1 k2 hx hk1 hk2;simp only[dW,oI]at h;subst h;have hx:=(hop hp hx).lit;have c1:=C s;have c2:=C t;rw[hk1]at c1;rw[hk2]at c2;refine dx (u:= .int k2 (k2.wrap n)) ?_ ⟨rfl,rfl⟩;unfold execOp;simp[fQ,hx,convert,run_underlying (show P.underlying s=_ from c1),run_underlying (show P.underlying t=_ from c2),Conv.intToInt]
  ·rename_i v g' e hx hk1 hk2;split at h
   ·rename_i l PW hl;simp only[dW,oI]at h;subst h;have c1:=C s;have c2:=C t;have c3:=C e;rw[hk1]at c1;rw[hk2]at c2;rw[PW]at c3;have:=PV g (hop hp hx) hl c1.1 c3 c2;refine dx (u:= .string (aX l)) ?_ ⟨rfl,rfl⟩;unfold execOp;simp only[fQ,Sem.run_bind,this,Result.andThen_ok,Sem.run_pure]
   ·cases h
  ·cases h
 |slice t x lo hi mx=>
  cases mx with
  |some mx=>
   cases lo with
   |some _=>simp[quiet]at h
   |none=>
    cases hi with
    |none=>simp[quiet]at h
    |some hi=>
     simp only[quiet]at h;split at h
     case h_2=>cases h
     rename_i gt e hk;have hC:=C t;rw[hk]at hC;split at h
     case h_2=>cases h
     rename_i n n1 n2 hx h1 h2;split at h
     case h_2=>cases h
     rename_i t' l hl;split at h
     case h_2=>cases h
     rename_i hkk;have hkk:=Nat.eq_of_beq_eq_true hkk;simp only[oI]at h;subst h;obtain⟨q0,q1,q2⟩:=hv _ (List.mem_singleton.2 rfl);obtain⟨hA,hu⟩:=hop hp hx;have hs:=RO.sl (g.obj n _ hl);rw[←show a.eval x=(env n).v from hu]at hs;obtain⟨oa,cap,hv1,hc,hm,h3⟩:=id hs;obtain⟨y1,k1,e1,e2⟩: ∃y k,some hi=some y∧a.eval y= .int k n1:=by
      rcases jS (hop hp) h1 with⟨h,_⟩|h
      ·cases h
      ·exact h
     obtain⟨y2,k2,e3,e4⟩: ∃y k,some mx=some y∧a.eval y= .int k n2:=by
      rcases jS (hop hp) h2 with⟨h,_⟩|h
      ·cases h
      ·exact h
     simp only[oI]at e1 e3;subst e1;subst e3;subst q1;rw[hv1]at hs;obtain⟨gC,r2,r3⟩:=YU hs (j:=n1.toNat) (q:=0*kk gt) (by omega) (by simp);have hrun:(execOp a.eval o).run P w= .ok (.value (.slice (if n1.toNat=0 then oa else oa.map (·.add (0*kk gt))) n1.toNat n1.toNat)) w:=by
      obtain⟨hun,hsz⟩:=hC;cases hq:P.info? e with
      |none=>simp[hq]at hsz
      |some inf=>
       have hsz':inf.size=kk gt:=by simpa[hq]using hsz
       have c1:n1≤(cap:Int):=by omega
       have c2: ¬max n1 0<n1:=by omega
       unfold execOp;simp[fQ,hv1,e2,e4,c2,Instr.sliceAt,Instr.slice,Instr.sliceBounds,Instr.sliceBound,asIntOf,run_underlying hun,sizeOf,typeInfo,hq,hsz',q0,c1]
     have hlt:(l.take n1.toNat).length=n1.toNat:=by rw[List.length_take];omega
     exact dx hrun ⟨hA,⟨gC,r2,fun b hb=>Or.inl (r3 b hb)⟩,fun _=>⟨_,by rw[hlt]⟩⟩
  |none=>
   simp only[quiet]at h;split at h
   ·rename_i gt e hk;have hC:=C t;rw[hk]at hC;split at h
    ·split at h
     ·rename_i n p' t' l n1 hx h1;simp only[oI]at h;subst h;have hlo:n1=(l.length:Int):=hv _ (List.mem_singleton.2 rfl);obtain⟨hA,⟨fp,⟨oa,cap,hu,hc,hm,h3⟩,hnd,hd⟩,_⟩:=hop hp hx;have hz:oa=none→cap=0:=by
       intro ho;rcases h3 with⟨_,_,h4⟩| ⟨b,off,bX,h4,_⟩
       ·exact h4
       ·rw[ho]at h4;cases h4
      obtain⟨XQ,r1,r2⟩:=Jx (P:=P) (w:=w) fQ hC hu hc (jS (hop hp) h1) hlo;refine dx r1 ⟨XQ,cap-l.length,rfl,Nat.zero_le _,by omega,fun ho=> ?_⟩;rw[hz (r2 ho)];omega
     ·rename_i k n1 hx h1;simp only[oI]at h;subst h;have hlo:n1=(k:Int):=hv _ (List.mem_singleton.2 rfl);obtain⟨oa,cap,hu,hc,hm,hz⟩:=hop hp hx;obtain⟨XQ,r1,r2⟩:=Jx (P:=P) (w:=w) fQ hC hu hc (jS (hop hp) h1) hlo;refine dx r1 ⟨XQ,cap-k,rfl,Nat.zero_le _,by omega,fun ho=> ?_⟩;rw[hz (r2 ho)];omega
     ·cases h
    split at h
    ·rename_i t' l n1 hx h1;split at h
     ·rename_i n2 h2;split at h
      ·rename_i hkk;have hkk:=Nat.eq_of_beq_eq_true hkk;simp only[oI]at h;subst h;obtain⟨q0,q1,q2⟩:=hv _ (List.mem_singleton.2 rfl);obtain⟨fp,hs,hd⟩:=hop hp hx;obtain⟨u',gC,r1,r2,r3⟩:=AD fQ hC hkk hs (jS (hop hp) h1) (jS (hop hp) h2) q0 q1 q2;exact dx r1 ⟨gC,r2,fun b hb=>hd b (r3.subset hb)⟩
      ·cases h
     ·cases h
    ·rename_i n p' t' l n1 hx h1;split at h
     ·rename_i n2 h2;split at h
      ·rename_i hkk;have hkk:=Nat.eq_of_beq_eq_true hkk;simp only[oI]at h;subst h;obtain⟨q0,q1,q2⟩:=hv _ (List.mem_singleton.2 rfl);obtain⟨hA,⟨fp,hs,hnd,hd⟩,_⟩:=hop hp hx;obtain⟨u',gC,r1,r2,r3⟩:=AD fQ hC hkk hs (jS (hop hp) h1) (jS (hop hp) h2) q0 q1 q2;exact dx r1 ⟨hA,⟨gC,r2,r3.nodup hnd,fun b hb=>hd b (r3.subset hb)⟩,by simp⟩
      ·cases h
     ·cases h
    ·rename_i n n1 hx h1;split at h
     ·rename_i t' l hl;split at h
      ·rename_i n2 h2;split at h
       ·rename_i hkk;have hkk:=Nat.eq_of_beq_eq_true hkk;simp only[oI]at h;subst h;obtain⟨q0,q1,q2⟩:=hv _ (List.mem_singleton.2 rfl);obtain⟨hA,hu⟩:=hop hp hx;have hs:=RO.sl (g.obj n _ hl);rw[←show a.eval x=(env n).v from hu]at hs;obtain⟨u',gC,r1,r2,r3⟩:=AD fQ hC hkk hs (jS (hop hp) h1) (jS (hop hp) h2) q0 q1 q2;exact dx r1 ⟨hA,⟨gC,r2,r3.nodup (RO.own (g.obj n _ hl)).nodup,fun b hb=>r3.subset hb⟩,by simp⟩
       ·cases h
      ·cases h
     ·cases h
    ·rename_i oa len cap n1 hx h1;split at h
     ·rename_i n2 h2;simp only[oI]at h;subst h;obtain⟨q0,q1,q2,q3⟩:=hv _ (List.mem_singleton.2 rfl);obtain⟨hu,_⟩:=hop hp hx;exact dx (VQ fQ hC hu (jS (hop hp) h1) (jS (hop hp) h2) q0 q1 q2 q3) ⟨rfl,rfl⟩
     ·cases h
    ·cases h
   ·rename_i hk;have hC:=C t;rw[hk]at hC;split at h
    ·rename_i s n1 hx h1;split at h
     ·rename_i n2 h2;simp only[oI]at h;subst h;obtain⟨q0,q1,q2⟩:=hv _ (List.mem_singleton.2 rfl);exact Hy fQ hC (hop hp hx).lit (jS (hop hp) h1) (jS (hop hp) h2) q0 q1 q2
     ·cases h
    ·cases h
   ·cases h
 |makeFunc fn first captured=>
  cases fn with
  |func f=>
   simp only[quiet]at h;split at h
   ·rename_i x hf hc;split at h
    ·rename_i n hx;simp only[dW,oI]at h;subst h;obtain⟨hA,b,hb,hu⟩:=hop hp hx;have e1:first= #[]:=by cases first;simp_all
     have e2:captured= #[x]:=by cases captured;simp_all
     refine dx (u:= .func (.func f) #[] #[.pointer (some ⟨b,0,none⟩)]) ?_ ⟨hA,b,hb,rfl⟩;unfold execOp;simp[fQ,Instr.makeFunc,e1,e2,hu]
    ·cases h
   ·cases h
  |_=>simp[quiet]at h
 |fieldAddr t x f=>
  simp only[quiet]at h;split at h
  ·rename_i z tg fo hk;have hC:=C t;rw[hk]at hC;split at h
   ·rename_i k hf';split at h
    ·rename_i n off hx;simp only[dW,oI]at h;subst h;obtain⟨hc,b,hb,hu⟩:=hop hp hx;exact mu fQ hC hf' hu ⟨hc,b,hb,rfl⟩
    ·rename_i gt y off hx;simp only[dW,oI]at h;subst h;obtain⟨b,o',cs,fp,hu,k1⟩:=hop hp hx;exact mu fQ hC hf' hu ⟨b,o',cs,fp,by rw[Nat.add_assoc],k1⟩
    ·rename_i n i off hx;simp only[dW,oI]at h;subst h;obtain⟨t',l,hl,b,o',len,cap,hb,hu⟩:=hop hp hx;exact mu fQ hC hf' hu ⟨t',l,hl,b,o',len,cap,hb,by rw[Nat.add_assoc]⟩
    ·rename_i n gt y off hx;simp only[dW,oI]at h;subst h;obtain⟨hA,b,o',cs,fp,hu,k1,k2,k3,knd,k4,k5⟩:=hop hp hx;refine mu fQ hC hf' hu ⟨hA,b,o',cs,fp,by rw[Nat.add_assoc],k1,k2,k3,knd,k4,fun i o2 j hq=> ?_⟩;obtain⟨l,u0,b0,oD,len,cap,j1,j2,j3,j4,j5⟩:=k5 i o2 j hq;rw[hu]at j5;simp only[Value.pointer.injEq,oI,Addr.mk.injEq,and_true]at j5;obtain⟨rfl,j5⟩:=j5;exact⟨l,u0,b,oD,len,cap,j1,j2,j3,j4,by rw[j5,Nat.add_assoc]⟩
    ·cases h
   ·cases h
  ·cases h
 |indexAddr t x i=>
  simp only[quiet]at h;split at h
  ·rename_i gt e hk;have hC:=C t;rw[hk]at hC;split at h
   ·rename_i t' l ik n hx hi;split at h
    ·rename_i hkk;have hkk:=Nat.eq_of_beq_eq_true hkk;simp only[oI]at h;subst h;obtain⟨h0,h1⟩:=hv _ (List.mem_singleton.2 rfl);have hx:=hop hp hx;have hi:=(hop hp hi).lit;obtain⟨b,off,len,cap,hu,hlt,hr⟩:=VN hx h0 h1;exact qt fQ hC hu hi h0 hlt (by rw[hkk];exact hr)
    ·cases h
   ·rename_i m ik n hx hi;split at h
    ·rename_i t' l hl;split at h
     ·rename_i hkk;have hkk:=Nat.eq_of_beq_eq_true hkk;simp only[oI]at h;subst h;obtain⟨h0,h1⟩:=hv _ (List.mem_singleton.2 rfl);obtain⟨_,hu⟩:=hop hp hx;have hi:=(hop hp hi).lit;obtain⟨b,o',cap,cs,f,hs,_⟩:=DN g hl (i:=n.toNat) (by omega);exact qt fQ hC (hu.trans hs) hi h0 h1 ⟨t',l,hl,b,o',_,cap,hs,by rw[hkk];simp⟩
     ·cases h
    ·cases h
   ·rename_i m p' t' l ik n hx hi;split at h
    ·rename_i hkk;have hkk:=Nat.eq_of_beq_eq_true hkk;simp only[oI]at h;subst h;obtain⟨h0,h1⟩:=hv _ (List.mem_singleton.2 rfl);have hx:=hop hp hx;have hi:=(hop hp hi).lit;obtain⟨b,off,len,cap,hu,hlt,hr⟩:=VR hx h0 h1;exact qt fQ hC hu hi h0 hlt (by rw[hkk];exact hr)
    ·cases h
   ·cases h
  ·cases h
 |index t x i=>
  simp only[quiet]at h;split at h
  ·rename_i hk;have hC:=C t;rw[hk]at hC;split at h
   ·rename_i s k n hx hy;simp only[oI]at h;subst h;have hx:=(hop hp hx).lit;have hy:=(hop hp hy).lit;obtain⟨h0,h1⟩:0≤n∧n<(s.size:Int):=hv _ (List.mem_singleton.2 rfl);have hlt:n.toNat<s.size:=by omega
    have hgd:s.data.toList.getD n.toNat 0=s[n.toNat]:=by
     have h2:n.toNat<s.data.toList.length:=by rw[Array.length_toList];exact hlt
     rw[List.getD_eq_getElem?_getD,List.getElem?_eq_getElem h2];simp[ByteArray.getElem_eq_getElem_data]
    refine dx (u:= .int .u8 ((s.data.toList.getD n.toNat 0).toNat:Int)) ?_ ⟨rfl,rfl⟩;unfold execOp;simp only[fQ,hx,hy,Sem.run_bind,Sem.run_pure,run_index_string (P:=P) (w:=w) t s k n hC,dif_pos (And.intro h0 h1),Result.andThen_ok,hgd]
   ·cases h
  ·cases h
 |makeSlice t x y=>
  simp only[quiet]at h;split at h
  ·rename_i gt e hk;have hC:=C t;rw[hk]at hC;split at h
   ·rename_i k1 n1 k2 n2 hx hy;simp only[oI]at h;subst h;have hE:PR P ty gt e:=hv _ (by simp);have hab:n1=n2:=hv _ (by simp);have h0:0≤n1:=hv _ (by simp);obtain⟨h1,h2⟩:n1.toNat*dN gt≤140737488355328∧n1.toNat≤maxLen:=hv _ (by simp);subst hab;obtain⟨rfl,rD⟩:=hE;obtain⟨w',u,fp,r1,r2,r3⟩:=RL (P:=P) (w:=w) (a:=a) fQ hC.1 rD (hop hp hx).lit (hop hp hy).lit h0 h1 h2;exact Gc r1 r2 r3
   ·cases h
  ·cases h
 |buildSlice t len parts=>
  simp only[quiet]at h;split at h
  ·rename_i gt e hk;have hC:=C t;rw[hk]at hC;split at h
   ·split at h
    case h_2=>cases h
    rename_i x hlen hps;split at h
    case h_2=>cases h
    rename_i s hx;split at h
    case h_2=>cases h
    rename_i c n hc;split at h
    case h_2=>cases h
    rename_i vc y he hbig;simp only[oI]at h;subst h;have hE:PR P ty gt e:=hv _ (by simp);obtain⟨rfl,rD⟩:=hE;have hs:=hop hp hx;obtain⟨tA,lA,fpE,hl,VV,hnd,hsub⟩:=NS g (L5 g hs hc) hc;have hrd:=s6 gt he (fun q hq=>hv q (by simp[hq])) VV;have hlen:=Nat.eq_of_beq_eq_true hlen;subst hlen;have hO0:=RO.own (g.obj n _ hl);have hO:Own _ w fpE:=⟨hnd,fun b hb=>hO0.ge b (hsub b hb),fun b hb=>hO0.kind b (hsub b hb)⟩;have hfl:([fpE]:List (List Nat)).flatten=fpE:=by simp
    obtain⟨w',r1,r2,r3⟩:=vl (P:=P) (w:=w) (a:=a) fQ hC.1 rD (by rw[Nat.one_mul];exact Nat.le_of_ble_eq_true hbig) (by rw[hps];rfl) (Nat.zero_le _) (xs:= [y]) (bX:= [fpE]) (by rw[hps];rfl) (by rw[hps];rfl) rfl
     (fun i x' f hx' hf=>by
      cases i with
      |zero=>simp at hx' hf;subst hx';subst hf;exact⟨(0,x),by rw[hps];rfl,hrd⟩
      |succ i=>simp at hx') (by rw[hfl];exact hO)
    rw[hfl]at r3;unfold Oper.wp;rw[r1];refine⟨_,env,rfl,kL.none r2,⟨tA,lA,hl⟩,w.heap.size,fpE,iW.sl r3,fun ho=> ?_,hnd,hsub⟩;have:=(g.ow ho).2;omega
   split at h
   ·rename_i vc xs hlen hbig hb;simp only[oI]at h;subst h;have hE:PR P ty gt e:=hv _ (by simp);obtain⟨rfl,rD⟩:=hE;obtain⟨q1,q2,q3⟩:=Gd g hp hb (fun q hq=>hv q (by simp[hq]));have hfl:(List.replicate xs.length ([]:List Nat)).flatten= []:=by simp
    obtain⟨w',r1,r2,r3⟩:=vl (P:=P) (w:=w) (a:=a) fQ hC.1 rD (Nat.le_of_ble_eq_true hbig) (Nat.eq_of_beq_eq_true hlen) (Nat.le_refl _) (xs:=xs) (bX:=List.replicate xs.length []) q1 q2 (by simp)
     (fun i x f hx hf=>by
      obtain⟨p,h1,h2⟩:=q3 i x hx;rw[List.getElem?_replicate]at hf;split at hf
      ·simp only[oI]at hf;subst hf;exact⟨p,h1,h2⟩
      ·cases hf) (by rw[hfl];exact Own.nil _ _)
    exact Gc r1 r2 r3
   ·cases h
  ·cases h
 |build t parts=>
  simp only[quiet]at h;split at h
  ·rename_i z tg fo hk;have hC:=C t;rw[hk]at hC;obtain⟨fs,hu,hi,h1,_,places,JB,hpl⟩:=hC;split at h
   ·rename_i c hb;simp only[dW,oI]at h;subst h;cases hq:P.info? t with
    |none=>simp[hq]at hi
    |some inf=>
     simp[hq]at hi;obtain⟨cs',h3,h4⟩:=Jz (st:=st) (zb:=zb) g hp (pl:=fun j=>places[j]?) hpl hb (DM h1);refine dx (u:= .agg (Array.mk cs')) ?_ ⟨cs',rfl,h4⟩;have hrun:=run_build (P:=P) w t (parts.map fun(q:Nat×Operand)=>(q.1,a.eval q.2)) (Array.mk cs') (by
      unfold Program.built;rw[hq,hu];simp only[hi.2,JB];rw[Array.toList_map];simpa[Value.cells]using h3)
     unfold execOp;simp only[fQ,Sem.run_bind,hrun,Result.andThen_ok,Sem.run_pure]
   ·cases h
  ·cases h
 |nilCheck x=>
  simp only[quiet]at h;split at h
  ·rename_i n off hx;simp only[dW,oI]at h;subst h;obtain⟨hA,b,hb,hu⟩:=hop hp hx;refine dx (u:=a.eval x) ?_ ⟨hA,b,hb,hu⟩;unfold execOp;simp[fQ,hu]
  ·rename_i n i off hx;simp only[dW,oI]at h;subst h;obtain⟨t,l,hl,b,o',len,cap,hb,hu⟩:=hop hp hx;refine dx (u:=a.eval x) ?_ ⟨t,l,hl,b,o',len,cap,hb,hu⟩;unfold execOp;simp[fQ,hu]
  ·cases h
 |extract x i=>
  cases x with
  |tmp t=>
   simp only[quiet]at h;split at h
   ·rename_i l hl;split at h
    ·rename_i x hx;simp only[dW,oI]at h;subst h;obtain⟨us,hu,lg⟩:=g.slot t _ hl;obtain⟨u,k1,k2⟩:=lg.at hx;refine dx ?_ k2;unfold execOp;have hu':a.eval (.tmp t)= .tuple us.toArray:=hu;simp[fQ,hu',Instr.extract,k1]
    ·cases h
   ·cases h
  |_=>simp[quiet]at h
 |call c=>
  obtain⟨callee,xs,ts⟩:=c;cases callee with
  |value x=>
   cases x with
   |func f=>
    simp only[quiet]at h;split at h
    ·rename_i as c h1 h2;simp only[oI]at h;obtain⟨own,rs⟩:=c;have YX:out.vc= [Sound ty P f as rs]:=by
      rw[←h];unfold outs;dsimp only
      (repeat' split)<;>rfl
     exact NN fQ rfl (hv _ (by rw[YX];simp)) hA g (Ht g hp h1) h hn
    ·cases h
   |tmp x=>
    simp only[quiet]at h;split at h
    ·rename_i v hx;split at h
     ·rename_i f hfn;split at h
      ·rename_i as c h1 h2;simp only[oI]at h;obtain⟨own,rs⟩:=c;have YX:out.vc= [Sound ty P f as rs]:=by
        rw[←h];unfold outs;dsimp only
        (repeat' split)<;>rfl
       exact NN fQ (NP (hop hp hx) hfn) (hv _ (by rw[YX];simp)) hA g (Ht g hp h1) h hn
      ·cases h
     ·cases h
    ·cases h
   |_=>simp[quiet]at h
  |builtin b=>
   cases b with
   |append=>
    simp only[quiet]at h;split at h
    case h_2=>cases h
    rename_i x y t1 t2 hkey hxl htl;obtain rfl:xs= #[x,y]:=by cases xs;simp_all
    obtain rfl:ts= #[t1,t2]:=by cases ts;simp_all
    split at h
    case h_2=>cases h
    rename_i gt e htt hk;have htt:=Nat.eq_of_beq_eq_true htt;subst htt;split at h
    case h_2=>cases h
    rename_i n t l n2 pq t' l' hx hy;split at h
    case h_2=>cases h
    rename_i la lb hnn hca hcb;have hnn:=Nat.eq_of_beq_eq_true hnn;subst hnn;simp only[oI]at h;subst h;obtain⟨ea,rfl⟩:=eu hca;subst ea;obtain⟨eb,rfl⟩:=eu hcb;subst eb;have hE:PR P ty t' e:=hv _ (by simp);obtain⟨b1,b2⟩:(l.length+l'.length)*dN t'≤140737488355328∧l.length+l'.length≤maxLen:=hv _ (by simp);obtain⟨rfl,rD⟩:=hE;have hC:=C t1;rw[hk]at hC;obtain⟨hA1,⟨fp,hs,hsub⟩,hcap⟩:=hop hp hx;obtain⟨hA2,⟨Rs,hs2,hnd,aa3⟩,_⟩:=hop hp hy;obtain⟨oa,hu⟩:=hcap rfl;obtain⟨olds,fx,n1,n2,n3,n4,n5,_⟩:=yy (ep t') (gy t') hs;obtain⟨news,fy,m1,m2,m3,m4,m5,_⟩:=yy (ep t') (gy t') hs2;rw[hu]at n1;obtain⟨v',w',hrun,hres⟩:=VT (ty':=o.type) hC.1 rD (mK t') (gy t') n1 n3 m1 m3 (VS (ep t') (gy t') m2 m3 m4) b2 b1;have key:Below w.heap.size w w'∧RA w' st.hp env (.mix n false t' (l++l')) v':=by
     rcases hres with⟨h0,rfl,rfl⟩| ⟨hrow,hgr⟩
     ·have e0:l'= []:=List.eq_nil_of_length_eq_zero h0;subst e0;refine⟨Below.refl _ _,hA1,⟨fp,?_,hsub⟩,fun hh=>by cases hh⟩;rw[List.append_nil, ←hu];exact hs
     ·have DF:Below w.heap.size w w':=⟨hgr.os,hgr.tape,hgr.output,hgr.size,fun b hb=>hgr.block b hb (fun h=>by cases h)⟩;have hkk:=gy t';refine⟨DF,hA1,⟨_,YV (l:=l++l') (bX:=fx++fy) (by rw[List.length_append];exact hrow) (by rw[List.length_append,List.length_append,n2,m2]) (fun i x f hx hf=> ?_),fun b hb=> ?_⟩,fun hh=>by cases hh⟩
      ·refine(ep t').below ?_ DF;by_cases hi:i<l.length
       ·rw[List.getElem?_append_left hi]at hx;rw[List.getElem?_append_left (by omega)]at hf;have h1:i*kk t'+kk t'≤olds.length:=by
         have:=Nat.mul_le_mul_right (kk t') (show i+1≤l.length by omega);rw[Nat.add_mul]at this;omega
        rw[List.drop_append_of_le_length (by omega),List.take_append_of_le_length (by rw[List.length_drop];omega)];exact n4 i x f hx hf
       ·rw[List.getElem?_append_right (by omega)]at hx;rw[List.getElem?_append_right (by omega),n2]at hf;have h1:i*kk t'=olds.length+(i-l.length)*kk t':=by
         rw[n3, ←Nat.add_mul];congr 1;omega
        rw[h1,List.drop_append];have h2:olds.drop (olds.length+(i-l.length)*kk t')= []:=List.drop_eq_nil_of_le (by omega);rw[h2,List.nil_append,Nat.add_sub_cancel_left];exact m4 _ x f hx hf
      ·rcases List.mem_append.1 hb with hb|hb
       ·refine Or.inr fun ho=> ?_;have h1:=(g.ow ho).2;have h2:=(hrow.lt b (by simpa using hb)).1;omega
       ·rw[List.flatten_append]at hb;rcases List.mem_append.1 hb with hb|hb
        ·exact hsub b (n5.subset hb)
        ·exact Or.inl (aa3 b (m5.subset hb))
    unfold Oper.wp execOp;simp only[fQ,resolve,invoke,builtin,Sem.run_bind,Sem.run_pure,Result.andThen_ok,List.map_toArray,List.map_cons,List.map_nil,hu,hrun];exact⟨v',env,rfl,kL.none key.1,key.2⟩
   |max=>
    simp only[quiet]at h;split at h
    ·rename_i k x r hxs;split at h
     ·rename_i y hy;simp only[dW,oI]at h;subst h;have he:=DO g hp hxs;refine dx (u:= .int k y) ?_ ⟨rfl,rfl⟩;have hf:=DP (P:=P) (w:=w) (f:=Builtin.max2) (F:=Hs) (fun k x y=>rfl) hy;unfold execOp;simp[fQ,resolve,invoke,builtin,Builtin.max_,he,hf]
     ·cases h
    ·cases h
   |min=>
    simp only[quiet]at h;split at h
    ·rename_i k x r hxs;split at h
     ·rename_i y hy;simp only[dW,oI]at h;subst h;have he:=DO g hp hxs;refine dx (u:= .int k y) ?_ ⟨rfl,rfl⟩;have hf:=DP (P:=P) (w:=w) (f:=Builtin.min2) (F:=fP) (fun k x y=>rfl) hy;unfold execOp;simp[fQ,resolve,invoke,builtin,Builtin.min_,he,hf]
     ·cases h
    ·cases h
   |len=>
    simp only[quiet]at h;split at h
    ·rename_i x t hxl htl;obtain rfl:xs= #[x]:=by cases xs;simp_all
     obtain rfl:ts= #[t]:=by cases ts;simp_all
     split at h
     ·rename_i v hx;split at h
      ·rename_i n hn';simp only[dW,oI]at h;subst h;have hr:=hop hp hx;have hC:=C t;cases v with
       |sl t' l=>
        simp only[lenOf]at hn';split at hn'
        ·rename_i g' e' hk;simp only[oI]at hn';subst hn';rw[hk]at hC;obtain⟨fp,⟨oa,cap,hu,_⟩,_⟩:=hr;exact DI rfl fQ hC.1 hu (Or.inl ⟨_,oa,cap,l.length,rfl,rfl,rfl⟩)
        ·cases hn'
       |own m=>
        simp only[lenOf]at hn';split at hn'
        ·rename_i g' e' hk;rw[hk]at hC;split at hn'
         ·rename_i t' l hl;simp only[oI]at hn';subst hn';obtain⟨_,hu⟩:=hr;obtain⟨oa,cap,hs,_⟩:=RO.sl (g.obj m _ hl);exact DI rfl fQ hC.1 (hu.trans hs) (Or.inl ⟨_,oa,cap,l.length,rfl,rfl,rfl⟩)
         ·cases hn'
        ·cases hn'
       |vw m p' t' l=>
        simp only[lenOf]at hn';split at hn'
        ·rename_i g' e' hk;simp only[oI]at hn';subst hn';rw[hk]at hC;obtain⟨_,⟨fp,⟨oa,cap,hu,_⟩,_⟩,_⟩:=hr;exact DI rfl fQ hC.1 hu (Or.inl ⟨_,oa,cap,l.length,rfl,rfl,rfl⟩)
        ·cases hn'
       |lit v=>
        have hu:=(show fD w st.hp env (.a (.lit v)) _ from hr).lit;simp only[lenOf]at hn';split at hn'
        ·rename_i heq;cases heq
        ·rename_i heq;cases heq
        ·rename_i heq;cases heq
        ·rename_i heq;simp only[V.lit.injEq]at heq;subst heq;split at hn'
         ·rename_i g' e' hk;simp only[oI]at hn';subst hn';rw[hk]at hC;exact DI rfl fQ hC.1 hu (Or.inl ⟨_,none,0,0,rfl,rfl,rfl⟩)
         ·cases hn'
        ·rename_i s heq;simp only[V.lit.injEq]at heq;subst heq;split at hn'
         ·rename_i hk;simp only[oI]at hn';subst hn';rw[hk]at hC;exact DI rfl fQ hC hu (Or.inr ⟨_,rfl,rfl,rfl⟩)
         ·cases hn'
        ·cases hn'
       |_=>simp[lenOf]at hn'
      ·cases h
     ·cases h
    ·cases h
   |_=>simp[quiet]at h
  |invoke _ _=>simp[quiet]at h
 |_=>simp[quiet]at h
end
end
section
variable{ty:Tag→Nat}
theorem jT{α:Type}{f:Nat×α→α}: ∀{l:List (Nat×α)} {s:Nat},look (l.map fun e=>(e.1,f e)) s=(look l s).map fun x=>f (s,x)
 | [],_=>rfl
 | (j,x)::r,s=>by
   by_cases h:s=j
   ·subst h;rw[List.map_cons,look_eq,look_eq];rfl
   ·rw[List.map_cons,bB h,bB h];exact jT
theorem Ge{tmps:Array Value}{d:Nat}{u:Value}{p:List (Nat×Bool)}(h:(p.any fun e=>Nat.beq e.1 d)=false):holds (tmps.setIfInBounds d u) p↔holds tmps p:=by
 have hne: ∀e,e∈p→d≠e.1:=by
  rintro e he rfl;rw[List.any_eq_false]at h;exact h e he (by simp)
 constructor
 ·intro hh e he;have:=hh e he
  rwa [Array.getElem?_setIfInBounds_ne (hne e he)]at this
 ·intro hh e he;rw[Array.getElem?_setIfInBounds_ne (hne e he)];exact hh e he
theorem qp.put{w:World}{hp:Hp}{env:Env}{tmps:Array Value}{d:Nat}{u y:Value}{x:SV}(hm:x.mentions d=false)(h:qp w hp env tmps x y):qp w hp env (tmps.setIfInBounds d u) x y:=by
 cases x with
 |one x=>exact h
 |wK l=>exact h
 |cond p x=>exact⟨fun hh=>h.1 ((Ge hm).1 hh),fun hh=>h.2 fun k=>hh ((Ge hm).2 k)⟩
theorem Good.aa5{zb:cD}{st:St}{tmps:Array Value}{w:World}{env:Env}(g:Good ty zb st tmps w env){d:Nat}(hd:d<tmps.size){v:SV}{u:Value}(hv:qp w st.hp env tmps v u)(hm:v.mentions d=false)(f:SV→SV)(hf: ∀s y,look st.sl s=some y→f y= .one (.a .any)∨(f y=y∧y.mentions d=false)):
  Good ty zb ⟨st.n,(d,v)::st.sl.map fun e=>(e.1,f e.2),st.hp⟩ (tmps.setIfInBounds d u) w env:=by
 refine⟨g.obj,g.kK,fun s x hl=> ?_,g.dom,g.pins⟩;by_cases hs:s=d
 ·subst hs;have hl:look ((s,v)::_) s=some x:=hl;rw[look_eq]at hl;simp only[oI]at hl;subst hl;have:(tmps.setIfInBounds s u).getD s undef=u:=by
   rw[Array.getD_eq_getD_getElem?,Array.getElem?_setIfInBounds_self_of_lt hd];rfl
  rw[this];exact hv.put hm
 ·have hl:look ((d,v)::_) s=some x:=hl;rw[bB hs,jT (α:=SV) (f:=fun e:Nat×SV=>f e.2)]at hl;cases hq:look st.sl s with
  |none=>rw[hq]at hl;cases hl
  |some y=>
   rw[hq]at hl;simp only[Option.map_some,oI]at hl;subst hl;have hgd:(tmps.setIfInBounds d u).getD s undef=tmps.getD s undef:=by
    rw[Array.getD_eq_getD_getElem?,Array.getD_eq_getD_getElem?,Array.getElem?_setIfInBounds_ne (Ne.symm hs)]
   rw[hgd];show qp w st.hp env _ (f y) _
   rcases hf s y hq with h| ⟨h,hm'⟩
   ·rw[h];trivial
   ·rw[h];exact(g.slot s y hq).put hm'
theorem Good.put{zb:cD}{st:St}{tmps:Array Value}{w:World}{env:Env}(g:Good ty zb st tmps w env){d:Nat}(hd:d<tmps.size){v:SV}{u:Value}(hv:qp w st.hp env tmps v u)(hm:v.mentions d=false):
  Good ty zb (st.put (some d) v) (tmps.setIfInBounds d u) w env:=by
 unfold St.put;dsimp only;split
 ·rename_i hno;have:=g.aa5 hd hv hm id (fun s y hl=>Or.inr ⟨rfl,by
   rw[List.any_eq_false]at hno;simpa using hno _ (dO hl)⟩)
  simpa using this
 ·refine g.aa5 hd hv hm (SV.Rn d) fun s y hl=> ?_;unfold SV.Rn;split
  ·exact Or.inl rfl
  ·rename_i hm';exact Or.inr ⟨rfl,hm'⟩
theorem lB{zb:cD}{st:St}{a:Act}{w:World}{env:Env}(g:Good ty zb st a.tmps w env){dst:Option Nat}(hd: ∀d,dst=some d→d<a.tmps.size){v:SV}{u:Value}(hv:qp w st.hp env a.tmps v u)(hm: ∀d,dst=some d→v.mentions d=false):
  Good ty zb (st.put dst v) (a.put dst u).tmps w env:=by
 cases dst with
 |none=>exact g
 |some d=>exact g.put (hd d rfl) hv (hm d rfl)
theorem gr(a:Act)(dst:Option Nat)(u:Value):(a.put dst u).tmps.size=a.tmps.size:=by
 cases dst<;>simp[Act.put]
theorem tq(st:St)(d:Option Nat)(v:SV):(st.put d v).n=st.n:=by
 unfold St.put;split
 ·split<;>rfl
 ·rfl
theorem YY(st:St)(d:Option Nat)(v:SV):(st.put d v).hp=st.hp:=by
 unfold St.put;split
 ·split<;>rfl
 ·rfl
theorem put_defers(a:Act)(dst:Option Nat)(u:Value):(a.put dst u).defers=a.defers:=by
 cases dst<;>rfl
theorem qv{ops:Array Oper}{o:Oper}{j:Nat}{x:Bool}(hg:o.guard=some (j,x)){q:Oper}(hj:ops[j]? =some q){d:Nat}(hd:q.dst=some d)(tmps:Array Value):
  Region.wanted o (yielded ops tmps)=true↔tmps[d]? =some (.bool x):=by
 simp only[Region.wanted,hg,yielded,hj,Option.bind_some,hd];constructor
 ·intro h;have h:=eq_of_beq h;split at h
  ·rename_i b hb;simp at h;rw[hb,h]
  ·cases h
 ·intro h;rw[h];simp
theorem AE{zb:cD}{st:St}{tmps:Array Value}{w:World}{env:Env}(g:Good ty zb st tmps w env){d:Nat}{p:List (Nat×Bool)}{b x:Bool}(hl:look st.sl d=some (.cond p (.a (.lit (.bool b)))))(h:tmps[d]? =some (.bool x)):holds tmps p∧b=x:=by
 have hs:=g.slot d _ hl;rw[Array.getD_eq_getD_getElem?,h]at hs;by_cases hh:holds tmps p
 ·have:=(hs.1 hh).lit;simp at this;exact⟨hh,this.symm⟩
 ·have:=hs.2 hh;simp[undef]at this
theorem RN{zb:cD}{st:St}{tmps:Array Value}{w:World}{env:Env}(g:Good ty zb st tmps w env){d:Nat}{b x:Bool}(hl:look st.sl d=some (.one (.a (.lit (.bool b)))))(h:tmps[d]? =some (.bool x)):b=x:=by
 have hs:=g.slot d _ hl;rw[Array.getD_eq_getD_getElem?,h]at hs;have:=(show fD w st.hp env (.a (.lit (.bool b))) (.bool x)from hs).lit;simp at this;exact this.symm
theorem C4{zb:cD}{st:St}{tmps:Array Value}{w:World}{env:Env}(g:Good ty zb st tmps w env): ∀{p:List (Nat×Bool)},holds tmps p→ ∀q,q∈hyps st p→q
 | [],_,q,hq=>by simp[hyps]at hq
 | (d,x)::r,h,q,hq=>by
   have h0:tmps[d]? =some (.bool x):=h (d,x) (by simp);have hr:holds tmps r:=fun e he=>h e (by simp[he]);simp only[hyps]at hq;split at hq
   ·rename_i b hl;rcases List.mem_cons.1 hq with rfl|hq
    ·exact RN g hl h0
    ·exact C4 g hr q hq
   ·rename_i p' b hl;rcases List.mem_cons.1 hq with rfl|hq
    ·exact(AE g hl h0).2
    ·exact C4 g hr q hq
   ·exact C4 g hr q hq
theorem NT: ∀{hs:List Prop} {q:Prop},Jp hs q→(∀h,h∈hs→h)→q
 | [],_,h,_=>h
 |h'::r,q,h,hh=>NT (hs:=r) (h (hh h' (by simp))) fun x hx=>hh x (by simp[hx])
section
variable{P:Program}{zb:cD}{st st':St}{a:Act}{w:World}{Q:Exit→Act→World→Prop}{o:Oper}
def gN(P:Program)(ops:Array Oper)(o:Oper)(a:Act)(w:World)(K:Act→World→Prop)(Q:Exit→Act→World→Prop):Prop:=
 if Region.wanted o (yielded ops a.tmps)then o.wp P a w K Q∨(o.asks P a w∧LetsOut Q)else K (a.put o.dst undef) w
theorem gR{ops:Array Oper}(hg:o.guard=none){K:Act→World→Prop}(h:o.wp P a w K Q):gN P ops o a w K Q:=by
 unfold gN;rw[if_pos (by simp[Region.wanted,hg])];exact .inl h
theorem Hz(iv:Inv ty zb st a w)(h:yt st o.dst=true): ∀d,o.dst=some d→d<a.tmps.size:=by
 intro d hd;rw[hd]at h;rw[iv.size];exact Nat.le_of_ble_eq_true h
theorem JC{Γ:Nat→TK}(C: ∀t,cT P t (Γ t)){dm:List (Nat×Nat)}{cr:List (Nat×CR)}{ops:List Oper}{vc:List Prop}{v2:SV}{os:Hp}(h:oT Γ (PR P ty) (Sound ty P) dm cr ops st o=some (vc,v2,os))(iv:Inv ty zb st a w)(hv: ∀q,q∈vc→q):
  gN P ops.toArray o a w (fun a' w'=>Inv ty zb (St.put ⟨st.n,st.sl,os++st.hp⟩ o.dst v2) a' w') Q:=by
 obtain⟨env,g⟩:=iv.good;have YZ:=iv.kept.size;simp only[oT]at h;split at h
 ·rename_i m hd _ kM;have hdl:=Hz iv hd;have hg:o.guard=none:=by
   cases hg:o.guard with
   |none=>rfl
   |some e=>
    obtain⟨j,x⟩:=e;exfalso;simp only[iF,hg]at kM
    repeat' split at kM
    all_goals simp at kM
  split at h
  ·rename_i v1 v os hq;split at h
   ·rename_i hf hn;simp only[oI,pI]at h;obtain⟨rfl,rfl,rfl⟩:=h;refine gR hg (Oper.wp_mono ?_ (JA (Q:=Q) C hq g (fun e he=>by simp at he) (iv.C1.now iv.kept) hv hf hn));rintro a' w' ⟨u,env',rfl,hN,hr⟩;have g':=g.grow YZ hf hN;have hnm: ∀d,o.dst=some d→v.mentions d=false:=by
     intro d _;cases v with
     |one x=>rfl
     |wK l=>rfl
     |cond p x=>
      exfalso;have: ∀(op:Op) (d m:Nat) (out:Out) (p:List (Nat×Bool)) (x:S1),quiet Γ (PR P ty) (Sound ty P) cr st [] d m op=some out→out.v≠ .cond p x:=by
       intro op d m out p x hh;unfold quiet Ro at hh
       repeat' split at hh
       all_goals first
        | (cases hh;done)
        | (simp only[dW,oI]at hh;subst hh;intro e;cases e;done)
        | (simp only[oI]at hh;subst hh;unfold outs;(repeat' split)<;>(intro e;cases e))
      exact this _ _ _ _ p x hq rfl
    refine⟨by rw[gr,tq];exact iv.size,by rw[put_defers];exact iv.defers,iv.kept.trans (je hN.below YZ),iv.C1,env',lB g' hdl hr hnm⟩
   ·cases h
  ·cases h
 ·rename_i m e p hd _ kM;have hdl:=Hz iv hd;split at h
  ·rename_i hne;split at h
   ·rename_i v1 v hq;simp only[oI,pI]at h;obtain⟨rfl,rfl,rfl⟩:=h;have hmn: ∀d,o.dst=some d→(SV.cond (e::p) v).mentions d=false:=by
     intro d QU;show((e::p).any fun e=>Nat.beq e.1 d)=false
     rw[List.any_eq_false]at hne ⊢;intro x hx hb;have:=Nat.eq_of_beq_eq_true hb;exact hne x hx (by rw[QU,this];simp)
    have fin: ∀{u:Value} {w':World},Below w.heap.size w w'→kL (ty:=ty) w w' st.hp [] env env→qp w' st.hp env a.tmps (.cond (e::p) v) u→Inv ty zb (st.put o.dst (.cond (e::p) v)) (a.put o.dst u) w':=by
     intro u w' hb hN hr;have g':=g.grow (os:= []) YZ rfl hN;exact⟨by rw[gr,tq];exact iv.size,by rw[put_defers];exact iv.defers,iv.kept.trans (je hb YZ),iv.C1,env,lB g' hdl hr hmn⟩
    have key: ∃j x q d,o.guard=some (j,x)∧ops[j]? =some q∧q.dst=some d∧(d,x)∈e::p∧(a.tmps[d]? =some (.bool x)→holds a.tmps (e::p)):=by
     unfold iF at kM;split at kM
     ·simp at kM
     ·rename_i j x hg;split at kM
      ·rename_i q hj;split at kM
       ·rename_i d Vj;split at kM
        ·rename_i b hl;simp only[oI]at kM;refine⟨j,x,q,d,hg,hj,Vj,by rw[←kM];simp,fun hh=> ?_⟩;rw[←kM];intro y hy;simp at hy;subst hy;exact hh
        ·rename_i p' b hl;simp only[oI]at kM;refine⟨j,x,q,d,hg,hj,Vj,by rw[←kM];simp,fun hh=> ?_⟩;rw[←kM];intro y hy;rcases List.mem_cons.1 hy with rfl|hy
         ·exact hh
         ·exact(AE g hl hh).1 y hy
        ·cases kM
       ·cases kM
      ·cases kM
    obtain⟨j,x,q,d,hg,hj,Vj,hmem,aa6⟩:=key;have hw:=qv (ops:=ops.toArray) hg (by simpa using hj) Vj a.tmps;unfold gN;by_cases hb:a.tmps[d]? =some (.bool x)
    ·rw[if_pos (hw.2 hb)];have hp:=aa6 hb;left;refine Oper.wp_mono ?_ (JA (Q:=Q) C hq g hp (iv.C1.now iv.kept) (fun z hz=> ?_) rfl rfl)
     ·rintro a' w' ⟨u,env',rfl,hN,hr⟩;have he:env'=env:=funext fun n=>hN.old n rfl;subst he;exact fin hN.below hN ⟨fun _=>hr,fun hh=>absurd (fun y hy=>hp y hy) hh⟩
     ·exact NT (hv _ (List.mem_map.2 ⟨z,hz,rfl⟩)) (C4 g hp)
    ·rw[if_neg (fun hh=>hb (hw.1 hh))];exact fin (Below.refl _ _) (kL.none (Below.refl _ _)) ⟨fun hh=>absurd (hh (d,x) hmem) hb,fun _=>rfl⟩
   ·cases h
  ·cases h
 ·cases h
theorem RP{Γ:Nat→TK}(C: ∀t,cT P t (Γ t)){dm:List (Nat×Nat)}{cr:List (Nat×CR)}{ops:List Oper}{vc:List Prop}(h:Rp Γ (PR P ty) (Sound ty P) dm cr ops st o=some (vc,st'))(iv:Inv ty zb st a w)(hv: ∀q,q∈vc→q):
  gN P ops.toArray o a w (fun a' w'=>Inv ty zb st' a' w') Q:=by
 unfold Rp at h;split at h
 ·rename_i oV v os hq;simp only[oI,pI]at h;obtain⟨rfl,rfl⟩:=h;exact JC C hq iv hv
 ·cases h
end
end
section
variable{ty:Tag→Nat}
def V.dead:V→V
 | .vw _ _ _ l=> .Cp l.length
 |_=> .any
def V.bL(ks kv:List Nat)(v:V):V:=match v.name with
 |some m=>match ks.any (Nat.beq m)with
  |true=>v.dead
  |false=>match kv with
   | []=>v
   |kv=>match v.view with
    |some _=>match kv.any (Nat.beq m)with|true=>v.dead|false=>v
    |none=>v
 |none=>v
def S1.bL(ks kv:List Nat):S1→S1
 | .a v=> .a (v.bL ks kv)
 | .agg l=> .agg (l.map (V.bL ks kv))
def SV.bL(ks kv:List Nat):SV→SV
 | .one x=> .one (x.bL ks kv)
 | .wK l=> .wK (l.map (S1.bL ks kv))
 | .cond p x=> .cond p (x.bL ks kv)
def qd.bL(ks kv:List Nat):qd→qd
 | .of n=>match ks.any (Nat.beq n)||kv.any (Nat.beq n)with|true=> .gone|false=> .of n
 | .Ax (some (n,i,o))=>match ks.any (Nat.beq n)||kv.any (Nat.beq n)with|true=> .Ax none|false=> .Ax (some (n,i,o))
 |s=>s
def Obj.bL(ks kv:List Nat):Obj→Obj
 | .box c=> .box (c.map (V.bL ks kv))
 | .arr t l=> .arr t l
 | .iq t l s=> .iq t l (s.bL ks kv)
def cK(ks kv:List Nat)(hp:Hp):Hp:=(hp.filter fun e=> !ks.any (Nat.beq e.1)).map fun e=>(e.1,e.2.bL ks kv)
def pinned(ks:List Nat):Bool:=ks.any soft
theorem V.L7{ks kv:List Nat}{v:V}:(v.bL ks kv).s9 (fun n=>n∉ks) (fun n=>n∉ks∧n∉kv):=by
 have hx: ∀{l:List Nat} {m:Nat},(l.any (Nat.beq m))=false→m∉l:=by
  intro l m h hm;rw[List.any_eq_false]at h;exact h m hm (by simp)
 have XX: ∀x:V,x.dead.s9 (fun n=>n∉ks) (fun n=>n∉ks∧n∉kv):=by
  intro x;cases x<;>exact⟨fun _ h=>by simp[V.dead,V.name]at h,fun _ h=>by simp[V.dead,V.view]at h⟩
 unfold V.bL;split
 ·rename_i m hm;split
  ·exact XX v
  ·rename_i hk;have hk:=hx hk;have hn: ∀n,v.name=some n→n∉ks:=by
    intro n h;rw[hm]at h;simp only[oI]at h;subst h;exact hk
   split
   ·exact⟨hn,fun n h=>⟨hn n (V.oU h),by simp⟩⟩
   ·split
    ·split
     ·exact XX v
     ·rename_i hv;have hv:=hx hv;refine⟨hn,fun n h=>⟨hn n (V.oU h),?_⟩⟩;have:=V.oU h;rw[hm]at this;simp only[oI]at this;subst this;exact hv
    ·rename_i hnv;exact⟨hn,fun n h=>by rw[hnv]at h;cases h⟩
 ·rename_i hm;refine⟨fun n h=> ?_,fun n h=> ?_⟩
  ·rw[hm]at h;cases h
  ·have:=V.oU h;rw[hm]at this;cases this
theorem RA.dead{w:World}{hp:Hp}{env:Env}{v:V}{u:Value}(h:RA w hp env v u):RA w hp env v.dead u:=by
 cases v with
 |vw n p t l=>
  obtain⟨_,⟨fp,⟨oa,cap,rfl,hc,hm,h3⟩,_⟩,_⟩:=h;refine⟨oa,cap,rfl,hc,hm,fun ho=> ?_⟩;rcases h3 with⟨_,_,h4⟩| ⟨b,off,bX,h4,_⟩
  ·exact h4
  ·rw[ho]at h4;cases h4
 |_=>trivial
theorem RA.bL{w:World}{hp:Hp}{env:Env}{ks kv:List Nat}{v:V}{u:Value}(h:RA w hp env v u):RA w hp env (v.bL ks kv) u:=by
 unfold V.bL
 repeat' split
 all_goals first
  |exact h
  |exact h.dead
  |trivial
abbrev qw(ks kv:List Nat)(w:World)(hp:Hp)(env:Env)(w':World)(hp':Hp)(env':Env):Prop:=Step (fun n=>n∉ks) (fun n=>n∉ks∧n∉kv) w hp env w' hp' env'
section
variable{ks kv:List Nat}{w w':World}{hp hp':Hp}{env env':Env}
theorem BE.gS(s:qw ks kv w hp env w' hp' env'){r:qd}{t:Tag}{x:T t}{u:Value}(h:BE w hp env r t x u):BE w' hp' env' (r.bL ks kv) t x u:=by
 cases r with
 |gone=>trivial
 |mp=>trivial
 |LL u=>trivial
 |Ax p=>
  have: ∃q,qd.bL ks kv (.Ax p)= .Ax q:=by
   unfold qd.bL;split
   ·rename_i e;cases e
   ·split
    ·exact⟨_,rfl⟩
    ·exact⟨_,rfl⟩
   ·exact⟨_,rfl⟩
  obtain⟨q,hq⟩:=this;rw[hq];trivial
 |mL=>exact BE.step s (r:= .mL) (fun n hn=>by cases hn) h
 |of n=>
  unfold qd.bL;dsimp only;split
  ·trivial
  ·rename_i hk;rw[Bool.or_eq_false_iff,List.any_eq_false,List.any_eq_false]at hk;refine BE.step s (r:= .of n) (fun m hm=> ?_) h;simp only[qd.name,oI]at hm;subst hm;exact⟨fun hm=>hk.1 n hm (by simp),fun hm=>hk.2 n hm (by simp)⟩
theorem RA.gS(s:qw ks kv w hp env w' hp' env'){v:V}{u:Value}(h:RA w hp env v u):RA w' hp' env' (v.bL ks kv) u:=
 RA.step s V.L7 h.bL
theorem bK.map{α β γ:Type}{R:α→β→Prop}{R':γ→β→Prop}{f:α→γ}: ∀{as:List α} {bs:List β},(∀a b,R a b→R' (f a) b)→bK R as bs→bK R' (as.map f) bs
 | [],[],_,_=>trivial
 |a::as,b::bs,h,⟨h1,h2⟩=>⟨h a b h1,bK.map h h2⟩
 | [],_::_,_,h=>h.elim
 |_::_,[],_,h=>h.elim
theorem fD.gS(s:qw ks kv w hp env w' hp' env'){x:S1}{u:Value}(h:fD w hp env x u):fD w' hp' env' (x.bL ks kv) u:=by
 cases x with
 |a v=>exact RA.gS s h
 |agg l=>obtain⟨cs,hu,hl⟩:=h;exact⟨cs,hu,hl.map fun a b hr=>RA.gS s hr⟩
theorem qp.gS(s:qw ks kv w hp env w' hp' env'){tmps:Array Value}{x:SV}{u:Value}(h:qp w hp env tmps x u):qp w' hp' env' tmps (x.bL ks kv) u:=by
 cases x with
 |one x=>exact fD.gS s h
 |wK l=>obtain⟨us,hu,hl⟩:=h;exact⟨us,hu,hl.map fun a b hr=>fD.gS s hr⟩
 |cond p x=>exact⟨fun hh=>fD.gS s (h.1 hh),h.2⟩
theorem Good.gS{zb:cD}{st:St}{tmps:Array Value}(g:Good ty zb st tmps w env)(s:qw ks kv w st.hp env w' hp' env')
  (ho: ∀n o,look hp' n=some o→RO ty w' hp' env' n o (env' n))(hd: ∀n m o o',n≠m→look hp' n=some o→look hp' m=some o'→ ∀b,b∈(env' n).fp→b∉(env' m).fp)
  (hm: ∀n o,look hp' n=some o→ ∀b,b∈(env' n).fp→b∈zb.L∨zb.w.heap.size≤b)(hp: ∀n,kB n=true→(env' n).v=(zb.pv n).v∧ ∀b,b∈(env' n).fp→b∈(zb.pv n).fp):
  Good ty zb ⟨st.n,st.sl.map fun e=>(e.1,e.2.bL ks kv),hp'⟩ tmps w' env':=by
 refine⟨ho,hd,fun t v hl=> ?_,hm,hp⟩;have hl:look (st.sl.map fun e=>(e.1,e.2.bL ks kv)) t=some v:=hl;rw[jT (α:=SV) (f:=fun e:Nat×SV=>e.2.bL ks kv)]at hl;cases hq:look st.sl t with
 |none=>rw[hq]at hl;cases hl
 |some y=>
  rw[hq]at hl;simp only[Option.map_some,oI]at hl;subst hl;exact qp.gS s (g.slot t y hq)
end
theorem ck{ks kv:List Nat}{hp:Hp}{n:Nat}:look (cK ks kv hp) n=if n∈ks then none else(look hp n).map (Obj.bL ks kv):=by
 unfold cK;rw[jT (α:=Obj) (f:=fun e:Nat×Obj=>e.2.bL ks kv)];have:look (hp.filter fun e=> !ks.any (Nat.beq e.1)) n=if n∈ks then none else look hp n:=by
  induction hp with
  |nil=>simp[look]
  |cons e r ih=>
   obtain⟨j,x⟩:=e;by_cases hj:j∈ks
   ·have:(ks.any (Nat.beq j))=true:=List.any_eq_true.2 ⟨j,hj,by simp⟩;rw[List.filter_cons_of_neg (by simp[this]),ih];by_cases hn:n∈ks
    ·simp[hn]
    ·have:n≠j:=by rintro rfl;exact hn hj
     rw[bB this]
   ·have:(ks.any (Nat.beq j))=false:=List.any_eq_false.2 fun y hy hb=>hj (by have:=Nat.eq_of_beq_eq_true hb;rw[this];exact hy);rw[List.filter_cons_of_pos (by simp[this])];by_cases hn:n=j
    ·subst hn;rw[look_eq,look_eq,if_neg hj]
    ·rw[bB hn,bB hn,ih]
 rw[this];split<;>rfl
theorem oW: ∀{l:List V},s8 l=true→ ∀v,v∈l→v≠ .any
 |x::r,h,v,hv=>by
  cases x with
  |any=>simp[s8]at h
  |_=>
   rcases List.mem_cons.1 hv with rfl|hv
   ·exact fun e=>by cases e
   ·exact oW (l:=r) (by simpa[s8]using h) v hv
def HA(Γ:Nat→TK)(st:St):Op→Option St
 | .store t x y=>match gQ st [] x,LM st [] y with
   |some (.a (.ptr n off)),some v=>match look st.hp n with
    |some (.box c)=>match Γ t,v with
     | .st z _ _, .agg l=>match Nat.beq l.length z.length&&s8 l,LN c off l with
       |true,some c'=>some ⟨st.n,st.sl,(n, .box c')::st.hp⟩
       |_,_=>none
     | .st _ _ _, .a _=>none
     | .other,_=>none
     |_, .a .any=>none
     |_, .a v=>match LN c off [v]with
      |some c'=>some ⟨st.n,st.sl,(n, .box c')::st.hp⟩
      |none=>none
     |_,_=>none
    |_=>none
   |_,_=>none
 |_=>none
section
variable{P:Program}{zb:cD}{st st':St}{a:Act}{w:World}{env:Env}{Q:Exit→Act→World→Prop}{o:Oper}
theorem RA.one(g:Good ty zb st a.tmps w env){v:V}{u:Value}(h:RA w st.hp env v u)(hv:v≠ .any):u.oneCell'=true:=by
 cases v with
 |any=>exact absurd rfl hv
 |lit x=>obtain⟨rfl,h1⟩:=h;exact h1
 |sl t l=>obtain⟨fp,⟨oa,cap,rfl,_⟩,_⟩:=h;rfl
 |own n=>
  obtain⟨⟨t,l,hl⟩,rfl⟩:=h;obtain⟨oa,cap,h,_⟩:=RO.sl (g.obj n _ hl);rw[h];rfl
 |ptr n off=>obtain⟨_,b,_,rfl⟩:=h;rfl
 |F3 f n=>obtain⟨_,b,_,rfl⟩:=h;rfl
 |Cp k=>obtain⟨oa,cap,rfl,_⟩:=h;rfl
 |raw x=>obtain⟨rfl,h1⟩:=h;exact h1
 |vf v t l=>obtain⟨_,fp,⟨oa,cap,rfl,_⟩,_⟩:=h;rfl
 |rQ n i off=>obtain⟨t,l,_,b,o,len,cap,_,rfl⟩:=h;rfl
 |ip t x off=>obtain⟨b,o,cs,fp,rfl,_⟩:=h;rfl
 |vw n p t l=>obtain⟨_,⟨fp,⟨oa,cap,rfl,_⟩,_⟩,_⟩:=h;rfl
 |Jb n t l=>obtain⟨_,b,fp,⟨oa,cap,rfl,_⟩,_⟩:=h;rfl
 |mix n c t l=>obtain⟨_,⟨fp,⟨oa,cap,rfl,_⟩,_⟩,_⟩:=h;rfl
 |FB n=>
  obtain⟨⟨t,l,s,hl⟩,rfl⟩:=h;rcases RO.FC (g.obj n _ hl)with⟨_,r,lx,_,h,_⟩| ⟨_,_,hv,_,_,⟨oa,cap,h,_⟩,_⟩| ⟨_,_,_,⟨oa,m,cap,h⟩,_⟩| ⟨_,_,us,hB,_⟩
  ·rw[h];rfl
  ·rw[hv,h];rfl
  ·rw[h];rfl
  ·obtain⟨oa,cap,h,_⟩:=hB.sl;rw[h];rfl
 |Ja n p t x off=>obtain⟨_,b,o,cs,fp,rfl,_⟩:=h;rfl
theorem vm(g:Good ty zb st a.tmps w env): ∀{l:List V} {us:List Value},bK (RA w st.hp env) l us→(∀v,v∈l→v≠ .any)→ ∀u,u∈us→u.oneCell'=true
 |v::l,u::us,⟨h1,h2⟩,hn,x,hx=>by
  rcases List.mem_cons.1 hx with rfl|hx
  ·exact RA.one g h1 (hn v (by simp))
  ·exact vm g h2 (fun y hy=>hn y (by simp[hy])) x hx
 | [],_::_,h,_,_,_=>h.elim
theorem DQ(g:Good ty zb st a.tmps w env){n:Nat}{c c':List V}(hl:look st.hp n=some (.box c)){b:Nat}{cs us:List Value}{e:TypeId}{off:Nat}(Jd:env n=⟨.pointer (some ⟨b,0,none⟩),[b]⟩)(hh:w.heap[b]? =some (.cells (Array.mk cs) e (0,0)))
  (hlen:off+us.length≤cs.length)(hc:bK (RA w st.hp env) c' (cs.take off++(us++cs.drop (off+us.length)))):
  Good ty zb ⟨st.n,st.sl,(n, .box c')::st.hp⟩ a.tmps (w.setCells b off us) env:=by
 have hk: ∀x,x≠b→(w.setCells b off us).heap[x]? =w.heap[x]? :=fun x hx=>cH b us off w x hx;have hlk: ∀m o,look ((n,Obj.box c')::st.hp) m=some o→(m=n∧o= .box c')∨(m≠n∧look st.hp m=some o):=by
  intro m o hm;by_cases hmn:m=n
  ·subst hmn;rw[look_eq]at hm;simp only[oI]at hm;exact Or.inl ⟨rfl,hm.symm⟩
  ·rw[bB hmn]at hm;exact Or.inr ⟨hmn,hm⟩
 have how:Ow st.hp env b:=⟨n,_,hl,by rw[Jd];simp⟩;have s:Step (fun _=>True) (fun _=>True) w st.hp env (w.setCells b off us) ((n, .box c')::st.hp) env:=by
  refine⟨fun x _ hx=>hk x (fun e=>hx (e▸how)),?_,?_,?_⟩
  ·rintro x _ ⟨m,o,h1,h2⟩;rcases hlk m o h1 with⟨rfl,rfl⟩| ⟨_,h1⟩
   ·exact⟨m,_,hl,h2⟩
   ·exact⟨m,o,h1,h2⟩
  ·intro m o _ h1;by_cases hmn:m=n
   ·subst hmn;rw[hl]at h1;simp only[oI]at h1;subst h1;exact⟨_,look_eq,trivial,rfl⟩
   ·exact⟨o,by rw[bB hmn];exact h1,by cases o<;>simp[Obj.like],rfl⟩
  ·intro m t l _ h1;have hmn:m≠n:=by rintro rfl;rw[hl]at h1;cases h1
   refine⟨by rw[bB hmn];exact h1,rfl,fun x hx=>hk x ?_⟩;rintro rfl;exact g.kK m n _ _ hmn h1 hl x hx (by rw[Jd];simp)
 refine⟨fun m o hm=> ?_,fun m m' o o' hne h1 h2=> ?_,fun t v hv=>qp.step s (fun v _=>v.eO) (g.slot t v hv),fun m o hm b hb=> ?_,g.pins⟩
 ·rcases hlk m o hm with⟨rfl,rfl⟩| ⟨hmn,hm⟩
  ·refine⟨b,_,e,Jd,?_,hc.mono fun v u _ h=>RA.step s v.eO h⟩;rw[Dw hh,nU us cs off hlen]
  ·have hro:=g.obj m o hm;refine hro.step s (Obj.eO _) fun x hx=>hk x ?_;rintro rfl;exact g.kK m n o _ hmn hm hl x hx (by rw[Jd];simp)
 ·rcases hlk m o h1 with⟨e1,e2⟩| ⟨_,k1⟩<;>rcases hlk m' o' h2 with⟨e3,e4⟩| ⟨_,k2⟩
  ·exact absurd (e1.trans e3.symm) hne
  ·exact g.kK m m' _ _ hne (e1▸hl) k2
  ·exact g.kK m m' _ _ hne k1 (e3▸hl)
  ·exact g.kK m m' _ _ hne k1 k2
 ·rcases hlk m o hm with⟨e1,_⟩| ⟨_,k1⟩
  ·subst e1;exact g.dom m _ hl b hb
  ·exact g.dom m o k1 b hb
theorem DR{b:Nat}(hb:b∈zb.L∨zb.w.heap.size≤b){c:Array Value}{e:TypeId}(hh:w.heap[b]? =some (.cells c e (0,0)))(off:Nat)(us:List Value):Kept zb w (w.setCells b off us):=by
 have h0:=below_setCells (B:=0) (w:=w) (Below.refl 0 w) (Nat.zero_le b) off us;refine⟨h0.os,h0.tape,h0.output,h0.size,fun x hx hn=>cH b us off w x ?_,fun x c' e' hx=> ?_⟩
 ·rintro rfl;rcases hb with h|h
  ·exact hn h
  ·omega
 ·by_cases XY:x=b
  ·subst XY;rw[hh]at hx;simp only[oI,Go.Obj.cells.injEq,and_true]at hx;obtain⟨rfl,rfl⟩:=hx;obtain⟨c2,h1,h2⟩:=ec x e us off w c hh;exact⟨c2,h1,h2⟩
  ·exact⟨c',by rw[cH b us off w x XY];exact hx,rfl⟩
theorem qx{t b off:Nat}{v:Value}{us:List Value}(hv:v.cells=us.toArray)(ht:w.there b off us.length)(hi:(P.info? t).map (·.size)=some us.length)(h1: ∀u,u∈us→u.oneCell'=true):
  (storeVar t ⟨b,off,none⟩ v).run P w= .ok () (w.setCells b off us):=by
 have:=run_storeVar_mid (P:=P) w b off t us.toArray (by simpa using ht) (by simpa using hi) (all_oneCell_toArray h1);unfold storeVar at this ⊢;rw[hv];exact this
theorem PX{Γ:Nat→TK}(C: ∀t,cT P t (Γ t))(Z: ∀t,(∀z tg fo,Γ t≠ .st z tg fo)→Γ t≠ .other→(P.info? t).map (·.size)=some 1)(h:HA Γ st o.op=some st')(g:Good ty zb st a.tmps w env):
  o.wp P a w (fun a' w'=>a'=a.put o.dst undef∧Kept zb w w'∧Good ty zb st' a.tmps w' env∧st'.n=st.n∧st'.sl=st.sl) Q:=by
 have hop: ∀{x v},gQ st [] x=some v→fD w st.hp env v (a.eval x):=fun hx=>e9 g (fun e he=>by simp at he) hx;have hor: ∀{x v},LM st [] x=some v→fD w st.hp env v (a.eval x):=fun hx=>xd g (fun e he=>by simp at he) hx;generalize fQ:o.op=op at h;cases op with
 |store t x y=>
  simp only[HA]at h;split at h
  ·rename_i n off v hx hy;have hx:=hop hx;have hy:=hor hy;split at h
   ·rename_i c hl;obtain⟨_,b,hb,hu⟩:=hx;obtain⟨b',cs,e,Jd,hh,hc⟩:=g.obj n _ hl;have hM:=g.dom n _ hl b' (by rw[Jd];simp);have YW:b=b':=by rw[Jd]at hb;simpa using hb.symm
    subst YW;have fin: ∀{us:List Value} {c':List V},(a.eval y).cells=us.toArray→(P.info? t).map (·.size)=some us.length→(∀u,u∈us→u.oneCell'=true)→off+us.length≤cs.length→bK (RA w st.hp env) c' (cs.take off++(us++cs.drop (off+us.length)))→st'=⟨st.n,st.sl,(n, .box c')::st.hp⟩→
      o.wp P a w (fun a' w'=>a'=a.put o.dst undef∧Kept zb w w'∧Good ty zb st' a.tmps w' env∧st'.n=st.n∧st'.sl=st.sl) Q:=by
     intro us c' h1 h2 h3 h4 h5 h6;subst h6;unfold Oper.wp execOp;simp only[fQ,hu,Instr.storeAt,Instr.sureAddr,Sem.run_bind,Sem.run_pure,Result.andThen_ok,qx h1 (LZ hh off us.length h4) h2 h3];exact⟨by trivial,DR hM hh off us,DQ g hl Jd hh h4 h5,by trivial,by trivial⟩
    split at h
    ·rename_i z tg fo l hk _;split at h
     ·rename_i c' hlen hs;simp only[oI]at h;obtain⟨us,VU,L6⟩:=hy;obtain⟨k1,k2⟩:=Hv hc L6 hs;have hC:=C t;rw[hk]at hC;obtain⟨fs,_,hi,_⟩:=hC;simp only[Bool.and_eq_true]at hlen;have ir:=Nat.eq_of_beq_eq_true hlen.1;refine fin (us:=us) (by rw[VU];rfl) ?_ ?_ k1 k2 h.symm
      ·rw[L6.len,ir];cases hq:P.info? t with
       |none=>simp[hq]at hi
       |some i=>simp[hq]at hi;simp[hi.1]
      ·exact vm g L6 (oW hlen.2)
     ·cases h
    ·cases h
    ·cases h
    ·cases h
    ·rename_i v k1 k2 k3 _;split at h
     ·rename_i c' hs;simp only[oI]at h;obtain⟨q1,q2⟩:=Hv (vs:= [v]) (us:= [a.eval y]) hc ⟨hy,trivial⟩ hs;have hne:v≠ .any:=fun e=>k1 e;refine fin (us:= [a.eval y]) (jE g hy hne) (Z t (fun z tg fo hz=>k2 z tg fo hz) k3) ?_ q1 q2 h.symm;intro u hu';rw[List.mem_singleton.1 hu'];exact RA.one g hy hne
     ·cases h
    ·cases h
   ·cases h
  ·cases h
 |_=>simp[HA]at h
end
end
section
variable{ty:Tag→Nat}
theorem yA{α:Type}{k:Nat}{E:ER α}(G:fN k E)(hk:0<k){w:World}{u:Value}{l:List α}{fp:List Nat}(h:Sl k E w u l fp):
  ∃(news:List Value) (fx:List (List Nat)),Src w u l.length news∧fx.length=l.length∧news.length=l.length*k∧(∀i x f,l[i]? =some x→fx[i]? =some f→E w ((news.drop (i*k)).take k) x f)∧fx.flatten.Sublist fp:=by
 obtain⟨news,fx,h1,h2,h3,h4,h5,_⟩:=yy G hk h;exact⟨news,fx,h1,h2,h3,h4,h5⟩
theorem qd.JD{ks kv:List Nat}{r:qd}(h:r.br):(r.bL ks kv).br:=by
 cases r with
 |mp=>exact h.elim
 |LL u=>exact h.elim
 |Ax p=>exact h.elim
 |gone=>trivial
 |mL=>trivial
 |of n=>unfold qd.bL;dsimp only;split<;>trivial
theorem Cr.gS{ks kv:List Nat}{w w':World}{hp hp':Hp}{env env':Env}(s:qw ks kv w hp env w' hp' env'){n:Nat}{t:Tag}{l:List (T t)}{p:Option (Nat×Nat×Nat)}{co:CO}(hk: ∀b,b∈co.fp→w'.heap[b]? =w.heap[b]?)(h:Cr ty w hp env t l p co):RO ty w' hp' env' n (.iq t l ((qd.Ax p).bL ks kv)) co:=by
 have hnone:Cr ty w' hp' env' t l none co:=⟨h.1.agree hk,h.2.1,fun _ _ _ e=>by cases e⟩;cases p with
 |none=>exact hnone
 |some e=>
  obtain⟨m,i,o⟩:=e;unfold qd.bL;dsimp only;split
  ·exact hnone
  ·rename_i hn;rw[Bool.or_eq_false_iff,List.any_eq_false,List.any_eq_false]at hn;refine Cr.step s (fun n hm=> ?_) hk h;simp only[qd.name,oI]at hm;subst hm;exact⟨fun hm=>hn.1 _ hm (by simp),fun hm=>hn.2 _ hm (by simp)⟩
theorem RO.gS{ks kv:List Nat}{w w':World}{hp hp':Hp}{env env':Env}(s:qw ks kv w hp env w' hp' env'){n:Nat}{o:Obj}{co:CO}
  (hk: ∀b,b∈co.fp→w'.heap[b]? =w.heap[b]?)(h:RO ty w hp env n o co):RO ty w' hp' env' n (o.bL ks kv) co:=by
 cases o with
 |box c=>
  obtain⟨b,cs,e,rfl,hh,hc⟩:=h;exact⟨b,cs,e,rfl,by rw[hk b (by simp)];exact hh,hc.map fun a u hr=>RA.gS s hr⟩
 |arr t l=>exact RO.agree h hk
 |iq t l r=>
  rcases RO.FC h with⟨rfl,h⟩| ⟨u,rfl,h⟩| ⟨p,rfl,h⟩| ⟨hr,h1,us,hB,h2,h3⟩
  ·exact Jr.agree h hk
  ·exact Js.step s hk h
  ·exact Cr.gS s hk h
  ·exact RO.PO (qd.JD hr) ⟨h1,us,iW.agree yu hB hk,h2,fun i x u hx hu=>BE.gS s (h3 i x u hx hu)⟩
def St.gone(st:St)(ks:List Nat)(d:Nat)(t:Tag)(l:List (T t)):St:=
 match ks with
 | []=>⟨st.n,st.sl,(d, .arr t l)::st.hp⟩
 |ks=>⟨st.n,st.sl.map fun e=>(e.1,e.2.bL ks []),(d, .arr t l)::cK ks [] st.hp⟩
theorem V.iw(v:V):v.bL [] []=v:=by
 unfold V.bL;split<;>simp
theorem S1.iw(x:S1):x.bL [] []=x:=by
 cases x with
 |a v=>simp[S1.bL,V.iw]
 |agg l=>simp only[S1.bL,S1.agg.injEq];rw[List.map_congr_left (g:=id) fun v _=>V.iw v,List.map_id]
theorem SV.iw(x:SV):x.bL [] []=x:=by
 cases x with
 |one x=>simp[SV.bL,S1.iw]
 |wK l=>simp only[SV.bL,SV.wK.injEq];rw[List.map_congr_left (g:=id) fun v _=>S1.iw v,List.map_id]
 |cond p x=>simp[SV.bL,S1.iw]
theorem L8(hp:Hp):cK [] [] hp=hp:=by
 unfold cK;rw[List.filter_eq_self.2 (by simp),List.map_congr_left (g:=id),List.map_id];rintro⟨n,o⟩ _;cases o with
 |box c=>simp only[Obj.bL,id];rw[List.map_congr_left (g:=id) fun v _=>V.iw v,List.map_id]
 |arr t l=>rfl
 |iq t l s=>cases s with
  |Ax p=>cases p<;>rfl
  |_=>rfl
theorem St.gone_eq(st:St)(ks:List Nat)(d:Nat)(t:Tag)(l:List (T t)):st.gone ks d t l=⟨st.n,st.sl.map fun e=>(e.1,e.2.bL ks []),(d, .arr t l)::cK ks [] st.hp⟩:=by
 unfold St.gone;split
 ·rw[L8,List.map_congr_left (g:=id),List.map_id];rintro⟨n,x⟩ _;simp[SV.iw]
 ·rfl
section
variable{P:Program}{zb:cD}{st st':St}{a:Act}{w:World}{env:Env}{Q:Exit→Act→World→Prop}{o:Oper}
theorem qy{ks:List Nat}(h:pinned ks=false){n:Nat}(hn:n∈ks):soft n=false:=by
 unfold pinned at h;rw[List.any_eq_false]at h;simpa using h n hn
theorem AF(g:Good ty zb st a.tmps w env)(hB:zb.w.heap.size≤w.heap.size){ks:List Nat}(hpk:pinned ks=false){d:Nat}(Y0:kB d=false)(hd:look (cK ks [] st.hp) d=none){v v':Value}{w':World}{ob:Obj}{fp fx gC:List Nat}
  (jf: ∀b,b∈fp++fx→ ∃i o,i∈ks∧look st.hp i=some o∧b∈(env i).fp)(Fy: ∀b,v.ownBlock=some b→b∈fp)
  (hRO: ∀env':Env,env' d=⟨v',gC⟩→qw ks [] w st.hp env w' ((d,ob)::cK ks [] st.hp) env'→RO ty w' ((d,ob)::cK ks [] st.hp) env' d ob ⟨v',gC⟩)(hg:w.grownBy w' v.ownBlock)(hsub: ∀b,b∈gC→b∈fp∨b∈fx∨b=w.heap.size):
  ∃env',Good ty zb ⟨st.n,st.sl.map fun e=>(e.1,e.2.bL ks []),(d,ob)::cK ks [] st.hp⟩ a.tmps w' env'∧(env' d).v=v'∧(∀n,n≠d→env' n=env n)∧(env' d).fp=gC:=by
 refine⟨fun n=>if n=d then⟨v',gC⟩else env n,?_,by simp,fun n hn=>by simp[hn],by simp⟩;have hlk: ∀m o,look ((d,ob)::cK ks [] st.hp) m=some o→(m=d∧o=ob)∨(m≠d∧m∉ks∧ ∃o',look st.hp m=some o'∧o=o'.bL ks []):=by
  intro m o hm;by_cases lU:m=d
  ·subst lU;rw[look_eq]at hm;simp only[oI]at hm;exact Or.inl ⟨rfl,hm.symm⟩
  ·rw[bB lU,ck]at hm;split at hm
   ·cases hm
   ·rename_i hks;cases hq:look st.hp m with
    |none=>rw[hq]at hm;cases hm
    |some o'=>rw[hq]at hm;simp only[Option.map_some,oI]at hm;exact Or.inr ⟨lU,hks,o',rfl,hm.symm⟩
 have how: ∀b,b∈gC→b<w.heap.size→ ∃i o,i∈ks∧look st.hp i=some o∧b∈(env i).fp:=by
  intro b hb hlt;rcases hsub b hb with h|h|h
  ·exact jf b (List.mem_append_left _ h)
  ·exact jf b (List.mem_append_right _ h)
  ·omega
 have hnd: ∀m o,m∉ks→look st.hp m=some o→m≠d:=by
  rintro m o hks h1 rfl;rw[ck,if_neg hks,h1]at hd;cases hd
 have hst: ∀m o,m∉ks→look st.hp m=some o→ ∀b,b∈(env m).fp→w'.heap[b]? =w.heap[b]? :=by
  intro m o hks h3 b hb;refine hg.block b ((g.obj m o h3).blk b hb) fun e=> ?_;obtain⟨i,oi,hi,h5,h6⟩:=jf b (List.mem_append_left _ (Fy b e.symm));exact g.kK m i _ _ (fun e=>hks (e▸hi)) h3 h5 b hb h6
 have s:qw ks [] w st.hp env w' ((d,ob)::cK ks [] st.hp) (fun n=>if n=d then⟨v',gC⟩else env n):=by
  refine⟨fun b hb hno=>hg.block b hb fun e=> ?_,?_,?_,?_⟩
  ·obtain⟨i,o',_,h1,h2⟩:=jf b (List.mem_append_left _ (Fy b e.symm));exact hno ⟨i,o',h1,h2⟩
  ·rintro b hb ⟨m,o',h1,h2⟩;rcases hlk m o' h1 with⟨rfl,_⟩| ⟨lU,hks,Cv,h3,rfl⟩
   ·simp at h2;obtain⟨i,o',_,h3,h4⟩:=how b h2 hb;exact⟨i,o',h3,h4⟩
   ·simp[lU]at h2;exact⟨m,Cv,h3,h2⟩
  ·intro m o' hks h1;have lU:=hnd m o' hks h1;refine⟨o'.bL ks [],by rw[bB lU,ck,if_neg hks,h1];rfl,by cases o'<;>simp[Obj.like,Obj.bL],by simp[lU]⟩
  ·rintro m t' l' ⟨hks,_⟩ h1;have lU:=hnd m _ hks h1;exact⟨by rw[bB lU,ck,if_neg hks,h1];rfl,by simp[lU],hst m _ hks h1⟩
 refine g.gS s (fun m o' hm=> ?_) (fun m m' o1 o2 hne h1 h2 b hb hb'=> ?_) (fun m o' hm b hb=> ?_) (fun m hm=> ?_)
 ·rcases hlk m o' hm with⟨e1,e2⟩| ⟨lU,hks,Cv,h3,rfl⟩
  ·rw[e1,e2];simp only[if_true];exact hRO _ (by simp) s
  ·simp only[if_neg lU];have hro:=g.obj m Cv h3;exact hro.gS s (hst m Cv hks h3)
 ·rcases hlk m o1 h1 with⟨e1,_⟩| ⟨lU,hks,q1,h3,_⟩<;>rcases hlk m' o2 h2 with⟨e2,_⟩| ⟨HB,RQ,q2,h4,_⟩
  ·exact hne (e1.trans e2.symm)
  ·simp only[if_pos e1]at hb;simp only[if_neg HB]at hb';have hlt:=(g.obj m' q2 h4).blk b hb';obtain⟨i,oi,hi,h5,h6⟩:=how b hb hlt;exact g.kK m' i _ _ (fun e=>RQ (e▸hi)) h4 h5 b hb' h6
  ·simp only[if_pos e2]at hb';simp only[if_neg lU]at hb;have hlt:=(g.obj m q1 h3).blk b hb;obtain⟨i,oi,hi,h5,h6⟩:=how b hb' hlt;exact g.kK m i _ _ (fun e=>hks (e▸hi)) h3 h5 b hb h6
  ·simp only[if_neg lU]at hb;simp only[if_neg HB]at hb';exact g.kK m m' _ _ hne h3 h4 b hb hb'
 ·rcases hlk m o' hm with⟨e1,_⟩| ⟨lU,hks,q1,h3,_⟩
  ·simp only[if_pos e1]at hb;by_cases hlt:b<w.heap.size
   ·obtain⟨i,oi,hi,h5,h6⟩:=how b hb hlt;exact g.dom i oi h5 b h6
   ·exact Or.inr (by omega)
  ·simp only[if_neg lU]at hb;exact g.dom m q1 h3 b hb
 ·have:m≠d:=by rintro rfl;rw[Y0]at hm;cases hm
  simp only[if_neg this];exact g.pins m hm
theorem Gf(g:Good ty zb st a.tmps w env)(hB:zb.w.heap.size≤w.heap.size){ks:List Nat}(hpk:pinned ks=false){d:Nat}(Y0:kB d=false)(hd:look (cK ks [] st.hp) d=none){v v':Value}{w':World}{t:Tag}{l:List (T t)}{fp fx gC:List Nat}
  (jf: ∀b,b∈fp++fx→ ∃i o,i∈ks∧look st.hp i=some o∧b∈(env i).fp)(Fy: ∀b,v.ownBlock=some b→b∈fp)
  (hB':iW (kk t) (rd t) 0 (ty t) w' v' l gC)(hg:w.grownBy w' v.ownBlock)(hsub: ∀b,b∈gC→b∈fp∨b∈fx∨b=w.heap.size):
  ∃env',Good ty zb ⟨st.n,st.sl.map fun e=>(e.1,e.2.bL ks []),(d, .arr t l)::cK ks [] st.hp⟩ a.tmps w' env'∧(env' d).v=v'∧(∀n,n≠d→env' n=env n)∧(env' d).fp=gC:=
 AF g hB hpk Y0 hd jf Fy (fun _ _ _=>RO.F7 hB') hg hsub
theorem DS(g:Good ty zb st a.tmps w env)(hB:zb.w.heap.size≤w.heap.size){ks:List Nat}(hpk:pinned ks=false){d:Nat}(Y0:kB d=false)(hd:look (cK ks [] st.hp) d=none){v v':Value}{w':World}{t:Tag}{l:List (T t)}{fp fx gC:List Nat}
  (jf: ∀b,b∈fp++fx→ ∃i o,i∈ks∧look st.hp i=some o∧b∈(env i).fp)(Fy: ∀b,v.ownBlock=some b→b∈fp)
  (hB':iW (kk t) (rd t) 0 (ty t) w' v' l gC)(hg:w.grownBy w' v.ownBlock)(hsub: ∀b,b∈gC→b∈fp∨b∈fx∨b=w.heap.size):
  ∃env',Good ty zb ⟨st.n,st.sl.map fun e=>(e.1,e.2.bL ks []),(d, .arr t l)::cK ks [] st.hp⟩ a.tmps w' env'∧(env' d).v=v':=by
 obtain⟨env',h1,h2,_⟩:=Gf g hB hpk Y0 hd jf Fy hB' hg hsub;exact⟨env',h1,h2⟩
end
def HC(st:St)(t:Tag):S1→Option (List (T t)×List Nat)
 | .a (.own n)=>match look st.hp n with
   |some (.arr t' l)=>match jD t t' l with|some l=>some (l,[n])|none=>none
   |_=>none
 | .a (.lit (.slice none 0 0))=>some ([],[])
 |_=>none
def L9(st:St)(t:Tag):S1→Option (List (T t)×List Nat)
 | .a (.own n)=>match look st.hp n with
   |some (.arr t' l)=>match jD t t' l with|some l=>some (l,match flat t with|true=> []|false=> [n])|none=>none
   |_=>none
 | .a (.sl t' l)=>match flat t,jD t t' l with
   |true,some l=>some (l,[])
   |false,some l=>match l with| []=>some ([],[])|_=>none
   |_,_=>none
 | .a (.vw n _ t' l)=>match jD t t' l with
   |some l=>some (l,match flat t with|true=> []|false=> [n])
   |none=>none
 | .a (.Jb n t' l)=>match jD t t' l with
   |some l=>some (l,[n])
   |none=>none
 | .a (.lit (.slice none 0 0))=>some ([],[])
 | .a (.Cp 0)=>some ([],[])
 |_=>none
def oF{α:Type}:List α→List α→List α
 | [],l=>l
 | [x],l=>x::l
 |k,l=>k++l
theorem eX{α:Type}(k l:List α):oF k l=k++l:=by
 unfold oF;split<;>rfl
def JE(k m:List Nat):Bool:=k.all fun x=> !m.any fun y=>Nat.beq x y
def Ma(P:Program)(ty:Tag→Nat)(Γ:Nat→TK)(st:St)(m0:Nat):Op→Option (List Prop×St×SV)
 | .call ⟨.builtin .append,xs,ts⟩=>match xs.toList,ts.toList with
   | [s,x],[t1,t2]=>match Γ t1,Nat.beq t1 t2 with
     | .sl t e,true=>match Nat.beq e (ty t),gQ st [] s,gQ st [] x with
       |true,some vs,some vx=>match HC st t vs,L9 st t vx with
        |some (l,k),some (lx,m)=>match JE k m&& !pinned (oF k m)&& !kB m0,look (cK (oF k m) [] st.hp) m0 with
         |true,none=>some ([El P ty t,(l.length+lx.length)*dN t≤140737488355328∧l.length+lx.length≤maxLen],
           st.gone (oF k m) m0 t (l++lx), .one (.a (.own m0)))
         |_,_=>none
        |_,_=>none
       |_,_,_=>none
     |_,_=>none
   |_,_=>none
 |_=>none
section
variable{P:Program}{zb:cD}{st:St}{a:Act}{w:World}{env:Env}{Q:Exit→Act→World→Prop}{o:Oper}
theorem Gg(g:Good ty zb st a.tmps w env){t:Tag}{x:S1}{u:Value}{l:List (T t)}{k:List Nat}(hr:fD w st.hp env x u)(h:HC st t x=some (l,k)):
  pinned k=false→ ∃fp,iW (kk t) (rd t) 0 (ty t) w u l fp∧(∀b,b∈fp→ ∃i o,i∈k∧look st.hp i=some o∧b∈(env i).fp)
  :=by
 intro hpk;unfold HC at h;split at h
 ·rename_i n;split at h
  ·rename_i t' l' hl;split at h
   ·rename_i l2 hc;simp only[oI,pI]at h;obtain⟨rfl,rfl⟩:=h;obtain⟨e,rfl⟩:=eu hc;subst e;obtain⟨_,rfl⟩:=hr;exact⟨(env n).fp,RO.XT (qy hpk (by simp)) (g.obj n _ hl),fun b hb=>⟨n,_,by simp,hl,hb⟩⟩
   ·cases h
  ·cases h
 ·simp only[oI,pI]at h;obtain⟨rfl,rfl⟩:=h;have hu:=(show fD w st.hp env (.a (.lit DE)) u from hr).lit;subst hu;exact⟨[],iW.nil _ _ _ _ _,by simp⟩
 ·cases h
theorem DT{t:Tag}(hf:flat t=true){u:Value}{l:List (T t)}{fp:List Nat}(hs:Sl (kk t) (rd t) w u l fp):
  ∃(news:List Value) (fx:List (List Nat)),Src w u l.length news∧fx.length=l.length∧news.length=l.length*kk t∧(∀i x f,l[i]? =some x→fx[i]? =some f→rd t w ((news.drop (i*kk t)).take (kk t)) x f)∧fx.flatten= []:=by
 obtain⟨news,fx,h1,h2,h3,h4,h5⟩:=yA (ep t) (gy t) hs;refine⟨news,fx,h1,h2,h3,h4,?_⟩;rw[List.flatten_eq_nil_iff];intro f hf';obtain⟨i,hi⟩:=List.getElem?_of_mem hf';have hil:i<l.length:=by have:=(List.getElem?_eq_some_iff.1 hi).1;omega
 exact VE t hf (h4 i _ f (List.getElem?_eq_getElem hil) hi)
theorem PY(g:Good ty zb st a.tmps w env){t:Tag}{x:S1}{u:Value}{l:List (T t)}{k:List Nat}(hr:fD w st.hp env x u)(h:L9 st t x=some (l,k)):
  ∃(news:List Value) (fx:List (List Nat)),Src w u l.length news∧fx.length=l.length∧news.length=l.length*kk t∧(∀i x f,l[i]? =some x→fx[i]? =some f→rd t w ((news.drop (i*kk t)).take (kk t)) x f)∧
   (∀b,b∈fx.flatten→ ∃i o,i∈k∧look st.hp i=some o∧b∈(env i).fp)∧Own 0 w fx.flatten:=by
 unfold L9 at h;split at h
 ·rename_i n;split at h
  ·rename_i t' l' hl;split at h
   ·rename_i l2 hc;simp only[oI,pI]at h;obtain⟨rfl,hk⟩:=h;obtain⟨e,rfl⟩:=eu hc;subst e;obtain⟨_,rfl⟩:=hr;have hb:=RO.sl (g.obj n _ hl);split at hk
    ·rename_i hf;subst hk;obtain⟨news,fx,h1,h2,h3,h4,h5⟩:=DT hf hb;exact⟨news,fx,h1,h2,h3,h4,by simp[h5],by rw[h5];exact Own.nil _ _⟩
    ·subst hk;obtain⟨news,fx,h1,h2,h3,h4,h5⟩:=yA (ep t') (gy t') hb;have ho:=RO.own (g.obj n _ hl);exact⟨news,fx,h1,h2,h3,h4,fun b hb=>⟨n,_,by simp,hl,h5.subset hb⟩,⟨h5.nodup ho.nodup,fun b hb=>ho.ge b (h5.subset hb),fun b hb=>ho.kind b (h5.subset hb)⟩⟩
   ·cases h
  ·cases h
 ·rename_i t' l';split at h
  ·rename_i l2 hf hc;simp only[oI,pI]at h;obtain⟨rfl,rfl⟩:=h;obtain⟨e,rfl⟩:=eu hc;subst e;obtain⟨fp,hs,_⟩:=hr;obtain⟨news,fx,h1,h2,h3,h4,h5⟩:=DT hf hs;exact⟨news,fx,h1,h2,h3,h4,by simp[h5],by rw[h5];exact Own.nil _ _⟩
  ·rename_i l2 hf hc;split at h
   ·simp only[oI,pI]at h;obtain⟨rfl,rfl⟩:=h;obtain⟨e,he⟩:=eu hc;subst e;obtain rfl:l'= []:=he.symm;obtain⟨fp,hs,_⟩:=hr;obtain⟨news,fx,h1,h2,h3,h4,h5⟩:=yA (ep t') (gy t') hs;have LJ:fx= []:=List.eq_nil_of_length_eq_zero h2;subst LJ;exact⟨news,[],h1,rfl,h3,by simp,by simp,Own.nil _ _⟩
   ·cases h
  ·cases h
 ·rename_i n _ t' l';split at h
  ·rename_i l2 hc;simp only[oI,pI]at h;obtain⟨rfl,hk⟩:=h;obtain⟨e,rfl⟩:=eu hc;subst e;obtain⟨⟨tA,lA,hl⟩,⟨fp,hs,hnd,hsub⟩,_⟩:=hr;split at hk
   ·rename_i hf;subst hk;obtain⟨news,fx,h1,h2,h3,h4,h5⟩:=DT hf hs;exact⟨news,fx,h1,h2,h3,h4,by simp[h5],by rw[h5];exact Own.nil _ _⟩
   ·subst hk;obtain⟨news,fx,h1,h2,h3,h4,h5⟩:=yA (ep t') (gy t') hs;have ho:=RO.own (g.obj n _ hl);exact⟨news,fx,h1,h2,h3,h4,fun b hb=>⟨n,_,by simp,hl,hsub b (h5.subset hb)⟩,⟨h5.nodup hnd,fun b _=>Nat.zero_le _,fun b hb=>ho.kind b (hsub b (h5.subset hb))⟩⟩
  ·cases h
 ·rename_i n t' l';split at h
  ·rename_i l2 hc;simp only[oI,pI]at h;obtain⟨rfl,rfl⟩:=h;obtain⟨e,rfl⟩:=eu hc;subst e;obtain⟨⟨tA,lA,hl⟩,b,fp,hs,hb,hnd,hsub⟩:=hr;obtain⟨news,fx,h1,h2,h3,h4,_,h5⟩:=yy (ep t') (gy t') hs;have h5:=h5 b fp rfl;have ho:=RO.own (g.obj n _ hl);exact⟨news,fx,h1,h2,h3,h4,fun c hc=>⟨n,_,by simp,hl,hsub c (by rw[←h5];exact hc)⟩,⟨by rw[h5];exact hnd,fun c _=>Nat.zero_le _,fun c hc=>ho.kind c (hsub c (by rw[←h5];exact hc))⟩⟩
  ·cases h
 ·simp only[oI,pI]at h;obtain⟨rfl,rfl⟩:=h;have hu:=(show fD w st.hp env (.a (.lit DE)) u from hr).lit;subst hu;exact⟨[],[],Or.inl ⟨rfl,rfl,rfl⟩,rfl,by simp,by simp,by simp,Own.nil _ _⟩
 ·simp only[oI,pI]at h;obtain⟨rfl,rfl⟩:=h;obtain⟨oa,cap,rfl,_,_,hz⟩:=hr;refine⟨[],[],?_,rfl,by simp,by simp,by simp,Own.nil _ _⟩;cases oa with
  |none=>exact Or.inl ⟨by simp[hz rfl],rfl,rfl⟩
  |some a=>exact Or.inr ⟨a,cap,rfl,by simp⟩
 ·cases h
theorem VX{Γ:Nat→TK}(C: ∀t,cT P t (Γ t)){m0:Nat}{vc:List Prop}{st':St}{v:SV}(h:Ma P ty Γ st m0 o.op=some (vc,st',v))(g:Good ty zb st a.tmps w env)(hB:zb.w.heap.size≤w.heap.size)(hv: ∀q,q∈vc→q):
  o.wp P a w (fun a' w'=> ∃u env',a'=a.put o.dst u∧Kept zb w w'∧Good ty zb st' a.tmps w' env'∧st'.n=st.n∧qp w' st'.hp env' a.tmps v u) Q:=by
 have hop: ∀{x v},gQ st [] x=some v→fD w st.hp env v (a.eval x):=fun hx=>e9 g (fun e he=>by simp at he) hx;generalize fQ:o.op=op at h;cases op with
 |call c=>
  obtain⟨callee,xs,ts⟩:=c;cases callee with
  |builtin b=>
   cases b with
   |append=>
    simp only[Ma]at h;split at h
    ·rename_i s x t1 t2 hxl htl;obtain rfl:xs= #[s,x]:=by cases xs;simp_all
     obtain rfl:ts= #[t1,t2]:=by cases ts;simp_all
     split at h
     ·rename_i t e hk Mb;have Mb:=Nat.eq_of_beq_eq_true Mb;subst Mb;split at h
      ·rename_i vs vx he hs hx;have he:=Nat.eq_of_beq_eq_true he;split at h
       ·rename_i l k lx m hds hsr;split at h
        ·rename_i hno hlk;simp only[Bool.and_eq_true,Bool.not_eq_true']at hno;obtain⟨⟨hno,hpk⟩,JB⟩:=hno;rw[eX]at hpk;have adT:pinned k=false:=by
          unfold pinned at hpk ⊢;rw[List.any_append,Bool.or_eq_false_iff]at hpk;exact hpk.1
         simp only[oI,pI,eX]at h;rw[eX]at hlk;obtain⟨rfl,h2,rfl⟩:=h;rw[St.gone_eq]at h2;subst h2;have rD:El P ty t:=hv _ (by simp);obtain⟨aV,bI⟩:(l.length+lx.length)*dN t≤140737488355328∧l.length+lx.length≤maxLen:=hv _ (by simp);obtain⟨fp,hD,wL⟩:=Gg g (hop hs) hds adT;obtain⟨news,fx,n1,n2,n3,n4,n5,n6⟩:=PY g (hop hx) hsr;have hC:=C t1;rw[hk]at hC;have Vz:Own 0 w (fp++fx.flatten):=by
          have ho:=hD.own;refine⟨List.nodup_append.2 ⟨ho.nodup,n6.nodup,?_⟩,fun b hb=> ?_,fun b hb=> ?_⟩
          ·rintro b hb c hc rfl;obtain⟨i,oi,hi,h1,h2⟩:=wL b hb;obtain⟨j,oj,hj,h3,h4⟩:=n5 b hc;have hij:i≠j:=by
            rintro rfl;simp only[JE,List.all_eq_true,Bool.not_eq_true',List.any_eq_false]at hno;exact hno i hi i hj (by simp)
           exact g.kK i j _ _ hij h1 h3 b h2 h4
          ·rcases List.mem_append.1 hb with hb|hb
           ·exact ho.ge b hb
           ·exact n6.ge b hb
          ·rcases List.mem_append.1 hb with hb|hb
           ·exact ho.kind b hb
           ·exact n6.kind b hb
         refine Hf s x t1 fQ (ep t) (gy t) 0 (ty t) (eT t) (dN t) (by rw[←he];exact hC.1) rD (mK t) _ l fp rfl hD _ rfl lx news fx n1 n2 n3 n4 Vz bI aV (Nat.zero_le _) ?_;intro v' w' gC k1 k2 k3 k4 k5 _;obtain⟨env',hg',Mc⟩:=DS (ty:=ty) g hB (ks:=k++m) hpk JB hlk (v:=a.eval s) (fp:=fp) (fx:=fx.flatten)
          (by
           intro b hb;rcases List.mem_append.1 hb with hb|hb
           ·obtain⟨i,oi,hi,h1⟩:=wL b hb;exact⟨i,oi,List.mem_append_left _ hi,h1⟩
           ·obtain⟨i,oi,hi,h1⟩:=n5 b hb;exact⟨i,oi,List.mem_append_right _ hi,h1⟩)
          (by
           intro b hb;obtain⟨xs,bX,_,_,_,jf,_⟩:=hD;rw[jf,hb];simp)
          k1 k2 k4
         refine⟨v',env',rfl,⟨k2.os,k2.tape,k2.output,k2.size,fun b hb hn=>k2.block b (by omega) fun e=> ?_,k5⟩,hg',rfl,⟨t,_,look_eq⟩,Mc.symm⟩;have PZ:b∈fp:=by
          obtain⟨xs,bX,_,_,_,jf,_⟩:=hD;rw[jf, ←e];simp
         obtain⟨i,oi,hi,h1,h2⟩:=wL b PZ;rcases g.dom i oi h1 b h2 with h|h
         ·exact hn h
         ·omega
        ·cases h
       ·cases h
      ·cases h
     ·cases h
    ·cases h
   |_=>simp[Ma]at h
  |_=>simp[Ma]at h
 |_=>simp[Ma]at h
end
end
section
variable{ty:Tag→Nat}
def takes(st:St):List V→Option (List V×List Nat)
 | []=>some ([],[])
 | .lit v::r=>match takes st r with|some (c,k)=>some (.lit v::c,k)|none=>none
 | .own n::r=>match look st.hp n,takes st r with
   |some (.arr t l),some (c,k)=>some (.sl t l::c,n::k)
   |_,_=>none
 |_=>none
def DU(st:St)(g:Tag):Nat→List (Nat×Operand)→Option (List Prop×List (T g)×List Nat)
 |_,[]=>some ([],[],[])
 |i,(j,x)::r=>match Nat.beq i j,gQ st [] x with
  |true,some s=>match takes st (cellsOf s)with
   |some (c,k)=>match enc g c,DU st g (i+1) r with
    |some (vc,y),some (vcs,ys,ks)=>some (vc++vcs,y::ys,k++ks)
    |_,_=>none
   |none=>none
  |_,_=>none
def jg(st:St):List V→Option (List V×List Nat)
 | []=>some ([],[])
 | .lit v::r=>match jg st r with|some (c,k)=>some (.lit v::c,k)|none=>none
 | .own n::r=>match look st.hp n,jg st r with
   |some (.arr t l),some (c,k)=>some (.sl t l::c,n::k)
   |_,_=>none
 | .vw n _ t l::r=>match look st.hp n,jg st r with
   |some (.arr _ _),some (c,k)=>some (.sl t l::c,n::k)
   |_,_=>none
 |_=>none
def yB(st:St)(g:Tag):Nat→List (Nat×Operand)→Option (List Prop×List (T g)×List Nat)
 |_,[]=>some ([],[],[])
 |i,(j,x)::r=>match Nat.beq i j,gQ st [] x with
  |true,some s=>match jg st (cellsOf s)with
   |some (c,k)=>match enc g c,yB st g (i+1) r with
    |some (vc,y),some (vcs,ys,ks)=>some (vc++vcs,y::ys,k++ks)
    |_,_=>none
   |none=>none
  |_,_=>none
def oG:List Nat→Bool
 | []=>true
 |n::r=> !(r.any fun m=>Nat.beq n m)&&oG r
def DV(P:Program)(ty:Tag→Nat)(Γ:Nat→TK)(st:St)(m0:Nat):Op→Option (List Prop×St×SV)
 | .buildSlice t len parts=>match Γ t with
   | .sl g e=>match Nat.beq e (ty g),Nat.beq parts.toList.length len,Nat.ble (len*kk g) 16777216,yB st g 0 parts.toList with
     |true,true,true,some (vc,xs,ks)=>match oG ks&& !pinned ks&& !kB m0,look (cK ks [] st.hp) m0 with
      |true,none=>some (El P ty g::vc,st.gone ks m0 g xs, .one (.a (.own m0)))
      |_,_=>none
     |_,_,_,_=>none
   |_=>none
 |_=>none
theorem jF: ∀{l:List Nat},oG l=true→l.Nodup
 | [],_=>List.nodup_nil
 |n::r,h=>by
  simp only[oG,Bool.and_eq_true,Bool.not_eq_true',List.any_eq_false]at h;exact List.nodup_cons.2 ⟨fun hm=>h.1 n hm (by simp),jF h.2⟩
section
variable{P:Program}{zb:cD}{st:St}{a:Act}{w:World}{env:Env}{Q:Exit→Act→World→Prop}{o:Oper}
theorem yC(g:Good ty zb st a.tmps w env): ∀{l c:List V} {k:List Nat} {us:List Value},bK (RA w st.hp env) l us→takes st l=some (c,k)→k.Nodup→
  ∃fp,cq w c us fp∧Own 0 w fp∧ ∀b,b∈fp→ ∃i o,i∈k∧look st.hp i=some o∧b∈(env i).fp
 | [],c,k,us,hr,h,_=>by
   simp only[takes,oI,pI]at h;obtain⟨rfl,rfl⟩:=h;cases us with
   |nil=>exact⟨[],rfl,Own.nil _ _,by simp⟩
   |cons _ _=>exact hr.elim
 |v::r,c,k,us,hr,h,hnd=>by
  cases us with
  |nil=>exact hr.elim
  |cons u us=>
   cases v with
   |lit x=>
    simp only[takes]at h;split at h
    ·rename_i c' k' h';simp only[oI,pI]at h;obtain⟨rfl,rfl⟩:=h;obtain⟨fp,h1,h2,h3⟩:=yC g hr.2 h' hnd;obtain⟨e1,e2⟩:=hr.1;exact⟨fp,⟨[],fp,⟨e1,e2,rfl⟩,h1,rfl⟩,h2,h3⟩
    ·cases h
   |own n=>
    simp only[takes]at h;split at h
    ·rename_i t l c' k' hl h';simp only[oI,pI]at h;obtain⟨rfl,rfl⟩:=h;obtain⟨hn1,hn2⟩:=List.nodup_cons.1 hnd;obtain⟨fp,h1,h2,h3⟩:=yC g hr.2 h' hn2;obtain⟨_,rfl⟩:=hr.1;have hb:=RO.sl (g.obj n _ hl);have ho:=RO.own (g.obj n _ hl);refine⟨(env n).fp++fp,⟨_,_,hb,h1,rfl⟩,⟨List.nodup_append.2 ⟨ho.nodup,h2.nodup,?_⟩,fun b hb=> ?_,fun b hb=> ?_⟩,fun b hb=> ?_⟩
     ·rintro b hb x hx rfl;obtain⟨i,o,hi,h4,h5⟩:=h3 b hx;exact g.kK n i _ _ (fun e=>hn1 (e▸hi)) hl h4 b hb h5
     ·rcases List.mem_append.1 hb with hb|hb
      ·exact ho.ge b hb
      ·exact h2.ge b hb
     ·rcases List.mem_append.1 hb with hb|hb
      ·exact ho.kind b hb
      ·exact h2.kind b hb
     ·rcases List.mem_append.1 hb with hb|hb
      ·exact⟨n,_,by simp,hl,hb⟩
      ·obtain⟨i,o,hi,h4,h5⟩:=h3 b hb;exact⟨i,o,List.mem_cons_of_mem _ hi,h4,h5⟩
    ·cases h
   |_=>simp[takes]at h
theorem jh(g:Good ty zb st a.tmps w env){s:S1}{u:Value}(hr:fD w st.hp env s u)(hn:s8 (cellsOf s)=true):bK (RA w st.hp env) (cellsOf s) u.cells.toList:=by
 cases s with
 |a v=>
  have:=jE g (show RA w st.hp env v u from hr) (oW hn v (by simp[cellsOf]));rw[this];exact⟨hr,trivial⟩
 |agg l=>
  obtain⟨cs,rfl,hl⟩:=hr;exact hl
theorem fk{st:St}: ∀{l c:List V} {k:List Nat},takes st l=some (c,k)→s8 l=true
 | [],_,_,_=>rfl
 |v::r,c,k,h=>by
  cases v with
  |lit x=>
   simp only[takes]at h;split at h
   ·rename_i h';exact fk (l:=r) h'
   ·cases h
  |own n=>
   simp only[takes]at h;split at h
   ·rename_i h';exact fk (l:=r) h'
   ·cases h
  |_=>simp[takes]at h
theorem vn(g:Good ty zb st a.tmps w env): ∀{l c:List V} {k:List Nat} {us:List Value},bK (RA w st.hp env) l us→jg st l=some (c,k)→k.Nodup→
  ∃fp,cq w c us fp∧Own 0 w fp∧ ∀b,b∈fp→ ∃i o,i∈k∧look st.hp i=some o∧b∈(env i).fp
 | [],c,k,us,hr,h,_=>by
   simp only[jg,oI,pI]at h;obtain⟨rfl,rfl⟩:=h;cases us with
   |nil=>exact⟨[],rfl,Own.nil _ _,by simp⟩
   |cons _ _=>exact hr.elim
 |v::r,c,k,us,hr,h,hnd=>by
  cases us with
  |nil=>exact hr.elim
  |cons u us=>
   cases v with
   |lit x=>
    simp only[jg]at h;split at h
    ·rename_i c' k' h';simp only[oI,pI]at h;obtain⟨rfl,rfl⟩:=h;obtain⟨fp,h1,h2,h3⟩:=vn g hr.2 h' hnd;obtain⟨e1,e2⟩:=hr.1;exact⟨fp,⟨[],fp,⟨e1,e2,rfl⟩,h1,rfl⟩,h2,h3⟩
    ·cases h
   |own n=>
    simp only[jg]at h;split at h
    ·rename_i t l c' k' hl h';simp only[oI,pI]at h;obtain⟨rfl,rfl⟩:=h;obtain⟨hn1,hn2⟩:=List.nodup_cons.1 hnd;obtain⟨fp,h1,h2,h3⟩:=vn g hr.2 h' hn2;obtain⟨_,rfl⟩:=hr.1;have hb:=RO.sl (g.obj n _ hl);have ho:=RO.own (g.obj n _ hl);refine⟨(env n).fp++fp,⟨_,_,hb,h1,rfl⟩,⟨List.nodup_append.2 ⟨ho.nodup,h2.nodup,?_⟩,fun b hb=> ?_,fun b hb=> ?_⟩,fun b hb=> ?_⟩
     ·rintro b hb x hx rfl;obtain⟨i,o,hi,h4,h5⟩:=h3 b hx;exact g.kK n i _ _ (fun e=>hn1 (e▸hi)) hl h4 b hb h5
     ·rcases List.mem_append.1 hb with hb|hb
      ·exact ho.ge b hb
      ·exact h2.ge b hb
     ·rcases List.mem_append.1 hb with hb|hb
      ·exact ho.kind b hb
      ·exact h2.kind b hb
     ·rcases List.mem_append.1 hb with hb|hb
      ·exact⟨n,_,by simp,hl,hb⟩
      ·obtain⟨i,o,hi,h4,h5⟩:=h3 b hb;exact⟨i,o,List.mem_cons_of_mem _ hi,h4,h5⟩
    ·cases h
   |vw n p t l=>
    simp only[jg]at h;split at h
    ·rename_i t0 l0 c' k' hl h';simp only[oI,pI]at h;obtain⟨rfl,rfl⟩:=h;obtain⟨hn1,hn2⟩:=List.nodup_cons.1 hnd;obtain⟨fp,h1,h2,h3⟩:=vn g hr.2 h' hn2;obtain⟨_,⟨fv,hs,hnv,hsub⟩,_⟩:=hr.1;have ho:=RO.own (g.obj n _ hl);refine⟨fv++fp,⟨_,_,hs,h1,rfl⟩,⟨List.nodup_append.2 ⟨hnv,h2.nodup,?_⟩,fun b hb=> ?_,fun b hb=> ?_⟩,fun b hb=> ?_⟩
     ·rintro b hb x hx rfl;obtain⟨i,o,hi,h4,h5⟩:=h3 b hx;exact g.kK n i _ _ (fun e=>hn1 (e▸hi)) hl h4 b (hsub b hb) h5
     ·rcases List.mem_append.1 hb with hb|hb
      ·exact ho.ge b (hsub b hb)
      ·exact h2.ge b hb
     ·rcases List.mem_append.1 hb with hb|hb
      ·exact ho.kind b (hsub b hb)
      ·exact h2.kind b hb
     ·rcases List.mem_append.1 hb with hb|hb
      ·exact⟨n,_,by simp,hl,hsub b hb⟩
      ·obtain⟨i,o,hi,h4,h5⟩:=h3 b hb;exact⟨i,o,List.mem_cons_of_mem _ hi,h4,h5⟩
    ·cases h
   |_=>simp[jg]at h
theorem mw{st:St}: ∀{l c:List V} {k:List Nat},jg st l=some (c,k)→s8 l=true
 | [],_,_,_=>rfl
 |v::r,c,k,h=>by
  cases v with
  |lit x=>
   simp only[jg]at h;split at h
   ·rename_i h';exact mw (l:=r) h'
   ·cases h
  |own n=>
   simp only[jg]at h;split at h
   ·rename_i h';exact mw (l:=r) h'
   ·cases h
  |vw n p t l=>
   simp only[jg]at h;split at h
   ·rename_i h';exact mw (l:=r) h'
   ·cases h
  |_=>simp[jg]at h
theorem DW(g:Good ty zb st a.tmps w env){t:Tag}: ∀{ps:List (Nat×Operand)} {i:Nat} {vc:List Prop} {xs:List (T t)} {ks:List Nat},yB st t i ps=some (vc,xs,ks)→ks.Nodup→(∀q,q∈vc→q)→
  (ps.map fun p=>(p.1,a.eval p.2))=vR i (ps.map fun p=>a.eval p.2)∧xs.length=ps.length∧ ∃bX:List (List Nat),bX.length=xs.length∧
   (∀(i:Nat) (x:T t) (f:List Nat),xs[i]? =some x→bX[i]? =some f→ ∃p:Nat×Operand,ps[i]? =some p∧rd t w (a.eval p.2).cells.toList x f)∧Own 0 w bX.flatten∧ ∀b,b∈bX.flatten→ ∃i o,i∈ks∧look st.hp i=some o∧b∈(env i).fp
 | [],i,vc,xs,ks,h,_,_=>by
   simp only[yB,oI,pI]at h;obtain⟨rfl,rfl,rfl⟩:=h;exact⟨rfl,rfl,[],rfl,by simp,Own.nil _ _,by simp⟩
 | (j,x)::r,i,vc,xs,ks,h,hnd,hv=>by
   simp only[yB]at h;split at h
   ·rename_i s hij hx;have hij:=Nat.eq_of_beq_eq_true hij;subst hij;split at h
    ·rename_i c k hc;split at h
     ·rename_i oV y vcs ys ks1 he hb;simp only[oI,pI]at h;obtain⟨rfl,rfl,rfl⟩:=h;obtain⟨hn1,hn2,XV⟩:=List.nodup_append.1 hnd;obtain⟨q1,q2,bX,q3,q4,q5,q6⟩:=DW g hb hn2 (fun q hq=>hv q (List.mem_append_right _ hq));obtain⟨fp,r1,r2,r3⟩:=vn g (jh g (e9 g (fun e he=>by simp at he) hx) (mw hc)) hc hn1;have hE:=s6 t he (fun q hq=>hv q (List.mem_append_left _ hq)) r1;refine⟨by simp[vR,q1],by simp[q2],fp::bX,by simp[q3],?_,⟨?_,?_,?_⟩,?_⟩
      ·intro i' x' f hx' hf;cases i' with
       |zero=>simp at hx' hf;subst hx';subst hf;exact⟨(i,x),rfl,hE⟩
       |succ n=>simp at hx' hf;obtain⟨p,h1,h2⟩:=q4 n x' f hx' hf;exact⟨p,by simpa using h1,h2⟩
      ·rw[List.flatten_cons];refine List.nodup_append.2 ⟨r2.nodup,q5.nodup,?_⟩;rintro b hb z hz rfl;obtain⟨n,o1,h1,h2,h3⟩:=r3 b hb;obtain⟨m,o2,h4,h5,h6⟩:=q6 b hz;exact g.kK n m _ _ (fun e=>XV n h1 m h4 e) h2 h5 b h3 h6
      ·intro b hb;rw[List.flatten_cons]at hb;rcases List.mem_append.1 hb with hb|hb
       ·exact r2.ge b hb
       ·exact q5.ge b hb
      ·intro b hb;rw[List.flatten_cons]at hb;rcases List.mem_append.1 hb with hb|hb
       ·exact r2.kind b hb
       ·exact q5.kind b hb
      ·intro b hb;rw[List.flatten_cons]at hb;rcases List.mem_append.1 hb with hb|hb
       ·obtain⟨n,o1,h1,h2,h3⟩:=r3 b hb;exact⟨n,o1,List.mem_append_left _ h1,h2,h3⟩
       ·obtain⟨n,o1,h1,h2,h3⟩:=q6 b hb;exact⟨n,o1,List.mem_append_right _ h1,h2,h3⟩
     ·cases h
    ·cases h
   ·cases h
theorem P0{Γ:Nat→TK}(C: ∀t,cT P t (Γ t)){m0:Nat}{vc:List Prop}{st':St}{v:SV}(h:DV P ty Γ st m0 o.op=some (vc,st',v))(g:Good ty zb st a.tmps w env)(hB:zb.w.heap.size≤w.heap.size)(hv: ∀q,q∈vc→q):
  o.wp P a w (fun a' w'=> ∃u env',a'=a.put o.dst u∧Kept zb w w'∧Good ty zb st' a.tmps w' env'∧st'.n=st.n∧qp w' st'.hp env' a.tmps v u) Q:=by
 generalize fQ:o.op=op at h;cases op with
 |buildSlice t len parts=>
  simp only[DV]at h;split at h
  ·rename_i gt e hk;split at h
   ·rename_i oV xs ks he hlen hbig hb;have he:=Nat.eq_of_beq_eq_true he;split at h
    ·rename_i hnd hlk;simp only[Bool.and_eq_true,Bool.not_eq_true']at hnd;obtain⟨⟨hnd,hpk⟩,JB⟩:=hnd;simp only[oI,pI]at h;obtain⟨rfl,h2,rfl⟩:=h;rw[St.gone_eq]at h2;subst h2;have rD:El P ty gt:=hv _ (by simp);obtain⟨q1,q2,bX,q3,q4,q5,q6⟩:=DW g hb (jF hnd) (fun q hq=>hv q (by simp[hq]));have hC:=C t;rw[hk,he]at hC;obtain⟨w',r1,r2,r3⟩:=vl (P:=P) (w:=w) (a:=a) fQ hC.1 rD (Nat.le_of_ble_eq_true hbig) (Nat.eq_of_beq_eq_true hlen) (Nat.zero_le _) q1 q2 q3 q4 q5;obtain⟨env',hg',Mc⟩:=DS (ty:=ty) g hB (ks:=ks) hpk JB hlk (v:=DE) (fp:= []) (fx:=bX.flatten) (by simpa using q6) (by intro b hb;cases hb) r3
      ⟨r2.os,r2.tape,r2.output,r2.size,fun b hb _=>r2.block b hb⟩ (by
       intro b hb;rcases List.mem_cons.1 hb with h|h
       ·exact Or.inr (Or.inr h)
       ·exact Or.inr (Or.inl h))
     unfold Oper.wp;rw[r1];exact⟨_,env',rfl,je r2 hB,hg',rfl,⟨gt,_,look_eq⟩,Mc.symm⟩
    ·cases h
   ·cases h
  ·cases h
 |_=>simp[DV]at h
end
end
section
variable{ty:Tag→Nat}
theorem BY{w:World}{b o:Nat}{x y:List Value}(hx:w.rangeAt b o x)(hy:w.rangeAt b (o+x.length) y):w.rangeAt b o (x++y):=by
 intro j v hv;by_cases hj:j<x.length
 ·rw[List.getElem?_append_left hj]at hv;exact hx j v hv
 ·rw[List.getElem?_append_right (by omega)]at hv;have:=hy _ v hv
  rwa [show o+x.length+(j-x.length)=o+j by omega]at this
theorem HD{w:World}{b o n:Nat}{cs:List Value}(h:w.rangeAt b o cs):w.rangeAt b o (cs.take n):=by
 intro j v hv;rw[List.getElem?_take]at hv;split at hv
 ·exact h j v hv
 ·cases hv
theorem HE{w:World}{b o n:Nat}{cs:List Value}(h:w.rangeAt b o cs):w.rangeAt b (o+n) (cs.drop n):=by
 intro j v hv;rw[List.getElem?_drop]at hv;have:=h _ v hv
 rwa [show o+n+j=o+(n+j)by omega]
theorem tu{w:World}{b o off:Nat}{cs us:List Value}(h:w.rangeAt b o cs)(hl:off+us.length≤cs.length)(ht:w.there b (o+off) us.length):
  (w.setCells b (o+off) us).rangeAt b o (cs.take off++(us++cs.drop (off+us.length))):=by
 have l1:(cs.take off).length=off:=by rw[List.length_take];omega
 refine BY (World.rangeAt_setCells_apart (HD h) _ _ _ (Or.inr (Or.inl (by rw[l1];exact Nat.le_refl _)))) ?_;rw[l1];refine BY (World.rangeAt_setCells_same w b _ us ht) ?_;rw[Nat.add_assoc];exact World.rangeAt_setCells_apart (HE h) _ _ _ (Or.inr (Or.inr (by omega)))
theorem cq.aa8{w:World}{x y z:List V}{us vs ts:List Value}{f g h:List Nat}(a:cq w x us f)(b:cq w y vs g)(c:cq w z ts h):cq w (x++(y++z)) (us++(vs++ts)) (f++(g++h)):=cq.app a (cq.app b c)
theorem cq.split{w:World}: ∀(n:Nat) {c:List V} {cs:List Value} {f:List Nat},cq w c cs f→ ∃f1 f2,f=f1++f2∧cq w (c.take n) (cs.take n) f1∧cq w (c.drop n) (cs.drop n) f2
 |0,c,cs,f,h=>⟨[],f,rfl,by simp[cq],by simpa using h⟩
 |n+1,[],[],f,h=>⟨[],f,rfl,by simp[cq],by simpa using h⟩
 |n+1,v::r,u::us,f,⟨f1,f2,h1,h2,e⟩=>by
  obtain⟨g1,g2,k1,k2,k3⟩:=cq.split n h2;exact⟨f1++g1,g2,by rw[e,k1,List.append_assoc],⟨f1,g1,h1,k2,rfl⟩,by simpa using k3⟩
 |_+1,[],_::_,_,h=>h.elim
 |_+1,_::_,[],_,h=>h.elim
theorem cq.LN{w:World}{c d vs:List V}{cs us:List Value}{f g:List Nat}{off:Nat}(h:cq w c cs f)(hv:cq w vs us g)(hs:G.LN c off vs=some d):
  ∃f1 f2 f3,f=f1++(f2++f3)∧cq w d (cs.take off++(us++cs.drop (off+us.length))) (f1++(g++f3))∧off+us.length≤cs.length:=by
 unfold G.LN at hs;split at hs
 ·rename_i hb;have hb:=Nat.le_of_ble_eq_true hb;simp only[oI]at hs;subst hs;obtain⟨f1,f',e1,k1,k2⟩:=cq.split off h;obtain⟨f2,f3,e2,_,k4⟩:=cq.split us.length k2;have h1:=h.len;have h2:=hv.len;refine⟨f1,f2,f3,by rw[e1,e2],?_,by omega⟩;have:=cq.aa8 k1 hv k4;rw[List.drop_drop,List.drop_drop]at this;rw[←h2];exact this
 ·cases hs
theorem tv{bX:List (List Nat)}{i:Nat}{f':List Nat}{b:Nat}(h:b∈(bX.set i f').flatten):b∈f'∨ ∃j f,j≠i∧bX[j]? =some f∧b∈f:=by
 obtain⟨f,hf,hb⟩:=List.mem_flatten.1 h;obtain⟨j,hj⟩:=List.getElem?_of_mem hf;by_cases hji:j=i
 ·subst hji;have hlt:=(List.getElem?_eq_some_iff.1 hj).1;rw[List.length_set]at hlt;rw[List.getElem?_set_self hlt]at hj;simp only[oI]at hj;subst hj;exact Or.inl hb
 ·rw[List.getElem?_set_ne (Ne.symm hji)]at hj;exact Or.inr ⟨j,f,hji,hj,hb⟩
theorem oH{bX:List (List Nat)}{i:Nat}{f':List Nat}(h:bX.flatten.Nodup)(hf:f'.Nodup)(hd: ∀j f,j≠i→bX[j]? =some f→ ∀b,b∈f→b∉f'):(bX.set i f').flatten.Nodup:=by
 have h1:=List.pairwise_flatten.1 h;refine List.pairwise_flatten.2 ⟨fun l hl=> ?_,?_⟩
 ·obtain⟨j,hj⟩:=List.getElem?_of_mem hl;by_cases hji:j=i
  ·subst hji;have hlt:=(List.getElem?_eq_some_iff.1 hj).1;rw[List.length_set]at hlt;rw[List.getElem?_set_self hlt]at hj;simp only[oI]at hj;subst hj;exact hf
  ·rw[List.getElem?_set_ne (Ne.symm hji)]at hj;exact h1.1 _ (List.mem_of_getElem? hj)
 ·have h2:=List.pairwise_iff_getElem.1 h1.2;rw[List.pairwise_iff_getElem];intro p q hp hq hpq x hx y hy e;subst e;rw[List.length_set]at hp hq;rw[List.getElem_set]at hx hy;split at hx<;>split at hy
  ·omega
  ·rename_i e1 e2;subst e1;exact hd q _ (by omega) (List.getElem?_eq_getElem hq) x hy hx
  ·rename_i e1 e2;subst e2;exact hd p _ (by omega) (List.getElem?_eq_getElem hp) x hx hy
  ·exact h2 p q hp hq hpq x hx x hy rfl
theorem AG{α:Type}{k:Nat}{E:ER α}(G:fN k E){w w':World}{b off:Nat}{l:List α}{bX:List (List Nat)}(h:rB k E w b off l bX){i:Nat}{x':α}{f':List Nat}{cs':List Value}
  (hr:w'.rangeAt b (off+i*k) cs')(hE:E w' cs' x' f')(ho: ∀j cs,j≠i→cs.length=k→w.rangeAt b (off+j*k) cs→w'.rangeAt b (off+j*k) cs)(ha: ∀j f,j≠i→bX[j]? =some f→Agree w w' f):
  rB k E w' b off (l.set i x') (bX.set i f'):=by
 refine⟨by rw[List.length_set,List.length_set];exact h.1,fun j y fy hy ve=> ?_⟩;by_cases hj:i=j
 ·subst hj;have hi:=(List.getElem?_eq_some_iff.1 hy).1;rw[List.length_set]at hi;have hi2:=(List.getElem?_eq_some_iff.1 ve).1;rw[List.length_set]at hi2;rw[List.getElem?_set_self hi]at hy;rw[List.getElem?_set_self hi2]at ve;simp only[oI]at hy ve;subst hy;subst ve;exact⟨cs',hr,hE⟩
 ·rw[List.getElem?_set_ne hj]at hy ve;obtain⟨cy,hry,Q5⟩:=h.2 j y fy hy ve;exact⟨cy,ho j cy (Ne.symm hj) (G.len Q5) hry,G.agree Q5 (ha j fy (Ne.symm hj) ve)⟩
theorem Y1{α:Type}{k:Nat}{E:ER α}(G:fN k E){e:Nat}{w w':World}{v:Value}{l l':List α}{fp gC:List Nat}(h:iW k E 0 e w v l fp)(hs:Shape w w')(h':Sl k E w' v l' gC)(ho:Own 0 w' gC)(hsub: ∀b,b∈gC→b∈fp):
  ∃Rs,iW k E 0 e w' v l' Rs∧ ∀b,b∈Rs→b∈fp:=by
 rcases h.parts with⟨rfl,rfl,rfl⟩| ⟨g,o,n,c,bX,rfl,hn,hnm,hc1,hc2,rfl⟩
 ·obtain⟨oa,cap,hv,_,_,h3⟩:=h';simp only[Value.slice.injEq]at hv;obtain⟨rfl,hl,rfl⟩:=hv;have:l'= []:=List.eq_nil_of_length_eq_zero hl.symm;subst this;exact⟨[],iW.nil _ _ _ _ _,by simp⟩
 ·obtain⟨oa,cap,hv,hc,hm,h3⟩:=h';simp only[Value.slice.injEq]at hv;obtain⟨rfl,hl,rfl⟩:=hv;obtain⟨c',hs1,hs2⟩:=hs g c e hc1;rcases h3 with⟨rfl,rfl,_⟩| ⟨b,off,agb,hb,agc,rfl,hE⟩
  ·rw[hl];refine⟨[g],oX G (l:= []) (bX:= []) hs1 (by rw[hs2];exact hc2) (Nat.zero_le _) hm ⟨rfl,by simp⟩ ⟨by simp,by simp,fun b hb=> ?_⟩,by simp⟩;simp only[List.flatten_nil,List.mem_singleton]at hb;exact⟨_,_,by rw[hb];exact hs1⟩
  ·simp only[oI,Addr.mk.injEq,and_true]at hb;obtain⟨rfl,rfl⟩:=hb;rw[hl];exact⟨_,oX G hs1 (by rw[hs2];exact hc2) hc hm hE ho,hsub⟩
def fits:TK→S1→Bool
 | .st z _ _, .agg c=>Nat.beq c.length z.length
 | .st _ _ _,_=>false
 | .other,_=>false
 |_, .a _=>true
 |_,_=>false
theorem JG{k:TK}{c:List V}(h:fits k (.agg c)=true): ∃z tg fo,k= .st z tg fo∧Nat.beq c.length z.length=true:=by
 cases k with
 |st z tg fo=>exact⟨z,tg,fo,rfl,h⟩
 |_=>cases h
theorem JH{k:TK}{v:V}(h:fits k (.a v)=true):(∀z tg fo,k≠ .st z tg fo)∧k≠ .other:=by
 cases k with
 |st z tg fo=>cases h
 |other=>cases h
 |_=>exact⟨fun _ _ _ e=>(by cases e),fun e=>(by cases e)⟩
def St.RS(st:St)(ms:List Nat)(n:Nat)(t:Tag)(l:List (T t)):St:=⟨st.n,st.sl.map fun e=>(e.1,e.2.bL ms [n]),(n, .arr t l)::cK ms [n] st.hp⟩
def NU(n:Nat)(ms:List Nat):Bool:=oG (n::ms)&& !pinned ms&&(match ms with| []=>true|_=> !kB n)
def VZ(Γ:Nat→TK)(st:St):Op→Option (List Prop×St)
 | .store t x y=>match gQ st [] x,gQ st [] y with
   |some (.a (.rQ n i off)),some v=>match look st.hp n with
    |some (.arr g l)=>match fits (Γ t) v,takes st (cellsOf v)with
     |true,some (c,ms)=>match LN (dec g (l.getD i (aG g))) off c with
      |some d=>match enc g d,NU n ms with
       |some (vc,y'),true=>some ((i<l.length)::vc,st.RS ms n g (l.set i y'))
       |_,_=>none
      |none=>none
     |_,_=>none
    |_=>none
   |_,_=>none
 |_=>none
section
variable{P:Program}{zb:cD}{st st':St}{a:Act}{w:World}{env:Env}{Q:Exit→Act→World→Prop}{o:Oper}
theorem JI(g:Good ty zb st a.tmps w env){n:Nat}{t:Tag}{l l':List (T t)}(hl:look st.hp n=some (.arr t l)){ms:List Nat}(hok:NU n ms=true){w':World}{gC fx:List Nat}
  (LJ: ∀b,b∈fx→ ∃i o,i∈ms∧look st.hp i=some o∧b∈(env i).fp)(hsub: ∀b,b∈gC→b∈(env n).fp∨b∈fx)(JJ:kB n=true→ ∀b,b∈gC→b∈(env n).fp)
  (hk: ∀b,b∉(env n).fp→b∉fx→b<w.heap.size→w'.heap[b]? =w.heap[b]?)(adU:nO ty w' n t l' ⟨(env n).v,gC⟩):
  ∃env',Good ty zb (st.RS ms n t l') a.tmps w' env'∧(env' n).v=(env n).v:=by
 simp only[NU,Bool.and_eq_true,Bool.not_eq_true']at hok;obtain⟨⟨hnd,hpk⟩,hpn⟩:=hok;have hnd:=jF hnd;have hnm:n∉ms:=(List.nodup_cons.1 hnd).1;refine⟨fun m=>if m=n then⟨(env n).v,gC⟩else env m,?_,by simp⟩;have hlk: ∀m o,look ((n,Obj.arr t l')::cK ms [n] st.hp) m=some o→(m=n∧o= .arr t l')∨(m≠n∧m∉ms∧ ∃o',look st.hp m=some o'∧o=o'.bL ms [n]):=by
  intro m o hm;by_cases lU:m=n
  ·subst lU;rw[look_eq]at hm;simp only[oI]at hm;exact Or.inl ⟨rfl,hm.symm⟩
  ·rw[bB lU,ck]at hm;split at hm
   ·cases hm
   ·rename_i hks;cases hq:look st.hp m with
    |none=>rw[hq]at hm;cases hm
    |some o'=>rw[hq]at hm;simp only[Option.map_some,oI]at hm;exact Or.inr ⟨lU,hks,o',rfl,hm.symm⟩
 have how: ∀b,b∈gC→ ∃i o,(i=n∨i∈ms)∧look st.hp i=some o∧b∈(env i).fp:=by
  intro b hb;rcases hsub b hb with h|h
  ·exact⟨n,_,Or.inl rfl,hl,h⟩
  ·obtain⟨i,o,h1,h2,h3⟩:=LJ b h;exact⟨i,o,Or.inr h1,h2,h3⟩
 have hst: ∀m o,m≠n→m∉ms→look st.hp m=some o→ ∀b,b∈(env m).fp→w'.heap[b]? =w.heap[b]? :=by
  intro m o hmn hks h3 b hb;refine hk b (fun h=>g.kK m n _ _ hmn h3 hl b hb h) (fun h=> ?_) ((g.obj m o h3).blk b hb);obtain⟨i,oi,hi,h5,h6⟩:=LJ b h;exact g.kK m i _ _ (fun e=>hks (e▸hi)) h3 h5 b hb h6
 have s:qw ms [n] w st.hp env w' ((n, .arr t l')::cK ms [n] st.hp) (fun m=>if m=n then⟨(env n).v,gC⟩else env m):=by
  refine⟨fun b hb hno=>hk b (fun h=>hno ⟨n,_,hl,h⟩) (fun h=> ?_) hb,?_,?_,?_⟩
  ·obtain⟨i,oi,hi,h5,h6⟩:=LJ b h;exact hno ⟨i,oi,h5,h6⟩
  ·rintro b hb ⟨m,o',h1,h2⟩;rcases hlk m o' h1 with⟨rfl,rfl⟩| ⟨lU,hks,Cv,h3,rfl⟩
   ·simp at h2;obtain⟨i,o',_,h3,h4⟩:=how b h2;exact⟨i,o',h3,h4⟩
   ·simp[lU]at h2;exact⟨m,Cv,h3,h2⟩
  ·intro m o' hks h1;by_cases hmn:m=n
   ·subst hmn;rw[hl]at h1;simp only[oI]at h1;subst h1;exact⟨_,look_eq,rfl,by simp⟩
   ·exact⟨o'.bL ms [n],by rw[bB hmn,ck,if_neg hks,h1];rfl,by cases o'<;>simp[Obj.like,Obj.bL],by simp[hmn]⟩
  ·rintro m t' l2 ⟨hks,hmn⟩ h1;have hmn:m≠n:=by simpa using hmn
   exact⟨by rw[bB hmn,ck,if_neg hks,h1];rfl,by simp[hmn],hst m _ hmn hks h1⟩
 refine g.gS s (fun m o' hm=> ?_) (fun m m' o1 o2 hne h1 h2 b hb hb'=> ?_) (fun m o' hm b hb=> ?_) (fun m hm=> ?_)
 ·rcases hlk m o' hm with⟨rfl,rfl⟩| ⟨lU,hks,Cv,h3,rfl⟩
  ·simp only[if_true];exact adU
  ·simp only[if_neg lU];exact(g.obj m Cv h3).gS s (hst m Cv lU hks h3)
 ·rcases hlk m o1 h1 with⟨e1,_⟩| ⟨lU,hks,q1,h3,_⟩<;>rcases hlk m' o2 h2 with⟨e2,_⟩| ⟨HB,RQ,q2,h4,_⟩
  ·exact hne (e1.trans e2.symm)
  ·simp only[if_pos e1]at hb;simp only[if_neg HB]at hb';obtain⟨i,oi,hi,h5,h6⟩:=how b hb;refine g.kK m' i _ _ (fun e=> ?_) h4 h5 b hb' h6;rcases hi with hi|hi
   ·exact HB (e.trans hi)
   ·exact RQ (e▸hi)
  ·simp only[if_pos e2]at hb';simp only[if_neg lU]at hb;obtain⟨i,oi,hi,h5,h6⟩:=how b hb';refine g.kK m i _ _ (fun e=> ?_) h3 h5 b hb h6;rcases hi with hi|hi
   ·exact lU (e.trans hi)
   ·exact hks (e▸hi)
  ·simp only[if_neg lU]at hb;simp only[if_neg HB]at hb';exact g.kK m m' _ _ hne h3 h4 b hb hb'
 ·rcases hlk m o' hm with⟨e1,_⟩| ⟨lU,hks,q1,h3,_⟩
  ·simp only[if_pos e1]at hb;obtain⟨i,oi,_,h5,h6⟩:=how b hb;exact g.dom i oi h5 b h6
  ·simp only[if_neg lU]at hb;exact g.dom m q1 h3 b hb
 ·by_cases hmn:m=n
  ·subst hmn;simp only[if_true];exact⟨(g.pins m hm).1,fun b hb=>(g.pins m hm).2 b (JJ hm b hb)⟩
  ·simp only[if_neg hmn];exact g.pins m hm
theorem V0{Γ:Nat→TK}(C: ∀t,cT P t (Γ t))(Z: ∀t,(∀z tg fo,Γ t≠ .st z tg fo)→Γ t≠ .other→(P.info? t).map (·.size)=some 1){vc:List Prop}(h:VZ Γ st o.op=some (vc,st'))(g:Good ty zb st a.tmps w env)(hv: ∀q,q∈vc→q):
  o.wp P a w (fun a' w'=> ∃env',a'=a.put o.dst undef∧Kept zb w w'∧Good ty zb st' a.tmps w' env'∧st'.n=st.n) Q:=by
 have hop: ∀{x v},gQ st [] x=some v→fD w st.hp env v (a.eval x):=fun hx=>e9 g (fun e he=>by simp at he) hx;generalize fQ:o.op=op at h;cases op with
 |store t x y=>
  simp only[VZ]at h;split at h
  ·rename_i n i off v hx hy;have hx:=hop hx;have hy:=hop hy;split at h
   ·rename_i gt l hl;split at h
    ·rename_i c ms hfit htk;split at h
     ·rename_i d hs;split at h
      ·rename_i oV y' he hok;simp only[oI,pI]at h;obtain⟨rfl,rfl⟩:=h;have hi:i<l.length:=hv _ (by simp);have aba:=hok;simp only[NU,Bool.and_eq_true,Bool.not_eq_true']at aba;obtain⟨⟨hnd,hpk⟩,hpn⟩:=aba;have hnd:=jF hnd;have hnm:n∉ms:=(List.nodup_cons.1 hnd).1;obtain⟨t1,l1,hl1,b2,o2,adV,abb,hv1,hu⟩:=hx;rw[hl]at hl1;simp only[oI,Obj.arr.injEq]at hl1;obtain⟨rfl,_⟩:=hl1;have hro:=g.obj n _ hl;obtain⟨oa,cap,hsv,hc1,hc2,h3⟩:=RO.sl hro;have hown:=RO.own hro;rcases h3 with⟨rfl,_⟩| ⟨b,o1,bX,V1,bI,jf,hE⟩
       ·simp at hi
       rw[hsv,V1]at hv1;simp only[Value.slice.injEq,oI,Addr.mk.injEq,and_true]at hv1;obtain⟨⟨rfl,rfl⟩,rfl,rfl⟩:=hv1;have XZ:l[i]? =some (l.getD i (aG gt)):=by rw[List.getD_eq_getElem?_getD,List.getElem?_eq_getElem hi];rfl
       obtain⟨f,hf⟩:=fG hE.1 XZ;obtain⟨cs,Cu,Y2⟩:=hE.2 _ _ f XZ hf;have hlen:=(ep gt).len Y2;rw[jf]at hown;have qz:=List.nodup_cons.1 hown.nodup;obtain⟨fx,VV,hox,LJ⟩:=yC g (jh g hy (fk htk)) htk (List.nodup_cons.1 hnd).2;obtain⟨f1,f2,f3,NO,hrd,hlo⟩:=cq.LN (reads gt Y2) VV hs;have hEn:=s6 gt he (fun q hq=>hv q (by simp[hq])) hrd;have hsz:(P.info? t).map (·.size)=some (a.eval y).cells.toList.length∧ ∀u,u∈(a.eval y).cells.toList→u.oneCell'=true:=by
        refine⟨?_,vm g (jh g hy (fk htk)) (oW (fk htk))⟩;cases v with
        |agg c'=>
         have hk: ∃z tg fo,Γ t= .st z tg fo∧Nat.beq c'.length z.length=true:=by
          exact JG hfit
         obtain⟨z,tg,fo,hk,hfit⟩:=hk;have hC:=C t;rw[hk]at hC;obtain⟨fs,_,hi2,_⟩:=hC;obtain⟨us,VU,L6⟩:=hy;have:=Nat.eq_of_beq_eq_true hfit;have RT:=L6.len;rw[VU];cases hq:P.info? t with
         |none=>simp[hq]at hi2
         |some inf=>simp[hq]at hi2;simp[hi2.1,Value.cells,RT,this]
        |a v'=>
         have hk:(∀z tg fo,Γ t≠ .st z tg fo)∧Γ t≠ .other:=by
          exact JH hfit
         have hne:v'≠ .any:=by rintro rfl;simp[cellsOf,takes]at htk
         have:=jE g (show RA w st.hp env v' (a.eval y)from hy) hne;rw[this];exact Z t hk.1 hk.2
       obtain⟨cb,eb,AH⟩:=hown.kind b (by simp);have VA:w.there b (o1+i*kk gt+off) (a.eval y).cells.toList.length:=by
        refine LZ AH _ _ ?_;have hcl:o1+i*kk gt+cs.length≤cb.size:=by
         have hk0:=gy gt;have:=Cu (cs.length-1) _ (List.getElem?_eq_getElem (by omega));rw[Jk AH]at this;have:=(Array.getElem?_eq_some_iff.1 this).1;omega
        omega
       have hkeep: ∀x,x≠b→(w.setCells b (o1+i*kk gt+off) (a.eval y).cells.toList).heap[x]? =w.heap[x]? :=fun x hx=>cH b _ _ w x hx;have Je: ∀x,x∈fx→x≠b:=by
        rintro x hx rfl;obtain⟨m,om,hm,h5,h6⟩:=LJ x hx;exact g.kK n m _ _ (fun e=>hnm (e▸hm)) hl h5 x (by rw[jf];simp) h6
       have PZ: ∀x,x∈bX.flatten→x≠b:=fun x hx e=>qz.1 (e▸hx);have wM: ∀x,x∈f1++(fx++f3)→x∈f∨x∈fx:=by
        intro x hx;rw[NO];rcases List.mem_append.1 hx with hx|hx
        ·exact Or.inl (List.mem_append_left _ hx)
        ·rcases List.mem_append.1 hx with hx|hx
         ·exact Or.inr hx
         ·exact Or.inl (List.mem_append_right _ (List.mem_append_right _ hx))
       have YQ: ∀x,x∈f1++(fx++f3)→x≠b:=by
        intro x hx;rcases wM x hx with h|h
        ·exact PZ x (cI hf h)
        ·exact Je x h
       have PA:Agree w (w.setCells b (o1+i*kk gt+off) (a.eval y).cells.toList) (f1++(fx++f3)):=fun x hx=>hkeep x (YQ x hx);have P1:=AG (ep gt) (w':=w.setCells b (o1+i*kk gt+off) (a.eval y).cells.toList) hE (i:=i) (x':=y') (f':=f1++(fx++f3))
        (tu Cu hlo VA) ((ep gt).agree hEn PA)
        (fun j cs' hj hcl hr=>World.rangeAt_setCells_apart hr _ _ _ (Or.inr (by
         rw[hcl];rcases Nat.lt_or_ge j i with h1|h1
         ·left;have:=Nat.mul_le_mul_right (kk gt) (show j+1≤i by omega);rw[Nat.add_mul]at this;omega
         ·right;have:=Nat.mul_le_mul_right (kk gt) (show i+1≤j by omega);rw[Nat.add_mul]at this;omega)))
        (fun j f' _ hf' x hx=>hkeep x (PZ x (cI hf' hx)))
       have Y3:(f1++(fx++f3)).Nodup:=by
        have h1:=(List.pairwise_flatten.1 qz.2).1 f (List.mem_of_getElem? hf);rw[NO]at h1;obtain⟨h2,h3,h4⟩:=List.nodup_append.1 h1;obtain⟨_,h6,_⟩:=List.nodup_append.1 h3;have hap: ∀x,x∈fx→x∉f:=by
         intro x hx hxf;obtain⟨m,om,hm,h5,h7⟩:=LJ x hx;exact g.kK n m _ _ (fun e=>hnm (e▸hm)) hl h5 x (by rw[jf];exact List.mem_cons_of_mem _ (cI hf hxf)) h7
        rw[NO]at hap;refine List.nodup_append.2 ⟨h2,List.nodup_append.2 ⟨hox.nodup,h6,?_⟩,?_⟩
        ·rintro x hx z hz rfl;exact hap x hx (by simp[hz])
        ·rintro x hx z hz rfl;rcases List.mem_append.1 hz with hz|hz
         ·exact hap x hz (by simp[hx])
         ·exact h4 x hx x (by simp[hz]) rfl
       have hmem: ∀x,x∈(bX.set i (f1++(fx++f3))).flatten→x∈bX.flatten∨x∈fx:=by
        intro x hx;rcases tv hx with h| ⟨j,f',_,hj,h⟩
        ·rcases wM x h with h|h
         ·exact Or.inl (cI hf h)
         ·exact Or.inr h
        ·exact Or.inl (cI hj h)
       have hO':Own 0 (w.setCells b (o1+i*kk gt+off) (a.eval y).cells.toList) (b::(bX.set i (f1++(fx++f3))).flatten):=by
        refine⟨List.nodup_cons.2 ⟨fun hm=> ?_,oH qz.2 Y3 fun j f' hj hf' x hx hx'=> ?_⟩,fun _ _=>Nat.zero_le _,fun x hx=> ?_⟩
        ·rcases hmem b hm with h|h
         ·exact qz.1 h
         ·exact Je b h rfl
        ·rcases wM x hx' with h|h
         ·exact vo qz.2 hf' hf hj x hx h
         ·obtain⟨m,om,hm,h5,h7⟩:=LJ x h;exact g.kK n m _ _ (fun e=>hnm (e▸hm)) hl h5 x (by rw[jf];exact List.mem_cons_of_mem _ (cI hf' hx)) h7
        ·rcases List.mem_cons.1 hx with rfl|hx
         ·obtain⟨c',q1,_⟩:=ec x eb (a.eval y).cells.toList (o1+i*kk gt+off) w cb AH;exact⟨_,_,q1⟩
         ·rcases hmem x hx with h|h
          ·rw[hkeep x (PZ x h)];exact hown.kind x (List.mem_cons_of_mem _ h)
          ·rw[hkeep x (Je x h)];exact hox.kind x h
       have Y4:Sl (kk gt) (rd gt) (w.setCells b (o1+i*kk gt+off) (a.eval y).cells.toList) (env n).v (l.set i y') (b::(bX.set i (f1++(fx++f3))).flatten):=by
        refine⟨some ⟨b,o1,none⟩,cap,by rw[hsv,V1,List.length_set],by rw[List.length_set];exact hc1,hc2,Or.inr ⟨b,o1,_,rfl,?_,rfl,P1⟩⟩;exact bI.set AH _ _
       have hM:=g.dom n _ hl b (by rw[jf];simp);have RU:=DR hM AH (o1+i*kk gt+off) (a.eval y).cells.toList;have hrun:(storeVar t ⟨b,o1+i*kk gt+off,none⟩ (a.eval y)).run P w= .ok () (w.setCells b (o1+i*kk gt+off) (a.eval y).cells.toList):=qx (by simp) VA hsz.1 hsz.2;have RW: ∃gC,(∀x,x∈gC→x∈(env n).fp∨x∈fx)∧(kB n=true→ ∀x,x∈gC→x∈(env n).fp)∧nO ty (w.setCells b (o1+i*kk gt+off) (a.eval y).cells.toList) n gt (l.set i y') ⟨(env n).v,gC⟩:=by
        have hall: ∀x,x∈b::(bX.set i (f1++(fx++f3))).flatten→x∈(env n).fp∨x∈fx:=by
         intro x hx;rw[jf];rcases List.mem_cons.1 hx with rfl|hx
         ·exact Or.inl (by simp)
         ·rcases hmem x hx with h|h
          ·exact Or.inl (List.mem_cons_of_mem _ h)
          ·exact Or.inr h
        cases hp:soft n with
        |true=>
         refine⟨_,hall,fun hpt x hx=> ?_,by unfold nO;rw[hp];exact⟨Y4,hO'⟩⟩;rcases hall x hx with h|h
         ·exact h
         ·obtain⟨m,om,hm,_⟩:=LJ x h;cases ms with
          |nil=>simp at hm
          |cons _ _=>rw[hpt]at hpn;simp at hpn
        |false=>
         have hB:=RO.XT hp hro;have hB2:iW (kk gt) (rd gt) 0 (ty gt) (w.setCells b (o1+i*kk gt+off) (a.eval y).cells.toList) (env n).v (l.set i y') (b::(bX.set i (f1++(fx++f3))).flatten):=by
          rcases hB.parts with⟨h1,rfl,_⟩| ⟨g0,o0,n0,cc,agf,h1,hn0,agh,q1,q2,_⟩
          ·simp at hi
          ·rw[hsv,V1]at h1;simp only[Value.slice.injEq,oI,Addr.mk.injEq,and_true,true_and]at h1;obtain⟨⟨rfl,rfl⟩,rfl⟩:=h1;obtain⟨cc',q3,q4⟩:=ec b (ty gt) (a.eval y).cells.toList (o1+i*kk gt+off) w cc q1;rw[hsv,V1, ←List.length_set (as:=l) (i:=i) (a:=y')];exact oX (ep gt) q3 (by rw[q4];exact q2) (by rw[List.length_set];exact hc1) hc2 P1 hO'
         refine⟨_,hall,?_,?_⟩
         ·intro h;rw[Rw hp]at h;cases h
         ·unfold nO;rw[hp];exact hB2
       obtain⟨gC,k1,k2,k3⟩:=RW;obtain⟨env',hg',Mc⟩:=JI g hl hok (w':=w.setCells b (o1+i*kk gt+off) (a.eval y).cells.toList) LJ k1 k2 (fun x hx _ _=>hkeep x (fun e=>hx (by rw[e,jf];simp))) k3;unfold Oper.wp execOp;simp only[fQ,hu,Instr.storeAt,Instr.sureAddr,Sem.run_bind,Sem.run_pure,Result.andThen_ok,hrun];exact⟨env',rfl,RU,hg',rfl⟩
      ·cases h
     ·cases h
    ·cases h
   ·cases h
  ·cases h
 |_=>simp[VZ]at h
end
end
section
variable{ty:Tag→Nat}
def RF(w:World):List V→List Value→List (List Nat)→Prop
 | [],[],bX=>bX= []
 |v::vs,u::us,bX=> ∃f g,RI w v u f∧RF w vs us g∧bX=f::g
 |_,_,_=>False
def V2:List (List Nat)→List (List Nat)→Prop
 | [],[]=>True
 |f::r,g::s=>(∀b,b∈f→b∈g)∧V2 r s
 |_,_=>False
def St.upd(st:St)(os:Hp):St:=⟨st.n,st.sl.map fun e=>(e.1,e.2.bL [] (os.map Prod.fst)),os++cK [] (os.map Prod.fst) st.hp⟩
theorem P2{os:Hp}{n:Nat}:n∈os.map Prod.fst↔look os n≠none:=by
 induction os with
 |nil=>simp[look]
 |cons e r ih=>
  obtain⟨j,x⟩:=e;by_cases h:n=j
  ·subst h;simp[look_eq]
  ·rw[bB h, ←ih];simp[h]
section
variable{P:Program}{zb:cD}{st st':St}{a:Act}{w:World}{env:Env}{Q:Exit→Act→World→Prop}{o:Oper}
theorem RX(g:Good ty zb st a.tmps w env){os:Hp}(hos: ∀n o,look os n=some o→ ∃t l l',look st.hp n=some (.arr t l)∧o= .arr t l'){w':World}{fpn:Nat→List Nat}
  (hsub: ∀n o,look os n=some o→ ∀b,b∈fpn n→b∈(env n).fp)(hk: ∀b,b<w.heap.size→(∀n o,look os n=some o→b∉(env n).fp)→w'.heap[b]? =w.heap[b]?)
  (hro: ∀n t l',look os n=some (.arr t l')→nO ty w' n t l' ⟨(env n).v,fpn n⟩):
  ∃env',Good ty zb (st.upd os) a.tmps w' env'∧ ∀n,(env' n).v=(env n).v:=by
 refine⟨fun m=>match look os m with|some _=>⟨(env m).v,fpn m⟩|none=>env m,?_,fun n=>by dsimp only;split<;>rfl⟩;have hlk: ∀m o,look (os++cK [] (os.map Prod.fst) st.hp) m=some o→(look os m=some o)∨(look os m=none∧ ∃o',look st.hp m=some o'∧o=o'.bL [] (os.map Prod.fst)):=by
  intro m o hm;cases hq:look os m with
  |some x=>rw[cJ hq]at hm;exact Or.inl hm
  |none=>
   rw[bJ hq,ck,if_neg (by simp)]at hm;cases Md:look st.hp m with
   |none=>rw[Md]at hm;cases hm
   |some o'=>rw[Md]at hm;simp only[Option.map_some,oI]at hm;exact Or.inr ⟨rfl,o',rfl,hm.symm⟩
 have hst: ∀m o,look os m=none→look st.hp m=some o→ ∀b,b∈(env m).fp→w'.heap[b]? =w.heap[b]? :=by
  intro m o hm h3 b hb;refine hk b ((g.obj m o h3).blk b hb) fun n o' hn h=> ?_;obtain⟨t,l,l',h4,_⟩:=hos n o' hn;exact g.kK m n _ _ (fun e=>by rw[e,hn]at hm;cases hm) h3 h4 b hb h
 have jf: ∀m o,look (os++cK [] (os.map Prod.fst) st.hp) m=some o→ ∀b,b∈(match look os m with|some _=>(⟨(env m).v,fpn m⟩:CO)|none=>env m).fp→b∈(env m).fp∧ ∃o',look st.hp m=some o':=by
  intro m o hm b hb;rcases hlk m o hm with h| ⟨h,o',h2,_⟩
  ·rw[h]at hb;obtain⟨t,l,l',h4,_⟩:=hos m o h;exact⟨hsub m o h b hb,_,h4⟩
  ·rw[h]at hb;exact⟨hb,o',h2⟩
 have s:qw [] (os.map Prod.fst) w st.hp env w' (os++cK [] (os.map Prod.fst) st.hp) (fun m=>match look os m with|some _=>⟨(env m).v,fpn m⟩|none=>env m):=by
  refine⟨fun b hb hno=>hk b hb fun n o hn h=> ?_,?_,?_,?_⟩
  ·obtain⟨t,l,l',h4,_⟩:=hos n o hn;exact hno ⟨n,_,h4,h⟩
  ·rintro b hb ⟨m,o',h1,h2⟩;obtain⟨h3,o2,h4⟩:=jf m o' h1 b h2;exact⟨m,o2,h4,h3⟩
  ·intro m o' _ h1;cases hq:look os m with
   |some x=>
    obtain⟨t,l,l',h4,rfl⟩:=hos m x hq;rw[h4]at h1;simp only[oI]at h1;subst h1;exact⟨_,cJ hq,rfl,rfl⟩
   |none=>
    exact⟨o'.bL [] (os.map Prod.fst),by rw[bJ hq,ck,if_neg (by simp),h1];rfl,by cases o'<;>simp[Obj.like,Obj.bL],rfl⟩
  ·rintro m t' l2 ⟨_,hmn⟩ h1;have hq:look os m=none:=by
    cases hq:look os m with
    |none=>rfl
    |some x=>exact absurd (P2.2 (by rw[hq];simp)) hmn
   exact⟨by rw[bJ hq,ck,if_neg (by simp),h1];rfl,by simp[hq],hst m _ hq h1⟩
 refine g.gS s (fun m o' hm=> ?_) (fun m m' o1 o2 hne h1 h2 b hb hb'=> ?_) (fun m o' hm b hb=> ?_) (fun m hm=> ?_)
 ·rcases hlk m o' hm with h| ⟨h,Cv,h3,rfl⟩
  ·obtain⟨t,l,l',h4,rfl⟩:=hos m o' h;simp only[h];exact hro m t l' h
  ·simp only[h];exact(g.obj m Cv h3).gS s (hst m Cv h h3)
 ·obtain⟨h3,q1,h4⟩:=jf m o1 h1 b hb;obtain⟨h5,q2,h6⟩:=jf m' o2 h2 b hb';exact g.kK m m' _ _ hne h4 h6 b h3 h5
 ·obtain⟨h3,q1,h4⟩:=jf m o' hm b hb;exact g.dom m q1 h4 b h3
 ·refine⟨?_,fun b hb=> ?_⟩
  ·have:=(g.pins m hm).1;split<;>exact this
  ·cases hq:look os m with
   |none=>simp only[hq]at hb;exact(g.pins m hm).2 b hb
   |some x=>simp only[hq]at hb;exact(g.pins m hm).2 b (hsub m x hq b hb)
theorem Me{n:Nat}{t:Tag}{l l':List (T t)}{co:CO}{gC:List Nat}{w':World}{hp:Hp}(h:RO ty w hp env n (.arr t l) co)(hs:Shape w w')(h':Sl (kk t) (rd t) w' co.v l' gC)(ho:Own 0 w' gC)(hsub: ∀b,b∈gC→b∈co.fp):
  ∃Rs,nO ty w' n t l' ⟨co.v,Rs⟩∧ ∀b,b∈Rs→b∈co.fp:=by
 unfold nO;cases hp:soft n with
 |true=>exact⟨gC,⟨h',ho⟩,hsub⟩
 |false=>exact Y1 (ep t) (RO.XT hp h) hs h' ho hsub
end
def back(st:St):List V→List V→Option Hp
 | [],[]=>some []
 | .own n::r, .sl t' l'::s=>match look st.hp n,back st r s with
   |some (.arr t _),some os=>match jD t t' l' with|some l'=>some ((n, .arr t l')::os)|none=>none
   |_,_=>none
 | .lit _::r,_::s=>back st r s
 |_,_=>none
section
variable{P:Program}{zb:cD}{st st':St}{a:Act}{w:World}{env:Env}{Q:Exit→Act→World→Prop}{o:Oper}
theorem RI.cells{v:V}{u:Value}{f:List Nat}(h:RI w v u f):u.cells= #[u]:=by
 cases v with
 |lit x=>obtain⟨rfl,h1,_⟩:=h;cases u<;>simp_all [Value.cells,Value.oneCell']
 |sl t l=>obtain⟨oa,cap,rfl,_⟩:=h;rfl
 |_=>exact h.elim
theorem Kept.abf{L:List Nat}{pv:Nat→CO}{w':World}(h:Kept ⟨w,L,pv⟩ w w')(hB:zb.w.heap.size≤w.heap.size)(hL: ∀b,b∈L→b∈zb.L∨zb.w.heap.size≤b):Kept zb w w':=
 ⟨h.os,h.tape,h.output,h.size,fun b hb hn=>h.block b (Nat.lt_of_lt_of_le hb hB) fun hm=>(hL b hm).elim hn fun h=>by omega,h.shape⟩
theorem Mf{n i off:Nat}{t:Tag}{l l2:List (T t)}{u0:Value}{gt:Tag}{l0:List (T gt)}{c:List V}{x':T gt}{oV:List Prop}{pv:Nat→CO}(g:Good ty zb st a.tmps w env)(hB:zb.w.heap.size≤w.heap.size)
  (hRV:RV w st.hp env n (some (i,off)) t l u0)(hl:look st.hp n=some (.arr gt l0))(hs:LN (dec gt (l0.getD i (aG gt))) off [.sl t l2]=some c)(he:enc gt c=some (oV,x'))(hv: ∀q,q∈oV→q):
  ∃fv,RI w (.sl t l) u0 fv∧(∀y,y∈fv→y∈zb.L∨zb.w.heap.size≤y)∧Own 0 w fv∧ ∀w' RY,Kept ⟨w,fv,pv⟩ w w'→RI w' (.sl t l2) u0 RY→Own 0 w' RY→(∀y,y∈RY→y∈fv)→ ∃env',Kept zb w w'∧Good ty zb (st.upd [(n, .arr gt (l0.set i x'))]) a.tmps w' env':=by
 obtain⟨_,_,abg⟩:=hRV;obtain⟨t1,l1,b2,o2,adV,abb,hl1,hi,Y5,hev,Gh,hcell⟩:=abg i off rfl;rw[hl]at hl1;simp only[oI,Obj.arr.injEq]at hl1;obtain⟨rfl,hl1⟩:=hl1;cases hl1;have hro:=g.obj n _ hl;obtain⟨oa,cap,hsv,hc1,hc2,h3⟩:=RO.sl hro;have hown:=RO.own hro;rcases h3 with⟨rfl,_⟩| ⟨b,o1,bX,V1,bI,jf,hE⟩
 ·simp at hi
 rw[hsv,V1]at hev;simp only[Value.slice.injEq,oI,Addr.mk.injEq,and_true]at hev;obtain⟨⟨rfl,rfl⟩,rfl,rfl⟩:=hev;have XZ:l0[i]? =some (l0.getD i (aG gt)):=by rw[List.getD_eq_getElem?_getD,List.getElem?_eq_getElem hi];rfl
 obtain⟨fe,hf⟩:=fG hE.1 XZ;obtain⟨cs,Cu,Y2⟩:=hE.2 _ _ fe XZ hf;rw[jf]at hown;have qz:=List.nodup_cons.1 hown.nodup;have hR:=reads gt Y2;obtain⟨f1,f',Y6,k1,k2⟩:=cq.split off hR;have hdl: ∃r',(dec gt (l0.getD i (aG gt))).drop off= .sl t l::r':=by
  rw[C3]at Y5;have hlt:=(List.getElem?_eq_some_iff.1 Y5).1;rw[List.drop_eq_getElem_cons hlt];have:=(List.getElem?_eq_some_iff.1 Y5).2;rw[this];exact⟨_,rfl⟩
 obtain⟨r',hdl⟩:=hdl;rw[hdl]at k2;have RZ: ∃u us,cs.drop off=u::us:=by
  cases hq:cs.drop off with
  |nil=>rw[hq]at k2;exact k2.elim
  |cons u us=>exact⟨u,us,rfl⟩
 obtain⟨u,us,RZ⟩:=RZ;rw[RZ]at k2;obtain⟨fv,f3,VV,abh,hf'⟩:=k2;have huc:cs[off]? =some u:=by
  have:=congrArg (fun l=>l[0]?) RZ;simpa using this
 have hue:u0=u:=by
  have:=Cu off u huc;rw[hcell]at this;simpa using this
 rw[hue]at hcell ⊢;have Gi: ∀y,y∈fv→y∈fe:=fun y hy=>by rw[Y6,hf'];simp[hy]
 have abi:=(List.pairwise_flatten.1 qz.2).1 fe (List.mem_of_getElem? hf);rw[Y6,hf']at abi;obtain⟨n1,n2,n3⟩:=List.nodup_append.1 abi;obtain⟨n4,n5,n6⟩:=List.nodup_append.1 n2;have abj:Own 0 w fv:=⟨n4,fun _ _=>Nat.zero_le _,fun y hy=>hown.kind y (List.mem_cons_of_mem _ (cI hf (Gi y hy)))⟩;refine⟨fv,VV,fun y hy=>g.dom n _ hl y (by rw[jf];exact List.mem_cons_of_mem _ (cI hf (Gi y hy))),abj,?_⟩;intro w' RY hk adX Y7 Mg;have m1:=Y7.nodup;have hkeep: ∀y,y<w.heap.size→y∉fv→w'.heap[y]? =w.heap[y]? :=fun y hy hn=>hk.block y hy hn;have PZ: ∀y,y∈bX.flatten→y≠b:=fun y hy e=>qz.1 (e▸hy);have Y8: ∀y,y∈bX.flatten→y<w.heap.size:=fun y hy=>hown.lt y (List.mem_cons_of_mem _ hy);have hkb:w'.heap[b]? =w.heap[b]? :=hkeep b bI.lt fun hm=>qz.1 (cI hf (Gi b hm));have hrg: ∀{o:Nat} {cs:List Value},w.rangeAt b o cs→w'.rangeAt b o cs:=by
  intro o cs hr j v hv;rw[World.cell?_of_block (w:=w) (a:=⟨b,_,none⟩) hkb];exact hr j v hv
 have ag1:Agree w w' f1:=fun y hy=>hkeep y (Y8 y (cI hf (by rw[Y6];simp[hy]))) fun hm=>n3 y hy y (by simp[hm]) rfl;have ag3:Agree w w' f3:=fun y hy=>hkeep y (Y8 y (cI hf (by rw[Y6,hf'];simp[hy]))) fun hm=>n6 y hm y hy rfl;have R1: ∀{c:List V} {us:List Value} {f:List Nat},cq w c us f→Agree w w' f→cq w' c us f:=by
  intro c;induction c with
  |nil=>intro us f h _;cases us with
   |nil=>exact h
   |cons _ _=>exact h.elim
  |cons v r ih=>
   intro us f h ha;cases us with
   |nil=>exact h.elim
   |cons u us=>
    obtain⟨f1,f2,h1,h2,rfl⟩:=h;refine⟨f1,f2,?_,ih h2 (ha.sub fun y hy=>List.mem_append_right _ hy),rfl⟩;cases v with
    |lit x=>exact h1
    |sl t l=>exact Sl.agree (ep t) h1 (ha.sub fun y hy=>List.mem_append_left _ hy)
    |_=>exact h1.elim
 have NC:c=(dec gt (l0.getD i (aG gt))).take off++([.sl t l2]++r'):=by
  unfold LN at hs;split at hs
  ·simp only[oI]at hs;rw[←hs];congr 2;have:(dec gt (l0.getD i (aG gt))).drop (off+ [V.sl t l2].length)=((dec gt (l0.getD i (aG gt))).drop off).drop 1:=by rw[List.drop_drop];rfl
   rw[this,hdl];rfl
  ·cases hs
 have adY:cs=cs.take off++([u]++us):=by
  have:=(List.take_append_drop off cs).symm;rw[RZ]at this;exact this
 have hrd:cq w' c cs (f1++(RY++f3)):=by
  rw[NC,adY];refine cq.aa8 (R1 k1 ag1) (y:= [.sl t l2]) (vs:= [u]) ?_ (R1 abh ag3);exact⟨RY,[],adX,rfl,by simp⟩
 have hEn:=s6 gt he (fun q hq=>hv q hq) hrd;have wM: ∀y,y∈f1++(RY++f3)→y∈fe:=by
  intro y hy;rw[Y6,hf'];simp only[List.mem_append]at hy ⊢;rcases hy with hy|hy|hy
  ·exact Or.inl hy
  ·exact Or.inr (Or.inl (Mg y hy))
  ·exact Or.inr (Or.inr hy)
 have P1:=AG (ep gt) (w':=w') hE (i:=i) (x':=x') (f':=f1++(RY++f3)) (hrg Cu) hEn (fun j cs' _ _ hr=>hrg hr)
  (fun j f' hj hf' y hy=>hkeep y (Y8 y (cI hf' hy)) fun hm=>vo qz.2 hf' hf hj y hy (Gi y hm))
 have hmem: ∀y,y∈(bX.set i (f1++(RY++f3))).flatten→y∈bX.flatten:=by
  intro y hy;rcases tv hy with h| ⟨j,f',_,hj,h⟩
  ·exact cI hf (wM y h)
  ·exact cI hj h
 have hO':Own 0 w' (b::(bX.set i (f1++(RY++f3))).flatten):=by
  refine⟨List.nodup_cons.2 ⟨fun hm=>qz.1 (hmem b hm),oH qz.2 ?_ fun j f' hj hf' y hy hy'=>vo qz.2 hf' hf hj y hy (wM y hy')⟩,fun _ _=>Nat.zero_le _,fun y hy=> ?_⟩
  ·refine List.nodup_append.2 ⟨n1,List.nodup_append.2 ⟨m1,n5,fun y hy z hz e=>n6 y (Mg y hy) z hz e⟩,fun y hy z hz e=> ?_⟩;rcases List.mem_append.1 hz with hz|hz
   ·exact n3 y hy z (by simp[Mg z hz]) e
   ·exact n3 y hy z (by simp[hz]) e
  ·obtain⟨cb,eb,AH⟩:=hown.kind y (by
    rcases List.mem_cons.1 hy with rfl|hy
    ·simp
    ·exact List.mem_cons_of_mem _ (hmem y hy))
   obtain⟨cb',h5,_⟩:=hk.shape y cb eb AH;exact⟨_,_,h5⟩
 have Y4:Sl (kk gt) (rd gt) w' (env n).v (l0.set i x') (b::(bX.set i (f1++(RY++f3))).flatten):=by
  refine⟨some ⟨b,o1,none⟩,cap,by rw[hsv,V1,List.length_set],by rw[List.length_set];exact hc1,hc2,Or.inr ⟨b,o1,_,rfl,bI.agree hkb,rfl,P1⟩⟩
 obtain⟨Rs,w1,w2⟩:=Me (hp:=st.hp) hro hk.shape Y4 hO' (fun y hy=>by
  rw[jf];rcases List.mem_cons.1 hy with rfl|hy
  ·simp
  ·exact List.mem_cons_of_mem _ (hmem y hy))
 have hlk: ∀m o',look [(n,Obj.arr gt (l0.set i x'))] m=some o'→m=n∧o'= .arr gt (l0.set i x'):=by
  intro m o' hm;by_cases hmn:m=n
  ·subst hmn;rw[look_eq]at hm;simp only[oI]at hm;exact⟨rfl,hm.symm⟩
  ·rw[bB hmn]at hm;cases hm
 obtain⟨env',hg',Mc⟩:=RX g (os:= [(n, .arr gt (l0.set i x'))]) (w':=w') (fpn:=fun _=>Rs)
  (fun m o' hm=>by obtain⟨rfl,rfl⟩:=hlk m o' hm;exact⟨_,_,_,hl,rfl⟩)
  (fun m o' hm y hy=>by obtain⟨rfl,_⟩:=hlk m o' hm;exact w2 y hy)
  (fun y hlt hno=>hkeep y hlt fun hm=>hno n _ look_eq (by rw[jf];exact List.mem_cons_of_mem _ (cI hf (Gi y hm))))
  (fun m t2 l3 hm=>by
   obtain⟨rfl,h5⟩:=hlk m _ hm;simp only[Obj.arr.injEq]at h5;obtain⟨rfl,h5⟩:=h5;cases h5;exact w1)
 refine⟨env',hk.abf hB fun y hm=> ?_,hg'⟩;exact g.dom n _ hl y (by rw[jf];exact List.mem_cons_of_mem _ (cI hf (Gi y hm)))
def evs(Γ:Nat→TK)(st:St):Op→Option (List Prop×St)
 | .store t x y=>match gQ st [] x,gQ st [] y with
   |some (.a (.Ja n (some (i,o2,j)) tg _ off)),some v=>match look st.hp n with
    |some (.arr g l0)=>match fits (Γ t) v,takes st (cellsOf v),yp (dec g (l0.getD i (aG g))) o2 with
     |true,some (cv,[]),some (.sl t' l')=>match jD tg t' l' with
      |some l=>match LN (dec tg (l.getD j (aG tg))) off cv with
       |some d=>match enc tg d with
        |some (Y9,y')=>match LN (dec g (l0.getD i (aG g))) o2 [.sl tg (l.set j y')]with
         |some c=>match enc g c with
          |some (oV,x')=>some (oV++Y9,st.upd [(n, .arr g (l0.set i x'))])
          |none=>none
         |none=>none
        |none=>none
       |none=>none
      |none=>none
     |_,_,_=>none
    |_=>none
   |_,_=>none
 |_=>none
theorem Za{Γ:Nat→TK}(C: ∀t,cT P t (Γ t))(Z: ∀t,(∀z tg fo,Γ t≠ .st z tg fo)→Γ t≠ .other→(P.info? t).map (·.size)=some 1){vc:List Prop}(h:evs Γ st o.op=some (vc,st'))(g:Good ty zb st a.tmps w env)(hB:zb.w.heap.size≤w.heap.size)(hv: ∀q,q∈vc→q):
  o.wp P a w (fun a' w'=> ∃env',a'=a.put o.dst undef∧Kept zb w w'∧Good ty zb st' a.tmps w' env'∧st'.n=st.n) Q:=by
 have hop: ∀{x v},gQ st [] x=some v→fD w st.hp env v (a.eval x):=fun hx=>e9 g (fun e he=>by simp at he) hx;generalize fQ:o.op=op at h;cases op with
 |store t x y=>
  simp only[evs]at h;split at h
  case h_2=>cases h
  rename_i n i o2 j tg xx off v hx hy;have hx:=hop hx;have hy:=hop hy;split at h
  case h_2=>cases h
  rename_i gt l0 hl;split at h
  case h_2=>cases h
  rename_i cv t' l' hfit htk JK;split at h
  case h_2=>cases h
  rename_i l hcast;split at h
  case h_2=>cases h
  rename_i d hs1;split at h
  case h_2=>cases h
  rename_i Y9 y' he1;split at h
  case h_2=>cases h
  rename_i c hs2;split at h
  case h_2=>cases h
  rename_i oV x' FE;simp only[oI,pI]at h;obtain⟨rfl,rfl⟩:=h;obtain⟨_,_,_,_,_,_,_,_,_,_,_,hpos⟩:=hx;obtain⟨l3,u0,b0,oD,len,cap,hRV,hj,_,hu0,hu⟩:=hpos i o2 j rfl;have RT:l3=l:=by
   obtain⟨_,_,hpv⟩:=hRV;obtain⟨t1,l1,_,_,_,_,hl1,_,hel,_⟩:=hpv i o2 rfl;rw[hl]at hl1;simp only[oI,Obj.arr.injEq]at hl1;obtain⟨rfl,hl1⟩:=hl1;cases hl1;rw[hel]at JK;simp only[oI,V.sl.injEq]at JK;obtain⟨rfl,JK⟩:=JK;cases JK;obtain⟨e,rfl⟩:=eu hcast;rfl
  subst RT;obtain⟨fv,VV,_,hown,abl⟩:=Mf (pv:=fun _=>⟨u0,[]⟩) g hB hRV hl hs2 FE (fun q hq=>hv q (by simp[hq]));obtain⟨oa,abb,hsv,hc1,hc2,h3⟩:=VV;rcases h3 with⟨rfl,_⟩| ⟨b,o1,bX,V1,bI,jf,hE⟩
  ·simp at hj
  rw[hu0,V1]at hsv;simp only[Value.slice.injEq,oI,Addr.mk.injEq,and_true]at hsv;obtain⟨⟨rfl,rfl⟩,rfl,rfl⟩:=hsv;have XZ:l3[j]? =some (l3.getD j (aG tg)):=by rw[List.getD_eq_getElem?_getD,List.getElem?_eq_getElem hj];rfl
  obtain⟨f,hf⟩:=fG hE.1 XZ;obtain⟨cs,Cu,Y2⟩:=hE.2 _ _ f XZ hf;have hlen:=(ep tg).len Y2;rw[jf]at hown;have qz:=List.nodup_cons.1 hown.nodup;obtain⟨fx,hrx,hox,LJ⟩:=yC g (jh g hy (fk htk)) htk List.nodup_nil;have adZ:fx= []:=by
   cases fx with
   |nil=>rfl
   |cons y r=>obtain⟨m,_,hm,_⟩:=LJ y (by simp);simp at hm
  subst adZ;obtain⟨f1,f2,f3,NO,hrd,hlo⟩:=cq.LN (reads tg Y2) hrx hs1;have hEn:=s6 tg he1 (fun q hq=>hv q (by simp[hq])) hrd;have hsz:(P.info? t).map (·.size)=some (a.eval y).cells.toList.length∧ ∀u,u∈(a.eval y).cells.toList→u.oneCell'=true:=by
   refine⟨?_,vm g (jh g hy (fk htk)) (oW (fk htk))⟩;cases v with
   |agg c'=>
    obtain⟨z,tg',fo,hk,hfit⟩:=JG hfit;have hC:=C t;rw[hk]at hC;obtain⟨fs,_,hi2,_⟩:=hC;obtain⟨us,VU,L6⟩:=hy;have:=Nat.eq_of_beq_eq_true hfit;have RT:=L6.len;rw[VU];cases hq:P.info? t with
    |none=>simp[hq]at hi2
    |some inf=>simp[hq]at hi2;simp[hi2.1,Value.cells,RT,this]
   |a v'=>
    have hk:=JH hfit;have hne:v'≠ .any:=by rintro rfl;simp[cellsOf,takes]at htk
    have:=jE g (show RA w st.hp env v' (a.eval y)from hy) hne;rw[this];exact Z t hk.1 hk.2
  obtain⟨cb,eb,AH⟩:=hown.kind b0 (by simp);have VA:w.there b0 (oD+j*kk tg+off) (a.eval y).cells.toList.length:=by
   refine LZ AH _ _ ?_;have hcl:oD+j*kk tg+cs.length≤cb.size:=by
    have hk0:=gy tg;have:=Cu (cs.length-1) _ (List.getElem?_eq_getElem (by omega));rw[Jk AH]at this;have:=(Array.getElem?_eq_some_iff.1 this).1;omega
   omega
  have hkeep: ∀x,x≠b0→(w.setCells b0 (oD+j*kk tg+off) (a.eval y).cells.toList).heap[x]? =w.heap[x]? :=fun x hx=>cH b0 _ _ w x hx;have PZ: ∀x,x∈bX.flatten→x≠b0:=fun x hx e=>qz.1 (e▸hx);have wM: ∀x,x∈f1++([]++f3)→x∈f:=by
   intro x hx;rw[NO];rcases List.mem_append.1 hx with hx|hx
   ·exact List.mem_append_left _ hx
   ·rw[List.nil_append]at hx;exact List.mem_append_right _ (List.mem_append_right _ hx)
  have PA:Agree w (w.setCells b0 (oD+j*kk tg+off) (a.eval y).cells.toList) (f1++([]++f3)):=fun x hx=>hkeep x (PZ x (cI hf (wM x hx)));have P1:=AG (ep tg) (w':=w.setCells b0 (oD+j*kk tg+off) (a.eval y).cells.toList) hE (i:=j) (x':=y') (f':=f1++([]++f3))
   (tu Cu hlo VA) ((ep tg).agree hEn PA)
   (fun j1 cs' VY hcl hr=>World.rangeAt_setCells_apart hr _ _ _ (Or.inr (by
    rw[hcl];rcases Nat.lt_or_ge j1 j with h1|h1
    ·left;have:=Nat.mul_le_mul_right (kk tg) (show j1+1≤j by omega);rw[Nat.add_mul]at this;omega
    ·right;have:=Nat.mul_le_mul_right (kk tg) (show j+1≤j1 by omega);rw[Nat.add_mul]at this;omega)))
   (fun j1 f' _ hf' x hx=>hkeep x (PZ x (cI hf' hx)))
  have Y3:(f1++([]++f3)).Nodup:=by
   have h1:=(List.pairwise_flatten.1 qz.2).1 f (List.mem_of_getElem? hf);rw[NO]at h1;obtain⟨h2,h3,h4⟩:=List.nodup_append.1 h1;obtain⟨_,h6,_⟩:=List.nodup_append.1 h3;rw[List.nil_append];exact List.nodup_append.2 ⟨h2,h6,fun x hx z hz=>h4 x hx z (List.mem_append_right _ hz)⟩
  have hmem: ∀x,x∈(bX.set j (f1++([]++f3))).flatten→x∈bX.flatten:=by
   intro x hx;rcases tv hx with h| ⟨j1,f',_,VY,h⟩
   ·exact cI hf (wM x h)
   ·exact cI VY h
  have hO':Own 0 (w.setCells b0 (oD+j*kk tg+off) (a.eval y).cells.toList) (b0::(bX.set j (f1++([]++f3))).flatten):=by
   refine⟨List.nodup_cons.2 ⟨fun hm=>qz.1 (hmem b0 hm),oH qz.2 Y3 fun j1 f' VY hf' x hx hx'=>vo qz.2 hf' hf VY x hx (wM x hx')⟩,fun _ _=>Nat.zero_le _,fun x hx=> ?_⟩;rcases List.mem_cons.1 hx with rfl|hx
   ·obtain⟨c',q1,_⟩:=ec x eb (a.eval y).cells.toList (oD+j*kk tg+off) w cb AH;exact⟨_,_,q1⟩
   ·rw[hkeep x (PZ x (hmem x hx))];exact hown.kind x (List.mem_cons_of_mem _ (hmem x hx))
  have RU:Kept ⟨w,fv,fun _=>⟨u0,[]⟩⟩ w (w.setCells b0 (oD+j*kk tg+off) (a.eval y).cells.toList):=
   DR (zb:=⟨w,fv,fun _=>⟨u0,[]⟩⟩) (Or.inl (by rw[jf];simp)) AH _ _
  have hrun:(storeVar t ⟨b0,oD+j*kk tg+off,none⟩ (a.eval y)).run P w= .ok () (w.setCells b0 (oD+j*kk tg+off) (a.eval y).cells.toList):=qx (by simp) VA hsz.1 hsz.2;obtain⟨env',hk2,hg'⟩:=abl _ (b0::(bX.set j (f1++([]++f3))).flatten) RU
   ⟨some ⟨b0,oD,none⟩,cap,by rw[hu0,List.length_set],by rw[List.length_set];exact hc1,hc2,Or.inr ⟨b0,oD,_,rfl,bI.set AH _ _,rfl,P1⟩⟩ hO'
   (fun y hy=>by
    rw[jf];rcases List.mem_cons.1 hy with rfl|hy
    ·simp
    ·exact List.mem_cons_of_mem _ (hmem y hy))
  unfold Oper.wp execOp;simp only[fQ,hu,Instr.storeAt,Instr.sureAddr,Sem.run_bind,Sem.run_pure,Result.andThen_ok,hrun];exact⟨env',rfl,hk2,hg',rfl⟩
 |_=>simp[evs]at h
end
end
section
variable{ty:Tag→Nat}
def V3(st:St):List V→Option (List V×List Nat)
 | []=>some ([],[])
 | .lit (.slice _ _ _)::_=>none
 | .lit v::r=>match V3 st r with|some (c,k)=>some (.lit v::c,k)|none=>none
 | .sl t l::r=>match V3 st r with|some (c,k)=>some (.sl t l::c,k)|none=>none
 | .own n::r=>match look st.hp n,V3 st r with
   |some (.arr t l),some (c,k)=>some (.sl t l::c,n::k)
   |_,_=>none
 |_=>none
def DX(st:St)(g:Tag):Nat→List (Nat×Operand)→Option (List Prop×List (T g)×List Nat)
 |_,[]=>some ([],[],[])
 |i,(j,x)::r=>match Nat.beq i j,gQ st [] x with
  |true,some s=>match V3 st (cellsOf s)with
   |some (c,k)=>match enc g c,DX st g (i+1) r with
    |some (vc,y),some (vcs,ys,ks)=>some (vc++vcs,y::ys,k++ks)
    |_,_=>none
   |none=>none
  |_,_=>none
def efz(P:Program)(ty:Tag→Nat)(Γ:Nat→TK)(st:St):Op→Option (List Prop×St×SV)
 | .buildSlice t len parts=>match Γ t with
   | .sl g e=>match Nat.beq e (ty g),Nat.beq parts.toList.length len,Nat.ble (len*kk g) 16777216,DX st g 0 parts.toList with
     |true,true,true,some (vc,xs,ks)=>match oG ks&& !pinned ks with
      |true=>some (El P ty g::vc,⟨st.n,st.sl.map fun e=>(e.1,e.2.bL ks []),cK ks [] st.hp⟩, .one (.a (.sl g xs)))
      |_=>none
     |_,_,_,_=>none
   |_=>none
 |_=>none
section
variable{P:Program}{zb:cD}{st:St}{a:Act}{w:World}{env:Env}{Q:Exit→Act→World→Prop}{o:Oper}
theorem vp{st:St}: ∀{l c:List V} {k:List Nat},V3 st l=some (c,k)→s8 l=true
 | [],_,_,_=>rfl
 |v::r,c,k,h=>by
  unfold V3 at h;split at h
  ·rename_i he;cases he
  ·cases h
  ·rename_i x r' _ he;simp only[List.cons.injEq]at he;obtain⟨rfl,rfl⟩:=he;split at h
   ·rename_i h';have h2:=vp h';exact h2
   ·cases h
  ·rename_i t l r' he;simp only[List.cons.injEq]at he;obtain⟨rfl,rfl⟩:=he;split at h
   ·rename_i h';have h2:=vp h';exact h2
   ·cases h
  ·rename_i n r' he;simp only[List.cons.injEq]at he;obtain⟨rfl,rfl⟩:=he;split at h
   ·rename_i h';have h2:=vp h';exact h2
   ·cases h
  ·cases h
theorem HF(g:Good ty zb st a.tmps w env): ∀{l c:List V} {k:List Nat} {us:List Value},bK (RA w st.hp env) l us→V3 st l=some (c,k)→
  ∃fp,cq w c us fp∧ ∀b,b∈fp→b<w.heap.size∧(¬Ow st.hp env b∨ ∃i o,i∈k∧look st.hp i=some o∧b∈(env i).fp)
 | [],c,k,us,hr,h=>by
   simp only[V3,oI,pI]at h;obtain⟨rfl,rfl⟩:=h;cases us with
   |nil=>exact⟨[],rfl,by simp⟩
   |cons _ _=>exact hr.elim
 |v::r,c,k,us,hr,h=>by
  cases us with
  |nil=>exact hr.elim
  |cons u us=>
   unfold V3 at h;split at h
   ·rename_i he;cases he
   ·cases h
   ·rename_i x r' _ he;simp only[List.cons.injEq]at he;obtain⟨rfl,rfl⟩:=he;split at h
    ·rename_i c' k' h';simp only[oI,pI]at h;obtain⟨rfl,rfl⟩:=h;obtain⟨fp,h1,h3⟩:=HF g hr.2 h';obtain⟨e1,e2⟩:=hr.1;exact⟨fp,⟨[],fp,⟨e1,e2,rfl⟩,h1,rfl⟩,h3⟩
    ·cases h
   ·rename_i t l r' he;simp only[List.cons.injEq]at he;obtain⟨rfl,rfl⟩:=he;split at h
    ·rename_i c' k' h';simp only[oI,pI]at h;obtain⟨rfl,rfl⟩:=h;obtain⟨fp,h1,h3⟩:=HF g hr.2 h';obtain⟨f0,k1,k2⟩:=hr.1;refine⟨f0++fp,⟨f0,fp,k1,h1,rfl⟩,fun b hb=> ?_⟩;rcases List.mem_append.1 hb with hb|hb
     ·exact⟨Sl.lt (ep t) k1 b hb,Or.inl (k2 b hb)⟩
     ·exact h3 b hb
    ·cases h
   ·rename_i n r' he;simp only[List.cons.injEq]at he;obtain⟨rfl,rfl⟩:=he;split at h
    ·rename_i t l c' k' hl h';simp only[oI,pI]at h;obtain⟨rfl,rfl⟩:=h;obtain⟨fp,h1,h3⟩:=HF g hr.2 h';obtain⟨_,rfl⟩:=hr.1;have hb:=RO.sl (g.obj n _ hl);refine⟨(env n).fp++fp,⟨_,_,hb,h1,rfl⟩,fun b hb=> ?_⟩;rcases List.mem_append.1 hb with hb|hb
     ·exact⟨(g.obj n _ hl).blk b hb,Or.inr ⟨n,_,by simp,hl,hb⟩⟩
     ·obtain⟨q1,q2⟩:=h3 b hb;refine⟨q1,q2.imp id ?_⟩;rintro⟨i,o,hi,h4,h5⟩;exact⟨i,o,List.mem_cons_of_mem _ hi,h4,h5⟩
    ·cases h
   ·cases h
theorem Gj(g:Good ty zb st a.tmps w env){t:Tag}: ∀{ps:List (Nat×Operand)} {i:Nat} {vc:List Prop} {xs:List (T t)} {ks:List Nat},DX st t i ps=some (vc,xs,ks)→(∀q,q∈vc→q)→
  (ps.map fun p=>(p.1,a.eval p.2))=vR i (ps.map fun p=>a.eval p.2)∧xs.length=ps.length∧ ∃bX:List (List Nat),bX.length=xs.length∧
   (∀(i:Nat) (x:T t) (f:List Nat),xs[i]? =some x→bX[i]? =some f→ ∃p:Nat×Operand,ps[i]? =some p∧rd t w (a.eval p.2).cells.toList x f)∧ ∀b,b∈bX.flatten→b<w.heap.size∧(¬Ow st.hp env b∨ ∃i o,i∈ks∧look st.hp i=some o∧b∈(env i).fp)
 | [],i,vc,xs,ks,h,_=>by
   simp only[DX,oI,pI]at h;obtain⟨rfl,rfl,rfl⟩:=h;exact⟨rfl,rfl,[],rfl,by simp,by simp⟩
 | (j,x)::r,i,vc,xs,ks,h,hv=>by
   simp only[DX]at h;split at h
   ·rename_i s hij hx;have hij:=Nat.eq_of_beq_eq_true hij;subst hij;split at h
    ·rename_i c k hc;split at h
     ·rename_i oV y vcs ys ks1 he hb;simp only[oI,pI]at h;obtain⟨rfl,rfl,rfl⟩:=h;obtain⟨q1,q2,bX,q3,q4,q6⟩:=Gj g hb (fun q hq=>hv q (List.mem_append_right _ hq));obtain⟨fp,r1,r3⟩:=HF g (jh g (e9 g (fun e he=>by simp at he) hx) (vp hc)) hc;have hE:=s6 t he (fun q hq=>hv q (List.mem_append_left _ hq)) r1;refine⟨by simp[vR,q1],by simp[q2],fp::bX,by simp[q3],?_,?_⟩
      ·intro i' x' f hx' hf;cases i' with
       |zero=>simp at hx' hf;subst hx';subst hf;exact⟨(i,x),rfl,hE⟩
       |succ n=>simp at hx' hf;obtain⟨p,h1,h2⟩:=q4 n x' f hx' hf;exact⟨p,by simpa using h1,h2⟩
      ·intro b hb;rw[List.flatten_cons]at hb;rcases List.mem_append.1 hb with hb|hb
       ·obtain⟨z1,z2⟩:=r3 b hb;exact⟨z1,z2.imp id fun⟨n,o1,h1,h2,h3⟩=>⟨n,o1,List.mem_append_left _ h1,h2,h3⟩⟩
       ·obtain⟨z1,z2⟩:=q6 b hb;exact⟨z1,z2.imp id fun⟨n,o1,h1,h2,h3⟩=>⟨n,o1,List.mem_append_right _ h1,h2,h3⟩⟩
     ·cases h
    ·cases h
   ·cases h
theorem run_frozen{t len:Nat}{parts:Array (Nat×Operand)}(ho:o.op= .buildSlice t len parts){g:Tag}(hu:P.underlying t=some (.slice (ty g)))(rD:El P ty g)(hbig:len*kk g≤16777216)(hlen:parts.toList.length=len)
  {xs:List (T g)}{bX:List (List Nat)}(q1:(parts.toList.map fun p=>(p.1,a.eval p.2))=vR 0 (parts.toList.map fun p=>a.eval p.2))(q2:xs.length=parts.toList.length)(q3:bX.length=xs.length)
  (q4: ∀(i:Nat) (x:T g) (f:List Nat),xs[i]? =some x→bX[i]? =some f→ ∃p:Nat×Operand,parts.toList[i]? =some p∧rd g w (a.eval p.2).cells.toList x f):
  ∃w',(execOp a.eval o).run P w= .ok (.value (.slice (some ⟨w.heap.size,0,none⟩) len len)) w'∧Below w.heap.size w w'∧Sl (kk g) (rd g) w' (.slice (some ⟨w.heap.size,0,none⟩) len len) xs (w.heap.size::bX.flatten):=by
 have hkp:=gy g;have hcl: ∀v,v∈(parts.toList.map fun p=>a.eval p.2)→v.cells.size=kk g:=by
  intro v hv;obtain⟨i,hi⟩:=List.getElem?_of_mem hv;have hil:i<xs.length:=by have:=(List.getElem?_eq_some_iff.1 hi).1;simp at this;rw[q2];simpa using this
  have hfl:i<bX.length:=by omega
  obtain⟨p,h1,h2⟩:=q4 i xs[i] bX[i] (List.getElem?_eq_getElem hil) (List.getElem?_eq_getElem hfl);rw[List.getElem?_map,h1]at hi;simp at hi;subst hi;simpa using(ep g).len h2
 cases hq:P.info? (ty g)with
 |none=>simp[El,hq]at rD
 |some inf=>
  simp[El,hq]at rD;obtain⟨z1,z2,z3⟩:=rD
  let zs:List Value:=(List.range (len*kk g)).map fun j=>(if len*kk g=0 then #[]else(eT g).cells)[j % (if len*kk g=0 then #[]else(eT g).cells).size]!
  have hzl:zs.length=len*kk g:=by simp[zs]
  have hf:=DL (k:=kk g) (parts.toList.map fun p=>a.eval p.2) 0 zs hcl (by rw[hzl,List.length_map,hlen,Nat.zero_add]);rw[Nat.zero_mul,List.take_zero,List.nil_append]at hf;have hrun:(execOp a.eval o).run P w= .ok (.value (.slice (some ⟨w.heap.size,0,none⟩) len len)) (w.alloc (.cells (Array.mk ((parts.toList.map fun p=>a.eval p.2).flatMap fun v=>v.cells.toList)) (ty g) (0,0))):=by
   unfold execOp;have hpl:(parts.map fun(p:Nat×Operand)=>(p.1,a.eval p.2)).toList=vR 0 (parts.toList.map fun p=>a.eval p.2):=by
    rw[Array.toList_map];exact q1
   have hzs:((Array.range (len*kk g)).map fun j=>(if len*kk g=0 then #[]else(eT g).cells)[j % (if len*kk g=0 then #[]else(eT g).cells).size]!)=Array.mk zs:=by
    simp only[zs];apply Array.ext';simp
   have hze:(sizeOf (ty g)).run P w= .ok (kk g) w:=by simp[sizeOf,typeInfo,hq,z2]
   simp only[ho,Instr.buildSlice,Sem.run_bind,run_underlying hu,Result.andThen_ok,hze];rw[if_neg (by omega)];by_cases hz0:len*kk g=0
   ·simp only[if_pos hz0]at hzs ⊢;simp only[Sem.run_bind,Sem.run_pure,Result.andThen_ok];rw[hzs,hpl,hf];simp[newRow]
   ·have hzv:(zeroValue (ty g)).run P w= .ok (eT g) w:=by simp[zeroValue,typeInfo,hq,z1]
    simp only[if_neg hz0]at hzs ⊢;simp only[Sem.run_bind,hzv,Sem.run_pure,Result.andThen_ok];rw[hzs,hpl,hf];simp[newRow]
  have hps:((parts.toList.map fun p=>a.eval p.2).flatMap fun v=>v.cells.toList)=((parts.toList.map fun p=>(a.eval p.2).cells.toList).flatMap id):=by
   simp[List.flatMap_map]
  have RH: ∀v,v∈(parts.toList.map fun p=>(a.eval p.2).cells.toList)→v.length=kk g:=by
   intro v hv;obtain⟨p,hp,rfl⟩:=List.mem_map.1 hv;simpa using hcl _ (List.mem_map.2 ⟨p,hp,rfl⟩)
  have Gb:=tj RH;rw[List.length_map,hlen]at Gb;have hb0:Below w.heap.size w (w.alloc (.cells (Array.mk ((parts.toList.map fun p=>a.eval p.2).flatMap fun v=>v.cells.toList)) (ty g) (0,0))):=(Below.refl _ _).alloc (Nat.le_refl _) _;have abn:=kI (w:=w) (o:= .cells (Array.mk ((parts.toList.map fun p=>a.eval p.2).flatMap fun v=>v.cells.toList)) (ty g) (0,0)) (k:=w.heap.size) rfl;refine⟨_,hrun,hb0,some ⟨w.heap.size,0,none⟩,len,by rw[q2,hlen],by rw[q2,hlen];exact Nat.le_refl _,?_,Or.inr ⟨w.heap.size,0,bX,rfl,⟨_,_,_,abn,by simp only[List.size_toArray];rw[hps];omega⟩,rfl,q3,?_⟩⟩
  ·unfold maxLen;have:=Nat.le_mul_of_pos_right len hkp;omega
  ·intro i x f hx NO;obtain⟨p,h1,h2⟩:=q4 i x f hx NO;have hkey:(((parts.toList.map fun p=>a.eval p.2).flatMap fun v=>v.cells.toList).drop (i*kk g)).take (kk g)=(a.eval p.2).cells.toList:=by
    rw[hps];exact th RH (by rw[List.getElem?_map,h1];rfl)
   refine⟨_,VD abn _ _ fun j v hv=> ?_,(ep g).below h2 hb0⟩;rw[←hkey]at hv;rw[List.getElem?_take]at hv;split at hv
   ·rw[List.getElem?_drop]at hv;rw[Nat.zero_add,List.getElem?_toArray];exact hv
   ·cases hv
theorem P3(g:Good ty zb st a.tmps w env){ks:List Nat}{w':World}(hb:Below w.heap.size w w'):Good ty zb ⟨st.n,st.sl.map fun e=>(e.1,e.2.bL ks []),cK ks [] st.hp⟩ a.tmps w' env:=by
 have hlk: ∀m o,look (cK ks [] st.hp) m=some o→m∉ks∧ ∃o',look st.hp m=some o'∧o=o'.bL ks []:=by
  intro m o hm;rw[ck]at hm;split at hm
  ·cases hm
  ·rename_i hks;cases hq:look st.hp m with
   |none=>rw[hq]at hm;cases hm
   |some o'=>rw[hq]at hm;simp only[Option.map_some,oI]at hm;exact⟨hks,o',rfl,hm.symm⟩
 have s:qw ks [] w st.hp env w' (cK ks [] st.hp) env:=by
  refine⟨fun b hlt _=>hb.block b hlt,?_,?_,?_⟩
  ·rintro b hlt ⟨m,o',h1,h2⟩;obtain⟨_,Cv,h3,rfl⟩:=hlk m o' h1;exact⟨m,Cv,h3,h2⟩
  ·intro m o' hks h1;exact⟨o'.bL ks [],by rw[ck,if_neg hks,h1];rfl,by cases o'<;>simp[Obj.like,Obj.bL],rfl⟩
  ·rintro m t' l' ⟨hks,_⟩ h1;exact⟨by rw[ck,if_neg hks,h1];rfl,rfl,fun b Gh=>hb.block b ((g.obj m _ h1).blk b Gh)⟩
 refine g.gS s (fun m o' hm=> ?_) (fun m m' o1 o2 hne h1 h2 b Gh hb'=> ?_) (fun m o' hm b Gh=> ?_) g.pins
 ·obtain⟨hks,Cv,h3,rfl⟩:=hlk m o' hm;exact(g.obj m Cv h3).gS s fun b Gh=>hb.block b ((g.obj m Cv h3).blk b Gh)
 ·obtain⟨_,q1,h3,_⟩:=hlk m o1 h1;obtain⟨_,q2,h4,_⟩:=hlk m' o2 h2;exact g.kK m m' _ _ hne h3 h4 b Gh hb'
 ·obtain⟨_,q1,h3,_⟩:=hlk m o' hm;exact g.dom m q1 h3 b Gh
theorem Zb{Γ:Nat→TK}(C: ∀t,cT P t (Γ t)){vc:List Prop}{st':St}{v:SV}(h:efz P ty Γ st o.op=some (vc,st',v))(g:Good ty zb st a.tmps w env)(hB:zb.w.heap.size≤w.heap.size)(hv: ∀q,q∈vc→q):
  o.wp P a w (fun a' w'=> ∃u env',a'=a.put o.dst u∧Kept zb w w'∧Good ty zb st' a.tmps w' env'∧st'.n=st.n∧qp w' st'.hp env' a.tmps v u) Q:=by
 generalize fQ:o.op=op at h;cases op with
 |buildSlice t len parts=>
  simp only[efz]at h;split at h
  ·rename_i gt e hk;split at h
   ·rename_i oV xs ks he hlen hbig hb;have he:=Nat.eq_of_beq_eq_true he;split at h
    ·rename_i hnd;simp only[oI,pI]at h;obtain⟨rfl,rfl,rfl⟩:=h;have rD:El P ty gt:=hv _ (by simp);obtain⟨q1,q2,bX,q3,q4,q6⟩:=Gj g hb (fun q hq=>hv q (by simp[hq]));have hC:=C t;rw[hk,he]at hC;obtain⟨w',r1,r2,r3⟩:=run_frozen (P:=P) (w:=w) (a:=a) fQ hC.1 rD (Nat.le_of_ble_eq_true hbig) (Nat.eq_of_beq_eq_true hlen) q1 q2 q3 q4;have hg':=P3 g (ks:=ks) r2;unfold Oper.wp;rw[r1];refine⟨_,env,rfl,je r2 hB,hg',rfl,_,r3,?_⟩;rintro b Gh ⟨m,o',h1,h2⟩;rw[ck]at h1;split at h1
     ·cases h1
     ·rename_i hks;cases hq:look st.hp m with
      |none=>rw[hq]at h1;cases h1
      |some Cv=>
       have hlt:=(g.obj m Cv hq).blk b h2;rcases List.mem_cons.1 Gh with rfl|Gh
       ·omega
       ·rcases(q6 b Gh).2 with h3| ⟨i,oi,hi,h4,h5⟩
        ·exact h3 ⟨m,Cv,hq,h2⟩
        ·exact g.kK m i _ _ (fun e=>hks (e▸hi)) hq h4 b h2 h5
    ·cases h
   ·cases h
  ·cases h
 |_=>simp[efz]at h
end
end
section
variable{ty:Tag→Nat}
def inv:List (Nat×Nat)→Nat→Option Nat
 | [],_=>none
 | (n,m)::r,k=>match Nat.beq k m with|true=>some n|false=>inv r k
def V.toF(ρ:List (Nat×Nat)):V→V
 | .lit v=> .lit v
 | .sl t l=> .sl t l
 | .own m=>match inv ρ m with|some n=> .own n|none=> .any
 | .ptr m o=>match inv ρ m with|some n=> .ptr n o|none=> .any
 | .F3 f m=>match inv ρ m with|some n=> .F3 f n|none=> .any
 | .vf v t l=> .vf v t l
 |_=> .any
def Obj.toF(ρ:List (Nat×Nat)):Obj→Obj
 | .box c=> .box (c.map (V.toF ρ))
 | .arr t l=> .arr t l
 | .iq t l .mp=> .iq t l .mp
 | .iq t l (.LL u)=> .iq t l (.LL u)
 | .iq t l (.Ax _)=> .iq t l (.Ax none)
 | .iq t l _=> .iq t l .gone
def yD(st:St)(ρ:List (Nat×Nat)):List (Nat×Nat)→Option Hp
 | []=>some []
 | (n,m)::r=>match look st.hp m, !kB m||kB n, !soft m||soft n,yD st ρ r with
   |some o,true,true,some h=>some ((n,o.toF ρ)::h)
   |_,_,_,_=>none
def V4(st:St)(ρ:List (Nat×Nat))(tg:Option Tag)(v:V):Option V:=match v.name with
 |some m=>match inv ρ m with
  |some n=>match v with
   | .own _=>some (.own n)
   | .ptr _ o=>some (.ptr n o)
   | .F3 f _=>some (.F3 f n)
   |_=>none
  |none=>match v with
   | .mix _ _ _ _=>none
   | .FB _=>none
   |v=>mL st tg v
 |none=>mL st tg v
def JL(st:St)(ρ:List (Nat×Nat)):List (Option Tag)→List V→Option (List V)
 |_,[]=>some []
 |tg,v::r=>match V4 st ρ (match tg with|t::_=>t| []=>none) v,JL st ρ (match tg with|_::ts=>ts| []=> []) r with
  |some x,some y=>some (x::y)
  |_,_=>none
def V.X0:V→Bool
 | .vf _ _ _=>true
 |_=>false
def Zc(st:St)(ρ:List (Nat×Nat))(k:TK):S1→Option S1
 | .a v=>match v.X0 with
   |true=>some (.a v)
   |false=>match V4 st ρ (match k with| .sl t _=>some t|_=>none) v with|some x=>some (.a x)|none=>none
 | .agg l=>match JL st ρ (match k with| .st _ tg _=>tg|_=> []) l with|some x=>some (.agg x)|none=>none
def JM(Γ:Nat→TK)(st:St)(ρ:List (Nat×Nat)):List Operand→List Nat→Option (List S1)
 | [],_=>some []
 |x::r,t=>match LM st [] x with
  |some v=>match Zc st ρ (match t with|t::_=>Γ t| []=> .other) v,JM Γ st ρ r (match t with|_::ts=>ts| []=> [])with
   |some y,some ys=>some (y::ys)
   |_,_=>none
  |none=>none
def HG(st:St)(ρ:List (Nat×Nat))(x:Operand):Option (FuncId×List S1):=match gQ st [] x with
 |some (.a (.F3 f m))=>match inv ρ m with|some n=>some (f,[.a (.ptr n 0)])|none=>none
 |some v=>match VH v with|some f=>some (f,[])|none=>none
 |none=>none
def Zd:List V→Option (List (Nat×Nat))
 | []=>some []
 | .ptr n m::r=>match Zd r with|some l=>some ((n,m)::l)|none=>none
 |_=>none
def abo:List V→Option (List Nat)
 | []=>some []
 | .own n::r=>match abo r with|some l=>some (n::l)|none=>none
 |_=>none
def R2:List Nat→List S1→Option Hp
 | [],[]=>some []
 |n::ns, .a (.sl t l)::r=>match R2 ns r with|some h=>some ((n, .arr t l)::h)|none=>none
 |n::ns, .agg c::r=>match R2 ns r with|some h=>some ((n, .box c)::h)|none=>none
 |_,_=>none
def knV:List V→Option V
 | []=>none
 | .vf v t l::_=>some (.vf v t l)
 |_::r=>knV r
def knX(st:St):List Operand→Option V
 | []=>none
 |x::r=>match LM st [] x with
  |some (.a v)=>match v.X0 with|true=>some v|false=>knX st r
  |_=>knX st r
def knR(st:St):List (Nat×Nat)→Option V
 | []=>none
 | (_,m)::r=>match look st.hp m with
   |some (.box c)=>match knV c with|some v=>some v|none=>knR st r
   |_=>knR st r
def V5(st:St)(xs:List Operand)(ρ:List (Nat×Nat)):Option V:=match knX st xs with|some v=>some v|none=>knR st ρ
def JN(kn:Option V):V→List Prop
 | .vf v _ _=>match kn with
   |some (.vf u _ _)=> [v=u]
   |_=> [False]
 |_=> []
def R3(kn:Option V):List V→List Prop
 | []=> []
 |v::r=>oF (JN kn v) (R3 kn r)
def Mh(kn:Option V):Hp→List Prop
 | []=> []
 | (_, .box c)::r=>oF (R3 kn c) (Mh kn r)
 |_::r=>Mh kn r
def V.toA(kn:Option V)(ρ:List (Nat×Nat)):V→Option V
 | .vf _ _ _=>kn
 | .any=>some .any
 | .lit v=>some (.lit v)
 | .own n=>match look ρ n with|some m=>some (.own m)|none=>none
 | .ptr n o=>match look ρ n with|some m=>some (.ptr m o)|none=>none
 |_=>none
def toAs(kn:Option V)(ρ:List (Nat×Nat)):List V→Option (List V)
 | []=>some []
 |v::r=>match v.toA kn ρ,toAs kn ρ r with|some x,some y=>some (x::y)|_,_=>none
def S1.toA(ρ:List (Nat×Nat)):S1→Option S1
 | .a v=>match v.toA none ρ with|some x=>some (.a x)|none=>none
 | .agg l=>match toAs none ρ l with|some x=>some (.agg x)|none=>none
def V6(ρ:List (Nat×Nat)):List S1→Option (List S1)
 | []=>some []
 |v::r=>match v.toA ρ,V6 ρ r with|some x,some y=>some (x::y)|_,_=>none
def Obj.toA(kn:Option V)(ρ:List (Nat×Nat)):Obj→Option Obj
 | .box c=>match toAs kn ρ c with|some x=>some (.box x)|none=>none
 | .arr t l=>some (.arr t l)
 | .iq _ _ _=>none
def DY(kn:Option V)(ρ:List (Nat×Nat)):Hp→Option (List (Nat×Nat×Obj))
 | []=>some []
 | (n,o)::r=>match look ρ n,o.toA kn ρ,DY kn ρ r with
   |some m,some o',some h=>match !kB m||kB n, !soft n||soft m with|true,true=>some ((n,m,o')::h)|_,_=>none
   |_,_,_=>none
def DZ:Option Obj→Bool
 |some (.box _)=>true
 |_=>false
def JO(ty:Tag→Nat)(w:World)(hp:Hp)(env:Env):Prop:=(∀n o,look hp n=some o→RO ty w hp env n o (env n))∧ ∀n m o o',n≠m→look hp n=some o→look hp m=some o'→ ∀b,b∈(env n).fp→b∉(env m).fp
def yE(hp:Hp)(env:Env):List Nat:=hp.flatMap fun e=>(env e.1).fp
def abr(w:World)(hp:Hp)(env:Env)(rs:List S1)(u:Value):Prop:=match rs with
 | [r]=>fD w hp env r u
 |rs=> ∃us,u= .tuple us.toArray∧bK (fD w hp env) rs us
def ff(ty:Tag→Nat)(P:Program)(f:FuncId)(ga:Hp)(as:List S1)(eD:Hp)(rs:List S1):Prop:=
 (∀(args:Array Value) (w:World),(callFunc f args).run P w= .ok (.enter f args) w)∧
 ∀w env us,Cq w→(∀b,PK b→b∉yE ga env)→JO ty w ga env→bK (fD w ga env) as us→Calls P f us.toArray w fun e w'=> ∃env' u,e= .returned u∧Kept ⟨w,yE ga env,env⟩ w w'∧JO ty w' eD env'∧
  (∀n o,look eD n=some o→ ∀b,b∈(env' n).fp→b∈yE ga env∨w.heap.size≤b)∧(∀n,kB n=true→(env' n).v=(env n).v∧ ∀b,b∈(env' n).fp→b∈(env n).fp)∧abr w' eD env' rs u
def bq{ty:Tag→Nat}{P:Program}{f:FuncId}{xs rs:List S1}(_:Sound ty P f xs rs):List S1:=rs
def ji{ty:Tag→Nat}{P:Program}{f:FuncId}{ga:Hp}{xs:List S1}{eD:Hp}{rs:List S1}(_:ff ty P f ga xs eD rs):List S1:=rs
def obS:Obj→S1
 | .box c=> .agg c
 | .arr t l=> .a (.sl t l)
 | .iq _ _ _=> .agg []
def jj{ty:Tag→Nat}{P:Program}{f:FuncId}{ga:Hp}{xs:List S1}{eD:Hp}{rs:List S1}(_:ff ty P f ga xs eD rs):List S1:= .agg (eD.map fun e=> .own e.1)::eD.map fun e=>obS e.2
def C5(B:List (Nat×Nat×Obj)):Hp:=B.map fun e=>(e.2.1,e.2.2)
def FF:List (Nat×Nat×Obj)→Nat→Option Nat
 | [],_=>none
 | (n,m,_)::r,k=>match Nat.beq k m with|true=>some n|false=>FF r k
def D0(kv ks:List Nat)(hp:Hp):Hp:=(hp.filter fun e=> !kv.any (Nat.beq e.1)).map fun e=>(e.1,e.2.bL ks kv)
def HH(hp:Hp):Hp→Bool
 | []=>true
 | (m,_)::r=>(match look hp m with|none=>true|some _=>false)&&HH hp r
def R4(P:Program)(ty:Tag→Nat)(Γ:Nat→TK)(cr:List (Nat×CR))(st:St)(d:Option Nat):Op→Option (List Prop×St×SV)
 | .call ⟨.value x,xs,ts⟩=>match look cr (d.getD 99999+700000),look cr (d.getD 99999+800000)with
   |some ⟨_, .agg a:: .agg b:: .agg c::os⟩,some ⟨_,rs⟩=>match Zd a,Zd b,abo c with
    |some ρ0,some ρ1,some ns=>match R2 ns os,yD st ρ0 ρ0,HG st ρ0 x,JM Γ st ρ0 xs.toList ts.toList with
     |some eD,some ga,some (f,ex),some as=>match DY (V5 st xs.toList ρ0) (ρ0++ρ1) eD,V6 (ρ0++ρ1) rs with
      |some B,some rsA=>match oG ((ρ0++ρ1).map Prod.fst)&&oG (ρ0.map Prod.snd)&&kJ eD&&kJ (C5 B)&&HH (D0 (ρ0.map Prod.snd) ((ρ0.filter fun e=> !kB e.1).map Prod.snd) st.hp) (C5 B)&&ρ0.all (fun e=> !kB e.1|| (DZ (look ga e.1)&&DZ (look eD e.1)))&&ρ1.all (fun e=> !kB e.2)with
       |true=>some (ff ty P f ga (oF as ex) eD rs::Mh (V5 st xs.toList ρ0) eD,⟨st.n,st.sl.map fun e=>(e.1,e.2.bL ((ρ0.filter fun e=> !kB e.1).map Prod.snd) (ρ0.map Prod.snd)),C5 B++D0 (ρ0.map Prod.snd) ((ρ0.filter fun e=> !kB e.1).map Prod.snd) st.hp⟩,match rsA with| [r]=> .one r|l=> .wK l)
       |false=>none
      |_,_=>none
     |_,_,_,_=>none
    |_,_,_=>none
   |_,_=>none
 |_=>none
theorem mz: ∀{ρ:List (Nat×Nat)} {m n:Nat},inv ρ m=some n→(n,m)∈ρ
 | (a,b)::r,m,n,h=>by
   simp only[inv]at h;split at h
   ·rename_i hb;have:=Nat.eq_of_beq_eq_true hb;simp only[oI]at h;subst h;subst this;simp
   ·exact List.mem_cons_of_mem _ (mz h)
theorem JP: ∀{ρ:List (Nat×Nat)} {m:Nat},inv ρ m=none→m∉ρ.map Prod.snd
 | [],_,_=>by simp
 | (a,b)::r,m,h=>by
   simp only[inv]at h;split at h
   ·cases h
   ·rename_i hb;have hne:m≠b:=fun e=>by rw[e,Nat.beq_refl]at hb;cases hb
    have:=JP h;simp only[List.map_cons,List.mem_cons,not_or];exact⟨hne,this⟩
theorem eL{α:Type}: ∀{l:List (Nat×α)} {n:Nat} {x:α},(l.map Prod.fst).Nodup→(n,x)∈l→look l n=some x
 | (j,y)::r,n,x,hnd,h=>by
   obtain⟨h1,h2⟩:=List.nodup_cons.1 hnd;rcases List.mem_cons.1 h with h'|h'
   ·simp only[pI]at h';obtain⟨rfl,rfl⟩:=h';exact look_eq
   ·have hne:n≠j:=fun e=>h1 (List.mem_map.2 ⟨(n,x),h',e⟩);rw[bB hne];exact eL h2 h'
theorem vr: ∀{l:Hp},kJ l=true→(l.map Prod.fst).Nodup
 | [],_=>List.nodup_nil
 | (n,x)::r,h=>by
   simp only[kJ,Bool.and_eq_true]at h;refine List.nodup_cons.2 ⟨fun hm=> ?_,vr h.2⟩;obtain⟨e,he,rfl⟩:=List.mem_map.1 hm;have:=eL (vr h.2) (show(e.1,e.2)∈r from he);rw[this]at h;simp at h
theorem mE: ∀{B:List (Nat×Nat×Obj)} {m:Nat} {o:Obj},look (C5 B) m=some o→ ∃n,(n,m,o)∈B∧FF B m=some n
 | (n,k,x)::r,m,o,h=>by
   have h:look ((k,x)::C5 r) m=some o:=h;by_cases hm:m=k
   ·subst hm;rw[look_eq]at h;simp only[oI]at h;subst h;exact⟨n,by simp,by simp[FF]⟩
   ·rw[bB hm]at h;obtain⟨n',h1,h2⟩:=mE h;refine⟨n',List.mem_cons_of_mem _ h1,?_⟩;simp only[FF];cases hb:Nat.beq m k with
    |true=>exact absurd (Nat.eq_of_beq_eq_true hb) hm
    |false=>exact h2
theorem Gk: ∀{B:List (Nat×Nat×Obj)} {m:Nat},look (C5 B) m=none→FF B m=none
 | [],_,_=>rfl
 | (n,k,x)::r,m,h=>by
   have h:look ((k,x)::C5 r) m=none:=h;have hm:m≠k:=by rintro rfl;rw[look_eq]at h;cases h
   rw[bB hm]at h;simp only[FF];cases hb:Nat.beq m k with
   |true=>exact absurd (Nat.eq_of_beq_eq_true hb) hm
   |false=>exact Gk h
theorem kN{kn:Option V}{ρ:List (Nat×Nat)}: ∀{hp:Hp} {B:List (Nat×Nat×Obj)},DY kn ρ hp=some B→ ∀n m o',(n,m,o')∈B→ ∃o,(n,o)∈hp∧look ρ n=some m∧o.toA kn ρ=some o'∧(kB m=true→kB n=true)∧(soft n=true→soft m=true)
 | [],B,h,n,m,o',hm=>by
   simp only[DY,oI]at h;subst h;cases hm
 | (k,x)::r,B,h,n,m,o',hm=>by
   simp only[DY]at h;split at h
   ·rename_i m1 o1 h1 e1 e2 e3;split at h
    ·rename_i hp hs;simp only[oI]at h;subst h;rcases List.mem_cons.1 hm with h|h
     ·simp only[pI]at h;obtain⟨rfl,rfl,rfl⟩:=h;refine⟨x,by simp,e1,e2,fun hn=> ?_,fun hn=> ?_⟩
      ·rw[hn]at hp;simpa using hp
      ·rw[hn]at hs;simpa using hs
     ·obtain⟨o,q1,q2⟩:=kN e3 n m o' h;exact⟨o,List.mem_cons_of_mem _ q1,q2⟩
    ·cases h
   ·cases h
theorem Gl{kn:Option V}{ρ:List (Nat×Nat)}: ∀{hp:Hp} {B:List (Nat×Nat×Obj)},DY kn ρ hp=some B→ ∀n o,(n,o)∈hp→ ∃m o',(n,m,o')∈B∧look ρ n=some m∧o.toA kn ρ=some o'
 | [],B,h,n,o,hm=>by cases hm
 | (k,x)::r,B,h,n,o,hm=>by
   simp only[DY]at h;split at h
   ·rename_i m1 o1 h1 e1 e2 e3;split at h
    ·simp only[oI]at h;subst h;rcases List.mem_cons.1 hm with h|h
     ·simp only[pI]at h;obtain⟨rfl,rfl⟩:=h;exact⟨m1,o1,by simp,e1,e2⟩
     ·obtain⟨m,o',q1,q2⟩:=Gl e3 n o h;exact⟨m,o',List.mem_cons_of_mem _ q1,q2⟩
    ·cases h
   ·cases h
theorem Gm{st:St}{ρ:List (Nat×Nat)}: ∀{r:List (Nat×Nat)} {hp:Hp},yD st ρ r=some hp→(∀n o,(n,o)∈hp→ ∃m x,(n,m)∈r∧look st.hp m=some x∧o=x.toF ρ∧(kB m=true→kB n=true)∧(soft m=true→soft n=true))∧ ∀n m,(n,m)∈r→ ∃x,look st.hp m=some x∧(n,x.toF ρ)∈hp
 | [],hp,h=>by
   simp only[yD,oI]at h;subst h;exact⟨(fun n o hm=>nomatch hm),(fun n m hm=>nomatch hm)⟩
 | (k,j)::r,hp,h=>by
   simp only[yD]at h;split at h
   ·rename_i x h' e1 e2 e3 e4;simp only[oI]at h;subst h;obtain⟨q1,q2⟩:=Gm e4;refine⟨fun n o hm=> ?_,fun n m hm=> ?_⟩
    ·rcases List.mem_cons.1 hm with h|h
     ·simp only[pI]at h;obtain⟨rfl,rfl⟩:=h;exact⟨j,x,by simp,e1,rfl,fun hs=>by rw[hs]at e2;simpa using e2,fun hs=>by rw[hs]at e3;simpa using e3⟩
     ·obtain⟨m,y,p1,p2⟩:=q1 n o h;exact⟨m,y,List.mem_cons_of_mem _ p1,p2⟩
    ·rcases List.mem_cons.1 hm with h|h
     ·simp only[pI]at h;obtain⟨rfl,rfl⟩:=h;exact⟨x,e1,by simp⟩
     ·obtain⟨y,p1,p2⟩:=q2 n m h;exact⟨y,p1,List.mem_cons_of_mem _ p2⟩
   ·cases h
theorem AI{st:St}{ρ:List (Nat×Nat)}: ∀{r:List (Nat×Nat)} {hp:Hp},yD st ρ r=some hp→hp.map Prod.fst=r.map Prod.fst
 | [],hp,h=>by simp only[yD,oI]at h;subst h;rfl
 | (k,j)::r,hp,h=>by
   simp only[yD]at h;split at h
   ·rename_i e4;simp only[oI]at h;subst h;rw[List.map_cons,List.map_cons,AI e4]
   ·cases h
theorem qA{kv ks:List Nat}{hp:Hp}{n:Nat}:look (D0 kv ks hp) n=if n∈kv then none else(look hp n).map (Obj.bL ks kv):=by
 unfold D0;rw[jT (α:=Obj) (f:=fun e:Nat×Obj=>e.2.bL ks kv)];have:look (hp.filter fun e=> !kv.any (Nat.beq e.1)) n=if n∈kv then none else look hp n:=by
  induction hp with
  |nil=>simp[look]
  |cons e r ih=>
   obtain⟨j,x⟩:=e;by_cases hj:j∈kv
   ·have:(kv.any (Nat.beq j))=true:=List.any_eq_true.2 ⟨j,hj,by simp⟩;rw[List.filter_cons_of_neg (by simp[this]),ih];by_cases hn:n∈kv
    ·simp[hn]
    ·have:n≠j:=by rintro rfl;exact hn hj
     rw[if_neg hn,if_neg hn,bB this]
   ·have:(kv.any (Nat.beq j))=false:=by
     rw[List.any_eq_false];intro y hy hb;exact hj (by rw[Nat.eq_of_beq_eq_true hb];exact hy)
    rw[List.filter_cons_of_pos (by simp[this])];by_cases Ze:n=j
    ·subst Ze;rw[look_eq,if_neg hj,look_eq]
    ·rw[bB Ze,bB Ze,ih]
 rw[this];split<;>simp
theorem Gn{hp:Hp}: ∀{l:Hp},HH hp l=true→ ∀m o,look l m=some o→look hp m=none
 | (k,x)::r,h,m,o,hl=>by
   simp only[HH,Bool.and_eq_true]at h;by_cases hm:m=k
   ·subst hm;cases hq:look hp m with
    |none=>rfl
    |some y=>rw[hq]at h;simp at h
   ·rw[bB hm]at hl;exact Gn h.2 m o hl
theorem R5{w:World}{hp:Hp}{env:Env}: ∀{c:List V} {us:List Value} {x:V},bK (RA w hp env) c us→knV c=some x→ ∃u t l,x= .vf u t l∧RA w hp env x u
 | [],_,_,_,h=>by cases h
 |v::r,us,x,hr,h=>by
  cases us with
  |nil=>exact hr.elim
  |cons u us=>
   cases v with
   |vf v t l=>
    simp only[knV,oI]at h;subst h;have h1:=hr.1;obtain⟨hu,_⟩:=h1;subst hu;exact⟨_,t,l,rfl,hr.1⟩
   |_=>exact R5 hr.2 h
theorem Mi{zb:cD}{st:St}{a:Act}{w:World}{env:Env}(g:Good ty zb st a.tmps w env): ∀{xs:List Operand} {x:V},knX st xs=some x→ ∃u t l,x= .vf u t l∧RA w st.hp env x u
 | [],_,h=>by cases h
 |y::r,x,h=>by
  simp only[knX]at h;split at h
  ·rename_i v hv;split at h
   ·rename_i hl;simp only[oI]at h;subst h;have hr:=xd g (fun e he=>by simp at he) hv;cases v with
    |vf v t l=>
     have h1:RA w st.hp env (.vf v t l) (a.eval y):=hr;obtain⟨hu,_⟩:=h1;refine⟨v,t,l,rfl,?_⟩;have h2:RA w st.hp env (.vf v t l) (a.eval y):=hr;rw[hu]at h2;exact h2
    |_=>cases hl
   ·exact Mi g h
  ·exact Mi g h
theorem Mj{zb:cD}{st:St}{tmps:Array Value}{w:World}{env:Env}(g:Good ty zb st tmps w env): ∀{ρ:List (Nat×Nat)} {x:V},knR st ρ=some x→ ∃u t l,x= .vf u t l∧RA w st.hp env x u
 | [],_,h=>by cases h
 | (n,m)::r,x,h=>by
   simp only[knR]at h;split at h
   ·rename_i c hc;split at h
    ·rename_i v hv;simp only[oI]at h;subst h;obtain⟨b,cs,e,_,_,h3⟩:=g.obj m _ hc;exact R5 h3 hv
    ·exact Mj g h
   ·exact Mj g h
theorem Zf{zb:cD}{st:St}{a:Act}{w:World}{env:Env}(g:Good ty zb st a.tmps w env){xs:List Operand}{ρ:List (Nat×Nat)}{x:V}(h:V5 st xs ρ=some x): ∃u t l,x= .vf u t l∧RA w st.hp env x u:=by
 unfold V5 at h;split at h
 ·rename_i v hv;simp only[oI]at h;subst h;exact Mi g hv
 ·exact Mj g h
theorem JQ{kn:Option V}: ∀{c:List V} {v:V},v∈c→ ∀q,q∈JN kn v→q∈R3 kn c
 |x::r,v,hv,q,hq=>by
  simp only[R3,eX];rcases List.mem_cons.1 hv with rfl|hv
  ·exact List.mem_append_left _ hq
  ·exact List.mem_append_right _ (JQ hv q hq)
theorem JR{kn:Option V}: ∀{hp:Hp} {n:Nat} {c:List V},(n, .box c)∈hp→ ∀q,q∈R3 kn c→q∈Mh kn hp
 | (m,o)::r,n,c,h,q,hq=>by
   rcases List.mem_cons.1 h with h|h
   ·simp only[pI]at h;obtain⟨_,rfl⟩:=h;simp only[Mh,eX];exact List.mem_append_left _ hq
   ·have:=JR h q hq;cases o with
    |box d=>simp only[Mh,eX];exact List.mem_append_right _ this
    |_=>exact this
end
section
variable{ty:Tag→Nat}
def yF(env:Env)(ρ:List (Nat×Nat)):Env:=fun n=>match look ρ n with|some m=>env m|none=>⟨DE,[]⟩
section
variable{P:Program}{zb:cD}{st st':St}{a:Act}{w:World}{env:Env}{Q:Exit→Act→World→Prop}{o:Oper}{ρ:List (Nat×Nat)}{ga:Hp}
structure yG(st:St)(env:Env)(ρ:List (Nat×Nat))(ga:Hp):Prop where
 at_: ∀n m,(n,m)∈ρ→look ρ n=some m
 obj: ∀n m,(n,m)∈ρ→ ∃x,look st.hp m=some x∧look ga n=some (x.toF ρ)
 back: ∀n o,look ga n=some o→ ∃m x,(n,m)∈ρ∧look st.hp m=some x∧o=x.toF ρ∧(kB m=true→kB n=true)∧(soft m=true→soft n=true)
 uniq:(ρ.map Prod.snd).Nodup
theorem yG.of{st:St}{env:Env}{ga:Hp}(h:yD st ρ ρ=some ga)(h1:(ρ.map Prod.fst).Nodup)(h2:(ρ.map Prod.snd).Nodup):yG st env ρ ga:=by
 obtain⟨q1,q2⟩:=Gm h;have hnd:(ga.map Prod.fst).Nodup:=by rw[AI h];exact h1
 refine⟨fun n m hm=>eL h1 hm,fun n m hm=> ?_,fun n o hl=> ?_,h2⟩
 ·obtain⟨x,p1,p2⟩:=q2 n m hm;exact⟨x,p1,eL hnd p2⟩
 ·obtain⟨m,x,p1,p2,p3,p4⟩:=q1 n o (dO hl);exact⟨m,x,p1,p2,p3,p4⟩
theorem yG.en(L:yG st env ρ ga){n m:Nat}(h:(n,m)∈ρ):yF env ρ n=env m:=by unfold yF;rw[L.at_ n m h]
theorem yG.ow(L:yG st env ρ ga){b:Nat}(h:Ow ga (yF env ρ) b): ∃n m x,(n,m)∈ρ∧look st.hp m=some x∧b∈(env m).fp:=by
 obtain⟨n,o,h1,h2⟩:=h;obtain⟨m,x,p1,p2,_⟩:=L.back n o h1;rw[L.en p1]at h2;exact⟨n,m,x,p1,p2,h2⟩
theorem NV: ∀{ρ:List (Nat×Nat)} {n n' m:Nat},(ρ.map Prod.snd).Nodup→(n,m)∈ρ→(n',m)∈ρ→n=n'
 | (a,b)::r,n,n',m,hnd,h1,h2=>by
   obtain⟨q1,q2⟩:=List.nodup_cons.1 hnd;rcases List.mem_cons.1 h1 with e1|e1<;>rcases List.mem_cons.1 h2 with e2|e2
   ·rw[pI]at e1 e2;rw[e1.1,e2.1]
   ·rw[pI]at e1;exact absurd (List.mem_map.2 ⟨_,e2,e1.2⟩) q1
   ·rw[pI]at e2;exact absurd (List.mem_map.2 ⟨_,e1,e2.2⟩) q1
   ·exact NV q2 e1 e2
theorem toF_ok(L:yG st env ρ ga){v:V}{u:Value}(h:RA w st.hp env v u):RA w ga (yF env ρ) (v.toF ρ) u:=by
 cases v with
 |lit x=>exact h
 |sl t l=>
  obtain⟨fp,h1,h2⟩:=h;refine⟨fp,h1,fun b hb ho=>h2 b hb ?_⟩;obtain⟨n,m,x,_,p2,p3⟩:=L.ow ho;exact⟨m,x,p2,p3⟩
 |own m=>
  simp only[V.toF];split
  ·rename_i n hn;obtain⟨⟨t,l,hl⟩,hu⟩:=h;obtain⟨x,p1,p2⟩:=L.obj n m (mz hn);rw[hl]at p1;simp only[oI]at p1;subst p1;exact⟨⟨t,l,p2⟩,by rw[L.en (mz hn)];exact hu⟩
  ·trivial
 |ptr m off=>
  simp only[V.toF];split
  ·rename_i n hn;obtain⟨⟨c,hl⟩,hu⟩:=h;obtain⟨x,p1,p2⟩:=L.obj n m (mz hn);rw[hl]at p1;simp only[oI]at p1;subst p1;exact⟨⟨_,p2⟩,by rw[L.en (mz hn)];exact hu⟩
  ·trivial
 |F3 f m=>
  simp only[V.toF];split
  ·rename_i n hn;obtain⟨⟨c,hl⟩,hu⟩:=h;obtain⟨x,p1,p2⟩:=L.obj n m (mz hn);rw[hl]at p1;simp only[oI]at p1;subst p1;exact⟨⟨_,p2⟩,by rw[L.en (mz hn)];exact hu⟩
  ·trivial
 |vf v t l=>
  obtain⟨hu,fp,h1,h2⟩:=h;refine⟨hu,fp,h1,fun b hb ho=>h2 b hb ?_⟩;obtain⟨n,m,x,_,p2,p3⟩:=L.ow ho;exact⟨m,x,p2,p3⟩
 |_=>trivial
theorem NW{w:World}{hp hp':Hp}{env env':Env}{n m:Nat}{t:Tag}{l:List (T t)}{co:CO}(hs:soft m=true→soft n=true)(h:RO ty w hp env m (.arr t l) co):RO ty w hp' env' n (.arr t l) co:=by
 cases hm:soft m with
 |false=>exact RO.F7 (RO.XT hm h)
 |true=>exact RO.Rt (hs hm) (RO.sl h) (RO.own h)
theorem P4(g:Good ty zb st a.tmps w env)(L:yG st env ρ ga):JO ty w ga (yF env ρ):=by
 refine⟨fun n o hl=> ?_,fun n n' o o' hne h1 h2 b hb hb'=> ?_⟩
 ·obtain⟨m,x,p1,p2,rfl,_,p4⟩:=L.back n o hl;rw[L.en p1];have hro:=g.obj m x p2;cases x with
  |arr t l=>exact NW p4 hro
  |box c=>
   obtain⟨b,cs,e,h1,h2,h3⟩:=hro;exact⟨b,cs,e,h1,h2,h3.map fun x y hr=>toF_ok L hr⟩
  |iq t l s=>
   rcases RO.FC hro with⟨rfl,h⟩| ⟨u,rfl,h1,h2,fp,h3,h4⟩| ⟨p,rfl,h⟩| ⟨hr,h1,us,hB,h2,_⟩
   ·exact h
   ·refine⟨h1,h2,fp,h3,h4.imp id fun⟨c,e1,e2⟩=>⟨c,e1,fun ho=> ?_⟩⟩;obtain⟨n',m',x',p1',p2',p3'⟩:=L.ow ho;exact e2 ⟨m',x',p2',p3'⟩
   ·exact⟨h.1,h.2.1,fun _ _ _ e=>by cases e⟩
   ·have e:(Obj.iq t l s).toF ρ= .iq t l .gone:=by cases s<;>first|rfl|exact hr.elim
    rw[e];exact⟨h1,us,hB,h2,fun _ _ _ _ _=>trivial⟩
 ·obtain⟨m,x,p1,p2,_⟩:=L.back n o h1;obtain⟨m',x',p1',p2',_⟩:=L.back n' o' h2;rw[L.en p1]at hb;rw[L.en p1']at hb';refine g.kK m m' x x' (fun e=> ?_) p2 p2' b hb hb';subst e;exact hne (NV L.uniq p1 p1')
theorem NX(g:Good ty zb st a.tmps w env)(L:yG st env ρ ga){tg:Option Tag}{v v':V}{u:Value}(h:RA w st.hp env v u)(hf:V4 st ρ tg v=some v'):RA w ga (yF env ρ) v' u:=by
 have abt:(∀n c t l,v≠ .mix n c t l)→(∀n,v≠ .FB n)→(∀m,v.name=some m→inv ρ m=none)→mL st tg v=some v'→RA w ga (yF env ρ) v' u:=by
  intro Jc hbw hno hi;have abu: ∀{m:Nat} {x:Obj},v.name=some m→look st.hp m=some x→ ∀b,b∈(env m).fp→ ¬Ow ga (yF env ρ) b:=by
   intro m x hm hl b hb ho;obtain⟨n,m',x',p1,p2,p3⟩:=L.ow ho;have hne:m≠m':=by
    rintro rfl;exact JP (hno m hm) (List.mem_map.2 ⟨_,p1,rfl⟩)
   exact g.kK m m' x x' hne hl p2 b hb p3
  cases v with
  |sl t l=>
   simp only[mL,oI]at hi;subst hi;exact toF_ok L h
  |own m=>
   simp only[mL]at hi;split at hi
   ·rename_i t l hl;simp only[oI]at hi;subst hi;obtain⟨_,hu⟩:=h;refine⟨(env m).fp,?_,abu rfl hl⟩;rw[hu];exact RO.sl (g.obj m _ hl)
   ·cases hi
  |vw m p t l=>
   simp only[mL,oI]at hi;subst hi;obtain⟨⟨tA,lA,hl⟩,⟨fp,hs,_,hsub⟩,_⟩:=h;exact⟨fp,hs,fun b hb=>abu rfl hl b (hsub b hb)⟩
  |lit x=>
   unfold mL at hi;split at hi
   ·rename_i he;cases he
   ·rename_i he;cases he
   ·rename_i he;cases he
   ·rename_i he;cases he
   ·rename_i he;cases he
   ·rename_i he;simp only[V.lit.injEq]at he;subst he;obtain⟨hu,_⟩:=h;split at hi
    ·simp only[oI]at hi;subst hi;refine⟨[],?_,by simp⟩;rw[hu];exact⟨none,0,rfl,Nat.le_refl _,Nat.zero_le _,Or.inl ⟨rfl,rfl,rfl⟩⟩
    ·cases hi
   ·cases hi
   ·rename_i he;simp only[V.lit.injEq]at he;subst he;simp only[oI]at hi;subst hi;exact h
   ·cases hi
  |mix n c t l=>exact absurd rfl (Jc n c t l)
  |FB n=>exact absurd rfl (hbw n)
  |_=>simp[mL]at hi
 unfold V4 at hf;split at hf
 ·rename_i m hm;split at hf
  ·rename_i n hn;have hF:=toF_ok L h;split at hf
   ·rename_i m';simp only[V.name,oI]at hm;subst hm;simp only[oI]at hf;subst hf;simpa only[V.toF,hn]using hF
   ·rename_i m' off;simp only[V.name,oI]at hm;subst hm;simp only[oI]at hf;subst hf;simpa only[V.toF,hn]using hF
   ·rename_i f m';simp only[V.name,oI]at hm;subst hm;simp only[oI]at hf;subst hf;simpa only[V.toF,hn]using hF
   ·cases hf
  ·rename_i hn;split at hf
   ·cases hf
   ·cases hf
   ·rename_i h1 h2;exact abt (fun n c t l e=>h1 n c t l e) (fun n e=>h2 n e) (fun k hk=>by rw[hm]at hk;simp only[oI]at hk;subst hk;exact hn) hf
 ·rename_i hm;exact abt (fun n c t l e=>by rw[e]at hm;cases hm) (fun n e=>by rw[e]at hm;cases hm) (fun k hk=>by rw[hm]at hk;cases hk) hf
theorem JS(g:Good ty zb st a.tmps w env)(L:yG st env ρ ga): ∀{vs vs':List V} {tg:List (Option Tag)} {us:List Value},bK (RA w st.hp env) vs us→JL st ρ tg vs=some vs'→bK (RA w ga (yF env ρ)) vs' us
 | [],vs',tg,us,h,hf=>by
   simp only[JL,oI]at hf;subst hf;cases us with
   |nil=>trivial
   |cons _ _=>exact h.elim
 |v::r,vs',tg,us,h,hf=>by
  cases us with
  |nil=>exact h.elim
  |cons u us=>
   simp only[JL]at hf;split at hf
   ·rename_i x y h1 h2;simp only[oI]at hf;subst hf;exact⟨NX g L h.1 h1,JS g L h.2 h2⟩
   ·cases hf
theorem JT(g:Good ty zb st a.tmps w env)(L:yG st env ρ ga){Γ:Nat→TK}: ∀{xs:List Operand} {ts:List Nat} {as:List S1},JM Γ st ρ xs ts=some as→bK (fD w ga (yF env ρ)) as (xs.map a.eval)
 | [],_,as,h=>by
   simp only[JM,oI]at h;subst h;trivial
 |x::r,ts,as,h=>by
  simp only[JM]at h;split at h
  ·rename_i v hv;split at h
   ·rename_i y ys h1 h2;simp only[oI]at h;subst h;have hr:=xd g (fun e he=>by simp at he) hv;refine⟨?_,JT g L h2⟩;cases v with
    |a v=>
     simp only[Zc]at h1;split at h1
     ·rename_i hl;simp only[oI]at h1;subst h1;cases v with
      |vf v t l=>exact toF_ok L (v:= .vf v t l) hr
      |_=>cases hl
     ·split at h1
      ·rename_i z hz;simp only[oI]at h1;subst h1;exact NX g L hr hz
      ·cases h1
    |agg l=>
     simp only[Zc]at h1;split at h1
     ·rename_i z hz;simp only[oI]at h1;subst h1;obtain⟨cs,hu,hl⟩:=hr;exact⟨cs,hu,JS g L hl hz⟩
     ·cases h1
   ·cases h
  ·cases h
theorem bK.append{α β:Type}{R:α→β→Prop}: ∀{as as':List α} {bs bs':List β},bK R as bs→bK R as' bs'→bK R (as++as') (bs++bs'):=bK.app
theorem Mk(g:Good ty zb st a.tmps w env)(L:yG st env ρ ga){x:Operand}{xs:Array Operand}{ts:Array TypeId}(ho:o.op= .call ⟨.value x,xs,ts⟩){f:FuncId}{ex:List S1}(h:HG st ρ x=some (f,ex))(hS: ∀(args:Array Value) (w:World),(callFunc f args).run P w= .ok (.enter f args) w):
  ∃us,(execOp a.eval o).run P w= .ok (.enter f (xs.toList.map a.eval++us).toArray) w∧bK (fD w ga (yF env ρ)) ex us:=by
 have hx:xs.map a.eval=(xs.toList.map a.eval).toArray:=by rw[←List.map_toArray]
 unfold HG at h;split at h
 ·rename_i f' m hv;split at h
  ·rename_i n hn;simp only[oI,pI]at h;obtain⟨rfl,rfl⟩:=h;have hr:=e9 g (fun e he=>by simp at he) hv;have hA:RA w st.hp env (.F3 f' m) (a.eval x):=hr;obtain⟨⟨c,hl⟩,b,hb,hu⟩:=hA;refine⟨[.pointer (some ⟨b,0,none⟩)],?_,?_,trivial⟩
   ·unfold execOp;simp[ho,resolve,invoke,Deferred.ofValue,hu,hS];rw[hx];simp
   ·obtain⟨y,p1,p2⟩:=L.obj n m (mz hn);rw[hl]at p1;simp only[oI]at p1;subst p1;exact⟨⟨_,p2⟩,b,by rw[L.en (mz hn)];exact hb,rfl⟩
  ·cases h
 ·rename_i v _ hv;split at h
  ·rename_i f' hf;simp only[oI,pI]at h;obtain⟨rfl,rfl⟩:=h;have h0:=NP (e9 g (fun e he=>by simp at he) hv) hf;refine⟨[],?_,trivial⟩;unfold execOp;simp[ho,resolve,invoke,Deferred.ofValue,h0,hS];exact hx
  ·cases h
 ·cases h
theorem toA_ok{w:World}{eD P5:Hp}{mN env':Env}{ρ:List (Nat×Nat)}{kn X1:Option V}(hn: ∀n m,look ρ n=some m→ ∀o,look eD n=some o→(∃o',look P5 m=some o'∧o.toA X1 ρ=some o')∧env' m=mN n)(hK: ∀x,kn=some x→ ∃u t l,x= .vf u t l∧RA w P5 env' x u){v v':V}{u:Value}(hP: ∀q,q∈JN kn v→q)(h:RA w eD mN v u)(hv:v.toA kn ρ=some v'):RA w P5 env' v' u:=by
 cases v with
 |any=>simp only[V.toA,oI]at hv;subst hv;trivial
 |lit x=>simp only[V.toA,oI]at hv;subst hv;exact h
 |vf v t l=>
  simp only[V.toA]at hv;obtain⟨u0,t0,l0,rfl,h0⟩:=hK _ hv;subst hv;have e:=hP (v=u0) (by simp[JN]);obtain⟨hu,_⟩:=h;rw[hu,e];exact h0
 |own n=>
  simp only[V.toA]at hv;split at hv
  ·rename_i m hm;simp only[oI]at hv;subst hv;obtain⟨⟨t,l,hl⟩,hu⟩:=h;obtain⟨⟨o',q1,q2⟩,q3⟩:=hn n m hm _ hl;simp only[Obj.toA,oI]at q2;subst q2;exact⟨⟨t,l,q1⟩,by rw[q3];exact hu⟩
  ·cases hv
 |ptr n off=>
  simp only[V.toA]at hv;split at hv
  ·rename_i m hm;simp only[oI]at hv;subst hv;obtain⟨⟨c,hl⟩,hu⟩:=h;obtain⟨⟨o',q1,q2⟩,q3⟩:=hn n m hm _ hl;simp only[Obj.toA]at q2;split at q2
   ·simp only[oI]at q2;subst q2;exact⟨⟨_,q1⟩,by rw[q3];exact hu⟩
   ·cases q2
  ·cases hv
 |_=>simp[V.toA]at hv
theorem toAs_ok{w:World}{eD P5:Hp}{mN env':Env}{ρ:List (Nat×Nat)}{kn X1:Option V}(hn: ∀n m,look ρ n=some m→ ∀o,look eD n=some o→(∃o',look P5 m=some o'∧o.toA X1 ρ=some o')∧env' m=mN n)(hK: ∀x,kn=some x→ ∃u t l,x= .vf u t l∧RA w P5 env' x u): ∀{vs vs':List V} {us:List Value},(∀v,v∈vs→ ∀q,q∈JN kn v→q)→bK (RA w eD mN) vs us→toAs kn ρ vs=some vs'→bK (RA w P5 env') vs' us
 | [],vs',us,_,h,hv=>by
   simp only[toAs,oI]at hv;subst hv;cases us with
   |nil=>trivial
   |cons _ _=>exact h.elim
 |v::r,vs',us,hP,h,hv=>by
  cases us with
  |nil=>exact h.elim
  |cons u us=>
   simp only[toAs]at hv;split at hv
   ·rename_i x y h1 h2;simp only[oI]at hv;subst hv;exact⟨toA_ok hn hK (hP v (by simp)) h.1 h1,toAs_ok hn hK (fun z hz=>hP z (List.mem_cons_of_mem _ hz)) h.2 h2⟩
   ·cases hv
theorem toA_none{kn:Option V}{ρ:List (Nat×Nat)}{v v':V}(hk:kn=none)(h:v.toA kn ρ=some v'): ∀q,q∈JN kn v→q:=by
 subst hk;cases v with
 |vf v t l=>simp[V.toA]at h
 |_=>intro q hq;simp[JN]at hq
theorem toAs_none{ρ:List (Nat×Nat)}: ∀{vs vs':List V},toAs none ρ vs=some vs'→ ∀v,v∈vs→ ∀q,q∈JN none v→q
 |x::r,vs',h,v,hv=>by
  simp only[toAs]at h;split at h
  ·rename_i h1 h2;rcases List.mem_cons.1 hv with rfl|hv
   ·exact toA_none rfl h1
   ·exact toAs_none h2 v hv
  ·cases h
theorem R6{w:World}{eD P5:Hp}{mN env':Env}{ρ:List (Nat×Nat)}{X1:Option V}(hn: ∀n m,look ρ n=some m→ ∀o,look eD n=some o→(∃o',look P5 m=some o'∧o.toA X1 ρ=some o')∧env' m=mN n){v v':S1}{u:Value}(h:fD w eD mN v u)(hv:v.toA ρ=some v'):fD w P5 env' v' u:=by
 cases v with
 |a v=>
  simp only[S1.toA]at hv;split at hv
  ·rename_i x hx;simp only[oI]at hv;subst hv;exact toA_ok (kn:=none) hn (fun _ h=>by cases h) (toA_none rfl hx) h hx
  ·cases hv
 |agg l=>
  simp only[S1.toA]at hv;split at hv
  ·rename_i x hx;simp only[oI]at hv;subst hv;obtain⟨cs,hu,hl⟩:=h;exact⟨cs,hu,toAs_ok (kn:=none) hn (fun _ h=>by cases h) (toAs_none hx) hl hx⟩
  ·cases hv
theorem Ml{w:World}{eD P5:Hp}{mN env':Env}{ρ:List (Nat×Nat)}{X1:Option V}(hn: ∀n m,look ρ n=some m→ ∀o,look eD n=some o→(∃o',look P5 m=some o'∧o.toA X1 ρ=some o')∧env' m=mN n): ∀{vs vs':List S1} {us:List Value},bK (fD w eD mN) vs us→V6 ρ vs=some vs'→bK (fD w P5 env') vs' us
 | [],vs',us,h,hv=>by
   simp only[V6,oI]at hv;subst hv;cases us with
   |nil=>trivial
   |cons _ _=>exact h.elim
 |v::r,vs',us,h,hv=>by
  cases us with
  |nil=>exact h.elim
  |cons u us=>
   simp only[V6]at hv;split at hv
   ·rename_i x y h1 h2;simp only[oI]at hv;subst hv;exact⟨R6 hn h.1 h1,Ml hn h.2 h2⟩
   ·cases hv
theorem NY{ρ:List (Nat×Nat)}: ∀{vs vs':List S1},V6 ρ vs=some vs'→vs'.length=vs.length
 | [],vs',h=>by simp only[V6,oI]at h;subst h;rfl
 |v::r,vs',h=>by
  simp only[V6]at h;split at h
  ·rename_i x y h1 h2;simp only[oI]at h;subst h;rw[List.length_cons,List.length_cons,NY h2]
  ·cases h
theorem V7{Γ:Nat→TK}{cr:List (Nat×CR)}{d:Option Nat}{vc:List Prop}{v:SV}(h:R4 P ty Γ cr st d o.op=some (vc,st',v))(g:Good ty zb st a.tmps w env)(hB:zb.w.heap.size≤w.heap.size)(hA:L3 zb)(hN:Cq w)(hv: ∀q,q∈vc→q):
  (∀k,v.mentions k=false)∧o.wp P a w (fun a' w'=> ∃u env',a'=a.put o.dst u∧Kept zb w w'∧Good ty zb st' a.tmps w' env'∧st'.n=st.n∧qp w' st'.hp env' a.tmps v u) Q:=by
 generalize fQ:o.op=op at h;cases op with
 |call c=>
  obtain⟨callee,xs,ts⟩:=c;cases callee with
  |value x=>
   simp only[R4]at h;split at h
   case h_2=>cases h
   rename_i _ ca cb cc os _ rs _ _;split at h
   case h_2=>cases h
   rename_i ρ0 ρ1 ns _ _ _;split at h
   case h_2=>cases h
   rename_i eD ga f ex as _ X3 ad1 hargs;split at h
   case h_2=>cases h
   rename_i B rsA D2 hrs;split at h
   case h_2=>cases h
   rename_i abv;simp only[Bool.and_eq_true]at abv;obtain⟨⟨⟨⟨⟨⟨c1,c2⟩,c3⟩,c4⟩,c5⟩,c6⟩,c7⟩:=abv;simp only[oI,pI,eX]at h;obtain⟨rfl,rfl,rfl⟩:=h;have hS:ff ty P f ga (as++ex) eD rs:=hv _ (List.mem_cons_self ..);have ad2: ∀q,q∈Mh (V5 st xs.toList ρ0) eD→q:=fun q hq=>hv q (List.mem_cons_of_mem _ hq);have R7:=jF c1;rw[List.map_append]at R7;have abw:=(List.nodup_append.1 R7).1;have L:yG st env ρ0 ga:=yG.of X3 abw (jF c2);refine⟨fun k=>by split<;>rfl,?_⟩;have V8: ∀b,b∈yE ga (yF env ρ0)→ ∃m x,m∈ρ0.map Prod.snd∧look st.hp m=some x∧b∈(env m).fp:=by
    intro b hb;obtain⟨e,he,X5⟩:=List.mem_flatMap.1 hb;have ad3:(ga.map Prod.fst).Nodup:=by rw[AI X3];exact abw
    obtain⟨m,x,p1,p2,_⟩:=L.back e.1 e.2 (eL ad3 he);rw[L.en p1]at X5;exact⟨m,x,List.mem_map.2 ⟨_,p1,rfl⟩,p2,X5⟩
   have hLz: ∀b,b∈yE ga (yF env ρ0)→b∈zb.L∨zb.w.heap.size≤b:=by
    intro b hb;obtain⟨m,x,_,p2,p3⟩:=V8 b hb;exact g.dom m x p2 b p3
   obtain⟨us,hrun,hex⟩:=Mk (P:=P) g L fQ ad1 hS.1;unfold Oper.wp;rw[hrun];simp only[Oper.upon];refine(hS.2 w (yF env ρ0) _ hN (fun b h0 hb=>hA.free (hLz b hb) h0) (P4 g L) (bK.app (JT g L hargs) hex)).mono ?_;rintro e w' ⟨mN,u,rfl,hK,⟨hG1,hG2⟩,jf,JJ,hres⟩;have abx: ∀n m,(n,m)∈ρ0→look (ρ0++ρ1) n=some m:=fun n m hm=>eL (by rw[List.map_append];exact R7) (List.mem_append_left _ hm);have Zg:=vr c3;have aby:=vr c4;have ad5: ∀{n m n':Nat} {o1 o2:Obj},(n,m,o1)∈B→(n',m,o2)∈B→n=n':=by
    intro n m n' o1 o2 h1 h2;have: ∀{B:List (Nat×Nat×Obj)},((C5 B).map Prod.fst).Nodup→(n,m,o1)∈B→(n',m,o2)∈B→n=n':=by
     intro B;induction B with
     |nil=>intro _ h;cases h
     |cons x r ih=>
      intro hnd h1 h2;obtain⟨q1,q2⟩:=List.nodup_cons.1 (show((x.2.1)::(C5 r).map Prod.fst).Nodup from hnd);have hin: ∀{k:Nat} {o:Obj},(k,m,o)∈r→m∈(C5 r).map Prod.fst:=fun h=>List.mem_map.2 ⟨(m,_),List.mem_map.2 ⟨_,h,rfl⟩,rfl⟩;rcases List.mem_cons.1 h1 with e1|e1<;>rcases List.mem_cons.1 h2 with e2|e2
      ·rw[←e1]at e2;simp only[pI]at e2;exact e2.1.symm
      ·rw[←e1]at q1;exact absurd (hin e2) q1
      ·rw[←e2]at q1;exact absurd (hin e1) q1
      ·exact ih q2 e1 e2
    exact this aby h1 h2
   have abz: ∀{n m:Nat} {o':Obj},(n,m,o')∈B→look (C5 B) m=some o'∧FF B m=some n:=by
    intro n m o' hm;have h1:look (C5 B) m=some o':=eL aby (List.mem_map.2 ⟨_,hm,rfl⟩);obtain⟨n',h2,h3⟩:=mE h1;rw[ad5 hm h2];exact⟨h1,h3⟩
   let env':Env:=fun m=>match FF B m with|some n=>mN n|none=>env m
   have JU: ∀{n m:Nat} {o':Obj},(n,m,o')∈B→env' m=mN n:=by
    intro n m o' hm;show(match FF B m with|some n=>mN n|none=>env m)=mN n
    rw[(abz hm).2]
   have NZ: ∀{m:Nat},look (C5 B) m=none→env' m=env m:=by
    intro m hm;show(match FF B m with|some n=>mN n|none=>env m)=env m
    rw[Gk hm]
   have hn: ∀n m,look (ρ0++ρ1) n=some m→ ∀o,look eD n=some o→(∃o',look (C5 B) m=some o'∧o.toA (V5 st xs.toList ρ0) (ρ0++ρ1)=some o')∧env' m=mN n:=by
    intro n m hm o hl;obtain⟨m',o',q1,q2,q3⟩:=Gl D2 n o (dO hl);rw[hm]at q2;simp only[oI]at q2;subst q2;exact⟨⟨o',(abz q1).1,q3⟩,JU q1⟩
   have hfr:=Gn c5;have hlk: ∀m o,look (C5 B++D0 (ρ0.map Prod.snd) ((ρ0.filter fun e=> !kB e.1).map Prod.snd) st.hp) m=some o→(∃n o1,look (C5 B) m=some o∧look eD n=some o1∧o1.toA (V5 st xs.toList ρ0) (ρ0++ρ1)=some o∧env' m=mN n∧(kB m=true→kB n=true)∧(soft n=true→soft m=true))∨(look (C5 B) m=none∧m∉ρ0.map Prod.snd∧ ∃x,look st.hp m=some x∧o=x.bL ((ρ0.filter fun e=> !kB e.1).map Prod.snd) (ρ0.map Prod.snd)∧env' m=env m):=by
    intro m o hm;cases hq:look (C5 B) m with
    |some o2=>
     rw[cJ hq]at hm;simp only[oI]at hm;subst hm;obtain⟨n,h1,_⟩:=mE hq;obtain⟨o1,p1,p2,p3,p4,p5⟩:=kN D2 n m _ h1;exact Or.inl ⟨n,o1,rfl,eL Zg p1,p3,JU h1,p4,p5⟩
    |none=>
     rw[bJ hq,qA]at hm;split at hm
     ·cases hm
     ·rename_i hnk;cases hx:look st.hp m with
      |none=>rw[hx]at hm;cases hm
      |some x=>
       rw[hx]at hm;simp only[Option.map_some,oI]at hm;exact Or.inr ⟨rfl,hnk,x,rfl,hm.symm,NZ hq⟩
   have hold: ∀m x,m∉ρ0.map Prod.snd→look st.hp m=some x→look (C5 B) m=none:=by
    intro m x hnk hx;cases hq:look (C5 B) m with
    |none=>rfl
    |some o2=>
     have:=hfr m o2 hq;rw[qA,if_neg hnk,hx]at this;cases this
   have hst: ∀m x,m∉ρ0.map Prod.snd→look st.hp m=some x→ ∀b,b∈(env m).fp→w'.heap[b]? =w.heap[b]? :=by
    intro m x hnk hx b hb;refine hK.block b ((g.obj m x hx).blk b hb) fun hL=> ?_;obtain⟨m',x',p1,p2,p3⟩:=V8 b hL;exact g.kK m m' x x' (fun e=>hnk (e▸p1)) hx p2 b hb p3
   have hnew: ∀{m n:Nat} {o1:Obj},look eD n=some o1→ ∀b,b∈(mN n).fp→b<w.heap.size→ ∃m' x',m'∈ρ0.map Prod.snd∧look st.hp m'=some x'∧b∈(env m').fp:=by
    intro m n o1 hl b hb hlt;rcases jf n o1 hl b hb with h|h
    ·exact V8 b h
    ·omega
   have s:qw ((ρ0.filter fun e=> !kB e.1).map Prod.snd) (ρ0.map Prod.snd) w st.hp env w' (C5 B++D0 (ρ0.map Prod.snd) ((ρ0.filter fun e=> !kB e.1).map Prod.snd) st.hp) env':=by
    refine⟨fun b hb hno=>hK.block b hb fun hL=> ?_,?_,?_,?_⟩
    ·obtain⟨m,x,_,p2,p3⟩:=V8 b hL;exact hno ⟨m,x,p2,p3⟩
    ·rintro b hb ⟨m,o',h1,h2⟩;rcases hlk m o' h1 with⟨n,o1,_,q2,_,q4,_⟩| ⟨_,_,x,q3,_,q5⟩
     ·rw[q4]at h2;obtain⟨m',x',_,p2,p3⟩:=hnew (m:=m) q2 b h2 hb;exact⟨m',x',p2,p3⟩
     ·rw[q5]at h2;exact⟨m,x,q3,h2⟩
    ·intro m o' hks h1;by_cases hkv:m∈ρ0.map Prod.snd
     ·obtain⟨e,he,rfl⟩:=List.mem_map.1 hkv;have hpe:kB e.1=true:=by
       cases hp:kB e.1 with
       |true=>rfl
       |false=>exact absurd (List.mem_map.2 ⟨e,List.mem_filter.2 ⟨he,by simp[hp]⟩,rfl⟩) hks
      have Je:=List.all_eq_true.1 c6 e he;rw[hpe]at Je;simp only[Bool.not_true,Bool.false_or,Bool.and_eq_true]at Je;obtain⟨x,p1,p2⟩:=L.obj e.1 e.2 he;rw[h1]at p1;simp only[oI]at p1;subst p1;rw[p2]at Je;cases hq1:look eD e.1 with
      |none=>rw[hq1]at Je;simp[DZ]at Je
      |some o1=>
       rw[hq1]at Je;obtain⟨⟨o2,q1,q2⟩,q3⟩:=hn e.1 e.2 (abx e.1 e.2 he) o1 hq1;refine⟨o2,cJ q1,?_,by rw[q3,(JJ e.1 hpe).1,L.en he]⟩;cases o' with
       |arr t l=>simp[Obj.toF,DZ]at Je
       |iq t l s=>cases s<;>simp[Obj.toF,DZ]at Je
       |box c=>
        cases o1 with
        |arr t l=>simp[DZ]at Je
        |iq t l s=>simp[DZ]at Je
        |box c1=>
         simp only[Obj.toA]at q2;split at q2
         ·simp only[oI]at q2;subst q2;trivial
         ·cases q2
     ·have hno:=hold m o' hkv h1;refine⟨o'.bL _ _,by rw[bJ hno,qA,if_neg hkv,h1];rfl,by cases o'<;>simp[Obj.like,Obj.bL],by rw[NZ hno]⟩
    ·rintro m t' l' ⟨_,hkv⟩ h1;have hno:=hold m _ hkv h1;refine⟨by rw[bJ hno,qA,if_neg hkv,h1];rfl,NZ hno,hst m _ hkv h1⟩
   have R8:=g.gS s (fun m o' hm=> ?_) (fun m m' o1 o2 hne h1 h2 b hb hb'=> ?_) (fun m o' hm b hb=> ?_) (fun m hm=> ?_)
   ·refine⟨u,env',rfl,Kept.abf hK hB hLz,R8,by first|trivial|rfl,?_⟩;have h1: ∀{hp:Hp},(∀m o,look (C5 B) m=some o→look hp m=some o)→(∀n m,look (ρ0++ρ1) n=some m→ ∀o,look eD n=some o→(∃o',look hp m=some o'∧o.toA (V5 st xs.toList ρ0) (ρ0++ρ1)=some o')∧env' m=mN n):=by
     intro hp hh n m hm o hl;obtain⟨⟨o',p1,p2⟩,p3⟩:=hn n m hm o hl;exact⟨⟨o',hh m o' p1,p2⟩,p3⟩
    have h2:=h1 (hp:=C5 B++D0 (ρ0.map Prod.snd) ((ρ0.filter fun e=> !kB e.1).map Prod.snd) st.hp) (fun m o hm=>cJ hm);have hlen:=NY hrs;match rs,rsA,hrs,hres,hlen with
    | [r],[ra],hrs,hres,_=>
      simp only[V6]at hrs;split at hrs
      ·rename_i x y e1 e2;simp only[oI,List.cons.injEq]at e2 hrs;obtain⟨rfl,_⟩:=hrs;exact R6 h2 hres e1
      ·cases hrs
    | [],[],hrs,⟨us',hu,hall⟩,_=>exact⟨us',hu,Ml h2 hall hrs⟩
    |r1::r2::r,x1::x2::xr,hrs,⟨us',hu,hall⟩,_=>exact⟨us',hu,Ml h2 hall hrs⟩
    | [],_::_,_,_,hl=>cases hl
    | [_],[],_,_,hl=>cases hl
    | [_],_::_::_,_,_,hl=>simp at hl
    |_::_::_,[],_,_,hl=>simp at hl
    |_::_::_,[_],_,_,hl=>simp at hl
   ·rcases hlk m o' hm with⟨n,o1,q1,q2,q3,q4,_,q6⟩| ⟨q1,q2,x,q3,rfl,q5⟩
    ·rw[q4];have hro:=hG1 n o1 q2;cases o1 with
     |arr t l=>
      simp only[Obj.toA,oI]at q3;subst q3;exact NW q6 hro
     |iq t l s=>cases q3
     |box c=>
      simp only[Obj.toA]at q3;split at q3
      ·rename_i c' NC;simp only[oI]at q3;subst q3;obtain⟨b,cs,e,h1,h2,h3⟩:=hro;refine⟨b,cs,e,h1,h2,toAs_ok (X1:=V5 st xs.toList ρ0) (eD:=eD) (mN:=mN) ?_ (fun y hy=> ?_) (fun y hy q hq=>ad2 q (JR (dO q2) q (JQ hy q hq))) h3 NC⟩
       ·intro n m hm o hl;obtain⟨⟨o',p1,p2⟩,p3⟩:=hn n m hm o hl;exact⟨⟨o',cJ p1,p2⟩,p3⟩
       ·obtain⟨u0,t0,l0,e0,h0⟩:=Zf g hy;subst e0;exact⟨u0,t0,l0,rfl,RA.gS s h0⟩
      ·cases q3
    ·rw[q5];exact(g.obj m x q3).gS s (hst m x q2 q3)
   ·rcases hlk m o1 h1 with⟨n,p1,q1,q2,q3,q4,_⟩| ⟨q1,q2,x,q3,_,q5⟩<;>rcases hlk m' o2 h2 with⟨n',p1',q1',q2',q3',q4',_⟩| ⟨q1',q2',x',q3',_,q5'⟩
    ·rw[q4]at hb;rw[q4']at hb';obtain⟨k1,k2,k3⟩:=mE q1;obtain⟨k1',k2',k3'⟩:=mE q1';have e1:=JU k2;have e2:=JU k2';have ad9:k1≠k1':=by
      rintro rfl;obtain⟨_,_,z1,_⟩:=kN D2 _ _ _ k2;obtain⟨_,_,z2,_⟩:=kN D2 _ _ _ k2';rw[z1]at z2;simp only[oI]at z2;exact hne z2
     rw[q4]at e1;rw[q4']at e2;rw[e1]at hb;rw[e2]at hb';obtain⟨y1,z1,_⟩:=kN D2 _ _ _ k2;obtain⟨y2,z2,_⟩:=kN D2 _ _ _ k2';exact hG2 k1 k1' y1 y2 ad9 (eL Zg z1) (eL Zg z2) b hb hb'
    ·rw[q4]at hb;rw[q5']at hb';have hlt:=(g.obj m' x' q3').blk b hb';obtain⟨k,y,p1,p2,p3⟩:=hnew (m:=m) q2 b hb hlt;exact g.kK m' k x' y (fun e=>q2' (e▸p1)) q3' p2 b hb' p3
    ·rw[q5]at hb;rw[q4']at hb';have hlt:=(g.obj m x q3).blk b hb;obtain⟨k,y,p1,p2,p3⟩:=hnew (m:=m') q2' b hb' hlt;exact g.kK m k x y (fun e=>q2 (e▸p1)) q3 p2 b hb p3
    ·rw[q5]at hb;rw[q5']at hb';exact g.kK m m' x x' hne q3 q3' b hb hb'
   ·rcases hlk m o' hm with⟨n,p1,q1,q2,q3,q4,_⟩| ⟨q1,q2,x,q3,_,q5⟩
    ·rw[q4]at hb;rcases jf n p1 q2 b hb with h|h
     ·exact hLz b h
     ·exact Or.inr (by omega)
    ·rw[q5]at hb;exact g.dom m x q3 b hb
   ·cases hq:look (C5 B) m with
    |none=>rw[NZ hq];exact g.pins m hm
    |some o2=>
     obtain⟨n,h1,_⟩:=mE hq;obtain⟨_,_,p2,_,p4,_⟩:=kN D2 n m _ h1;have hpn:=p4 hm;have hin:(n,m)∈ρ0:=by
      rcases List.mem_append.1 (dO p2)with h|h
      ·exact h
      ·have:=List.all_eq_true.1 c7 _ h;simp only[hm]at this;cases this
     rw[JU h1];obtain⟨k1,k2⟩:=JJ n hpn;rw[L.en hin]at k1 k2;obtain⟨j1,j2⟩:=g.pins m hm;exact⟨k1.trans j1,fun b hb=>j2 b (k2 b hb)⟩
  |_=>simp[R4]at h
 |_=>simp[R4]at h
end
end
section
variable{ty:Tag→Nat}
def abA(hp:Hp)(n m:Nat)(t:Tag)(l:List (T t))(r:qd:= .mL):Hp:=(m, .iq t l r)::cK [n] [] hp
def apx:S1→Option ((t:Tag)×List (T t)×qd)
 | .a (.sl t l)=>some ⟨t,l, .mL⟩
 | .a (.Jb q t l)=>some ⟨t,l, .of q⟩
 |_=>none
def R9:qd→qd→Nat→Bool
 | .mL, .mL,_=>true
 | .of q, .of q',n=>match Nat.beq q q',Nat.beq q n with|true,false=>true|_,_=>false
 |_,_,_=>false
theorem Sa{r r':qd}{n:Nat}(h:R9 r r' n=true):r=r'∧r.bL [n] []=r∧r.br:=by
 cases r with
 |gone=>cases r'<;>cases h
 |mp=>cases r'<;>cases h
 |LL u=>cases r'<;>cases h
 |Ax p=>cases r'<;>cases h
 |mL=>cases r' with
  |mL=>exact⟨rfl,rfl,trivial⟩
  |_=>cases h
 |of q=>cases r' with
  |of q'=>
   simp only[R9]at h;split at h
   ·rename_i h1 h2;refine⟨by rw[Nat.eq_of_beq_eq_true h1],?_,trivial⟩;simp[qd.bL,h2]
   ·cases h
  |_=>cases h
def Mm(P:Program)(ty:Tag→Nat)(Γ:Nat→TK)(st:St)(m0:Nat):Op→Option (List Prop×St×SV)
 | .call ⟨.builtin .append,xs,ts⟩=>match xs.toList,ts.toList with
   | [s,x],[t1,t2]=>match Γ t1,Nat.beq t1 t2 with
     | .sl t e,true=>match Nat.beq e (ty t),Nat.beq (kk t) 1,gQ st [] s,(gQ st [] x).bind apx with
       |true,true,some (.a (.FB n)),some ⟨t2',lx,r⟩=>match look st.hp n,jD t t2' lx with
        |some (.iq t' l r'),some lx=>match jD t t' l,pinned [n],kB m0,look (cK [n] [] st.hp) m0,R9 r r' n with
         |some l,false,false,none,true=>some ([El P ty t,(l.length+lx.length)*dN t≤140737488355328∧l.length+lx.length≤maxLen],
           ⟨st.n,st.sl.map fun e=>(e.1,e.2.bL [n] []),abA st.hp n m0 t (l++lx) r⟩, .one (.a (.FB m0)))
         |_,_,_,_,_=>none
        |_,_=>none
       |_,_,_,_=>none
     |_,_=>none
   |_,_=>none
 |_=>none
section
variable{P:Program}{zb:cD}{st st':St}{a:Act}{w:World}{env:Env}{Q:Exit→Act→World→Prop}{o:Oper}
theorem BZ{α β:Type}(l:List α):(l.map fun _=>([]:List β)).flatten= []:=by
 induction l with
 |nil=>rfl
 |cons _ _ ih=>simpa using ih
theorem V9{Γ:Nat→TK}(C: ∀t,cT P t (Γ t)){m0:Nat}{vc:List Prop}{v:SV}(h:Mm P ty Γ st m0 o.op=some (vc,st',v))(g:Good ty zb st a.tmps w env)(hB:zb.w.heap.size≤w.heap.size)(hv: ∀q,q∈vc→q):
  o.wp P a w (fun a' w'=> ∃u env',a'=a.put o.dst u∧Kept zb w w'∧Good ty zb st' a.tmps w' env'∧st'.n=st.n∧qp w' st'.hp env' a.tmps v u) Q:=by
 have hop: ∀{x v},gQ st [] x=some v→fD w st.hp env v (a.eval x):=fun hx=>e9 g (fun e he=>by simp at he) hx;generalize fQ:o.op=op at h;cases op with
 |call c=>
  obtain⟨callee,xs,ts⟩:=c;cases callee with
  |builtin b=>
   cases b with
   |append=>
    simp only[Mm]at h;split at h
    case h_2=>cases h
    rename_i s x t1 t2 hxl htl;obtain rfl:xs= #[s,x]:=by cases xs;simp_all
    obtain rfl:ts= #[t1,t2]:=by cases ts;simp_all
    split at h
    case h_2=>cases h
    rename_i t e hk Mb;have Mb:=Nat.eq_of_beq_eq_true Mb;subst Mb;split at h
    case h_2=>cases h
    rename_i n t2' Vk r he hk1 hs hx;have he:=Nat.eq_of_beq_eq_true he;have hk1:=Nat.eq_of_beq_eq_true hk1;split at h
    case h_2=>cases h
    rename_i t' l0 r' lx hl hcx;split at h
    case h_2=>cases h
    rename_i l hcl hpk JB hlk hbk;obtain⟨rfl,hkr,hmp⟩:=Sa hbk;obtain⟨sx,hox,hx⟩:=Option.bind_eq_some_iff.1 hx;simp only[oI,pI]at h;obtain⟨rfl,rfl,rfl⟩:=h;obtain⟨e1,rfl⟩:=eu hcx;subst e1;obtain⟨e2,rfl⟩:=eu hcl;subst e2;have rD:El P ty t':=hv _ (by simp);obtain⟨aV,bI⟩:(l0.length+Vk.length)*dN t'≤140737488355328∧l0.length+Vk.length≤maxLen:=hv _ (by simp);obtain⟨_,hu⟩:=hop hs;obtain⟨fpx,hsx,hnx⟩: ∃fp,Sl (kk t') (rd t') w (a.eval x) Vk fp∧ ∀(t:Tag) (y:T t) (u:Value) (f:List Nat),(∀b,b∈f→b∈fp)→rd t w [u] y f→BE w st.hp env r t y u:=by
     have hr:=hop hox;unfold apx at hx;split at hx
     ·simp only[oI,Sigma.mk.injEq]at hx;obtain⟨rfl,hx⟩:=hx;obtain⟨rfl,rfl⟩:=Prod.mk.inj (eq_of_heq hx);obtain⟨fp,h1,h2⟩:=hr;exact⟨fp,h1,fun t y u f hf hr=>⟨f,hr,fun b hb=>h2 b (hf b hb)⟩⟩
     ·simp only[oI,Sigma.mk.injEq]at hx;obtain⟨rfl,hx⟩:=hx;obtain⟨rfl,rfl⟩:=Prod.mk.inj (eq_of_heq hx);obtain⟨h0,b0,fp,h1,h2,_,h3⟩:=hr;refine⟨_,h1,fun t y u f hf hr=>⟨h0,f,hr,fun b hb=> ?_⟩⟩;rcases List.mem_cons.1 (hf b hb)with rfl|h
      ·exact Or.inr h2
      ·exact Or.inl (h3 b h)
     ·cases hx
    obtain⟨_,us,hBl,L6,X5⟩:Rr ty w st.hp env t' l0 r (env n):=by
     rcases RO.FC (g.obj n _ hl)with⟨rfl,_⟩| ⟨u,rfl,_⟩| ⟨p,rfl,_⟩| ⟨_,h⟩
     ·exact hmp.elim
     ·exact hmp.elim
     ·exact hmp.elim
     ·exact h
    obtain⟨news,fx,n1,n2,n3,n4,n5⟩:=yA (ep t') (gy t') hsx;rw[hk1]at n3 n4;have hC:=C t1;rw[hk]at hC;have hone: ∀(i:Nat) (y:Value),news[i]? =some y→y.oneCell'=true∧ ∀x,Vk[i]? =some x→BE w st.hp env r t' x y:=by
     intro i y hy;have hi:i<news.length:=(List.getElem?_eq_some_iff.1 hy).1;have hx':Vk[i]? =some (Vk[i]'(by omega)):=List.getElem?_eq_getElem (by omega);have hf':fx[i]? =some (fx[i]'(by omega)):=List.getElem?_eq_getElem (by omega);have hr:=n4 i _ _ hx' hf';have hch:(news.drop (i*1)).take 1= [y]:=by
      rw[Nat.mul_one,List.drop_eq_getElem_cons hi];have:news[i]=y:=(List.getElem?_eq_some_iff.1 hy).2;rw[this];rfl
     rw[hch]at hr;refine⟨(ep t').one hr y (by simp),fun x hx=> ?_⟩;rw[hx']at hx;simp only[oI]at hx;subst hx;exact hnx _ _ _ _ (fun b hb=>n5.subset (List.mem_flatten.2 ⟨_,List.getElem_mem _,hb⟩)) hr
    have hB0:iW 1 Rq 0 (ty t') w (a.eval s) us (env n).fp:=by rw[hu];exact hBl
    have Q4:(P.info? (ty t')).map (fun i=>(i.zero,i.size,i.bytes))=some (some (eT t'),1,dN t'):=by rw[←hk1];exact rD
    refine Hf s x t1 fQ yu (by decide) 0 (ty t') (eT t') (dN t') (by rw[←he];exact hC.1) Q4 (by rw[←hk1];exact mK t') _ us (env n).fp rfl hB0 _ rfl news news (news.map fun _=> [])
     (by rw[show news.length=Vk.length by omega];exact n1) (by simp) (by omega) (fun i y f hy hf=> ?_) (by rw[BZ,List.append_nil];exact hBl.own) (by rw[L6,show news.length=Vk.length by omega];exact bI) (by rw[L6,show news.length=Vk.length by omega];exact aV) (Nat.zero_le _) ?_
    ·have hi:i<news.length:=(List.getElem?_eq_some_iff.1 hy).1;have hf0:f= []:=by
      rw[List.getElem?_map,hy]at hf;simpa using hf.symm
     subst hf0;refine⟨?_,rfl,(hone i y hy).1⟩;rw[Nat.mul_one,List.drop_eq_getElem_cons hi];have:news[i]=y:=(List.getElem?_eq_some_iff.1 hy).2;rw[this];rfl
    ·intro v' w' gC k1 k2 k3 k4 k5 _;have Fy: ∀b,(a.eval s).ownBlock=some b→b∈(env n).fp:=by
      intro b hb;obtain⟨xs,bX,_,_,_,jf,_⟩:=hB0;rw[jf,hb];simp
     obtain⟨env',hg',Mc,_,_⟩:=AF (ty:=ty) g hB (ks:= [n]) hpk JB hlk (v:=a.eval s) (v':=v') (ob:= .iq t' (l0++Vk) r) (fp:=(env n).fp) (fx:= []) (gC:=gC)
      (by
       intro b hb;rw[List.append_nil]at hb;exact⟨n,_,by simp,hl,hb⟩)
      Fy
      (by
       intro aea hd s2;refine RO.PO hmp ⟨hk1,us++news,k1,by rw[List.length_append,List.length_append,L6];omega,fun i x u hx X6=> ?_⟩;by_cases hi:i<l0.length
       ·rw[List.getElem?_append_left hi]at hx;rw[List.getElem?_append_left (by omega)]at X6;have Wa:=BE.gS s2 (r:=r) (X5 i x u hx X6);rw[hkr]at Wa;exact Wa
       ·rw[List.getElem?_append_right (by omega)]at hx;rw[List.getElem?_append_right (by omega),L6]at X6;have Wa:=BE.gS s2 (r:=r) ((hone _ u X6).2 x hx);rw[hkr]at Wa;exact Wa)
      k2 (by intro b hb;rcases k4 b hb with h|h|h
             ·exact Or.inl h
             ·rw[BZ]at h;cases h
             ·exact Or.inr (Or.inr h))
     refine⟨v',env',rfl,⟨k2.os,k2.tape,k2.output,k2.size,fun b hb hn=>k2.block b (by omega) fun e=> ?_,k5⟩,hg',rfl,⟨t',_,_,look_eq⟩,Mc.symm⟩;rcases g.dom n _ hl b (Fy b e.symm)with h|h
     ·exact hn h
     ·omega
   |_=>simp[Mm]at h
  |_=>simp[Mm]at h
 |_=>simp[Mm]at h
end
section
variable{P:Program}{zb:cD}{st:St}{a:Act}{w:World}{env:Env}{Q:Exit→Act→World→Prop}{o:Oper}
end
section
variable{P:Program}{zb:cD}{st:St}{a:Act}{w:World}{env:Env}{Q:Exit→Act→World→Prop}{o:Oper}
end
end
section
variable{ty:Tag→Nat}
def fV:V→Option V
 | .any=>some .any
 | .lit (.int k n)=>some (.lit (.int k n))
 | .lit (.bool b)=>some (.lit (.bool b))
 | .lit (.string s)=>some (.lit (.string s))
 | .lit v=>some (.lit v)
 | .sl t l=>some (.sl t l)
 | .own n=>some (.own n)
 | .ptr n o=>some (.ptr n o)
 | .rQ n i o=>some (.rQ n i o)
 | .ip t x o=>some (.ip t x o)
 | .vw n p t l=>some (.vw n p t l)
 | .Ja n p t x o=>some (.Ja n p t x o)
 | .Jb n t l=>some (.Jb n t l)
 | .mix n c t l=>some (.mix n c t l)
 | .FB n=>some (.FB n)
 | .F3 f n=>some (.F3 f n)
 | .Cp k=>some (.Cp k)
 | .raw v=>some (.raw v)
 | .vf v t l=>some (.vf v t l)
theorem X7(v:V):fV v=some v:=by
 unfold fV;split<;>rfl
def fVs:List V→Option (List V)
 | []=>some []
 |v::r=>match fV v,fVs r with
  |some x,some y=>some (x::y)
  |_,_=>none
theorem Mn: ∀l:List V,fVs l=some l
 | []=>rfl
 |v::r=>by simp[fVs,X7,Mn r]
def fS:SV→Option SV
 | .one (.a v)=>match fV v with|some v=>some (.one (.a v))|none=>none
 | .one (.agg l)=>match fVs l with|some l=>some (.one (.agg l))|none=>none
 | .wK l=>some (.wK l)
 | .cond p (.a v)=>match fV v with|some v=>some (.cond p (.a v))|none=>none
 | .cond p (.agg l)=>match fVs l with|some l=>some (.cond p (.agg l))|none=>none
theorem Sb{x y:SV}(h:fS x=some y):y=x:=by
 unfold fS at h;split at h<;>simp_all [X7,Mn]
def fO:Obj→Option Obj
 | .box c=>match fVs c with|some c=>some (.box c)|none=>none
 | .arr t l=>some (.arr t l)
 | .iq t l .gone=>some (.iq t l .gone)
 | .iq t l .mL=>some (.iq t l .mL)
 | .iq t l .mp=>some (.iq t l .mp)
 | .iq t l (.LL u)=>some (.iq t l (.LL u))
 | .iq t l (.of n)=>some (.iq t l (.of n))
 | .iq t l (.Ax p)=>some (.iq t l (.Ax p))
theorem X8{x y:Obj}(h:fO x=some y):y=x:=by
 unfold fO at h;split at h<;>simp_all [Mn]
def fSl:List (Nat×SV)→Option (List (Nat×SV))
 | []=>some []
 | (n,x)::r=>match fS x,fSl r with
   |some x,some r=>some ((n,x)::r)
   |_,_=>none
theorem Sc: ∀{l m:List (Nat×SV)},fSl l=some m→m=l
 | [],m,h=>by simp only[fSl,oI]at h;exact h.symm
 | (n,x)::r,m,h=>by
   simp only[fSl]at h;split at h
   ·rename_i y r' h1 h2;simp only[oI]at h;rw[←h,Sb h1,Sc h2]
   ·cases h
def Zh:Hp→Option Hp
 | []=>some []
 | (n,x)::r=>match fO x,Zh r with
   |some x,some r=>some ((n,x)::r)
   |_,_=>none
theorem HI: ∀{l m:Hp},Zh l=some m→m=l
 | [],m,h=>by simp only[Zh,oI]at h;exact h.symm
 | (n,x)::r,m,h=>by
   simp only[Zh]at h;split at h
   ·rename_i y r' h1 h2;simp only[oI]at h;rw[←h,X8 h1,HI h2]
   ·cases h
def P6:St→Option St
 | ⟨n,sl,hp⟩=>match fSl sl,Zh hp with
   |some sl,some hp=>some ⟨n,sl,hp⟩
   |_,_=>none
theorem mO{s s':St}(h:P6 s=some s'):s'=s:=by
 obtain⟨n,sl,hp⟩:=s;simp only[P6]at h;split at h
 ·rename_i a b h1 h2;simp only[oI]at h;rw[←h,Sc h1,HI h2]
 ·cases h
def X9:TypeDesc→Bool
 | .struct _=>false
 | .array _ _=>false
 |_=>true
def Wb(P:Program)(t f k:Nat):Prop:= ∃fs fd d,P.underlying t=some (.struct fs)∧fs[f]? =some fd∧fd.offset=k∧P.underlying fd.type=some d∧X9 d=true
def Gp:List V→Option (List Int)
 | []=>some []
 | .lit (.int .i64 a)::r=>match Gp r with|some l=>some (a::l)|none=>none
 |_=>none
def Ya(P:Program)(t n:Nat):Prop:= ∀(xs ys:List Int) (X Y:Operand) (w:World),xs.length=n→ys.length=n→
 (do eqGuard .neq t X Y (.agg (xs.map (Value.int .i64)).toArray) (.agg (ys.map (Value.int .i64)).toArray);binOp .neq t (.agg (xs.map (Value.int .i64)).toArray) (.agg (ys.map (Value.int .i64)).toArray):Sem Value).run P w= .ok (.bool (xs !=ys)) w
theorem D3{w:World}{hp:Hp}{env:Env}: ∀{l:List V} {xs:List Int} {cs:List Value},Gp l=some xs→bK (RA w hp env) l cs→cs=xs.map (Value.int .i64)
 | [],xs,[],h,_=>by simp only[Gp,oI]at h;subst h;rfl
 | [],_,_::_,_,h=>h.elim
 |v::r,xs,[],_,h=>h.elim
 |v::r,xs,c::cs,h,⟨h1,h2⟩=>by
  unfold Gp at h;split at h
  ·rename_i e;cases e
  ·rename_i a r' e;simp only[List.cons.injEq]at e;obtain⟨rfl,rfl⟩:=e;split at h
   ·rename_i l' hl;simp only[oI]at h;subst h;rw[D3 hl h2,List.map_cons,h1.1]
   ·cases h
  ·cases h
def Mo(P:Program)(Γ:Nat→TK)(st:St):Op→Option (List Prop×St×SV)
 | .field t x f=>match gQ st [] x,Γ t with
   |some (.agg c), .st _ _ fo=>match nN fo f with
    |some k=>match yp c k with
     |some v=>some ([Wb P t f k],st, .one (.a v))
     |none=>none
    |none=>none
   |_,_=>none
 | .binOp .neq t x y _=>match gQ st [] x,gQ st [] y with
   |some (.agg l),some (.agg l')=>match Gp l,Gp l' with
    |some xs,some ys=>match Nat.beq xs.length ys.length with
     |true=>some ([Ya P t xs.length],st, .one (.a (.lit (.bool (xs !=ys)))))
     |false=>none
    |_,_=>none
   |_,_=>none
 |_=>none
theorem Mp{P:Program}{t:TypeId}{d:TypeDesc}(h:P.underlying t=some d)(hd:X9 d=true)(w:World):(isAgg t).run P w= .ok false w:=by
 cases d<;>first| (cases hd;done)|simp[isAgg,run_underlying h]
section
variable{P:Program}{zb:cD}{st st':St}{a:Act}{w:World}{env:Env}{Q:Exit→Act→World→Prop}{o:Oper}
theorem Wc{Γ:Nat→TK}{vc:List Prop}{v:SV}(h:Mo P Γ st o.op=some (vc,st',v))(g:Good ty zb st a.tmps w env)(hv: ∀q,q∈vc→q):
  o.wp P a w (fun a' w'=> ∃u env',a'=a.put o.dst u∧Kept zb w w'∧Good ty zb st' a.tmps w' env'∧st'.n=st.n∧qp w' st'.hp env' a.tmps v u) Q:=by
 generalize fQ:o.op=op at h;cases op with
 |field t x f=>
  simp only[Mo]at h;split at h
  case h_2=>cases h
  rename_i c z tg fo hx hk;split at h
  case h_2=>cases h
  rename_i k hf;split at h
  case h_2=>cases h
  rename_i v' hel;simp only[oI,pI]at h;obtain⟨rfl,rfl,rfl⟩:=h;obtain⟨fs,fd,d,h1,h2,h3,h4,h5⟩:=hv _ (List.mem_singleton.2 rfl);obtain⟨us,hu,hA⟩:=e9 g (fun e he=>by simp at he) hx;obtain⟨u,k1,k2⟩:=hA.at (Hu hel);have hr:(execOp a.eval o).run P w= .ok (.value u) w:=by
   unfold execOp;simp[fQ,hu,Instr.field,part,run_underlying h1,h2,h3,Mp h4 h5,asAgg,k1]
  unfold Oper.wp;rw[hr];exact⟨u,env,rfl,Kept.refl _ _,g,rfl,k2⟩
 |binOp b t x y t'=>
  cases b with
  |neq=>
   simp only[Mo]at h;split at h
   case h_2=>cases h
   rename_i l l' hx hy;split at h
   case h_2=>cases h
   rename_i xs ys h1 h2;split at h
   case h_2=>cases h
   rename_i hn;have hn:=Nat.eq_of_beq_eq_true hn;simp only[oI,pI]at h;obtain⟨rfl,rfl,rfl⟩:=h;have hS:Ya P t xs.length:=hv _ (List.mem_singleton.2 rfl);obtain⟨us,hu,hA⟩:=e9 g (fun e he=>by simp at he) hx;obtain⟨us',hu',hA'⟩:=e9 g (fun e he=>by simp at he) hy;rw[D3 h1 hA]at hu;rw[D3 h2 hA']at hu';have hr:(execOp a.eval o).run P w= .ok (.value (.bool (xs !=ys))) w:=by
    unfold execOp;simp only[fQ,hu,hu'];rw[Sem.run_bind,hS xs ys x y w rfl hn.symm];rfl
   unfold Oper.wp;rw[hr];exact⟨_,env,rfl,Kept.refl _ _,g,rfl,rfl,rfl⟩
  |_=>simp[Mo]at h
 |_=>simp[Mo]at h
end
def Sd(P:Program)(ty:Tag→Nat)(Γ:Nat→TK)(cr:List (Nat×CR))(st:St)(m:Nat)(d:Option Nat)(op:Op):Option (List Prop×St×SV):=
 match Ma P ty Γ st m op with
 |some r=>some r
 |none=>match DV P ty Γ st m op with
  |some r=>some r
  |none=>match R4 P ty Γ cr st d op with
   |some r=>some r
   |none=>match efz P ty Γ st op with
    |some r=>some r
    |none=>match Mo P Γ st op with
     |some r=>some r
     |none=>Mm P ty Γ st m op
def Se(Γ:Nat→TK)(st:St)(op:Op):Option (List Prop×St):=
 match VZ Γ st op with
 |some r=>some r
 |none=>evs Γ st op
def step(P:Program)(ty:Tag→Nat)(Γ:Nat→TK)(dm:List (Nat×Nat))(cr:List (Nat×CR))(ops:List Oper)(st:St)(o:Oper):Option (List Prop×St):=
 match Rp Γ (PR P ty) (Sound ty P) dm cr ops st o with
 |some r=>some r
 |none=>match o.guard,yt st o.dst,aa1 dm o.dst with
  |none,true,some m=>match HA Γ st o.op with
   |some st'=>match o.dst with|none=>some ([],st')|some _=>none
   |none=>match Se Γ st o.op with
    |some (vc,st')=>match o.dst,P6 st' with|none,some st'=>some (vc,st')|_,_=>none
    |none=>match Sd P ty Γ cr st m o.dst o.op with
     |some (vc,st',v)=>match P6 st' with|some st'=>some (vc,st'.put o.dst v)|none=>none
     |none=>none
  |_,_,_=>none
def run(P:Program)(ty:Tag→Nat)(Γ:Nat→TK)(dm:List (Nat×Nat))(cr:List (Nat×CR))(ops:List Oper):List Oper→St→List Prop→Option (List Prop×St)
 | [],st,acc=>some (acc,st)
 |o::r,st,acc=>match step P ty Γ dm cr ops st o with
  |some ([],⟨n,sl,hp⟩)=>run P ty Γ dm cr ops r ⟨n,sl,hp⟩ acc
  |some ([p],⟨n,sl,hp⟩)=>run P ty Γ dm cr ops r ⟨n,sl,hp⟩ (p::acc)
  |some ([p,q],⟨n,sl,hp⟩)=>run P ty Γ dm cr ops r ⟨n,sl,hp⟩ (p::q::acc)
  |some (l,⟨n,sl,hp⟩)=>run P ty Γ dm cr ops r ⟨n,sl,hp⟩ (l++acc)
  |none=>none
@[reducible] def mP:List Prop→Prop
  | []=>True
  |p::r=>p∧mP r
theorem mP.out: ∀{l:List Prop},mP l→ ∀q,q∈l→q
 |p::r,h,q,hq=>by
  rcases List.mem_cons.1 hq with rfl|hq
  ·exact h.1
  ·exact mP.out h.2 q hq
section
variable{P:Program}{zb:cD}{st st':St}{a:Act}{w:World}{Q:Exit→Act→World→Prop}{o:Oper}
theorem lC{v:SV}{d:Nat}(h: ∃x,v= .one x):v.mentions d=false:=by
 obtain⟨x,rfl⟩:=h;rfl
theorem gN.mono{ops:Array Oper}{K K':Act→World→Prop}(h: ∀a w,K a w→K' a w)(hr:gN P ops o a w K Q):gN P ops o a w K' Q:=by
 unfold gN at*;split
 ·rename_i hw;rw[if_pos hw]at hr;exact hr.imp (Oper.wp_mono h) id
 ·rename_i hw;rw[if_neg hw]at hr;exact h _ _ hr
theorem Sf{Γ:Nat→TK}(C: ∀t,cT P t (Γ t)){cr:List (Nat×CR)}{m:Nat}{vc:List Prop}{v:SV}{env:Env}{d:Option Nat}(h:Sd P ty Γ cr st m d o.op=some (vc,st',v))(g:Good ty zb st a.tmps w env)(hB:zb.w.heap.size≤w.heap.size)(hA:L3 zb)(hN:Cq w)(hv: ∀q,q∈vc→q):
  (∀k,v.mentions k=false)∧o.wp P a w (fun a' w'=> ∃u env',a'=a.put o.dst u∧Kept zb w w'∧Good ty zb st' a.tmps w' env'∧st'.n=st.n∧qp w' st'.hp env' a.tmps v u) Q:=by
 have one:(∃x,v= .one x)→ ∀k,v.mentions k=false:=fun hx k=>lC hx;unfold Sd at h;split at h
 ·rename_i r he;simp only[oI]at h;subst h;refine⟨one ?_,VX C he g hB hv⟩;unfold Ma at he
  repeat' split at he
  all_goals first
   | (cases he;done)
   | (simp only[oI,pI]at he;exact⟨_,he.2.2.symm⟩)
 ·split at h
  ·rename_i r he;simp only[oI]at h;subst h;refine⟨one ?_,P0 C he g hB hv⟩;unfold DV at he
   repeat' split at he
   all_goals first
    | (cases he;done)
    | (simp only[oI,pI]at he;exact⟨_,he.2.2.symm⟩)
  ·split at h
   ·rename_i r he;simp only[oI]at h;subst h;exact V7 he g hB hA hN hv
   ·split at h
    ·rename_i r he;simp only[oI]at h;subst h;refine⟨one ?_,Zb C he g hB hv⟩;unfold efz at he
     repeat' split at he
     all_goals first
      | (cases he;done)
      | (simp only[oI,pI]at he;exact⟨_,he.2.2.symm⟩)
    ·split at h
     ·rename_i r he;simp only[oI]at h;subst h;refine⟨one ?_,Wc he g hv⟩;unfold Mo at he
      repeat' split at he
      all_goals first
       | (cases he;done)
       | (simp only[oI,pI]at he;exact⟨_,he.2.2.symm⟩)
     ·refine⟨one ?_,V9 C h g hB hv⟩;unfold Mm at h
      repeat' split at h
      all_goals first
       | (cases h;done)
       | (simp only[oI,pI]at h;exact⟨_,h.2.2.symm⟩)
theorem Sg{Γ:Nat→TK}(C: ∀t,cT P t (Γ t))(Z: ∀t,(∀z tg fo,Γ t≠ .st z tg fo)→Γ t≠ .other→(P.info? t).map (·.size)=some 1){vc:List Prop}{env:Env}(h:Se Γ st o.op=some (vc,st'))(g:Good ty zb st a.tmps w env)(hB:zb.w.heap.size≤w.heap.size)(hv: ∀q,q∈vc→q):
  o.wp P a w (fun a' w'=> ∃env',a'=a.put o.dst undef∧Kept zb w w'∧Good ty zb st' a.tmps w' env'∧st'.n=st.n) Q:=by
 unfold Se at h;split at h
 ·rename_i r hr;simp only[oI]at h;subst h;exact V0 C Z hr g hv
 ·exact Za C Z h g hB hv
theorem vu{Γ:Nat→TK}(C: ∀t,cT P t (Γ t))(Z: ∀t,(∀z tg fo,Γ t≠ .st z tg fo)→Γ t≠ .other→(P.info? t).map (·.size)=some 1){dm:List (Nat×Nat)}{cr:List (Nat×CR)}{ops:List Oper}{vc:List Prop}(h:step P ty Γ dm cr ops st o=some (vc,st'))(iv:Inv ty zb st a w)(hv: ∀q,q∈vc→q):
  gN P ops.toArray o a w (fun a' w'=>Inv ty zb st' a' w') Q:=by
 simp only[step]at h;split at h
 ·rename_i r hq;simp only[oI]at h;subst h;exact RP C hq iv hv
 ·split at h
  ·rename_i m hg hd _;have hdl:=Hz iv hd;obtain⟨env,g⟩:=iv.good;have YZ:=iv.kept.size;split at h
   ·rename_i s1 hs;split at h
    ·rename_i Zi;simp only[oI,pI]at h;obtain⟨rfl,rfl⟩:=h;refine gR hg (Oper.wp_mono ?_ (PX (Q:=Q) C Z hs g));rintro a' w' ⟨rfl,hb,hg',hn,yH⟩;rw[Zi];exact⟨by rw[gr,hn];exact iv.size,by rw[put_defers];exact iv.defers,iv.kept.trans hb,iv.C1,env,hg'⟩
    ·cases h
   ·split at h
    ·rename_i oV s1 hs;split at h
     ·rename_i s2 Zi hfs;have hfs:=mO hfs;subst hfs;simp only[oI,pI]at h;obtain⟨rfl,rfl⟩:=h;refine gR hg (Oper.wp_mono ?_ (Sg (Q:=Q) C Z hs g YZ hv));rintro a' w' ⟨env',rfl,hb,hg',hn⟩;rw[Zi];exact⟨by rw[gr,hn];exact iv.size,by rw[put_defers];exact iv.defers,iv.kept.trans hb,iv.C1,env',hg'⟩
     ·cases h
    ·split at h
     ·rename_i oV s1 v he;split at h
      case h_2=>cases h
      rename_i s2 hfs;have hfs:=mO hfs;subst hfs;simp only[oI,pI]at h;obtain⟨rfl,rfl⟩:=h;obtain⟨hv1,hwp⟩:=Sf (Q:=Q) C he g YZ iv.C1 (iv.C1.now iv.kept) hv;refine gR hg (Oper.wp_mono ?_ hwp);rintro a' w' ⟨u,env',rfl,hb,hg',hn,hr⟩;refine⟨by rw[gr,tq,hn];exact iv.size,by rw[put_defers];exact iv.defers,iv.kept.trans hb,iv.C1,env',lB hg' hdl hr fun d _=>hv1 d⟩
     ·cases h
  ·cases h
theorem AJ{Γ:Nat→TK}{dm:List (Nat×Nat)}{cr:List (Nat×CR)}{ops:List Oper}{r:List Oper}{acc vcs:List Prop}{AK:St}(h:run P ty Γ dm cr ops (o::r) st acc=some (vcs,AK)):
  ∃vc Ar,step P ty Γ dm cr ops st o=some (vc,Ar)∧run P ty Γ dm cr ops r Ar (vc++acc)=some (vcs,AK):=by
 simp only[run]at h;split at h
 ·rename_i n sl hp hs;exact⟨[],⟨n,sl,hp⟩,hs,h⟩
 ·rename_i p n sl hp hs;exact⟨[p],⟨n,sl,hp⟩,hs,h⟩
 ·rename_i p q n sl hp hs;exact⟨[p,q],⟨n,sl,hp⟩,hs,h⟩
 ·rename_i l n sl hp _ _ _ hs;exact⟨_,⟨n,sl,hp⟩,hs,h⟩
 ·cases h
theorem qB{Γ:Nat→TK}{dm:List (Nat×Nat)}{cr:List (Nat×CR)}{ops:List Oper}: ∀{l:List Oper} {st AK:St} {acc vcs:List Prop},run P ty Γ dm cr ops l st acc=some (vcs,AK)→ ∀q,q∈acc→q∈vcs
 | [],st,AK,acc,vcs,h,q,hq=>by
   simp only[run,oI,pI]at h;rw[←h.1];exact hq
 |o::r,st,AK,acc,vcs,h,q,hq=>by
  obtain⟨vc,Ar,_,h2⟩:=AJ h;exact qB h2 q (List.mem_append_right _ hq)
theorem HJ{Γ:Nat→TK}(C: ∀t,cT P t (Γ t))(Z: ∀t,(∀z tg fo,Γ t≠ .st z tg fo)→Γ t≠ .other→(P.info? t).map (·.size)=some 1){dm:List (Nat×Nat)}{cr:List (Nat×CR)}{ops:List Oper}{AK:St}{vcs:List Prop}
  (hQ: ∀a w,Inv ty zb AK a w→Q .normal a w): ∀{l:List Oper} {st:St} {acc:List Prop} {a:Act} {w:World},run P ty Γ dm cr ops l st acc=some (vcs,AK)→(∀q,q∈vcs→q)→Inv ty zb st a w→wpList P ops.toArray Q l a w
 | [],st,acc,a,w,h,hv,iv=>by
   simp only[run,oI,pI]at h;obtain⟨_,rfl⟩:=h;exact hQ a w iv
 |o::r,st,acc,a,w,h,hv,iv=>by
  obtain⟨vc,Ar,h1,h2⟩:=AJ h;have:=vu (Q:=Q) C Z h1 iv (fun q hq=>hv q (qB h2 q (List.mem_append_left _ hq)));exact this.mono fun a' w' oJ=>HJ C Z hQ h2 hv oJ
end
abbrev Post:=Exit→St→Prop
def Cw(ty:Tag→Nat)(zb:cD)(Q:Post):Exit→Act→World→Prop:=fun e a w=> ∃st,Inv ty zb st a w∧Q e st
def W(P:Program)(ty:Tag→Nat)(zb:cD)(c:Code)(Q:Post)(st:St):Prop:= ∀a w,Inv ty zb st a w→c.wp P (Cw ty zb Q) a w
def Post.then(next:St→Prop)(Q:Post):Post
 | .normal,st=>next st
 |e,st=>Q e st
def Post.inBlock(id:Nat)(Q:Post):Post
 | .exit i,st=>if i=id then Q .normal st else Q (.exit i) st
 |e,st=>Q e st
def B0(sl:List (Nat×SV)):List Nat→Option (List (Nat×SV))
 | []=>some []
 |s::r=>match look sl s with
  |some x=>match fS x,B0 sl r with
   |some x,some l=>some ((s,x)::l)
   |_,_=>none
  |none=>none
def B1(hp:Hp):List Nat→Option Hp
 | []=>some []
 |s::r=>match look hp s with
  |some x=>match fO x,B1 hp r with
   |some x,some l=>some ((s,x)::l)
   |_,_=>none
  |none=>none
def lW(hp:Hp)(v:V):Bool:=match v.name with|some n=>(match look hp n with|some _=>true|none=>false)|none=>true
def qC(hp:Hp):S1→Bool
 | .a v=>lW hp v
 | .agg l=>l.all (lW hp)
def N0(hp:Hp):SV→Bool
 | .one x=>qC hp x
 | .wK l=>l.all (qC hp)
 | .cond _ x=>qC hp x
def yI(hp:Hp):Obj→Bool
 | .box c=>c.all (lW hp)
 | .arr _ _=>true
 | .iq _ _ s=>match s.name with|some n=>(match look hp n with|some _=>true|none=>false)|none=>true
def qD(sl:List (Nat×SV))(hp:Hp):Bool:=(sl.all fun e=>N0 hp e.2)&&hp.all fun e=>yI hp e.2
def V.Wd(v:V):List Nat:=match v.name with|some n=> [n]|none=> []
def SV.Wd:SV→List Nat
 | .one (.a v)=>v.Wd
 | .one (.agg l)=>l.flatMap V.Wd
 | .wK l=>l.flatMap fun x=>(match x with| .a v=>v.Wd| .agg l=>l.flatMap V.Wd)
 | .cond _ (.a v)=>v.Wd
 | .cond _ (.agg l)=>l.flatMap V.Wd
def Mq:Nat→Hp→List Nat→List Nat→List Nat
 |0,_,_,acc=>acc
 |_,_,[],acc=>acc
 |f+1,hp,n::r,acc=>match acc.any (Nat.beq n)with
  |true=>Mq f hp r acc
  |false=>Mq f hp (match look hp n with|some (.box c)=>c.flatMap V.Wd++r|some (.iq _ _ (.of m))=>m::r|_=>r) (acc++ [n])
def HK(sl:List (Nat×SV)):List Nat→List Nat
 | []=> []
 |s::r=>match look sl s with|some x=>x.Wd++HK sl r|none=>HK sl r
def N1(sl:List (Nat×SV))(hp:Hp)(ks:List Nat):List Nat→List Nat
 | []=>Mq 300 hp (HK sl ks++(hp.map Prod.fst).filter kB) []
 |hs=>hs
def Vl(P:Program)(ty:Tag→Nat)(Γ:Nat→TK)(dm:List (Nat×Nat))(cr:List (Nat×CR))(ks hs:List Nat)(ops:List Oper):St→Option (List Prop×St)
 | ⟨n,Sh,ga⟩=>match run P ty Γ dm cr ops ops ⟨n,Sh,ga⟩ []with
 |some (vc,st')=>match B0 st'.sl ks,B1 st'.hp (N1 st'.sl st'.hp ks hs)with
  |some sl,some hp=>match qD sl hp,Nat.beq st'.n n with
   |true,true=>some (vc,⟨n,sl,hp⟩)
   |_,_=>none
  |_,_=>none
 |none=>none
theorem jk{sl:List (Nat×SV)}: ∀{ks:List Nat} {l:List (Nat×SV)},B0 sl ks=some l→ ∀s v,look l s=some v→look sl s=some v
 | [],l,h,s,v,hl=>by
   simp only[B0,oI]at h;subst h;cases hl
 |k::r,l,h,s,v,hl=>by
  simp only[B0]at h;split at h
  ·rename_i x0 h1;split at h
   ·rename_i x l' hf h2;simp only[oI]at h;subst h;by_cases hs:s=k
    ·subst hs;rw[look_eq]at hl;rw[←hl,Sb hf];exact h1
    ·rw[bB hs]at hl;exact jk h2 s v hl
   ·cases h
  ·cases h
theorem jl{hp:Hp}: ∀{ks:List Nat} {l:Hp},B1 hp ks=some l→ ∀s v,look l s=some v→look hp s=some v
 | [],l,h,s,v,hl=>by
   simp only[B1,oI]at h;subst h;cases hl
 |k::r,l,h,s,v,hl=>by
  simp only[B1]at h;split at h
  ·rename_i x0 h1;split at h
   ·rename_i x l' hf h2;simp only[oI]at h;subst h;by_cases hs:s=k
    ·subst hs;rw[look_eq]at hl;rw[←hl,X8 hf];exact h1
    ·rw[bB hs]at hl;exact jl h2 s v hl
   ·cases h
  ·cases h
theorem vv{hp:Hp}{v:V}(h:lW hp v=true): ∀n,v.name=some n→look hp n≠none:=by
 intro n hn hl;simp[lW,hn,hl]at h
theorem xe{hp:Hp}{x:S1}(h:qC hp x=true): ∀v,v∈x.vs→lW hp v=true:=by
 intro v hv;cases x with
 |a y=>simp only[S1.vs,List.mem_singleton]at hv;subst hv;exact h
 |agg l=>exact List.all_eq_true.1 h v hv
theorem Mr{hp:Hp}{x:SV}(h:N0 hp x=true): ∀v,v∈x.vs→lW hp v=true:=by
 intro v hv;cases x with
 |one x=>exact xe h v hv
 |wK l=>
  simp only[SV.vs,List.mem_flatMap]at hv;obtain⟨y,hy,hv⟩:=hv;exact xe (List.all_eq_true.1 h y hy) v hv
 |cond p x=>exact xe h v hv
theorem Good.weaken{zb:cD}{st st':St}{tmps:Array Value}{w:World}{env:Env}(g:Good ty zb st tmps w env)(hs: ∀s v,look st'.sl s=some v→look st.sl s=some v)(hh: ∀n o,look st'.hp n=some o→look st.hp n=some o)
  (hc1: ∀s v,look st'.sl s=some v→ ∀x,x∈v.vs→lW st'.hp x=true)(hc2: ∀m o,look st'.hp m=some o→yI st'.hp o=true):Good ty zb st' tmps w env:=by
 have s:Step (fun n=>look st'.hp n≠none) (fun n=>look st'.hp n≠none) w st.hp env w st'.hp env:=by
  refine⟨fun _ _ _=>rfl,?_,?_,?_⟩
  ·rintro b _ ⟨n,o,h1,h2⟩;exact⟨n,o,hh n o h1,h2⟩
  ·intro n o hK h1;cases hq:look st'.hp n with
   |none=>exact absurd hq hK
   |some o'=>
    have:=hh n o' hq;rw[h1]at this;simp only[oI]at this;subst this;exact⟨o,rfl,by cases o<;>simp[Obj.like],rfl⟩
  ·intro n t l hK h1;cases hq:look st'.hp n with
   |none=>exact absurd hq hK
   |some o'=>
    have:=hh n o' hq;rw[h1]at this;simp only[oI]at this;subst this;exact⟨rfl,rfl,fun _ _=>rfl⟩
 have abD: ∀v,lW st'.hp v=true→v.s9 (fun n=>look st'.hp n≠none) (fun n=>look st'.hp n≠none):=fun v h=>⟨fun n hn=>vv h n hn,fun n hn=>vv h n (V.oU hn)⟩;refine⟨fun n o hl=> ?_,fun n m o o' hne h1 h2=>g.kK n m o o' hne (hh n o h1) (hh m o' h2),fun t v hl=>qp.step s (fun x hx=>abD x (hc1 t v hl x hx)) (g.slot t v (hs t v hl)),fun n o hl=>g.dom n o (hh n o hl),g.pins⟩;refine(g.obj n o (hh n o hl)).step s ?_ (fun _ _=>rfl);have hO:=hc2 n o hl;cases o with
 |box c=>exact fun v hv=>abD v (List.all_eq_true.1 hO v hv)
 |arr t l=>trivial
 |iq t l r=>
  intro m hm;simp only[yI,hm]at hO;intro he;rw[he]at hO;cases hO
theorem Ms{sl:List (Nat×SV)}{hp:Hp}(h:qD sl hp=true):(∀s v,look sl s=some v→ ∀x,x∈v.vs→lW hp x=true)∧(∀m o,look hp m=some o→yI hp o=true):=by
 simp only[qD,Bool.and_eq_true,List.all_eq_true]at h;exact⟨fun s v hl=>Mr (h.1 _ (dO hl)),fun m o hl=>h.2 _ (dO hl)⟩
theorem Inv.weaken{zb:cD}{st st':St}{a:Act}{w:World}(iv:Inv ty zb st a w)(hn:st'.n=st.n)(hs: ∀s v,look st'.sl s=some v→look st.sl s=some v)(hh: ∀n o,look st'.hp n=some o→look st.hp n=some o)(hc:qD st'.sl st'.hp=true):Inv ty zb st' a w:=by
 obtain⟨env,g⟩:=iv.good;obtain⟨c1,c2⟩:=Ms hc;exact⟨by rw[iv.size,hn],iv.defers,iv.kept,iv.C1,env,g.weaken hs hh c1 c2⟩
structure Ctx(P:Program)(ty:Tag→Nat)(Γ:Nat→TK):Prop where
 kind: ∀t,cT P t (Γ t)
 one: ∀t,(∀z tg fo,Γ t≠ .st z tg fo)→Γ t≠ .other→(P.info? t).map (·.size)=some 1
section
variable{P:Program}{Γ:Nat→TK}{zb:cD}{Q:Post}{st:St}
theorem P7{dm:List (Nat×Nat)}{cr:List (Nat×CR)}{ks hs:List Nat}{ops:List Oper}{vc:List Prop}{st':St}(h:Vl P ty Γ dm cr ks hs ops st=some (vc,st')): ∃s1,run P ty Γ dm cr ops ops st []=some (vc,s1)∧
  ∀a w,Inv ty zb s1 a w→Inv ty zb st' a w:=by
 obtain⟨n,Sh,ga⟩:=st;simp only[Vl]at h;split at h
 ·rename_i oV s1 hr;split at h
  ·rename_i sl hp h1 h2;split at h
   ·rename_i hc hn;simp only[oI,pI]at h;obtain⟨rfl,rfl⟩:=h;exact⟨s1,hr,fun a w iv=>iv.weaken (Nat.eq_of_beq_eq_true hn).symm (jk h1) (jl h2) hc⟩
   ·cases h
  ·cases h
 ·cases h
theorem aL(X:Ctx P ty Γ)(dm:List (Nat×Nat))(cr:List (Nat×CR))(ks hs:List Nat){id:Nat}{ops:List Oper}{vc:List Prop}{st':St}(h:Vl P ty Γ dm cr ks hs ops st=some (vc,st'))(hv:mP vc)(k:Q .normal st'):W P ty zb (.region id ops.toArray false) Q st:=by
 intro a w iv;obtain⟨s1,h1,h2⟩:=P7 (zb:=zb) h;exact wp_region_lit (HJ X.kind X.one (fun a w oJ=>⟨st',h2 a w oJ,k⟩) h1 hv.out iv)
theorem dy(X:Ctx P ty Γ)(ks:List Nat){id:Nat}{ops:List Oper}{vc:List Prop}{st':St}(h:G.Vl P ty Γ [] [] ks [] ops st=some (vc,st'))(hv:mP vc)(k:Q .normal st'):W P ty zb (.region id ops.toArray false) Q st:=aL X [] [] ks [] h hv k
theorem bg(X:Ctx P ty Γ)(ks:List Nat){id:Nat}{ops:List Oper}{st':St}(h:G.Vl P ty Γ [] [] ks [] ops st=some ([],st'))(k:Q .normal st'):W P ty zb (.region id ops.toArray false) Q st:=dy X ks h ⟨⟩ k
theorem aa{x y:Code}(h:W P ty zb x (Post.then (W P ty zb y Q) Q) st):W P ty zb (.seq x y) Q st:=by
 intro a w iv;refine wp_seq (wp_mono (h a w iv) ?_);rintro e a' w' ⟨st',oJ,hq⟩;cases e with
 |normal=>exact hq a' w' oJ
 |_=>exact⟨st',oJ,hq⟩
theorem aC(X:Ctx P ty Γ)(dm:List (Nat×Nat))(cr:List (Nat×CR))(ks hs:List Nat){y:Code}{id:Nat}{ops:List Oper}{vc:List Prop}{st':St}(h:G.Vl P ty Γ dm cr ks hs ops st=some (vc,st'))(hv:mP vc)(k:W P ty zb y Q st'):W P ty zb (.seq (.region id ops.toArray false) y) Q st:=aa (aL X dm cr ks hs h hv k)
theorem aD(X:Ctx P ty Γ)(ks:List Nat){y:Code}{id:Nat}{ops:List Oper}{vc:List Prop}{st':St}(h:G.Vl P ty Γ [] [] ks [] ops st=some (vc,st'))(hv:mP vc)(k:W P ty zb y Q st'):W P ty zb (.seq (.region id ops.toArray false) y) Q st:=aC X [] [] ks [] h hv k
theorem aq(X:Ctx P ty Γ)(ks:List Nat){y:Code}{id:Nat}{ops:List Oper}{st':St}(h:G.Vl P ty Γ [] [] ks [] ops st=some ([],st'))(k:W P ty zb y Q st'):W P ty zb (.seq (.region id ops.toArray false) y) Q st:=aD X ks h ⟨⟩ k
theorem an(h:Q .normal st):W P ty zb .skip Q st:=fun _ _ iv=>wp_skip ⟨st,iv,h⟩
theorem aI{id:Nat}(h:Q (.exit id) st):W P ty zb (.exit id) Q st:=fun _ _ iv=>wp_exit ⟨st,iv,h⟩
theorem ak(h:Q .ret st):W P ty zb .ret Q st:=fun _ _ iv=>wp_ret ⟨st,iv,h⟩
theorem au{id:Nat}{c:Code}(h:W P ty zb c (Post.inBlock id Q) st):W P ty zb (.block id c) Q st:=by
 intro a w iv;refine wp_block (wp_mono (h a w iv) ?_);rintro e a' w' ⟨st',oJ,hq⟩;cases e with
 |exit i=>
  simp only[Post.inBlock]at hq;simp only[Exit.inBlock];split
  ·rename_i hi;rw[if_pos hi]at hq;exact⟨st',oJ,hq⟩
  ·rename_i hi;rw[if_neg hi]at hq;exact⟨st',oJ,hq⟩
 |_=>exact⟨st',oJ,hq⟩
theorem aj{c:Operand}{x y:Code}{b:Bool}(hc:gQ st [] c=some (.a (.lit (.bool b))))(h1:b=true→W P ty zb x Q st)(h2:b=false→W P ty zb y Q st):W P ty zb (.cond c x y) Q st:=by
 intro a w iv;obtain⟨env,g⟩:=iv.good;have:=(e9 g (fun e he=>by simp at he) hc).lit;exact wp_cond_split this (fun hb=>h1 hb a w iv) (fun hb=>h2 hb a w iv)
theorem Inv.of_eq{st st':St}(h:st'=st): ∀a w,Inv ty zb st a w→Inv ty zb st' a w:=fun _ _ iv=>h▸iv
theorem N2{ι:Type}(p:ι→Prop)(I:ι→St)(μ:ι→Nat)(i:ι){c:Code}(hp:p i)(h0: ∀a w,Inv ty zb st a w→Inv ty zb (I i) a w)
  (round: ∀i,p i→W P ty zb c (Post.then (fun st'=> ∃j,p j∧μ j<μ i∧ ∀a w,Inv ty zb st' a w→Inv ty zb (I j) a w) Q) (I i)):W P ty zb (.loop c) Q st:=by
 intro a w iv b k cs;have key: ∀n i a w,μ i=n→p i→Inv ty zb (I i) a w→ ∃e a' w',Cw ty zb Q e a' w'∧Arrives P (lone (b.at a (.code c:: .inLoop c::k)) cs w) b k cs e a' w':=by
  intro n;induction n using Nat.strongRecOn with
  |_ n ih=>
   intro i a w hn hpi iv;obtain⟨e,a₁,w₁,⟨st',oJ,hq⟩,JV⟩:=round i hpi a w iv b (.inLoop c::k) cs;cases e with
   |normal=>
    obtain⟨j,hpj,hlt,hj⟩:=hq;obtain⟨e₂,a₂,w₂,hq₂,abF⟩:=ih (μ j) (hn▸hlt) j a₁ w₁ rfl hpj (hj _ _ oJ);exact⟨e₂,a₂,w₂,hq₂, .of_steps (Steps.trans JV (.one step_inLoop)) abF⟩
   |exit id=>exact⟨_,a₁,w₁,⟨st',oJ,hq⟩, .pass (x:= .inLoop c) rfl (fun _ _=> .inl (by simp)) JV⟩
   |goto l=>exact⟨_,a₁,w₁,⟨st',oJ,hq⟩, .pass (x:= .inLoop c) rfl (fun _ _=> .inl (by simp)) JV⟩
   |ret=>exact⟨_,a₁,w₁,⟨st',oJ,hq⟩, .pass (x:= .inLoop c) rfl (fun _ _=> .inl (by simp)) JV⟩
   |panic ch=>exact⟨_,a₁,w₁,⟨st',oJ,hq⟩, .pass (x:= .inLoop c) rfl (fun _ _=> .inl (by simp)) JV⟩
   |outgrown=>exact⟨_,a₁,w₁,⟨st',oJ,hq⟩, .pass (x:= .inLoop c) rfl (fun _ _=> .inl (by simp)) JV⟩
 obtain⟨e,a',w',hq,JV⟩:=key _ i a w rfl hp (h0 a w iv);exact⟨e,a',w',hq, .of_steps (.one step_loop) JV⟩
def Yb:List (Nat×SV)→List (Nat×SV)→Option (List (Nat×SV))
 | [],_=>some []
 | (s,x)::r,ov=>match fS (match look ov s with|some y=>y|none=>x),Yb r ov with
   |some x,some l=>some ((s,x)::l)
   |_,_=>none
def Yc:Hp→Hp→Option Hp
 | [],_=>some []
 | (s,x)::r,ov=>match fO (match look ov s with|some y=>y|none=>x),Yc r ov with
   |some x,some l=>some ((s,x)::l)
   |_,_=>none
def over:St→List (Nat×SV)→Hp→Option St
 | ⟨n,sl,hp⟩,ov,oh=>match Yb sl ov,Yc hp oh with
   |some sl,some hp=>some ⟨n,sl,hp⟩
   |_,_=>none
theorem aE{ι:Type}(p:ι→Prop)(ov:ι→List (Nat×SV))(oh:ι→Hp)(μ:ι→Nat)(i:ι){c:Code}{I:ι→St}(_hI: ∀k,over st (ov k) (oh k)=some (I k))(hp:p i)(h0:I i=st)
  (round: ∀i,p i→W P ty zb c (Post.then (fun st'=> ∃j,p j∧μ j<μ i∧st'=I j) Q) (I i)):W P ty zb (.loop c) Q st:=by
 refine N2 p I μ i hp (fun a w iv=>by rw[h0];exact iv) fun i hi=> ?_;intro a w iv;refine wp_mono (round i hi a w iv) ?_;rintro e a' w' ⟨st',oJ,hq⟩;cases e with
 |normal=>
  obtain⟨j,h1,h2,rfl⟩:=hq;exact⟨_,oJ,j,h1,h2,fun a w h=>h⟩
 |_=>exact⟨st',oJ,hq⟩
end
end
section
variable{ty:Tag→Nat}
def enter:Nat→List S1→List (Nat×SV)
 |_,[]=> []
 |i,x::r=>(i, .one x)::enter (i+1) r
def Si(Γ:Nat→TK)(st:St):ResultVar→Option S1
 | .tmp t=>match look st.sl t with|some (.one x)=>some x|_=>none
 | .cell p t=>match look st.sl p with
   |some (.one (.a (.ptr n 0)))=>match look st.hp n,Γ t with
    |some (.box c), .st z _ _=>match Nat.beq c.length z.length with|true=>some (.agg c)|false=>none
    |_,_=>none
   |_=>none
def yJ(Γ:Nat→TK)(st:St):List ResultVar→Option (List S1)
 | []=>some []
 |r::rs=>match Si Γ st r,yJ Γ st rs with|some x,some xs=>some (x::xs)|_,_=>none
def Sj(st:St):V→V→Option (List Prop×List Nat)
 | .lit v, .lit u=>some ([v=u],[])
 | .lit (.slice none 0 0), .sl _ l=>some ([l= []],[])
 | .own n, .sl t l=>match look st.hp n,soft n with
   |some (.arr t' l'),false=>match jD t t' l' with
    |some l2=>some ([l2=l],[n])
    |none=>none
   |_,_=>none
 | .lit (.slice none 0 0), .vw _ _ _ l=>some ([l= []],[])
 | .own n, .vw _ _ t l=>match look st.hp n with
   |some (.arr t' l')=>match jD t t' l' with
    |some l2=>some ([l2=l],[n])
    |none=>none
   |_=>none
 | .vw n _ t' l', .vw _ _ t l=>match jD t t' l' with
   |some l2=>some ([l2=l],[n])
   |none=>none
 |_,_=>none
def meet(st:St):List V→List V→Option (List Prop×List Nat)
 | [],[]=>some ([],[])
 |x::r,y::s=>match Sj st x y,meet st r s with
  |some (vc,k),some (vcs,ks)=>some (oF vc vcs,oF k ks)
  |_,_=>none
 |_,_=>none
def N3(st:St):S1→S1→Option (List Prop×List Nat)
 | .a v, .a u=>meet st [v] [u]
 | .agg l, .agg m=>meet st l m
 |_,_=>none
def meets(st:St):List S1→List S1→Option (List Prop×List Nat)
 | [],[]=>some ([],[])
 |x::r,y::s=>match N3 st x y,meets st r s with
  |some (vc,k),some (vcs,ks)=>some (oF vc vcs,oF k ks)
  |_,_=>none
 |_,_=>none
def ends(Γ:Nat→TK)(st:St)(vA:List ResultVar)(rs:List S1):Option (List Prop):=
 match yJ Γ st vA with
 |some xs=>match meets st xs rs with
  |some (vc,k)=>match oG k with|true=>some vc|false=>none
  |none=>none
 |none=>none
def Fin(Γ:Nat→TK)(vA:List ResultVar)(rs:List S1):Post:=fun e st=>(e= .ret∨e= .normal)∧ ∃vc,ends Γ st vA rs=some vc∧mP vc
theorem ah{Γ:Nat→TK}{vA:List ResultVar}{rs:List S1}{st:St}{vc:List Prop}(h:ends Γ st vA rs=some vc)(hv:mP vc):Fin Γ vA rs .ret st:=⟨.inl rfl,vc,h,hv⟩
theorem iW.lift{α:Type}{k:Nat}{E:ER α}{lo e:Nat}{w:World}{v:Value}{l:List α}{fp:List Nat}(h:iW k E 0 e w v l fp)(hl: ∀b,b∈fp→lo≤b):iW k E lo e w v l fp:=by
 obtain⟨xs,bX,hown,hf,he,rfl,ho⟩:=h;refine⟨xs,bX,⟨hown.1,?_⟩,hf,he,rfl,⟨ho.nodup,hl,ho.kind⟩⟩;rcases hown.2 with h| ⟨g,o,cap,cur,rfl,Q3,r⟩
 ·exact Or.inl h
 ·exact Or.inr ⟨g,o,cap,cur,rfl,hl g (by simp[Value.ownBlock]),r⟩
section
variable{P:Program}{zb:cD}{st:St}{a:Act}{w:World}{env:Env}
theorem wN{Γ:Nat→TK}(C: ∀t,cT P t (Γ t))(g:Good ty zb st a.tmps w env){r:ResultVar}{x:S1}(h:Si Γ st r=some x):
  ∃u,fD w st.hp env x u∧(match r with| .tmp t=>a.tmps.getD t undef=u| .cell p t=> ∃ad,a.tmps.getD p undef= .pointer (some ad)∧(loadVar t ad).run P w= .ok u w):=by
 cases r with
 |tmp t=>
  simp only[Si]at h;split at h
  ·rename_i y hl;simp only[oI]at h;subst h;exact⟨_,g.slot t _ hl,rfl⟩
  ·cases h
 |cell p t=>
  simp only[Si]at h;split at h
  ·rename_i n hl;split at h
   ·rename_i c z tg fo hb hk;split at h
    ·rename_i hlen;have hlen:=Nat.eq_of_beq_eq_true hlen;simp only[oI]at h;subst h;obtain⟨_,b,hv,hu⟩:=g.slot p _ hl;obtain⟨b',cs,e,Jd,hh,hc⟩:=g.obj n _ hb;have YW:b=b':=by rw[Jd]at hv;simpa using hv.symm
     subst YW;have hC:=C t;rw[hk]at hC;obtain⟨fs,X6,hi,_⟩:=hC;have hi':(P.info? t).map (·.size)=some cs.length:=by
      rw[hc.len,hlen];cases hq:P.info? t with
      |none=>simp[hq]at hi
      |some i=>simp[hq]at hi;simp[hi.1]
     refine⟨.agg cs.toArray,⟨cs,rfl,hc⟩,?_⟩;have Cu:w.rangeAt b 0 cs:=by simpa using Rk hh
     exact⟨_,hu,run_loadVar_mid w b 0 t cs _ Cu X6 rfl hi'⟩
    ·cases h
   ·cases h
  ·cases h
theorem N4(g:Good ty zb st a.tmps w env){k1 k2:List Nat}{f1 f2:List Nat}(hnd:(k1++k2).Nodup)(p2:Own zb.w.heap.size w f1)(p3: ∀b,b∈f1→ ∃i o,i∈k1∧look st.hp i=some o∧b∈(env i).fp)(q2:Own zb.w.heap.size w f2)(q3: ∀b,b∈f2→ ∃i o,i∈k2∧look st.hp i=some o∧b∈(env i).fp):
  Own zb.w.heap.size w (f1++f2)∧ ∀b,b∈f1++f2→ ∃i o,i∈k1++k2∧look st.hp i=some o∧b∈(env i).fp:=by
 obtain⟨n1,n2,n3⟩:=List.nodup_append.1 hnd;refine⟨⟨List.nodup_append.2 ⟨p2.nodup,q2.nodup,?_⟩,fun b hb=> ?_,fun b hb=> ?_⟩,fun b hb=> ?_⟩
 ·rintro b hb z hz rfl;obtain⟨n,o1,h1,h2,h3⟩:=p3 b hb;obtain⟨m,o2,h4,h5,h6⟩:=q3 b hz;exact g.kK n m _ _ (fun e=>n3 n h1 m h4 e) h2 h5 b h3 h6
 ·rcases List.mem_append.1 hb with hb|hb
  ·exact p2.ge b hb
  ·exact q2.ge b hb
 ·rcases List.mem_append.1 hb with hb|hb
  ·exact p2.kind b hb
  ·exact q2.kind b hb
 ·rcases List.mem_append.1 hb with hb|hb
  ·obtain⟨n,o1,h1,h2,h3⟩:=p3 b hb;exact⟨n,o1,List.mem_append_left _ h1,h2,h3⟩
  ·obtain⟨n,o1,h1,h2,h3⟩:=q3 b hb;exact⟨n,o1,List.mem_append_right _ h1,h2,h3⟩
theorem Sk(hL:zb.L= [])(g:Good ty zb st a.tmps w env){x y:V}{u:Value}{vc:List Prop}{k:List Nat}(hr:RA w st.hp env x u)(h:Sj st x y=some (vc,k))(hv: ∀q,q∈vc→q):
  ∃fp,RB ty w zb.w.heap.size y u fp∧Own zb.w.heap.size w fp∧ ∀b,b∈fp→ ∃i o,i∈k∧look st.hp i=some o∧b∈(env i).fp:=by
 unfold Sj at h;split at h
 ·simp only[oI,pI]at h;obtain⟨rfl,rfl⟩:=h;have hl:=hv _ (List.mem_singleton.2 rfl);obtain⟨rfl,ho⟩:=hr;exact⟨[],⟨hl,hl▸ho,rfl⟩,Own.nil _ _,by simp⟩
 ·simp only[oI,pI]at h;obtain⟨rfl,rfl⟩:=h;have hl:=hv _ (List.mem_singleton.2 rfl);subst hl;obtain⟨rfl,ho⟩:=hr;exact⟨[],iW.nil _ _ _ _ _,Own.nil _ _,by simp⟩
 ·rename_i n t l;split at h
  ·rename_i t' l' hl JJ;split at h
   ·rename_i l2 hc;simp only[oI,pI]at h;obtain⟨rfl,rfl⟩:=h;have ir:=hv _ (List.mem_singleton.2 rfl);subst ir;obtain⟨e,rfl⟩:=eu hc;subst e;obtain⟨_,rfl⟩:=hr;have hb:=iW.lift (RO.XT JJ (g.obj n _ hl)) (lo:=zb.w.heap.size) (fun b hb=>by
     rcases g.dom n _ hl b hb with h|h
     ·rw[hL]at h;cases h
     ·exact h)
    exact⟨(env n).fp,hb,hb.own,fun b hb=>⟨n,_,by simp,hl,hb⟩⟩
   ·cases h
  ·cases h
 ·simp only[oI,pI]at h;obtain⟨rfl,rfl⟩:=h;have hl:=hv _ (List.mem_singleton.2 rfl);subst hl;obtain⟨rfl,ho⟩:=hr;exact⟨[],⟨iW.sl (iW.nil _ _ 0 0 _),Own.nil _ _⟩,Own.nil _ _,by simp⟩
 ·rename_i n _ _ t l;split at h
  ·rename_i t' l' hl;split at h
   ·rename_i l2 hc;simp only[oI,pI]at h;obtain⟨rfl,rfl⟩:=h;have ir:=hv _ (List.mem_singleton.2 rfl);subst ir;obtain⟨e,rfl⟩:=eu hc;subst e;obtain⟨_,rfl⟩:=hr;have hs:=RO.sl (g.obj n _ hl);have ho0:=RO.own (g.obj n _ hl);have ho:Own zb.w.heap.size w (env n).fp:=⟨ho0.nodup,fun b hb=>by
     rcases g.dom n _ hl b hb with h|h
     ·rw[hL]at h;cases h
     ·exact h,ho0.kind⟩
    exact⟨(env n).fp,⟨hs,ho⟩,ho,fun b hb=>⟨n,_,by simp,hl,hb⟩⟩
   ·cases h
  ·cases h
 ·rename_i n _ t' l' _ _ t l;split at h
  ·rename_i l2 hc;simp only[oI,pI]at h;obtain⟨rfl,rfl⟩:=h;have ir:=hv _ (List.mem_singleton.2 rfl);subst ir;obtain⟨e,rfl⟩:=eu hc;subst e;obtain⟨⟨t0,l0,hl⟩,⟨fp,hs,hnd,hsub⟩,_⟩:=hr;have ho0:=RO.own (g.obj n _ hl);have ho:Own zb.w.heap.size w fp:=⟨hnd,fun b hb=>by
    rcases g.dom n _ hl b (hsub b hb)with h|h
    ·rw[hL]at h;cases h
    ·exact h,fun b hb=>ho0.kind b (hsub b hb)⟩
   exact⟨fp,⟨hs,ho⟩,ho,fun b hb=>⟨n,_,by simp,hl,hsub b hb⟩⟩
  ·cases h
 ·cases h
theorem HL(hL:zb.L= [])(g:Good ty zb st a.tmps w env): ∀{xs ys:List V} {us:List Value} {vc:List Prop} {k:List Nat},bK (RA w st.hp env) xs us→meet st xs ys=some (vc,k)→k.Nodup→(∀q,q∈vc→q)→
  ∃fp,Rx ty w zb.w.heap.size ys us fp∧Own zb.w.heap.size w fp∧ ∀b,b∈fp→ ∃i o,i∈k∧look st.hp i=some o∧b∈(env i).fp
 | [],ys,us,vc,k,hr,h,hnd,hv=>by
   cases ys with
   |nil=>
    simp only[meet,oI,pI]at h;obtain⟨rfl,rfl⟩:=h;cases us with
    |nil=>exact⟨[],rfl,Own.nil _ _,by simp⟩
    |cons _ _=>exact hr.elim
   |cons y ys=>simp[meet]at h
 |x::r,ys,us,vc,k,hr,h,hnd,hv=>by
  cases us with
  |nil=>exact hr.elim
  |cons u us=>
   cases ys with
   |nil=>simp[meet]at h
   |cons y s=>
    simp only[meet]at h;split at h
    ·rename_i oV k1 Y9 k2 h1 h2;simp only[oI,pI,eX]at h;obtain⟨rfl,rfl⟩:=h;obtain⟨n1,n2,n3⟩:=List.nodup_append.1 hnd;obtain⟨f1,p1,p2,p3⟩:=Sk hL g hr.1 h1 (fun q hq=>hv q (List.mem_append_left _ hq));obtain⟨f2,q1,q2,q3⟩:=HL hL g hr.2 h2 n2 (fun q hq=>hv q (List.mem_append_right _ hq));obtain⟨r1,r2⟩:=N4 g hnd p2 p3 q2 q3;exact⟨f1++f2,⟨_,_,p1,q1,rfl⟩,r1,r2⟩
    ·cases h
theorem Sm(hL:zb.L= [])(g:Good ty zb st a.tmps w env){x y:S1}{u:Value}{vc:List Prop}{k:List Nat}(hr:fD w st.hp env x u)(h:N3 st x y=some (vc,k))(hnd:k.Nodup)(hv: ∀q,q∈vc→q):
  ∃fp,XU ty w zb.w.heap.size y u fp∧Own zb.w.heap.size w fp∧ ∀b,b∈fp→ ∃i o,i∈k∧look st.hp i=some o∧b∈(env i).fp:=by
 cases x with
 |a v=>
  cases y with
  |a v'=>exact HL hL g (xs:= [v]) (us:= [u]) ⟨hr,trivial⟩ h hnd hv
  |agg _=>simp[N3]at h
 |agg l=>
  cases y with
  |a v'=>simp[N3]at h
  |agg m=>
   obtain⟨cs,rfl,hl⟩:=hr;obtain⟨fp,h1,h2,h3⟩:=HL hL g hl h hnd hv;exact⟨fp,⟨cs,rfl,h1⟩,h2,h3⟩
theorem JX(hL:zb.L= [])(g:Good ty zb st a.tmps w env): ∀{xs ys:List S1} {us:List Value} {vc:List Prop} {k:List Nat},bK (fD w st.hp env) xs us→meets st xs ys=some (vc,k)→k.Nodup→(∀q,q∈vc→q)→
  ∃fp,Vi ty w zb.w.heap.size ys us fp∧Own zb.w.heap.size w fp∧ ∀b,b∈fp→ ∃i o,i∈k∧look st.hp i=some o∧b∈(env i).fp
 | [],ys,us,vc,k,hr,h,hnd,hv=>by
   cases ys with
   |nil=>
    simp only[meets,oI,pI]at h;obtain⟨rfl,rfl⟩:=h;cases us with
    |nil=>exact⟨[],rfl,Own.nil _ _,by simp⟩
    |cons _ _=>exact hr.elim
   |cons y ys=>simp[meets]at h
 |x::r,ys,us,vc,k,hr,h,hnd,hv=>by
  cases us with
  |nil=>exact hr.elim
  |cons u us=>
   cases ys with
   |nil=>simp[meets]at h
   |cons y s=>
    simp only[meets]at h;split at h
    ·rename_i oV k1 Y9 k2 h1 h2;simp only[oI,pI,eX]at h;obtain⟨rfl,rfl⟩:=h;obtain⟨n1,n2,n3⟩:=List.nodup_append.1 hnd;obtain⟨f1,p1,p2,p3⟩:=Sm hL g hr.1 h1 n1 (fun q hq=>hv q (List.mem_append_left _ hq));obtain⟨f2,q1,q2,q3⟩:=JX hL g hr.2 h2 n2 (fun q hq=>hv q (List.mem_append_right _ hq));obtain⟨r1,r2⟩:=N4 g hnd p2 p3 q2 q3;exact⟨f1++f2,⟨_,_,p1,q1,rfl⟩,r1,r2⟩
    ·cases h
theorem JY{Γ:Nat→TK}(C: ∀t,cT P t (Γ t))(g:Good ty zb st a.tmps w env){fn:Func}{vA:List ResultVar}(hf:fn.results=vA.toArray){xs:List S1}(h:yJ Γ st vA=some xs)(hl:vA.length≤4):
  ∃us,bK (fD w st.hp env) xs us∧us.length=vA.length∧(results fn a.tmps).run P w= .ok (match us with| [u]=>u|us=> .tuple us.toArray) w:=by
 have one: ∀{r:ResultVar} {rs:List ResultVar} {xs:List S1},yJ Γ st (r::rs)=some xs→ ∃y ys,xs=y::ys∧Si Γ st r=some y∧yJ Γ st rs=some ys:=by
  intro r rs xs h;simp only[yJ]at h;split at h
  ·rename_i y ys h1 h2;simp only[oI]at h;exact⟨y,ys,h.symm,h1,h2⟩
  ·cases h
 have nil: ∀{xs:List S1},yJ Γ st []=some xs→xs= []:=by
  intro xs h;simp only[yJ,oI]at h;exact h.symm
 match vA,hf,h,hl with
 | [],hf,h,_=>
   rw[nil h];exact⟨[],trivial,rfl,by simp[results,hf]⟩
 | [r1],hf,h,_=>
   obtain⟨y1,ys,rfl,h1,h⟩:=one h;rw[nil h];obtain⟨u1,k1,e1⟩:=wN C g h1;refine⟨[u1],⟨k1,trivial⟩,rfl,?_⟩;cases r1
   ·have e1:a.tmps.getD _ undef=u1:=e1;rw[Array.getD_eq_getD_getElem?]at e1;simp[results,hf,asAddr,e1]
   ·obtain⟨_,p1,e1⟩:=e1;rw[Array.getD_eq_getD_getElem?]at p1;simp[results,hf,asAddr,e1,p1]
 | [r1,r2],hf,h,_=>
   obtain⟨y1,ys,rfl,h1,h⟩:=one h;obtain⟨y2,ys,rfl,h2,h⟩:=one h;rw[nil h];obtain⟨u1,k1,e1⟩:=wN C g h1;obtain⟨u2,k2,e2⟩:=wN C g h2;refine⟨[u1,u2],⟨k1,k2,trivial⟩,rfl,?_⟩;cases r1<;>cases r2
   ·have e1:a.tmps.getD _ undef=u1:=e1;rw[Array.getD_eq_getD_getElem?]at e1;have e2:a.tmps.getD _ undef=u2:=e2;rw[Array.getD_eq_getD_getElem?]at e2;simp[results,hf,asAddr,e1,e2]
   ·have e1:a.tmps.getD _ undef=u1:=e1;rw[Array.getD_eq_getD_getElem?]at e1;obtain⟨_,p2,e2⟩:=e2;rw[Array.getD_eq_getD_getElem?]at p2;simp[results,hf,asAddr,e1,e2,p2]
   ·obtain⟨_,p1,e1⟩:=e1;rw[Array.getD_eq_getD_getElem?]at p1;have e2:a.tmps.getD _ undef=u2:=e2;rw[Array.getD_eq_getD_getElem?]at e2;simp[results,hf,asAddr,e1,e2,p1]
   ·obtain⟨_,p1,e1⟩:=e1;rw[Array.getD_eq_getD_getElem?]at p1;obtain⟨_,p2,e2⟩:=e2;rw[Array.getD_eq_getD_getElem?]at p2;simp[results,hf,asAddr,e1,e2,p1,p2]
 | [r1,r2,r3],hf,h,_=>
   obtain⟨y1,ys,rfl,h1,h⟩:=one h;obtain⟨y2,ys,rfl,h2,h⟩:=one h;obtain⟨y3,ys,rfl,h3,h⟩:=one h;rw[nil h];obtain⟨u1,k1,e1⟩:=wN C g h1;obtain⟨u2,k2,e2⟩:=wN C g h2;obtain⟨u3,k3,e3⟩:=wN C g h3;refine⟨[u1,u2,u3],⟨k1,k2,k3,trivial⟩,rfl,?_⟩;cases r1<;>cases r2<;>cases r3
   ·have e1:a.tmps.getD _ undef=u1:=e1;rw[Array.getD_eq_getD_getElem?]at e1;have e2:a.tmps.getD _ undef=u2:=e2;rw[Array.getD_eq_getD_getElem?]at e2;have e3:a.tmps.getD _ undef=u3:=e3;rw[Array.getD_eq_getD_getElem?]at e3;simp[results,hf,asAddr,e1,e2,e3]
   ·have e1:a.tmps.getD _ undef=u1:=e1;rw[Array.getD_eq_getD_getElem?]at e1;have e2:a.tmps.getD _ undef=u2:=e2;rw[Array.getD_eq_getD_getElem?]at e2;obtain⟨_,p3,e3⟩:=e3;rw[Array.getD_eq_getD_getElem?]at p3;simp[results,hf,asAddr,e1,e2,e3,p3]
   ·have e1:a.tmps.getD _ undef=u1:=e1;rw[Array.getD_eq_getD_getElem?]at e1;obtain⟨_,p2,e2⟩:=e2;rw[Array.getD_eq_getD_getElem?]at p2;have e3:a.tmps.getD _ undef=u3:=e3;rw[Array.getD_eq_getD_getElem?]at e3;simp[results,hf,asAddr,e1,e2,e3,p2]
   ·have e1:a.tmps.getD _ undef=u1:=e1;rw[Array.getD_eq_getD_getElem?]at e1;obtain⟨_,p2,e2⟩:=e2;rw[Array.getD_eq_getD_getElem?]at p2;obtain⟨_,p3,e3⟩:=e3;rw[Array.getD_eq_getD_getElem?]at p3;simp[results,hf,asAddr,e1,e2,e3,p2,p3]
   ·obtain⟨_,p1,e1⟩:=e1;rw[Array.getD_eq_getD_getElem?]at p1;have e2:a.tmps.getD _ undef=u2:=e2;rw[Array.getD_eq_getD_getElem?]at e2;have e3:a.tmps.getD _ undef=u3:=e3;rw[Array.getD_eq_getD_getElem?]at e3;simp[results,hf,asAddr,e1,e2,e3,p1]
   ·obtain⟨_,p1,e1⟩:=e1;rw[Array.getD_eq_getD_getElem?]at p1;have e2:a.tmps.getD _ undef=u2:=e2;rw[Array.getD_eq_getD_getElem?]at e2;obtain⟨_,p3,e3⟩:=e3;rw[Array.getD_eq_getD_getElem?]at p3;simp[results,hf,asAddr,e1,e2,e3,p1,p3]
   ·obtain⟨_,p1,e1⟩:=e1;rw[Array.getD_eq_getD_getElem?]at p1;obtain⟨_,p2,e2⟩:=e2;rw[Array.getD_eq_getD_getElem?]at p2;have e3:a.tmps.getD _ undef=u3:=e3;rw[Array.getD_eq_getD_getElem?]at e3;simp[results,hf,asAddr,e1,e2,e3,p1,p2]
   ·obtain⟨_,p1,e1⟩:=e1;rw[Array.getD_eq_getD_getElem?]at p1;obtain⟨_,p2,e2⟩:=e2;rw[Array.getD_eq_getD_getElem?]at p2;obtain⟨_,p3,e3⟩:=e3;rw[Array.getD_eq_getD_getElem?]at p3;simp[results,hf,asAddr,e1,e2,e3,p1,p2,p3]
 | [r1,r2,r3,r4],hf,h,_=>
   obtain⟨y1,ys,rfl,h1,h⟩:=one h;obtain⟨y2,ys,rfl,h2,h⟩:=one h;obtain⟨y3,ys,rfl,h3,h⟩:=one h;obtain⟨y4,ys,rfl,h4,h⟩:=one h;rw[nil h];obtain⟨u1,k1,e1⟩:=wN C g h1;obtain⟨u2,k2,e2⟩:=wN C g h2;obtain⟨u3,k3,e3⟩:=wN C g h3;obtain⟨u4,k4,e4⟩:=wN C g h4;refine⟨[u1,u2,u3,u4],⟨k1,k2,k3,k4,trivial⟩,rfl,?_⟩;cases r1<;>cases r2<;>cases r3<;>cases r4
   ·have e1:a.tmps.getD _ undef=u1:=e1;rw[Array.getD_eq_getD_getElem?]at e1;have e2:a.tmps.getD _ undef=u2:=e2;rw[Array.getD_eq_getD_getElem?]at e2;have e3:a.tmps.getD _ undef=u3:=e3;rw[Array.getD_eq_getD_getElem?]at e3;have e4:a.tmps.getD _ undef=u4:=e4;rw[Array.getD_eq_getD_getElem?]at e4;simp[results,hf,asAddr,e1,e2,e3,e4]
   ·have e1:a.tmps.getD _ undef=u1:=e1;rw[Array.getD_eq_getD_getElem?]at e1;have e2:a.tmps.getD _ undef=u2:=e2;rw[Array.getD_eq_getD_getElem?]at e2;have e3:a.tmps.getD _ undef=u3:=e3;rw[Array.getD_eq_getD_getElem?]at e3;obtain⟨_,p4,e4⟩:=e4;rw[Array.getD_eq_getD_getElem?]at p4;simp[results,hf,asAddr,e1,e2,e3,e4,p4]
   ·have e1:a.tmps.getD _ undef=u1:=e1;rw[Array.getD_eq_getD_getElem?]at e1;have e2:a.tmps.getD _ undef=u2:=e2;rw[Array.getD_eq_getD_getElem?]at e2;obtain⟨_,p3,e3⟩:=e3;rw[Array.getD_eq_getD_getElem?]at p3;have e4:a.tmps.getD _ undef=u4:=e4;rw[Array.getD_eq_getD_getElem?]at e4;simp[results,hf,asAddr,e1,e2,e3,e4,p3]
   ·have e1:a.tmps.getD _ undef=u1:=e1;rw[Array.getD_eq_getD_getElem?]at e1;have e2:a.tmps.getD _ undef=u2:=e2;rw[Array.getD_eq_getD_getElem?]at e2;obtain⟨_,p3,e3⟩:=e3;rw[Array.getD_eq_getD_getElem?]at p3;obtain⟨_,p4,e4⟩:=e4;rw[Array.getD_eq_getD_getElem?]at p4;simp[results,hf,asAddr,e1,e2,e3,e4,p3,p4]
   ·have e1:a.tmps.getD _ undef=u1:=e1;rw[Array.getD_eq_getD_getElem?]at e1;obtain⟨_,p2,e2⟩:=e2;rw[Array.getD_eq_getD_getElem?]at p2;have e3:a.tmps.getD _ undef=u3:=e3;rw[Array.getD_eq_getD_getElem?]at e3;have e4:a.tmps.getD _ undef=u4:=e4;rw[Array.getD_eq_getD_getElem?]at e4;simp[results,hf,asAddr,e1,e2,e3,e4,p2]
   ·have e1:a.tmps.getD _ undef=u1:=e1;rw[Array.getD_eq_getD_getElem?]at e1;obtain⟨_,p2,e2⟩:=e2;rw[Array.getD_eq_getD_getElem?]at p2;have e3:a.tmps.getD _ undef=u3:=e3;rw[Array.getD_eq_getD_getElem?]at e3;obtain⟨_,p4,e4⟩:=e4;rw[Array.getD_eq_getD_getElem?]at p4;simp[results,hf,asAddr,e1,e2,e3,e4,p2,p4]
   ·have e1:a.tmps.getD _ undef=u1:=e1;rw[Array.getD_eq_getD_getElem?]at e1;obtain⟨_,p2,e2⟩:=e2;rw[Array.getD_eq_getD_getElem?]at p2;obtain⟨_,p3,e3⟩:=e3;rw[Array.getD_eq_getD_getElem?]at p3;have e4:a.tmps.getD _ undef=u4:=e4;rw[Array.getD_eq_getD_getElem?]at e4;simp[results,hf,asAddr,e1,e2,e3,e4,p2,p3]
   ·have e1:a.tmps.getD _ undef=u1:=e1;rw[Array.getD_eq_getD_getElem?]at e1;obtain⟨_,p2,e2⟩:=e2;rw[Array.getD_eq_getD_getElem?]at p2;obtain⟨_,p3,e3⟩:=e3;rw[Array.getD_eq_getD_getElem?]at p3;obtain⟨_,p4,e4⟩:=e4;rw[Array.getD_eq_getD_getElem?]at p4;simp[results,hf,asAddr,e1,e2,e3,e4,p2,p3,p4]
   ·obtain⟨_,p1,e1⟩:=e1;rw[Array.getD_eq_getD_getElem?]at p1;have e2:a.tmps.getD _ undef=u2:=e2;rw[Array.getD_eq_getD_getElem?]at e2;have e3:a.tmps.getD _ undef=u3:=e3;rw[Array.getD_eq_getD_getElem?]at e3;have e4:a.tmps.getD _ undef=u4:=e4;rw[Array.getD_eq_getD_getElem?]at e4;simp[results,hf,asAddr,e1,e2,e3,e4,p1]
   ·obtain⟨_,p1,e1⟩:=e1;rw[Array.getD_eq_getD_getElem?]at p1;have e2:a.tmps.getD _ undef=u2:=e2;rw[Array.getD_eq_getD_getElem?]at e2;have e3:a.tmps.getD _ undef=u3:=e3;rw[Array.getD_eq_getD_getElem?]at e3;obtain⟨_,p4,e4⟩:=e4;rw[Array.getD_eq_getD_getElem?]at p4;simp[results,hf,asAddr,e1,e2,e3,e4,p1,p4]
   ·obtain⟨_,p1,e1⟩:=e1;rw[Array.getD_eq_getD_getElem?]at p1;have e2:a.tmps.getD _ undef=u2:=e2;rw[Array.getD_eq_getD_getElem?]at e2;obtain⟨_,p3,e3⟩:=e3;rw[Array.getD_eq_getD_getElem?]at p3;have e4:a.tmps.getD _ undef=u4:=e4;rw[Array.getD_eq_getD_getElem?]at e4;simp[results,hf,asAddr,e1,e2,e3,e4,p1,p3]
   ·obtain⟨_,p1,e1⟩:=e1;rw[Array.getD_eq_getD_getElem?]at p1;have e2:a.tmps.getD _ undef=u2:=e2;rw[Array.getD_eq_getD_getElem?]at e2;obtain⟨_,p3,e3⟩:=e3;rw[Array.getD_eq_getD_getElem?]at p3;obtain⟨_,p4,e4⟩:=e4;rw[Array.getD_eq_getD_getElem?]at p4;simp[results,hf,asAddr,e1,e2,e3,e4,p1,p3,p4]
   ·obtain⟨_,p1,e1⟩:=e1;rw[Array.getD_eq_getD_getElem?]at p1;obtain⟨_,p2,e2⟩:=e2;rw[Array.getD_eq_getD_getElem?]at p2;have e3:a.tmps.getD _ undef=u3:=e3;rw[Array.getD_eq_getD_getElem?]at e3;have e4:a.tmps.getD _ undef=u4:=e4;rw[Array.getD_eq_getD_getElem?]at e4;simp[results,hf,asAddr,e1,e2,e3,e4,p1,p2]
   ·obtain⟨_,p1,e1⟩:=e1;rw[Array.getD_eq_getD_getElem?]at p1;obtain⟨_,p2,e2⟩:=e2;rw[Array.getD_eq_getD_getElem?]at p2;have e3:a.tmps.getD _ undef=u3:=e3;rw[Array.getD_eq_getD_getElem?]at e3;obtain⟨_,p4,e4⟩:=e4;rw[Array.getD_eq_getD_getElem?]at p4;simp[results,hf,asAddr,e1,e2,e3,e4,p1,p2,p4]
   ·obtain⟨_,p1,e1⟩:=e1;rw[Array.getD_eq_getD_getElem?]at p1;obtain⟨_,p2,e2⟩:=e2;rw[Array.getD_eq_getD_getElem?]at p2;obtain⟨_,p3,e3⟩:=e3;rw[Array.getD_eq_getD_getElem?]at p3;have e4:a.tmps.getD _ undef=u4:=e4;rw[Array.getD_eq_getD_getElem?]at e4;simp[results,hf,asAddr,e1,e2,e3,e4,p1,p2,p3]
   ·obtain⟨_,p1,e1⟩:=e1;rw[Array.getD_eq_getD_getElem?]at p1;obtain⟨_,p2,e2⟩:=e2;rw[Array.getD_eq_getD_getElem?]at p2;obtain⟨_,p3,e3⟩:=e3;rw[Array.getD_eq_getD_getElem?]at p3;obtain⟨_,p4,e4⟩:=e4;rw[Array.getD_eq_getD_getElem?]at p4;simp[results,hf,asAddr,e1,e2,e3,e4,p1,p2,p3,p4]
 |_::_::_::_::_::_,_,_,hl=>simp at hl
end
end
end Go.Proofs.YtaalpcnbbldlaaaGreatDoor.G
