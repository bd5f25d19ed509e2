/-
  append to a slice whose elements' memory is others'.
-/
import Derived.Laws.OwnMore
import Derived.Test.YtkcegdacbddipaaGreatV6
namespace Go.Proofs.YtkcegdacbddipaaGreat.G
set_option linter.all false
open Go.RowKit L D
section
variable{ty:Tag→Nat}
theorem nM: ∀(vs:List Value) (cs:List Value) (o:Nat),o+vs.length≤cs.length→splice (Array.mk cs) o vs=Array.mk (cs.take o++(vs++cs.drop (o+vs.length)))
 | [],cs,o,h=>by simp[splice,List.take_append_drop]
 |v::r,cs,o,h=>by
  simp only[List.length_cons]at h
  have e0:cs.set o v=cs.take o++v::cs.drop (o+1):=by
   rw[List.set_eq_take_append_cons_drop,if_pos (by omega)]
  have hl:(cs.take o).length=o:=by rw[List.length_take];omega
  have t1:(cs.take o++v::cs.drop (o+1)).take (o+1)=cs.take o++ [v]:=by
   rw[List.take_append,hl,show o+1-o=1 by omega,List.take_of_length_le (by rw[hl];omega)];rfl
  have t2:(cs.take o++v::cs.drop (o+1)).drop (o+1+r.length)=cs.drop (o+1+r.length):=by
   rw[List.drop_append,hl,show o+1+r.length-o=r.length+1 by omega,List.drop_succ_cons,List.drop_drop,List.drop_eq_nil_of_le (as:=cs.take o) (by rw[hl];omega),List.nil_append]
  rw[splice,List.setIfInBounds_toArray,nM r _ _ (by simp;omega),e0,t1,t2,List.append_assoc,List.length_cons,show o+(r.length+1)=o+1+r.length by omega]
  rfl
theorem Gf{R:V→Value→Prop}{c c' vs:List V}{cs us:List Value}{off:Nat}(h:bA R c cs)(hv:bA R vs us)(hs:Es c off vs=some c'):off+us.length≤cs.length∧bA R c' (cs.take off++(us++cs.drop (off+us.length))):=by
 unfold Es at hs
 split at hs
 ·rename_i hb
  have hb:=Nat.le_of_ble_eq_true hb
  simp only[oI]at hs
  subst hs
  have h1:=h.len
  have h2:=hv.len
  refine⟨by omega,bA.app (h.take off) (bA.app hv ?_)⟩
  rw[h2];exact h.drop _
 ·cases hs
theorem p7(off:Nat): ∀(l:List Value) (n:Nat) (c:Array Value),(l.zipIdx n).foldl (fun cs (p:Value×Nat)=>cs.setIfInBounds (off+p.2) p.1) c=splice c (off+n) l
 | [],_,_=>rfl
 |v::r,n,c=>by rw[List.zipIdx_cons,List.foldl_cons,p7 off r (n+1)];rfl
def ur:Nat→List Value→List (Nat×Value)
 |_,[]=> []
 |i,v::r=>(i,v)::ur (i+1) r
theorem Cs{k:Nat}: ∀(ps:List Value) (i:Nat) (cells:List Value),(∀v,v∈ps→v.cells.size=k)→cells.length=(i+ps.length)*k→
  Instr.fill (fun i=>some (i*k,k)) (Array.mk cells) (ur i ps)=some (Array.mk (cells.take (i*k)++ps.flatMap fun v=>v.cells.toList))
 | [],i,cells,_,h=>by
   rw[ur,Instr.fill,List.take_of_length_le (by rw[h];simp)];simp
 |v::r,i,cells,hk,h=>by
  have hv:=hk v (by simp)
  have hlen:i*k+k≤cells.length:=by
   rw[h,List.length_cons,show i+(r.length+1)=(i+1)+r.length by omega,Nat.add_mul (i+1),Nat.add_mul i 1,Nat.one_mul];omega
  rw[ur,Instr.fill]
  simp only[hv,ne_eq,not_true_eq_false,decide_false,Bool.false_or,List.size_toArray]
  rw[if_neg (by simp;omega)]
  have Qe:(v.cells.zipIdx.foldl (fun cs (x:Value×Nat)=>cs.setIfInBounds (i*k+x.2) x.1) (Array.mk cells))=splice (Array.mk cells) (i*k) v.cells.toList:=by
   rw[←Array.foldl_toList,Array.toList_zipIdx,p7,Nat.add_zero]
  have hsz:v.cells.toList.length=k:=by simpa using hv
  have:=nM v.cells.toList cells (i*k) (by omega)
  show Instr.fill _ (v.cells.zipIdx.foldl (fun cs (x:Value×Nat)=>cs.setIfInBounds (i*k+x.2) x.1) (Array.mk cells)) _=_
  rw[Qe,this,Cs r (i+1) _ (fun u hu=>hk u (by simp[hu])) (by
   simp only[List.length_append,List.length_take,List.length_drop,hsz]
   rw[h,List.length_cons]at*
   have:(i+1+r.length)*k=(i+(r.length+1))*k:=by congr 1;omega
   rw[this]
   omega)]
  have h1:(i+1)*k=i*k+k:=by rw[Nat.add_mul,Nat.one_mul]
  have t:((cells.take (i*k))++(v.cells.toList++cells.drop (i*k+v.cells.toList.length))).take ((i+1)*k)=cells.take (i*k)++v.cells.toList:=by
   rw[←List.append_assoc]
   exact List.take_left' (by rw[List.length_append,List.length_take,hsz,h1];omega)
  rw[t,List.flatMap_cons,List.append_assoc]
theorem rT{k:Nat}: ∀{ps:List (List Value)} {i:Nat} {c:List Value},(∀v,v∈ps→v.length=k)→ps[i]? =some c→(((ps.flatMap id).drop (i*k)).take k)=c
 |p::r,0,c,hk,h=>by
  simp at h
  subst h
  have:=hk p (by simp)
  rw[List.flatMap_cons,Nat.zero_mul,List.drop_zero,List.take_append]
  simp[←this]
 |p::r,i+1,c,hk,h=>by
  have hp:=hk p (by simp)
  rw[List.flatMap_cons,List.drop_append,show(id p).length=k from hp,List.drop_eq_nil_of_le (by rw[show(id p).length=k from hp,Nat.add_mul];omega),List.nil_append,show(i+1)*k-k=i*k by rw[Nat.add_mul];omega]
  exact rT (fun v hv=>hk v (by simp[hv])) (by simpa using h)
theorem rU{k:Nat}: ∀{ps:List (List Value)},(∀v,v∈ps→v.length=k)→(ps.flatMap id).length=ps.length*k
 | [],_=>by simp
 |p::r,hh=>by
  rw[List.flatMap_cons,List.length_append,rU fun v hv=>hh v (by simp[hv]),show(id p).length=k from hh p (by simp),List.length_cons,Nat.add_mul];omega
section
variable{P:Program}{a:Act}{w:World}{o:Oper}
theorem tL{t len:Nat}{parts:Array (Nat×Operand)}(ho:o.op= .buildSlice t len parts){g:Tag}(hu:P.underlying t=some (.slice (ty g)))(qM:El P ty g)(hbig:len*kk g≤16777216)(hlen:parts.toList.length=len){lo:Nat}(hlo:lo≤w.heap.size)
  {xs:List (T g)}{bn:List (List Nat)}(q1:(parts.toList.map fun p=>(p.1,a.eval p.2))=ur 0 (parts.toList.map fun p=>a.eval p.2))(q2:xs.length=parts.toList.length)(q3:bn.length=xs.length)
  (q4: ∀(i:Nat) (x:T g) (f:List Nat),xs[i]? =some x→bn[i]? =some f→ ∃p:Nat×Operand,parts.toList[i]? =some p∧rd g w (a.eval p.2).cells.toList x f)(q5:Own lo w bn.flatten):
  ∃w',(execOp a.eval o).run P w= .ok (.value (.slice (some ⟨w.heap.size,0,none⟩) len len)) w'∧Below w.heap.size w w'∧ig (kk g) (rd g) lo (ty g) w' (.slice (some ⟨w.heap.size,0,none⟩) len len) xs (w.heap.size::bn.flatten):=by
 have hkp:=eS g
 have qY: ∀v,v∈(parts.toList.map fun p=>a.eval p.2)→v.cells.size=kk g:=by
  intro v hv
  obtain⟨i,hi⟩:=List.getElem?_of_mem hv
  have hil:i<xs.length:=by have:=(List.getElem?_eq_some_iff.1 hi).1;simp at this;rw[q2];simpa using this
  have hfl:i<bn.length:=by omega
  obtain⟨p,h1,h2⟩:=q4 i xs[i] bn[i] (List.getElem?_eq_getElem hil) (List.getElem?_eq_getElem hfl)
  rw[List.getElem?_map,h1]at hi
  simp at hi
  subst hi
  simpa using(cX g).len h2
 cases hq:P.info? (ty g)with
 |none=>simp[El,hq]at qM
 |some inf=>
  simp[El,hq]at qM
  obtain⟨z1,z2,z3⟩:=qM
  let zs:List Value:=(List.range (len*kk g)).map fun j=>(if len*kk g=0 then #[]else(eF g).cells)[j % (if len*kk g=0 then #[]else(eF g).cells).size]!
  have hzl:zs.length=len*kk g:=by simp[zs]
  have hf:=Cs (k:=kk g) (parts.toList.map fun p=>a.eval p.2) 0 zs qY (by rw[hzl,List.length_map,hlen,Nat.zero_add])
  rw[Nat.zero_mul,List.take_zero,List.nil_append]at hf
  have hrun:(execOp a.eval o).run P w= .ok (.value (.slice (some ⟨w.heap.size,0,none⟩) len len)) (w.alloc (.cells (Array.mk ((parts.toList.map fun p=>a.eval p.2).flatMap fun v=>v.cells.toList)) (ty g) (0,0))):=by
   unfold execOp
   have mK:(parts.map fun(p:Nat×Operand)=>(p.1,a.eval p.2)).toList=ur 0 (parts.toList.map fun p=>a.eval p.2):=by
    rw[Array.toList_map];exact q1
   have hzs:((Array.range (len*kk g)).map fun j=>(if len*kk g=0 then #[]else(eF g).cells)[j % (if len*kk g=0 then #[]else(eF g).cells).size]!)=Array.mk zs:=by
    simp only[zs]
    apply Array.ext'
    simp
   have hze:(sizeOf (ty g)).run P w= .ok (kk g) w:=by simp[sizeOf,typeInfo,hq,z2]
   simp only[ho,Instr.buildSlice,Sem.run_bind,run_underlying hu,Result.andThen_ok,hze]
   rw[if_neg (by omega)]
   by_cases hz0:len*kk g=0
   ·simp only[if_pos hz0]at hzs ⊢
    simp only[Sem.run_bind,Sem.run_pure,Result.andThen_ok]
    rw[hzs,mK,hf]
    simp[newRow]
   ·have hzv:(zeroValue (ty g)).run P w= .ok (eF g) w:=by simp[zeroValue,typeInfo,hq,z1]
    simp only[if_neg hz0]at hzs ⊢
    simp only[Sem.run_bind,hzv,Sem.run_pure,Result.andThen_ok]
    rw[hzs,mK,hf]
    simp[newRow]
  have hps:((parts.toList.map fun p=>a.eval p.2).flatMap fun v=>v.cells.toList)=((parts.toList.map fun p=>(a.eval p.2).cells.toList).flatMap id):=by
   simp[List.flatMap_map]
  have Qf: ∀v,v∈(parts.toList.map fun p=>(a.eval p.2).cells.toList)→v.length=kk g:=by
   intro v hv
   obtain⟨p,hp,rfl⟩:=List.mem_map.1 hv
   simpa using qY _ (List.mem_map.2 ⟨p,hp,rfl⟩)
  have EY:=rU Qf
  rw[List.length_map,hlen]at EY
  have hb0:Below w.heap.size w (w.alloc (.cells (Array.mk ((parts.toList.map fun p=>a.eval p.2).flatMap fun v=>v.cells.toList)) (ty g) (0,0))):=(Below.refl _ _).alloc (Nat.le_refl _) _
  have aco:=q5.lt
  refine⟨_,hrun,hb0,((parts.toList.map fun p=>a.eval p.2).flatMap fun v=>v.cells.toList),bn,⟨?_,Or.inr ⟨w.heap.size,0,len,Array.mk ((parts.toList.map fun p=>a.eval p.2).flatMap fun v=>v.cells.toList),?_,hlo,?_,?_,?_,?_,?_⟩⟩,q3,?_,rfl,?_⟩
  ·rw[hps,EY,q2,hlen]
  ·rw[q2,hlen]
  ·exact oL rfl
  ·rw[q2,hlen];exact Nat.le_refl _
  ·unfold maxLen;have:=Nat.le_mul_of_pos_right len hkp;omega
  ·rw[List.size_toArray,hps,EY];omega
  ·rw[List.drop_zero,List.take_of_length_le];simp only[hps,EY,q2,hlen];exact Nat.le_refl _
  ·intro i x f hx Mb
   obtain⟨p,h1,h2⟩:=q4 i x f hx Mb
   have hkey:(((parts.toList.map fun p=>a.eval p.2).flatMap fun v=>v.cells.toList).drop (i*kk g)).take (kk g)=(a.eval p.2).cells.toList:=by
    rw[hps];exact rT Qf (by rw[List.getElem?_map,h1];rfl)
   rw[hkey]
   exact(cX g).below h2 hb0
  ·refine⟨List.nodup_cons.2 ⟨fun hm=>by have:=aco _ hm;omega,q5.nodup⟩,fun b hb=> ?_,fun b hb=> ?_⟩
   ·rcases List.mem_cons.1 hb with rfl|hb
    ·exact hlo
    ·exact q5.ge b hb
   ·rcases List.mem_cons.1 hb with rfl|hb
    ·exact⟨_,_,oL rfl⟩
    ·exact(q5.below hb0).kind b hb
theorem Qg(z:Array Value)(n k i:Nat)(hk:z.size=k)(hi:i<n)(hk0:0<k):(((madeCells z (n*k)).toList.drop (i*k)).take k)=z.toList:=by
 apply List.ext_getElem?
 intro j
 have h5:i*k+k≤n*k:=by
  have:=Nat.mul_le_mul_right k (show i+1≤n by omega)
  rw[Nat.add_mul]at this;omega
 by_cases hj:j<k
 ·rw[List.getElem?_take,if_pos hj,List.getElem?_drop]
  simp only[madeCells,Array.toList_map,Array.toList_range,List.getElem?_map]
  rw[List.getElem?_range (by omega),hk]
  simp only[Option.map_some]
  have hm:(i*k+j)% k=j:=by rw[Nat.mul_comm,Nat.mul_add_mod];exact Nat.mod_eq_of_lt hj
  rw[hm]
  have:j<z.size:=by omega
  simp[this]
 ·rw[List.getElem?_take,if_neg hj]
  rw[List.getElem?_eq_none (by simp;omega)]
theorem Qh{t:Nat}{x y:Operand}(ho:o.op= .makeSlice t x y){g:Tag}(hu:P.underlying t=some (.slice (ty g)))(qM:El P ty g){k1 k2:IntKind}{n:Int}(hx:a.eval x= .int k1 n)(hy:a.eval y= .int k2 n)(h0:0≤n)(hb:n.toNat*cK g≤140737488355328)(hm:n.toNat≤maxLen):
  ∃w' u fp,(execOp a.eval o).run P w= .ok (.value u) w'∧Below w.heap.size w w'∧ig (kk g) (rd g) w.heap.size (ty g) w' u (List.replicate n.toNat (aB g)) fp:=by
 cases hq:P.info? (ty g)with
 |none=>simp[El,hq]at qM
 |some inf=>
  simp[El,hq]at qM
  obtain⟨z1,z2,z3⟩:=qM
  obtain⟨w',hr,hrow,hg⟩:=run_make_full (P:=P) w w.heap.size t (ty g) inf (eF g) (kk g) hu hq z1 z2 k1 k2 n.toNat (by rw[z3,Nat.mul_comm];omega) hm (Nat.le_refl _)
  rw[Int.toNat_of_nonneg h0]at hr
  refine⟨w', .slice (some ⟨w.heap.size,0,none⟩) n.toNat n.toNat,[w.heap.size],?_,⟨hg.os,hg.tape,hg.output,hg.size,fun b hb=>hg.block b hb (by simp)⟩,(madeCells (eF g).cells (n.toNat*kk g)).toList,List.replicate n.toNat [],?_,by simp,?_,?_,?_⟩
  ·unfold execOp
   simp only[ho,hx,hy,Sem.run_bind,hr,Result.andThen_ok,Sem.run_pure]
  ·rw[List.length_replicate];exact gw.of hrow
  ·intro i v f hi hf
   rw[List.getElem?_replicate]at hi hf
   split at hi
   ·rename_i hlt
    rw[if_pos hlt]at hf
    simp only[oI]at hi hf
    subst hi;subst hf
    rw[Qg _ _ _ _ (iJ g) hlt (eS g)]
    exact T7 g
   ·cases hi
  ·simp[Value.ownBlock]
  ·refine⟨by simp,by simp,fun b hb=> ?_⟩
   rcases hrow.2 with⟨h,_⟩| ⟨g',cap,cur,h,_,hh,_⟩
   ·cases h
   ·simp only[Value.slice.injEq,oI,Addr.mk.injEq,and_true]at h
    rw[List.mem_singleton.1 hb,h.1]
    exact⟨_,_,hh⟩
end
end
section
variable{ty:Tag→Nat}
section
variable{P:Program}{zb:cm}{st:St}{a:Act}{w:World}{env:Env}{Q:Exit→Act→World→Prop}{o:Oper}
theorem Ct{hp:Hp}{env:Env}: ∀{z:List Value},(∀v,v∈z→v.oneCell'=true)→bA (RA w hp env) (z.map V.lit) z
 | [],_=>trivial
 |v::r,h=>⟨⟨rfl,h v (by simp)⟩,Ct fun u hu=>h u (by simp[hu])⟩
theorem iS(g:Good ty zb st a.tmps w env){v:V}{u:Value}(h:RA w st.hp env v u)(hv:v≠ .any):u.cells= #[u]:=by
 cases v with
 |any=>exact absurd rfl hv
 |lit x=>obtain⟨rfl,h1⟩:=h;cases u<;>simp_all [Value.cells,Value.oneCell']
 |sl t l=>obtain⟨fp,⟨oa,cap,rfl,_⟩,_⟩:=h;rfl
 |own n=>
  obtain⟨⟨t,l,hl⟩,rfl⟩:=h
  obtain⟨oa,cap,h,_⟩:=RO.sl (g.obj n _ hl)
  rw[h];rfl
 |ptr n off=>obtain⟨_,b,_,rfl⟩:=h;rfl
 |Bt f n=>obtain⟨_,b,_,rfl⟩:=h;rfl
 |uo k=>obtain⟨oa,cap,rfl,_⟩:=h;rfl
 |raw x=>obtain⟨rfl,h1⟩:=h;cases u<;>simp_all [Value.cells,Value.oneCell']
 |qK v t l=>obtain⟨_,fp,⟨oa,cap,rfl,_⟩,_⟩:=h;rfl
 |mG n i off=>obtain⟨t,l,_,b,o,len,cap,_,rfl⟩:=h;rfl
 |ip t x off=>obtain⟨b,o,cs,fp,rfl,_⟩:=h;rfl
 |vw n p t l=>obtain⟨_,⟨fp,⟨oa,cap,rfl,_⟩,_⟩,_⟩:=h;rfl
 |Ei n t l=>obtain⟨_,b,fp,⟨oa,cap,rfl,_⟩,_⟩:=h;rfl
 |mix n c t l=>obtain⟨_,⟨fp,⟨oa,cap,rfl,_⟩,_⟩,_⟩:=h;rfl
 |tG n=>
  obtain⟨⟨t,l,s,hl⟩,rfl⟩:=h
  rcases RO.Cl (g.obj n _ hl)with⟨_,r,lx,_,h,_⟩| ⟨_,_,hv,_,_,⟨oa,cap,h,_⟩,_⟩| ⟨_,_,_,⟨oa,m,cap,h⟩,_⟩| ⟨_,_,us,hB,_⟩
  ·rw[h];rfl
  ·rw[hv,h];rfl
  ·rw[h];rfl
  ·obtain⟨oa,cap,h,_⟩:=hB.sl
   rw[h];rfl
 |Eh n p t x off=>obtain⟨_,b,o,cs,fp,rfl,_⟩:=h;rfl
theorem Uf{op:BinOp}{k k':IntKind}{x y:Int}{vc:List Prop}{v:Value}(h:T8 op k k' x y=some (vc,v))(hv: ∀q,q∈vc→q){t:TypeId}{X Y:Operand}:
  (do eqGuard op t X Y (.int k x) (.int k' y);binOp op t (.int k x) (.int k' y):Sem Value).run P w= .ok v w∧v.oneCell'=true:=by
 have gen:(∀(_: ¬(op= .shl∨op= .shr)),(match decEq k k' with|isTrue _=>bop op k x y|isFalse _=>none)=some (vc,v)→(do eqGuard op t X Y (.int k x) (.int k' y);binOp op t (.int k x) (.int k' y):Sem Value).run P w= .ok v w∧v.oneCell'=true):=by
  intro _ h'
  clear h
  split at h'
  ·rename_i hk _
   subst hk
   exact Xq h' hv
  ·cases h'
 cases op with
 |shl=>
  simp only[T8,oI,pI]at h
  obtain⟨rfl,rfl⟩:=h
  have hy: ¬y<0:=by have:0≤y:=hv _ (List.mem_singleton.2 rfl);omega
  refine⟨?_,rfl⟩
  simp[eqGuard,binOp,Op.shift,hy]
 |shr=>
  simp only[T8,oI,pI]at h
  obtain⟨rfl,rfl⟩:=h
  have hy: ¬y<0:=by have:0≤y:=hv _ (List.mem_singleton.2 rfl);omega
  refine⟨?_,rfl⟩
  simp[eqGuard,binOp,Op.shift,hy]
 |_=>exact gen (by simp) h
theorem Ug{op:BinOp}{x y:ByteArray}{vc:List Prop}{v:Value}(h:NZ op x y=some (vc,v))(hv: ∀q,q∈vc→q){t:TypeId}{X Y:Operand}:
  (do eqGuard op t X Y (.string x) (.string y);binOp op t (.string x) (.string y):Sem Value).run P w= .ok v w∧v.oneCell'=true:=by
 cases op with
 |add=>
  simp only[NZ,oI,pI]at h
  obtain⟨rfl,rfl⟩:=h
  have hy:((x.size+y.size:Nat):Int)≤IntKind.i64.max:=hv _ (List.mem_singleton.2 rfl)
  refine⟨?_,rfl⟩
  have hy': ¬((x.size+y.size:Nat):Int)>IntKind.i64.max:=by omega
  simp only[eqGuard,binOp,Op.stringOp,if_neg hy']
  rfl
 |eql=>
  simp only[NZ,oI,pI]at h
  obtain⟨rfl,rfl⟩:=h
  exact⟨by simp[eqGuard,binOp,Op.stringOp],rfl⟩
 |neq=>
  simp only[NZ,oI,pI]at h
  obtain⟨rfl,rfl⟩:=h
  exact⟨by simp[eqGuard,binOp,Op.stringOp],rfl⟩
 |_=>simp[NZ]at h
theorem Mc{v:S1}{u:Value}{f:FuncId}(hr:eT w st.hp env v u)(h:T9 v=some f):u= .func (.func f) #[] #[]:=by
 unfold T9 at h
 split at h
 ·simp only[oI]at h
  subst h
  exact hr.lit
 ·cases h
theorem N6(l:List UInt8):strOfNums (l.map fun n=>(n.toNat:Int))=mI l:=by
 unfold strOfNums mI
 congr 2
 rw[List.map_map]
 conv=>rhs;rw[←List.map_id l]
 apply List.map_congr_left
 intro n _
 simp
theorem A8(ad:Addr)(cap:Nat):(Conv.bytesToString (.slice (some ad) 0 cap)).run P w= .ok (.string (mI [])) w:=by
 have:=run_bytesToString (P:=P) w ad 0 cap [] (by simp[loadCells,loadCellsFrom])
 exact this
theorem nN{a b:List (List Nat)}(h:a.Sublist b):a.flatten.Sublist b.flatten:=by
 induction h with
 |slnil=>exact List.Sublist.refl _
 |cons x _ ih=>rw[List.flatten_cons];exact ih.trans (List.sublist_append_right _ _)
 |cons_cons x _ ih=>rw[List.flatten_cons,List.flatten_cons];exact List.Sublist.append (List.Sublist.refl _) ih
theorem yS{t:Nat}{x:Operand}{lo hi:Option Operand}(ho:o.op= .slice t x lo hi none){g:Tag}{e:Nat}(hk:cG P t (.sl g e)){t':Tag}{l:List (T t')}(hkk:kk g=kk t'){fp:List Nat}(hx:Sl (kk t') (rd t') w (a.eval x) l fp){n1 n2:Int}
  (h1:(lo=none∧n1=0)∨ ∃y k,lo=some y∧a.eval y= .int k n1)(h2:(hi=none∧n2=l.length)∨ ∃y k,hi=some y∧a.eval y= .int k n2)(q0:0≤n1)(q1:n1≤n2)(q2:n2≤(l.length:Int)):
  ∃u' e9,(execOp a.eval o).run P w= .ok (.value u') w∧Sl (kk t') (rd t') w u' ((l.take n2.toNat).drop n1.toNat) e9∧e9.Sublist fp:=by
 obtain⟨hu,hs⟩:=hk
 obtain⟨oa,cap,hv,hc,hm,h3⟩:=hx
 cases hq:P.info? e with
 |none=>simp[hq]at hs
 |some inf=>
  have hsz:inf.size=kk g:=by simpa[hq]using hs
  have hcap:n2≤(cap:Int):=by omega
  have hn2:0≤n2:=by omega
  have Pm:max n2 0=n2:=by omega
  have hlen:((l.take n2.toNat).drop n1.toNat).length=n2.toNat-n1.toNat:=by simp;omega
  have hrun:(Instr.sliceAt t (.slice oa l.length cap) (lo.map a.eval) (hi.map a.eval) none).run P w= .ok (.slice (if cap=n1.toNat then oa else oa.map (·.add (n1.toNat*kk g))) (n2.toNat-n1.toNat) (cap-n1.toNat)) w:=by
   rcases h1 with⟨rfl,rfl⟩| ⟨y1,k1,rfl,e1⟩<;>rcases h2 with⟨rfl,rfl⟩| ⟨y2,k2,rfl,e2⟩
   all_goals simp[Instr.sliceAt,Instr.slice,Instr.sliceBounds,Instr.sliceBound,asIntOf,run_underlying hu,sizeOf,typeInfo,hq,hsz, *]
  have hex:(execOp a.eval o).run P w= .ok (.value (.slice (if cap=n1.toNat then oa else oa.map (·.add (n1.toNat*kk g))) (n2.toNat-n1.toNat) (cap-n1.toNat))) w:=by
   unfold execOp
   simp only[ho,hv,Option.map_none,Sem.run_bind,hrun,Result.andThen_ok,Sem.run_pure]
  rcases h3 with⟨rfl,rfl,hn⟩| ⟨b,off,bn,rfl,hb,rfl,hE⟩
  ·have e0:n1=0:=by simp at q2;omega
   have e2:n2=0:=by simp at q2;omega
   subst e0;subst e2
   refine⟨_,[],hex,⟨_,_,rfl,by simp,by omega,Or.inl ⟨by simp,rfl,by simp[hn]⟩⟩,List.nil_sublist _⟩
  ·by_cases ZP:cap=n1.toNat
   ·have e0:(l.take n2.toNat).drop n1.toNat= []:=by
     apply List.eq_nil_of_length_eq_zero;omega
    refine⟨_,[],hex,⟨_,_,by rw[hlen],by rw[hlen];omega,by omega,Or.inl ⟨e0,rfl,by omega⟩⟩,List.nil_sublist _⟩
   ·refine⟨_,b::((bn.take n2.toNat).drop n1.toNat).flatten,hex,⟨_,_,by rw[hlen],by rw[hlen];omega,by omega,Or.inr ⟨b,off+n1.toNat*kk t',(bn.take n2.toNat).drop n1.toNat,?_,hb.mono (by rw[Nat.add_assoc, ←Nat.add_mul,Nat.add_sub_cancel' (by omega)];exact Nat.le_refl _),rfl,?_,?_⟩⟩,?_⟩
    ·rw[if_neg ZP,hkk];simp[Addr.add_mid]
    ·have:=hE.1;simp[this]
    ·intro i x f hx hf
     rw[List.getElem?_drop,List.getElem?_take]at hx hf
     split at hx
     ·rename_i hlt
      rw[if_pos hlt]at hf
      obtain⟨cs,k1,k2⟩:=hE.2 _ x f hx hf
      exact⟨cs,by rw[Nat.add_assoc, ←Nat.add_mul];exact k1,k2⟩
     ·cases hx
    ·exact List.Sublist.cons_cons _ (nN ((List.drop_sublist _ _).trans (List.take_sublist _ _)))
theorem Md{t:Nat}{x:Operand}{lo hi:Option Operand}(ho:o.op= .slice t x lo hi none){g:Tag}{e:Nat}(hk:cG P t (.sl g e)){oa:Option Addr}{n cap:Nat}(hv:a.eval x= .slice oa n cap){n1 n2:Int}
  (h1:(lo=none∧n1=0)∨ ∃y k,lo=some y∧a.eval y= .int k n1)(h2:(hi=none∧n2=(n:Int))∨ ∃y k,hi=some y∧a.eval y= .int k n2)(q0:0≤n1)(q1:n1≤n2)(q2:n2≤(n:Int))(q3:n≤cap):
  (execOp a.eval o).run P w= .ok (.value (Pk oa cap (kk g) n1.toNat n2.toNat)) w:=by
 obtain⟨hu,hs⟩:=hk
 cases hq:P.info? e with
 |none=>simp[hq]at hs
 |some inf=>
  have hsz:inf.size=kk g:=by simpa[hq]using hs
  have hcap:n2≤(cap:Int):=by omega
  have hn2:0≤n2:=by omega
  have Pm:max n2 0=n2:=by omega
  have hrun:(Instr.sliceAt t (.slice oa n cap) (lo.map a.eval) (hi.map a.eval) none).run P w= .ok (Pk oa cap (kk g) n1.toNat n2.toNat) w:=by
   rcases h1 with⟨rfl,rfl⟩| ⟨y1,k1,rfl,e1⟩<;>rcases h2 with⟨rfl,rfl⟩| ⟨y2,k2,rfl,e2⟩
   all_goals simp[Instr.sliceAt,Instr.slice,Instr.sliceBounds,Instr.sliceBound,asIntOf,run_underlying hu,sizeOf,typeInfo,hq,hsz,Pk, *]
  unfold execOp
  simp only[ho,hv,Option.map_none,Sem.run_bind,hrun,Result.andThen_ok,Sem.run_pure]
theorem Ie{t:Nat}{x:Operand}{lo:Option Operand}(ho:o.op= .slice t x lo none none){g:Tag}{e:Nat}(hk:cG P t (.sl g e)){oa:Option Addr}{n cap:Nat}(hv:a.eval x= .slice oa n cap)(hc:n≤cap){n1:Int}
  (h1:(lo=none∧n1=0)∨ ∃y k,lo=some y∧a.eval y= .int k n1)(hn:n1=(n:Int)):
  ∃TH,(execOp a.eval o).run P w= .ok (.value (.slice TH 0 (cap-n))) w∧(TH=none→oa=none):=by
 obtain⟨hu,hs⟩:=hk
 cases hq:P.info? e with
 |none=>simp[hq]at hs
 |some inf=>
  have hsz:inf.size=kk g:=by simpa[hq]using hs
  subst hn
  have Pm:max (n:Int) 0=n:=by omega
  refine⟨if cap=n then oa else oa.map (·.add (n*kk g)),?_,fun h=> ?_⟩
  ·have hrun:(Instr.sliceAt t (.slice oa n cap) (lo.map a.eval) none none).run P w= .ok (.slice (if cap=n then oa else oa.map (·.add (n*kk g))) 0 (cap-n)) w:=by
    have h0:(n:Int)≤(cap:Int):=by omega
    rcases h1 with⟨rfl,e1⟩| ⟨y1,k1,rfl,e1⟩
    ·have:n=0:=by omega
     subst this
     simp[Instr.sliceAt,Instr.slice,Instr.sliceBounds,Instr.sliceBound,asIntOf,run_underlying hu,sizeOf,typeInfo,hq,hsz]
    ·simp[Instr.sliceAt,Instr.slice,Instr.sliceBounds,Instr.sliceBound,asIntOf,run_underlying hu,sizeOf,typeInfo,hq,hsz, *]
   unfold execOp
   simp only[ho,hv,Option.map_none,Sem.run_bind,hrun,Result.andThen_ok,Sem.run_pure]
  ·split at h
   ·exact h
   ·simpa using h
theorem bT.at{w:World}: ∀{c:List V} {cs:List Value} {f:List Nat} {i:Nat} {v:V},bT w c cs f→wv c i=some v→ ∃u f',cs[i]? =some u∧RI w v u f'∧f'.Sublist f
 |x::r,u::us,_,0,v,⟨f1,f2,h1,_,rfl⟩,h=>by
  simp only[wv,oI]at h
  subst h
  exact⟨u,f1,rfl,h1,List.sublist_append_left _ _⟩
 |x::r,u::us,_,i+1,v,⟨f1,f2,_,h2,rfl⟩,h=>by
  obtain⟨u',f',k1,k2,k3⟩:=bT.at h2 (show wv r i=some v from h)
  exact⟨u',f',by simpa using k1,k2,k3.trans (List.sublist_append_right _ _)⟩
 | [],_,_,_,_,_,h=>by simp[wv]at h
 |_::_,[],_,_,_,h,_=>h.elim
theorem Cu(g:Good ty zb st a.tmps w env){n:Nat}{t:Tag}{l:List (T t)}(hl:look st.hp n=some (.arr t l)){i:Nat}(hi:i<l.length):
  ∃b o cap cs f,(env n).v= .slice (some ⟨b,o,none⟩) l.length cap∧b∈(env n).fp∧w.rangeAt b (o+i*kk t) cs∧rd t w cs (l.getD i (aB t)) f∧f.Sublist (env n).fp:=by
 obtain⟨oa,cap,hv,_,_,h3⟩:=RO.sl (g.obj n _ hl)
 rcases h3 with⟨rfl,_⟩| ⟨b,o,bn,rfl,hb,eR,he⟩
 ·simp at hi
 ·have hx:l[i]? =some (l.getD i (aB t)):=by rw[List.getD_eq_getElem?_getD,List.getElem?_eq_getElem hi];rfl
  obtain⟨f,hf⟩:=gd he.1 hx
  obtain⟨cs,hr,hE⟩:=he.2 _ _ f hx hf
  exact⟨b,o,cap,cs,f,hv,by rw[eR];simp,hr,hE,by rw[eR];exact(List.sublist_flatten_of_mem (List.mem_of_getElem? hf)).trans (List.sublist_cons_self _ _)⟩
theorem Gg{hp:Hp}{n:Nat}{t0:Tag}{l0:List (T t0)}(hl:look hp n=some (.arr t0 l0)){p:Option (Nat×Nat)}{v:V}{u:Value}{f:List Nat}(h:RI w v u f)(hnd:f.Nodup)(hf: ∀b,b∈f→b∈(env n).fp)
  (gq: ∀i off,p=some (i,off)→ ∃b o len cap,i<l0.length∧wv (dec t0 (l0.getD i (aB t0))) off=some v∧(env n).v= .slice (some ⟨b,o,none⟩) len cap∧b∈(env n).fp∧w.cell? ⟨b,o+i*kk t0+off,none⟩=some u):RA w hp env (ZM n p v) u:=by
 cases v with
 |sl t l=>
  refine⟨⟨t0,l0,hl⟩,⟨f,h,hnd,hf⟩,fun i off Xr=> ?_⟩
  obtain⟨b,o,len,cap,h1,h2,h3,h4,h5⟩:=gq i off Xr
  exact⟨t0,l0,b,o,len,cap,hl,h1,h2,h3,h4,h5⟩
 |lit x=>exact⟨h.1,h.2.1⟩
 |_=>trivial
theorem Me{hp:Hp}{n:Nat}{t0:Tag}{l0:List (T t0)}(hl:look hp n=some (.arr t0 l0)){i:Nat}(hi:i<l0.length){b o len cap:Nat}(hv:(env n).v= .slice (some ⟨b,o,none⟩) len cap)(hb:b∈(env n).fp):
  ∀{c:List V} {us:List Value} {f:List Nat} {k:Nat},bT w c us f→f.Nodup→(∀x,x∈f→x∈(env n).fp)→(∀j v,c[j]? =some v→wv (dec t0 (l0.getD i (aB t0))) (k+j)=some v)→w.rangeAt b (o+i*kk t0+k) us→bA (RA w hp env) (Xl n i k c) us
 | [],[],_,_,_,_,_,_,_=>trivial
 |v::r,u::us,_,k,⟨f1,f2,h1,h2,rfl⟩,hnd,hf,hc,hr=>by
  obtain⟨hn1,hn2,_⟩:=List.nodup_append.1 hnd
  refine⟨Gg hl h1 hn1 (fun x hx=>hf x (List.mem_append_left _ hx)) ?_,Me hl hi hv hb h2 hn2 (fun x hx=>hf x (List.mem_append_right _ hx)) ?_ ?_⟩
  ·rintro i' off' Xr
   simp only[oI,pI]at Xr
   obtain⟨rfl,rfl⟩:=Xr
   exact⟨b,o,len,cap,hi,hc 0 v rfl,hv,hb,by have:=hr 0 u rfl;simpa using this⟩
  ·intro j v' hj
   have:=hc (j+1) v' (by simpa using hj)
   rwa [show k+(j+1)=k+1+j by omega]at this
  ·intro j v' hj
   have:=hr (j+1) v' (by simpa using hj)
   rwa [show o+i*kk t0+k+(j+1)=o+i*kk t0+(k+1)+j by omega]at this
 | [],_::_,_,_,h,_,_,_,_=>h.elim
 |_::_,[],_,_,h,_,_,_,_=>h.elim
theorem Mf{hp:Hp}{n:Nat}{t0:Tag}{l0:List (T t0)}(hl:look hp n=some (.arr t0 l0)):
  ∀{c:List V} {us:List Value} {f:List Nat},bT w c us f→f.Nodup→(∀x,x∈f→x∈(env n).fp)→bA (RA w hp env) (Xm n c) us
 | [],[],_,_,_,_=>trivial
 |v::r,u::us,_,⟨f1,f2,h1,h2,rfl⟩,hnd,hf=>
  ⟨Gg hl h1 (List.nodup_append.1 hnd).1 (fun x hx=>hf x (List.mem_append_left _ hx)) (by simp),Mf hl h2 (List.nodup_append.1 hnd).2.1 (fun x hx=>hf x (List.mem_append_right _ hx))⟩
 | [],_::_,_,h,_,_=>h.elim
 |_::_,[],_,h,_,_=>h.elim
theorem wI: ∀{l:List V} {i:Nat},wv l i=l[i]?
 | [],_=>by simp[wv]
 |_::_,0=>rfl
 |_::r,i+1=>by rw[wv,wI (l:=r)];simp
theorem bT.sub{w:World}{c d:List V}{cs:List Value}{f:List Nat}{off k:Nat}(h:bT w c cs f)(hs:sub c off k=some d): ∃f',bT w d ((cs.drop off).take k) f'∧f'.Sublist f∧d=(c.drop off).take k∧((cs.drop off).take k).length=k:=by
 have drop: ∀(n:Nat) {c:List V} {cs:List Value} {f:List Nat},bT w c cs f→ ∃f',bT w (c.drop n) (cs.drop n) f'∧f'.Sublist f:=by
  intro n
  induction n with
  |zero=>intro c cs f h;exact⟨f,by simpa using h,List.Sublist.refl _⟩
  |succ n ih=>
   intro c cs f h
   cases c with
   |nil=>cases cs with
    |nil=>exact⟨f,by simpa using h,List.Sublist.refl _⟩
    |cons _ _=>exact h.elim
   |cons v r=>cases cs with
    |nil=>exact h.elim
    |cons u us=>
     obtain⟨f1,f2,_,h2,rfl⟩:=h
     obtain⟨f',k1,k2⟩:=ih h2
     exact⟨f',by simpa using k1,k2.trans (List.sublist_append_right _ _)⟩
 have take: ∀(n:Nat) {c:List V} {cs:List Value} {f:List Nat},bT w c cs f→ ∃f',bT w (c.take n) (cs.take n) f'∧f'.Sublist f:=by
  intro n
  induction n with
  |zero=>intro c cs f h;exact⟨[],by simp[bT],List.nil_sublist _⟩
  |succ n ih=>
   intro c cs f h
   cases c with
   |nil=>cases cs with
    |nil=>exact⟨f,by simpa using h,List.Sublist.refl _⟩
    |cons _ _=>exact h.elim
   |cons v r=>cases cs with
    |nil=>exact h.elim
    |cons u us=>
     obtain⟨f1,f2,h1,h2,rfl⟩:=h
     obtain⟨f',k1,k2⟩:=ih h2
     exact⟨f1++f',⟨f1,f',h1,k1,rfl⟩,List.Sublist.append (List.Sublist.refl _) k2⟩
 unfold G.sub at hs
 split at hs
 ·rename_i hb
  have hb:=Nat.le_of_ble_eq_true hb
  simp only[oI]at hs
  obtain⟨f1,h1,h2⟩:=drop off h
  obtain⟨f2,h3,h4⟩:=take k h1
  refine⟨f2,by rw[←hs];exact h3,h4.trans h2,hs.symm,?_⟩
  have:=h.len
  rw[List.length_take,List.length_drop];omega
 ·cases hs
theorem Uh{n:Nat}{p:Option (Nat×Nat)}{t:Tag}{l:List (T t)}{u:Value}{k:Int}(h:RA w st.hp env (.vw n p t l) u)(h0:0≤k)(h1:k<l.length):
  ∃b off len cap,u= .slice (some ⟨b,off,none⟩) len cap∧k<len∧RA w st.hp env (.Eh n (Xn p k.toNat) t (l.getD k.toNat (aB t)) 0) (.pointer (some ⟨b,off+k.toNat*kk t,none⟩)):=by
 have TN:RV w st.hp env n p t l u:=h
 obtain⟨hA,⟨fp,⟨oa,cap,rfl,hc,hm,h3⟩,hnd,hd⟩,_⟩:=h
 have hn:k.toNat<l.length:=by omega
 rcases h3 with⟨rfl,_⟩| ⟨b,off,bn,rfl,hb,rfl,he⟩
 ·simp at hn
 ·have hx:l[k.toNat]? =some (l.getD k.toNat (aB t)):=by rw[List.getD_eq_getElem?_getD,List.getElem?_eq_getElem hn];rfl
  obtain⟨f,hf⟩:=gd he.1 hx
  obtain⟨cs,hr,hE⟩:=he.2 _ _ f hx hf
  refine⟨b,off,l.length,cap,rfl,h1,hA,b,off+k.toNat*kk t,cs,f,rfl,hd b (by simp),hr,hE,((List.sublist_flatten_of_mem (List.mem_of_getElem? hf)).trans (List.sublist_cons_self _ _)).nodup hnd,fun c hc=>hd c (List.mem_cons_of_mem _ (bX hf hc)),fun i o2 j hp=> ?_⟩
  cases p with
  |none=>cases hp
  |some ab=>
   obtain⟨a1,b1⟩:=ab
   simp only[Xn,oI,pI]at hp
   obtain⟨rfl,rfl,rfl⟩:=hp
   exact⟨l,_,b,off,l.length,cap,TN,hn,rfl,rfl,rfl⟩
theorem Gh{t:Nat}{x:Operand}{lo hi:Option Operand}(ho:o.op= .slice t x lo hi none)(hu:P.underlying t=some .string){s:ByteArray}(hv:a.eval x= .string s){n1 n2:Int}
  (h1:(lo=none∧n1=0)∨ ∃y k,lo=some y∧a.eval y= .int k n1)(h2:(hi=none∧n2=s.size)∨ ∃y k,hi=some y∧a.eval y= .int k n2)(q0:0≤n1)(q1:n1≤n2)(q2:n2≤(s.size:Int)):
  o.wp P a w (wG ty st a w env o.dst (.one (.a (.lit (.string (s.extract n1.toNat n2.toNat))))) []) Q:=by
 have hn2:0≤n2:=by omega
 have Pm:max n2 0=n2:=by omega
 have hrun:(Instr.sliceAt t (.string s) (lo.map a.eval) (hi.map a.eval) none).run P w= .ok (.string (s.extract n1.toNat n2.toNat)) w:=by
  rcases h1 with⟨rfl,rfl⟩| ⟨y1,k1,rfl,e1⟩<;>rcases h2 with⟨rfl,rfl⟩| ⟨y2,k2,rfl,e2⟩
  all_goals simp[Instr.sliceAt,Instr.slice,Instr.sliceBounds,Instr.sliceBound,asIntOf,run_underlying hu, *]
 refine cP (u:= .string (s.extract n1.toNat n2.toNat)) ?_ ⟨rfl,rfl⟩
 unfold execOp
 simp only[ho,hv,Option.map_none,Sem.run_bind,hrun,Result.andThen_ok,Sem.run_pure]
theorem N7(g:Good ty zb st a.tmps w env){v:V}{u:Value}(hr:eT w st.hp env (.a v) u){l:List UInt8}(hl:bytesOf st v=some l){s e t:Nat}(hs:P.underlying s=some (.slice e))(he:P.underlying e=some (.int .u8))(ht:P.underlying t=some .string):
  (convert s t u).run P w= .ok (.string (mI l)) w:=by
 have key: ∀{b off len cap:Nat},len=l.length→(∀i x,l[i]? =some x→w.cell? ⟨b,off+i,none⟩=some (.int .u8 x.toNat))→(convert s t (.slice (some ⟨b,off,none⟩) len cap)).run P w= .ok (.string (mI l)) w:=by
  intro b off len cap hlen hc
  rw[run_convert_bytes_arg w s e hs he b off len cap (l.map fun n=>(n.toNat:Int)) (by simp[hlen]) (fun i hi=> ?_) t ht,N6]
  have hi2:i<l.length:=by omega
  rw[hc i _ (List.getElem?_eq_getElem hi2),List.getD_eq_getElem?_getD,List.getElem?_map,List.getElem?_eq_getElem hi2]
  rfl
 have nil: ∀{c:Nat},(convert s t (.slice none 0 c)).run P w= .ok (.string (mI [])) w:=by
  intro c
  rw[run_convert_bytes_nil w s e hs he 0 c t ht];rfl
 have sl: ∀{fp:List Nat},Sl 1 Kr w u l fp→(convert s t u).run P w= .ok (.string (mI l)) w:=by
  rintro fp ⟨oa,cap,rfl,_,_,h3⟩
  rcases h3 with⟨rfl,_,_⟩| ⟨b,off,bn,rfl,_,_,hE⟩
  ·cases oa with
   |none=>exact nil
   |some ad=>
    rw[run_convert_bytes_string w s t e _ _ _ hs he ht]
    exact A8 ad cap
  ·refine key rfl fun i x hx=> ?_
   obtain⟨f,hf⟩:=gd hE.1 hx
   obtain⟨cs,q1,rfl,_⟩:=hE.2 i x f hx hf
   have:=q1 0 _ rfl
   simpa using this
 unfold bytesOf at hl
 split at hl
 ·simp only[oI]at hl
  subst hl
  obtain⟨fp,h,_⟩:=hr
  exact sl h
 ·rename_i n
  split at hl
  ·rename_i l' hlk
   simp only[oI]at hl
   subst hl
   obtain⟨_,hu⟩:=hr
   have hb:Sl 1 Kr w (env n).v l' (env n).fp:=RO.sl (g.obj n _ hlk)
   rw[←show u=(env n).v from hu]at hb
   exact sl hb
  ·cases hl
 ·simp only[oI]at hl
  subst hl
  obtain⟨_,⟨fp,h,_⟩,_⟩:=hr
  exact sl h
 ·simp only[oI]at hl
  subst hl
  have hu:=(show eT w st.hp env (.a (.lit F7)) u from hr).lit
  rw[hu]
  exact nil
 ·cases hl
theorem jo{p:List (Nat×Bool)}(hop: ∀{x v},ff st p x=some v→eT w st.hp env v (a.eval x)){z n:Int}{b:Option Operand}(h:F8 st p z b=some n):(b=none∧n=z)∨ ∃x k,b=some x∧a.eval x= .int k n:=by
 cases b with
 |none=>simp only[F8,oI]at h;exact Or.inl ⟨rfl,h.symm⟩
 |some x=>
  simp only[F8]at h
  split at h
  ·rename_i k i hx
   simp only[oI]at h
   subst h
   exact Or.inr ⟨x,k,rfl,(hop hx).lit⟩
  ·cases h
theorem EZ{m:Nat}{t:Tag}{l:List (T t)}{w':World}{u:Value}{fp:List Nat}(hr:(execOp a.eval o).run P w= .ok (.value u) w')(hb:Below w.heap.size w w')(hB:ig (kk t) (rd t) w.heap.size (ty t) w' u l fp):
  o.wp P a w (wG ty st a w env o.dst (.one (.a (.own m))) [(m, .arr t l)]) Q:=by
 unfold Oper.wp
 rw[hr]
 obtain⟨env',hN,hl⟩:=ke.list (ty:=ty) (hp:=st.hp) (env:=env) (os:= [(m, .arr t l)]) (ce:= [⟨u,fp⟩]) hb (by simp[gm,look]) ⟨⟨fun _ _=>RO.EU (ig.mono hB (Nat.zero_le _)),(ig.own hB).ge⟩,trivial⟩ (by simpa using(ig.own hB).nodup)
 have h2:env' m=⟨u,fp⟩:=hl.1.2
 exact⟨u,env',rfl,hN,⟨t,l,look_eq⟩,by rw[h2]⟩
theorem oP{α:Type}{k:Nat}{E:ER α}(G:fJ k E)(hk:0<k){w:World}{u:Value}{l:List α}{fp:List Nat}(h:Sl k E w u l fp):
  ∃(news:List Value) (fx:List (List Nat)),Src w u l.length news∧fx.length=l.length∧news.length=l.length*k∧(∀i x f,l[i]? =some x→fx[i]? =some f→E w ((news.drop (i*k)).take k) x f)∧fx.flatten.Sublist fp∧ ∀b r,fp=b::r→fx.flatten=r:=by
 obtain⟨oa,cap,rfl,hc,hm,h3⟩:=h
 rcases h3 with⟨rfl,rfl,hno⟩| ⟨b,off,bn,rfl,hb,rfl,he⟩
 ·refine⟨[],[],?_,rfl,by simp,by simp,by simp,fun b r h=>by cases h⟩
  cases oa with
  |none=>exact Or.inl ⟨by simp[hno],rfl,rfl⟩
  |some a=>exact Or.inr ⟨a,cap,rfl,by simp⟩
 ·have hcell: ∀j,j<l.length*k→ ∃v,w.cell? ⟨b,off+j,none⟩=some v:=by
   intro j hj
   have hi:j/k<l.length:=Nat.div_lt_of_lt_mul (by rw[Nat.mul_comm];omega)
   obtain⟨f,hf⟩:=gd he.1 (List.getElem?_eq_getElem hi)
   obtain⟨cs,hr,hE⟩:=he.2 _ _ f (List.getElem?_eq_getElem hi) hf
   have hl:=G.len hE
   have hml:=Nat.mod_lt j hk
   have:=hr (j % k) cs[j % k] (List.getElem?_eq_getElem (by omega))
   refine⟨cs[j % k]'(by omega),?_⟩
   rw[←this]
   congr 2
   have:=Nat.div_add_mod j k
   have:=Nat.mul_comm k (j/k)
   omega
  refine⟨(List.range (l.length*k)).map fun j=>(w.cell? ⟨b,off+j,none⟩).getD undef,bn,Or.inr ⟨_,cap,rfl,?_⟩,he.1,by simp,?_,List.sublist_cons_self _ _,fun b r h=>by cases h;rfl⟩
  ·intro j u hu
   have hj:j<l.length*k:=by have:=(List.getElem?_eq_some_iff.1 hu).1;simpa using this
   obtain⟨v,hv⟩:=hcell j hj
   simp[hj,hv]at hu
   rw[Addr.add_mid,hv,hu]
  ·intro i x f hx hf
   obtain⟨cs,hr,hE⟩:=he.2 i x f hx hf
   have hl:=G.len hE
   have hi:i<l.length:=(List.getElem?_eq_some_iff.1 hx).1
   have h5:i*k+k≤l.length*k:=by
    have:=Nat.mul_le_mul_right k (show i+1≤l.length by omega)
    rw[Nat.add_mul]at this;omega
   have:(((List.range (l.length*k)).map fun j=>(w.cell? ⟨b,off+j,none⟩).getD undef).drop (i*k)).take k=cs:=by
    apply List.ext_getElem?
    intro j
    by_cases hj:j<k
    ·rw[List.getElem?_take,if_pos hj,List.getElem?_drop]
     have h6:=hr j cs[j] (List.getElem?_eq_getElem (by omega))
     rw[List.getElem?_map,List.getElem?_range (by omega)]
     simp[←Nat.add_assoc,h6,show j<cs.length by omega]
    ·rw[List.getElem?_take,if_neg hj,List.getElem?_eq_none (by omega)]
   rw[this];exact hE
theorem Ui{α:Type}{k:Nat}{E:ER α}(G:fJ k E)(hk:0<k){w:World}{l:List α}{news:List Value}{fx:List (List Nat)}(hf:fx.length=l.length)(hl:news.length=l.length*k)
  (hE: ∀i x f,l[i]? =some x→fx[i]? =some f→E w ((news.drop (i*k)).take k) x f): ∀u,u∈news→u.oneCell'=true:=pS G hf hl hk hE
theorem Uj{P:Program}{w:World}{t ty' e:TypeId}{z:Value}{k bytes:Nat}(ht:P.underlying t=some (.slice e))(PA:(P.info? e).map (fun i=>(i.zero,i.size,i.bytes))=some (some z,k,bytes))(hzs:z.cells.size=k)(hk:0<k)
  {n:Nat}{oa:Option Addr}{olds:List Value}(Xs:Src w (.slice oa n n) n olds)(hlo:olds.length=n*k)
  {m:Nat}{y:Value}{news:List Value}(ZQ:Src w y m news)(hl:news.length=m*k)(h1: ∀u,u∈news→u.oneCell'=true)(b1:n+m≤maxLen)(b2:(n+m)*bytes≤140737488355328):
  ∃v' w',(Builtin.append_ #[t,t] ty' #[.slice oa n n,y]).run P w= .ok v' w'∧((m=0∧v'= .slice oa n n∧w'=w)∨(w'.ownsRow w.heap.size e k v' (n+m) (olds++news)∧w.grownBy w' none)):=by
 obtain⟨i,hi,hz,hsize,hby⟩:=info_parts PA
 rcases ZQ with⟨rfl,rfl,rfl⟩| ⟨a,c,rfl,hnews⟩
 ·refine⟨.slice oa n n,w,?_,Or.inl ⟨rfl,rfl,rfl⟩⟩
  cases oa with
  |none=>simp[Builtin.append_,run_underlying ht,sizeOf,typeInfo,hi,Builtin.lenOf,Builtin.firstCells,storeCells]
  |some b=>simp[Builtin.append_,run_underlying ht,sizeOf,typeInfo,hi,Builtin.lenOf,Builtin.firstCells,storeCells]
 ·by_cases hm:m=0
  ·subst hm
   have hn0:news= []:=List.eq_nil_of_length_eq_zero (by omega)
   subst hn0
   refine⟨.slice oa n n,w,?_,Or.inl ⟨rfl,rfl,rfl⟩⟩
   have hfc:=run_firstCells_some (P:=P) w i.size 0 a 0 c [] (by simp) (by simp)
   cases oa with
   |none=>simp[Builtin.append_,run_underlying ht,sizeOf,typeInfo,hi,Builtin.lenOf,hfc]
   |some b=>simp[Builtin.append_,run_underlying ht,sizeOf,typeInfo,hi,Builtin.lenOf,hfc,storeCells]
  ·rcases Xs with⟨hx,rfl,rfl⟩| ⟨b,cb,hx,holds⟩
   ·simp only[Value.slice.injEq]at hx
    obtain⟨rfl,_⟩:=hx
    obtain⟨v',w',hrun,r1,r2,_⟩:=run_append_own (P:=P) w w.heap.size t ty' e i z k bytes ht hi hz hsize hby hzs hk (.slice none 0 0) 0 [] (World.ownsRow_nil w _ e k) a m c news hl hnews h1 b1 b2 (Nat.le_refl _)
    exact⟨v',w',hrun,Or.inr ⟨r1,r2⟩⟩
   ·simp only[Value.slice.injEq]at hx
    obtain⟨rfl,_,rfl⟩:=hx
    obtain⟨v',w',hrun,r1,r2⟩:=run_append_arg_grows (P:=P) w t ty' e i z k bytes ht hi hz hsize hby hzs hk b n n olds hlo holds a m c news hl hnews (by omega) b1 b2
    exact⟨v',w',hrun,Or.inr ⟨r1,r2⟩⟩
theorem Xt{α:Type}{k:Nat}{E:ER α}{w:World}{oa:Option Addr}{cap:Nat}{l:List α}{fp:List Nat}(h:Sl k E w (.slice oa l.length cap) l fp){j q:Nat}(hj:j≤l.length)(hq:q=0):
  ∃e9,Sl k E w (.slice (if j=0 then oa else oa.map (·.add q)) j j) (l.take j) e9∧ ∀b,b∈e9→b∈fp:=by
 subst hq
 obtain⟨TH,cap',hu,hc,hm,h3⟩:=h
 simp only[Value.slice.injEq,true_and]at hu
 obtain⟨rfl,rfl⟩:=hu
 have hlen:(l.take j).length=j:=by rw[List.length_take];omega
 by_cases h0:j=0
 ·subst h0
  refine⟨[],⟨oa,0,by simp,by simp,Nat.zero_le _,Or.inl ⟨by simp,rfl,rfl⟩⟩,by simp⟩
 ·rcases h3 with⟨rfl,_⟩| ⟨b,off,bn,rfl,hb,rfl,he⟩
  ·simp at hj;omega
  ·rw[if_neg h0]
   refine⟨b::(bn.take j).flatten,⟨_,j,by rw[hlen],by omega,by omega,Or.inr ⟨b,off,bn.take j,by simp[Addr.add_mid],hb.mono (Nat.add_le_add_left (Nat.mul_le_mul_right _ (by omega)) _),rfl,?_,fun i x f hx hf=> ?_⟩⟩,fun c hc=> ?_⟩
   ·have:=he.1;simp[this]
   ·rw[List.getElem?_take]at hx hf
    split at hx
    ·rename_i hij
     rw[if_pos hij]at hf
     exact he.2 i x f hx hf
    ·cases hx
   ·rcases List.mem_cons.1 hc with rfl|hc
    ·simp
    ·exact List.mem_cons_of_mem _ ((nN (List.take_sublist j bn)).subset hc)
theorem Xu{α:Type}{k:Nat}{E:ER α}{w:World}{lo e:Nat}{v:Value}{l:List α}{xs:List Value}{bn:List (List Nat)}(h:w.ownsRow lo e k v l.length xs)(hf:bn.length=l.length)(he: ∀i x f,l[i]? =some x→bn[i]? =some f→E w ((xs.drop (i*k)).take k) x f):
  Sl k E w v l (v.ownBlock.toList++bn.flatten):=by
 have hlt:=h.lt
 have hcells: ∀g,v.ownBlock=some g→ ∀j u,xs[j]? =some u→w.cell? ((⟨g,0,none⟩:Addr).add j)=some u:=fun g hg=>h.cells (g:=g) hg
 rcases h.2 with⟨rfl,h0⟩| ⟨g,cap,cur,rfl,TI,hg,hnc,hcm,hcs,BV⟩
 ·have hl:l= []:=List.eq_nil_of_length_eq_zero h0
  subst hl
  have:bn= []:=List.eq_nil_of_length_eq_zero (by simpa using hf)
  subst this
  exact⟨none,0,rfl,Nat.le_refl _,Nat.zero_le _,Or.inl ⟨rfl,rfl,rfl⟩⟩
 ·refine⟨some ⟨g,0,none⟩,cap,rfl,hnc,hcm,Or.inr ⟨g,0,bn,rfl,⟨cur,e,(0,0),hg,by omega⟩,rfl,FV hf (fun j u hu=> ?_) he⟩⟩
  have:=hcells g rfl j u hu
  rwa [Addr.add_mid,Nat.zero_add]at this
theorem Ig{w:World}{hp:Hp}{env:Env}: ∀{l:List V} {us:List Value},plain l=true→bA (RA w hp env) l us→bT w l us []:=by
 intro l
 induction l with
 |nil=>intro us _ h;cases us with
  |nil=>rfl
  |cons _ _=>exact h.elim
 |cons v r ih=>
  intro us mK h
  cases us with
  |nil=>exact h.elim
  |cons u us=>
   unfold plain at mK
   split at mK
   ·rename_i heq;cases heq
   ·cases mK
   ·rename_i heq
    simp only[List.cons.injEq]at heq
    obtain⟨rfl,rfl⟩:=heq
    exact⟨[],[],⟨h.1.1,h.1.2,rfl⟩,ih mK h.2,rfl⟩
   ·cases mK
theorem Mg(g:Good ty zb st a.tmps w env): ∀{l c:List V} {n:Nat} {us:List Value},bA (RA w st.hp env) l us→vg st.hp l=some (c,n)→ ∃t l' fp,look st.hp n=some (.arr t l')∧bT w c us fp∧fp.Nodup∧ ∀b,b∈fp→b∈(env n).fp
 | [],_,_,_,_,h=>by simp[vg]at h
 |v::r,c,n,us,hr,h=>by
  cases us with
  |nil=>exact hr.elim
  |cons u us=>
   unfold vg at h
   split at h
   ·rename_i m r' he
    simp only[List.cons.injEq]at he
    obtain⟨rfl,rfl⟩:=he
    split at h
    ·rename_i t l hl mK
     simp only[oI,pI]at h
     obtain⟨rfl,rfl⟩:=h
     obtain⟨_,rfl⟩:=hr.1
     exact⟨t,l,(env m).fp,hl,⟨_,[],RO.sl (g.obj m _ hl),Ig mK hr.2,by simp⟩,(RO.own (g.obj m _ hl)).nodup,fun _ hb=>hb⟩
    ·cases h
   ·rename_i m pp t l r' he
    simp only[List.cons.injEq]at he
    obtain⟨rfl,rfl⟩:=he
    split at h
    ·rename_i t0 l0 hl mK
     simp only[oI,pI]at h
     obtain⟨rfl,rfl⟩:=h
     obtain⟨_,⟨fp,h1,h2,h3⟩,_⟩:=hr.1
     exact⟨t0,l0,fp,hl,⟨fp,[],h1,Ig mK hr.2,by simp⟩,h2,h3⟩
    ·cases h
   ·cases h
   ·rename_i x r' _ he
    simp only[List.cons.injEq]at he
    obtain⟨rfl,rfl⟩:=he
    split at h
    ·rename_i c' n' h'
     simp only[oI,pI]at h
     obtain⟨rfl,rfl⟩:=h
     obtain⟨t,l',fp,h1,h2,h3,h4⟩:=Mg g hr.2 h'
     exact⟨t,l',fp,h1,⟨[],_,⟨hr.1.1,hr.1.2,rfl⟩,h2,by simp⟩,h3,h4⟩
    ·cases h
   ·cases h
theorem KA(g:Good ty zb st a.tmps w env){s:S1}{u:Value}(hr:eT w st.hp env s u){c:List V}{n:Nat}(h:vg st.hp (cellsOf s)=some (c,n)):bA (RA w st.hp env) (cellsOf s) u.cells.toList:=by
 cases s with
 |agg l=>obtain⟨cs,rfl,hl⟩:=hr;exact hl
 |a v=>
  have hv:v≠ .any:=by rintro rfl;simp[cellsOf,vg]at h
  have:=iS g (show RA w st.hp env v u from hr) hv
  rw[this]
  exact⟨hr,trivial⟩
theorem E0(g:Good ty zb st a.tmps w env){p:List (Nat×Bool)}(hp:holds a.tmps p){t:Tag}: ∀{ps:List (Nat×Operand)} {i:Nat} {vc:List Prop} {xs:List (T t)},ou st p t i ps=some (vc,xs)→(∀q,q∈vc→q)→
  (ps.map fun p=>(p.1,a.eval p.2))=ur i (ps.map fun p=>a.eval p.2)∧xs.length=ps.length∧ ∀(i:Nat) (x:T t),xs[i]? =some x→ ∃p:Nat×Operand,ps[i]? =some p∧rd t w (a.eval p.2).cells.toList x []
 | [],i,vc,xs,h,_=>by
   simp only[ou,oI,pI]at h
   obtain⟨rfl,rfl⟩:=h
   exact⟨rfl,rfl,by simp⟩
 | (j,x)::r,i,vc,xs,h,hv=>by
   simp only[ou]at h
   split at h
   ·rename_i s hij hx
    have hij:=Nat.eq_of_beq_eq_true hij
    subst hij
    split at h
    ·rename_i nH y vcs ys mK he hb
     simp only[oI,pI]at h
     obtain⟨rfl,rfl⟩:=h
     obtain⟨q1,q2,q3⟩:=E0 g hp hb (fun q hq=>hv q (List.mem_append_right _ hq))
     have hc: ∃us,(a.eval x).cells.toList=us∧bT w (cellsOf s) us []:=by
      have hs:=dB g hp hx
      have key: ∀{l:List V} {us:List Value},plain l=true→bA (RA w st.hp env) l us→bT w l us []:=by
       intro l
       induction l with
       |nil=>intro us _ h;cases us with
        |nil=>rfl
        |cons _ _=>exact h.elim
       |cons v r ih=>
        intro us mK h
        cases us with
        |nil=>exact h.elim
        |cons u us=>
         unfold plain at mK
         split at mK
         ·rename_i heq;cases heq
         ·cases mK
         ·rename_i heq
          simp only[List.cons.injEq]at heq
          obtain⟨rfl,rfl⟩:=heq
          exact⟨[],[],⟨h.1.1,h.1.2,rfl⟩,ih mK h.2,rfl⟩
         ·cases mK
      cases s with
      |agg l=>
       obtain⟨cs,hu,hl⟩:=hs
       exact⟨cs,by rw[hu];rfl,key mK hl⟩
      |a v=>
       have hne:v≠ .any:=by rintro rfl;cases mK
       exact⟨[a.eval x],by rw[iS g hs hne],key mK ⟨hs,trivial⟩⟩
     obtain⟨us,Qi,Kn⟩:=hc
     refine⟨by simp[ur,q1],by simp[q2],fun i' x' hx'=> ?_⟩
     cases i' with
     |zero=>
      simp at hx'
      subst hx'
      exact⟨(i,x),rfl,by rw[Qi];exact pX t he (fun q hq=>hv q (List.mem_append_left _ hq)) Kn⟩
     |succ n=>
      obtain⟨p,h1,h2⟩:=q3 n x' (by simpa using hx')
      exact⟨p,by simpa using h1,h2⟩
    ·cases h
   ·cases h
theorem Uk(g:Good ty zb st a.tmps w env){p:List (Nat×Bool)}(hp:holds a.tmps p){x:Operand}{k:IntKind}{i:Int}(h:N1 st p x=some (k,i)):a.eval x= .int k i:=by
 unfold N1 at h
 split at h
 ·rename_i k' i' hx
  simp only[oI,pI]at h
  obtain⟨rfl,rfl⟩:=h
  exact(dB g hp hx).lit
 ·cases h
theorem Cv(g:Good ty zb st a.tmps w env){p:List (Nat×Bool)}(hp:holds a.tmps p): ∀{xs:List Operand} {ys:List (IntKind×Int)},wz st p xs=some ys→xs.map a.eval=ys.map fun y=> .int y.1 y.2
 | [],ys,h=>by simp only[wz,oI]at h;subst h;rfl
 |x::r,ys,h=>by
  simp only[wz]at h
  split at h
  ·rename_i y ys' h1 h2
   simp only[oI]at h
   subst h
   rw[List.map_cons,List.map_cons,Cv g hp h2,Uk g hp h1]
  ·cases h
theorem Cw{F:Int→Int→Int}{f:Value→Value→Sem Value}(hf: ∀(k:IntKind) (x y:Int),f (.int k x) (.int k y)=pure (.int k (F x y))){k:IntKind}: ∀{ys:List (IntKind×Int)} {x z:Int},ET F k x ys=some z→(List.foldlM f (.int k x) (ys.map fun y=> .int y.1 y.2)).run P w= .ok (.int k z) w
 | [],x,z,h=>by simp only[ET,oI]at h;subst h;rfl
 | (k',y)::r,x,z,h=>by
   simp only[ET]at h
   split at h
   ·rename_i hk _
    subst hk
    rw[List.map_cons,List.foldlM_cons,hf]
    simp only[pure_bind]
    exact Cw hf h
   ·cases h
theorem Ih(g:Good ty zb st a.tmps w env){p:List (Nat×Bool)}(hp:holds a.tmps p){n:Nat}{fo:List Nat}{pl:Nat→Option (Nat×Nat)}(mK: ∀j o k,nF fo j=some o→Wl n fo j=some k→pl j=some (o,k)):
  ∀{ps:List (Nat×Operand)} {c c':List V} {cs:List Value},qL st p n fo ps c=some c'→bA (RA w st.hp env) c cs→
   ∃cs',Instr.fill pl (Array.mk cs) (ps.map fun q=>(q.1,a.eval q.2))=some (Array.mk cs')∧bA (RA w st.hp env) c' cs'
 | [],c,c',cs,h,hc=>by
   simp only[qL,oI]at h
   subst h
   exact⟨cs,rfl,hc⟩
 | (j,x)::r,c,c',cs,h,hc=>by
   simp only[qL]at h
   split at h
   ·rename_i o' k s h1 h2 hx
    split at h
    ·rename_i c1 hna hs
     simp only[Bool.and_eq_true]at hna
     have hk:=Nat.eq_of_beq_eq_true hna.2
     have AB:=vh g hp hx
     have hcs: ∃us,(a.eval x).cells=Array.mk us∧bA (RA w st.hp env) (cellsOf s) us:=by
      cases s with
      |agg l=>obtain⟨us,hu,hl⟩:=AB;exact⟨us,by rw[hu];rfl,hl⟩
      |a v=>
       have hne:v≠ .any:=by rintro rfl;simp[cellsOf,rQ]at hna
       exact⟨[a.eval x],iS g AB hne,AB,trivial⟩
     obtain⟨us,Qi,Ko⟩:=hcs
     obtain⟨q1,q2⟩:=Gf hc Ko hs
     obtain⟨cs',h3,h4⟩:=Ih g hp mK h q2
     refine⟨cs',?_,h4⟩
     rw[List.map_cons,Instr.fill,mK j o' k h1 h2]
     simp only[Qi]
     have hl:=Ko.len
     rw[if_neg (by simp;omega)]
     have Qe:((Array.mk us).zipIdx.foldl (fun cs (x:Value×Nat)=>cs.setIfInBounds (o'+x.2) x.1) (Array.mk cs))=splice (Array.mk cs) o' us:=by
      rw[←Array.foldl_toList,Array.toList_zipIdx,p7,Nat.add_zero]
     show Instr.fill _ ((Array.mk us).zipIdx.foldl (fun cs (x:Value×Nat)=>cs.setIfInBounds (o'+x.2) x.1) (Array.mk cs)) _=_
     rw[Qe,nM us cs o' q1]
     exact h3
    ·cases h
   ·cases h
theorem wJ{w:World}{t:Nat}{d:Nat}(hu:P.underlying t=some .bool){x y:Bool}:(Op.equalIn (d+1) t (.bool x) (.bool y)).run P w= .ok (x==y) w:=by
 simp[Op.equalIn,run_underlying hu]
theorem Qj{x:Operand}{op:Op}{out:Out}(eJ:o.op=op)(hm:op= .move x∨op= .assign x)(g:Good ty zb st a.tmps w env)(h:PZ st x=some out):o.wp P a w (wG ty st a w env o.dst out.v out.o) Q:=by
 unfold PZ at h
 split at h
 ·rename_i t
  split at h
  ·rename_i l hl
   simp only[oI]at h
   subst h
   have hr:=g.slot t _ hl
   rcases hm with rfl|rfl
   ·exact Co (by unfold execOp;simp only[eJ,Sem.run_pure];rfl) hr
   ·exact Co (by unfold execOp;simp only[eJ,Sem.run_pure];rfl) hr
  ·cases h
 ·cases h
theorem N8{n:Nat}(hr:(execOp a.eval o).run P w= .ok (.value (.map (some w.heap.size))) (w.alloc (.map #[] 0))):
  o.wp P a w (wG ty st a w env o.dst (.one (.a (.tG n))) [(n, .eZ .int [] .mp)]) Q:=by
 unfold Oper.wp
 rw[hr]
 have hm: ∀gq env',RO ty (w.alloc (.map #[] 0)) gq env' n (.eZ .int [] .mp) ⟨.map (some w.heap.size),[w.heap.size]⟩:=fun _ _=>⟨w.heap.size,[],rfl,rfl,#[],0,(Go.MapKept.heap_alloc w _).1,rfl⟩
 obtain⟨env',h1,h2⟩:=ke.list (ty:=ty) (hp:=st.hp) (env:=env) (os:= [(n, .eZ .int [] .mp)]) (ce:= [⟨.map (some w.heap.size),[w.heap.size]⟩]) ((Below.refl _ _).alloc (Nat.le_refl _) _) rfl ⟨⟨hm,by simp⟩,trivial⟩ (by simp)
 exact⟨_,env',rfl,h1,⟨.int,[], .mp,by simp[look]⟩,by rw[h2.1.2]⟩
theorem Ii{Γ:Nat→TK}(C: ∀t,cG P t (Γ t)){cr:List (Nat×CR)}{p:List (Nat×Bool)}{d m:Nat}{out:Out}(h:quiet Γ (Gb P ty) (Sound ty P) cr st p d m o.op=some out)
  (g:Good ty zb st a.tmps w env)(hp:holds a.tmps p)(hA:F5 w)(hv: ∀q,q∈out.vc→q)(hf:fresh st.hp out.o=true)(hn:gm out.o=true):
  o.wp P a w (wG ty st a w env o.dst out.v out.o) Q:=by
 have hop: ∀{q x v},holds a.tmps q→ff st q x=some v→eT w st.hp env v (a.eval x):=fun hq hx=>dB g hq hx
 generalize eJ:o.op=op at h
 cases op with
 |move x=>
  simp only[quiet]at h
  split at h
  ·rename_i v hx
   simp only[dA,oI]at h
   subst h
   exact cP (by unfold execOp;simp only[eJ,Sem.run_pure]) (vh g hp hx)
  ·exact Qj eJ (Or.inl rfl) g h
 |assign x=>
  simp only[quiet]at h
  split at h
  ·rename_i v hx
   simp only[dA,oI]at h
   subst h
   exact cP (by unfold execOp;simp only[eJ,Sem.run_pure]) (vh g hp hx)
  ·exact Qj eJ (Or.inr rfl) g h
 |pick c x y=>
  cases c with
  |tmp c=>
   simp only[quiet]at h
   split at h
   ·rename_i t u v h1 h2 h3
    simp only[dA,oI]at h
    subst h
    have hc:=(hop hp h1).lit
    have HI:a.tmps[c]? =some (.bool t):=Kz hc
    refine cP (u:= .bool (if t then u else v)) ?_ ⟨rfl,rfl⟩
    unfold execOp
    cases t with
    |true=>
     have hx:=(hop (q:=(c,true)::p) (by intro e he;rcases List.mem_cons.1 he with rfl|he;exact HI;exact hp e he) h2).lit
     simp[eJ,hc,hx,asBool]
    |false=>
     have hx:=(hop (q:=(c,false)::p) (by intro e he;rcases List.mem_cons.1 he with rfl|he;exact HI;exact hp e he) h3).lit
     simp[eJ,hc,hx,asBool]
   ·cases h
  |_=>simp[quiet]at h
 |box e x=>
  simp only[quiet]at h
  split at h
  ·rename_i l hx
   simp only[oI]at h
   subst h
   obtain⟨cs,hu,hl⟩:=hop hp hx
   exact yR (cs:=cs) (e:=e) (by unfold execOp;simp[eJ,Instr.box,newVar,newRow,hu,Value.cells]) g hf hl
  ·cases h
  ·rename_i v hne hx
   simp only[oI]at h
   subst h
   have hr:=hop hp hx
   have hc:=iS g (show RA w st.hp env v (a.eval x)from hr) (fun e=>hne e)
   exact yR (cs:= [a.eval x]) (e:=e) (by unfold execOp;simp[eJ,Instr.box,newVar,newRow,hc]) g hf ⟨hr,trivial⟩
  ·cases h
 |alloc t=>
  simp only[quiet]at h
  split at h
  ·rename_i z tg fo hk
   simp only[oI]at h
   subst h
   have hC:=C t
   rw[hk]at hC
   obtain⟨fs,hu,hi,h1,_⟩:=hC
   refine yR (cs:=z) (e:=t) ?_ g hf (Ct h1)
   unfold execOp
   cases hq:P.info? t with
   |none=>simp[hq]at hi
   |some i=>
    simp[hq]at hi
    simp[eJ,Instr.alloc,zeroValue,typeInfo,hq,hi.2,newVar,newRow,Value.cells]
  ·cases h
 |load t x=>
  simp only[quiet]at h
  split at h
  ·rename_i n off hx
   obtain⟨_,b,hb,hu⟩:=hop hp hx
   split at h
   ·rename_i c hl
    obtain⟨b',cs,e,wK,hh,hc⟩:=g.obj n _ hl
    have TO:b=b':=by
     rw[wK]at hb
     simpa using hb.symm
    subst TO
    have wL:w.rangeAt b 0 cs:=by simpa using PS hh
    split at h
    ·rename_i z tg fo hk
     split at h
     ·rename_i l hs
      simp only[dA,oI]at h
      subst h
      have hC:=C t
      rw[hk]at hC
      obtain⟨k1,k2⟩:=P9 hc hs
      exact wp_load_row eJ hC hu (by have:=k7 (k:=z.length) (j:=off) wL;rwa [Nat.zero_add]at this) k2 k1
     ·cases h
    ·cases h
    ·rename_i k1 k2
     split at h
     ·rename_i v hs
      simp only[dA,oI]at h
      subst h
      obtain⟨u,q1,q2⟩:=hc.at (Ge hs)
      refine nL eJ (C t) ?_ ?_ hu (by have:=k8 wL q1;rwa [Nat.zero_add]at this) (RA.PX q2)
      ·intro z tg fo hz;exact k1 z tg fo hz
      ·exact k2
     ·cases h
   ·cases h
  ·rename_i gt y off hx
   obtain⟨b,o',cs,fp,hu,_,wL,hE,_,hd⟩:=hop hp hx
   have hc:=Qa hE hd
   split at h
   ·rename_i z tg fo hk
    split at h
    ·rename_i l hs
     simp only[dA,oI]at h
     subst h
     have hC:=C t
     rw[hk]at hC
     obtain⟨k1,k2⟩:=P9 hc hs
     exact wp_load_row eJ hC hu (k7 wL) k2 k1
    ·cases h
   ·cases h
   ·rename_i k1 k2
    split at h
    ·rename_i v hs
     simp only[dA,oI]at h
     subst h
     obtain⟨u,q1,q2⟩:=hc.at (Ge hs)
     refine nL eJ (C t) ?_ ?_ hu (k8 wL q1) q2
     ·intro z tg fo hz;exact k1 z tg fo hz
     ·exact k2
    ·cases h
  ·rename_i n gt y off hx
   obtain⟨⟨tA,lA,hl⟩,b,o',cs,fp,hu,hb,wL,hE,hd⟩:=hop hp hx
   have hR:=reads gt hE
   split at h
   ·rename_i z tg fo hk
    split at h
    ·rename_i l hs
     simp only[dA,oI]at h
     subst h
     have hC:=C t
     rw[hk]at hC
     obtain⟨f',r1,r2,r3,r4⟩:=bT.sub hR hs
     exact wp_load_row eJ hC hu (k7 wL) r4 (Mf hl r1 (r2.nodup hd.1) (fun x hx=>hd.2.1 x (r2.subset hx)))
    ·cases h
   ·cases h
   ·rename_i k1 k2
    split at h
    ·rename_i v hs
     simp only[dA,oI]at h
     subst h
     obtain⟨u,f',q1,q2,q3⟩:=bT.at hR hs
     refine nL eJ (C t) ?_ ?_ hu (k8 wL q1) (Gg hl q2 (q3.nodup hd.1) (fun x hx=>hd.2.1 x (q3.subset hx)) (by simp))
     ·intro z tg fo hz;exact k1 z tg fo hz
     ·exact k2
    ·cases h
  ·rename_i n i off hx
   obtain⟨tA,lA,hlA,b,o',len,cap,A9,hu⟩:=hop hp hx
   split at h
   ·rename_i gt l hl
    rw[hl]at hlA
    simp only[oI,Obj.arr.injEq]at hlA
    obtain⟨rfl,_⟩:=hlA
    split at h
    ·rename_i z tg fo hk
     split at h
     ·rename_i c hs
      simp only[oI]at h
      subst h
      have hi:i<l.length:=hv _ (List.mem_singleton.2 rfl)
      obtain⟨b2,o2,ZR,cs,f,N9,hb,wL,hE,hd⟩:=Cu g hl hi
      rw[N9]at A9
      simp only[Value.slice.injEq,oI,Addr.mk.injEq,and_true]at A9
      obtain⟨⟨rfl,rfl⟩,rfl,rfl⟩:=A9
      have hC:=C t
      rw[hk]at hC
      obtain⟨f',r1,r2,r3,r4⟩:=bT.sub (reads gt hE) hs
      refine wp_load_row eJ hC hu (k7 wL) r4 (Me hl hi N9 hb r1 ((r2.trans hd).nodup (RO.own (g.obj _ _ hl)).nodup) (fun x hx=>hd.subset (r2.subset hx)) (fun j v hj=> ?_) (k7 wL))
      rw[r3,List.getElem?_take]at hj
      split at hj
      ·rw[List.getElem?_drop]at hj;rw[wI];exact hj
      ·cases hj
     ·cases h
    ·cases h
    ·rename_i k1 k2
     split at h
     ·rename_i v hs
      simp only[oI]at h
      subst h
      have hi:i<l.length:=hv _ (List.mem_singleton.2 rfl)
      obtain⟨b2,o2,ZR,cs,f,N9,hb,wL,hE,hd⟩:=Cu g hl hi
      rw[N9]at A9
      simp only[Value.slice.injEq,oI,Addr.mk.injEq,and_true]at A9
      obtain⟨⟨rfl,rfl⟩,rfl,rfl⟩:=A9
      obtain⟨u,f',q1,q2,q3⟩:=bT.at (reads gt hE) hs
      refine nL eJ (C t) ?_ ?_ hu (k8 wL q1) (Gg hl q2 ((q3.trans hd).nodup (RO.own (g.obj _ _ hl)).nodup) (fun x hx=>hd.subset (q3.subset hx)) ?_)
      ·intro z tg fo hz;exact k1 z tg fo hz
      ·exact k2
      ·rintro i' off' Xr
       simp only[oI,pI]at Xr
       obtain⟨rfl,rfl⟩:=Xr
       exact⟨b2,o2,_,ZR,hi,hs,N9,hb,k8 wL q1⟩
     ·cases h
   ·cases h
  ·cases h
 |binOp op t x y t'=>
  simp only[quiet]at h
  split at h
  ·rename_i k m k' m' h1 h2
   split at h
   ·rename_i vc v hb
    simp only[oI]at h
    subst h
    have hx:=(hop hp h1).lit
    have hy:=(hop hp h2).lit
    obtain⟨q1,q2⟩:=Uf (P:=P) (w:=w) hb hv (t:=t) (X:=x) (Y:=y)
    refine cP (u:=v) ?_ ⟨rfl,q2⟩
    unfold execOp
    simp only[eJ,hx,hy]
    rw[Sem.run_bind,q1]
    rfl
   ·cases h
  ·rename_i m m' h1 h2
   split at h
   ·rename_i vc v hb
    simp only[oI]at h
    subst h
    have hx:=(hop hp h1).lit
    have hy:=(hop hp h2).lit
    obtain⟨q1,q2⟩:=Ug (P:=P) (w:=w) hb hv (t:=t) (X:=x) (Y:=y)
    refine cP (u:=v) ?_ ⟨rfl,q2⟩
    unfold execOp
    simp only[eJ,hx,hy]
    rw[Sem.run_bind,q1]
    rfl
   ·cases h
  ·rename_i m m' h1 h2
   have hx:=(hop hp h1).lit
   have hy:=(hop hp h2).lit
   have hC:=C t
   split at h
   ·rename_i hk
    rw[hk]at hC
    simp only[dA,oI]at h
    subst h
    refine cP (u:= .bool (m==m')) ?_ ⟨rfl,rfl⟩
    unfold execOp
    simp only[eJ,hx,hy]
    have he:(Op.equal t (.bool m) (.bool m')).run P w= .ok (m==m') w:=wJ hC
    simp[eqGuard,binOp,he]
   ·rename_i hk
    rw[hk]at hC
    simp only[dA,oI]at h
    subst h
    refine cP (u:= .bool (m !=m')) ?_ ⟨rfl,rfl⟩
    unfold execOp
    simp only[eJ,hx,hy]
    have he:(Op.equal t (.bool m) (.bool m')).run P w= .ok (m==m') w:=wJ hC
    simp[eqGuard,binOp,he]
    cases m<;>cases m'<;>rfl
   ·cases h
  ·cases h
 |unOp op t x=>
  cases op with
  |not=>
   simp only[quiet]at h
   split at h
   ·rename_i b hx
    simp only[dA,oI]at h
    subst h
    have hx:=(hop hp hx).lit
    refine cP (u:= .bool (!b)) ?_ ⟨rfl,rfl⟩
    unfold execOp
    simp[eJ,hx,Op.unary]
   ·cases h
  |neg=>
   simp only[quiet]at h
   split at h
   ·rename_i k n hx
    simp only[dA,oI]at h
    subst h
    have hx:=(hop hp hx).lit
    refine cP (u:= .int k (k.wrap (0-n))) ?_ ⟨rfl,rfl⟩
    unfold execOp
    simp[eJ,hx,Op.unary,Op.intArith]
   ·cases h
  |_=>simp[quiet]at h
 |convert s t x=>
  simp only[quiet]at h
  split at h
  ·rename_i k n k1 k2 hx hk1 hk2
   simp only[dA,oI]at h
   subst h
   have hx:=(hop hp hx).lit
   have c1:=C s
   have c2:=C t
   rw[hk1]at c1
   rw[hk2]at c2
   refine cP (u:= .int k2 (k2.wrap n)) ?_ ⟨rfl,rfl⟩
   unfold execOp
   simp[eJ,hx,convert,run_underlying (show P.underlying s=_ from c1),run_underlying (show P.underlying t=_ from c2),Conv.intToInt]
  ·rename_i v g' e hx hk1 hk2
   split at h
   ·rename_i l KB hl
    simp only[dA,oI]at h
    subst h
    have c1:=C s
    have c2:=C t
    have c3:=C e
    rw[hk1]at c1
    rw[hk2]at c2
    rw[KB]at c3
    have:=N7 g (hop hp hx) hl c1.1 c3 c2
    refine cP (u:= .string (mI l)) ?_ ⟨rfl,rfl⟩
    unfold execOp
    simp only[eJ,Sem.run_bind,this,Result.andThen_ok,Sem.run_pure]
   ·cases h
  ·cases h
 |slice t x lo hi mx=>
  cases mx with
  |some mx=>
   cases lo with
   |some _=>simp[quiet]at h
   |none=>
    cases hi with
    |none=>simp[quiet]at h
    |some hi=>
     simp only[quiet]at h
     split at h
     case h_2=>cases h
     rename_i gt e hk
     have hC:=C t
     rw[hk]at hC
     split at h
     case h_2=>cases h
     rename_i n n1 n2 hx h1 h2
     split at h
     case h_2=>cases h
     rename_i t' l hl
     split at h
     case h_2=>cases h
     rename_i hkk
     have hkk:=Nat.eq_of_beq_eq_true hkk
     simp only[oI]at h
     subst h
     obtain⟨q0,q1,q2⟩:=hv _ (List.mem_singleton.2 rfl)
     obtain⟨hA,hu⟩:=hop hp hx
     have hs:=RO.sl (g.obj n _ hl)
     rw[←show a.eval x=(env n).v from hu]at hs
     obtain⟨oa,cap,A9,hc,hm,h3⟩:=id hs
     obtain⟨y1,k1,e1,e2⟩: ∃y k,some hi=some y∧a.eval y= .int k n1:=by
      rcases jo (hop hp) h1 with⟨h,_⟩|h
      ·cases h
      ·exact h
     obtain⟨y2,k2,e3,e4⟩: ∃y k,some mx=some y∧a.eval y= .int k n2:=by
      rcases jo (hop hp) h2 with⟨h,_⟩|h
      ·cases h
      ·exact h
     simp only[oI]at e1 e3
     subst e1;subst e3
     subst q1
     rw[A9]at hs
     obtain⟨e9,r2,r3⟩:=Xt hs (j:=n1.toNat) (q:=0*kk gt) (by omega) (by simp)
     have hrun:(execOp a.eval o).run P w= .ok (.value (.slice (if n1.toNat=0 then oa else oa.map (·.add (0*kk gt))) n1.toNat n1.toNat)) w:=by
      obtain⟨hun,hsz⟩:=hC
      cases hq:P.info? e with
      |none=>simp[hq]at hsz
      |some inf=>
       have hsz':inf.size=kk gt:=by simpa[hq]using hsz
       have c1:n1≤(cap:Int):=by omega
       have c2: ¬max n1 0<n1:=by omega
       unfold execOp
       simp[eJ,A9,e2,e4,c2,Instr.sliceAt,Instr.slice,Instr.sliceBounds,Instr.sliceBound,asIntOf,run_underlying hun,sizeOf,typeInfo,hq,hsz',q0,c1]
     have hlt:(l.take n1.toNat).length=n1.toNat:=by rw[List.length_take];omega
     exact cP hrun ⟨hA,⟨e9,r2,fun b hb=>Or.inl (r3 b hb)⟩,fun _=>⟨_,by rw[hlt]⟩⟩
  |none=>
   simp only[quiet]at h
   split at h
   ·rename_i gt e hk
    have hC:=C t
    rw[hk]at hC
    split at h
    ·split at h
     ·rename_i n p' t' l n1 hx h1
      simp only[oI]at h
      subst h
      have hlo:n1=(l.length:Int):=hv _ (List.mem_singleton.2 rfl)
      obtain⟨hA,⟨fp,⟨oa,cap,hu,hc,hm,h3⟩,hnd,hd⟩,_⟩:=hop hp hx
      have hz:oa=none→cap=0:=by
       intro ho
       rcases h3 with⟨_,_,h4⟩| ⟨b,off,bn,h4,_⟩
       ·exact h4
       ·rw[ho]at h4;cases h4
      obtain⟨TH,r1,r2⟩:=Ie (P:=P) (w:=w) eJ hC hu hc (jo (hop hp) h1) hlo
      refine cP r1 ⟨TH,cap-l.length,rfl,Nat.zero_le _,by omega,fun ho=> ?_⟩
      rw[hz (r2 ho)];omega
     ·rename_i k n1 hx h1
      simp only[oI]at h
      subst h
      have hlo:n1=(k:Int):=hv _ (List.mem_singleton.2 rfl)
      obtain⟨oa,cap,hu,hc,hm,hz⟩:=hop hp hx
      obtain⟨TH,r1,r2⟩:=Ie (P:=P) (w:=w) eJ hC hu hc (jo (hop hp) h1) hlo
      refine cP r1 ⟨TH,cap-k,rfl,Nat.zero_le _,by omega,fun ho=> ?_⟩
      rw[hz (r2 ho)];omega
     ·cases h
    split at h
    ·rename_i t' l n1 hx h1
     split at h
     ·rename_i n2 h2
      split at h
      ·rename_i hkk
       have hkk:=Nat.eq_of_beq_eq_true hkk
       simp only[oI]at h
       subst h
       obtain⟨q0,q1,q2⟩:=hv _ (List.mem_singleton.2 rfl)
       obtain⟨fp,hs,hd⟩:=hop hp hx
       obtain⟨u',e9,r1,r2,r3⟩:=yS eJ hC hkk hs (jo (hop hp) h1) (jo (hop hp) h2) q0 q1 q2
       exact cP r1 ⟨e9,r2,fun b hb=>hd b (r3.subset hb)⟩
      ·cases h
     ·cases h
    ·rename_i n p' t' l n1 hx h1
     split at h
     ·rename_i n2 h2
      split at h
      ·rename_i hkk
       have hkk:=Nat.eq_of_beq_eq_true hkk
       simp only[oI]at h
       subst h
       obtain⟨q0,q1,q2⟩:=hv _ (List.mem_singleton.2 rfl)
       obtain⟨hA,⟨fp,hs,hnd,hd⟩,_⟩:=hop hp hx
       obtain⟨u',e9,r1,r2,r3⟩:=yS eJ hC hkk hs (jo (hop hp) h1) (jo (hop hp) h2) q0 q1 q2
       exact cP r1 ⟨hA,⟨e9,r2,r3.nodup hnd,fun b hb=>hd b (r3.subset hb)⟩,by simp⟩
      ·cases h
     ·cases h
    ·rename_i n n1 hx h1
     split at h
     ·rename_i t' l hl
      split at h
      ·rename_i n2 h2
       split at h
       ·rename_i hkk
        have hkk:=Nat.eq_of_beq_eq_true hkk
        simp only[oI]at h
        subst h
        obtain⟨q0,q1,q2⟩:=hv _ (List.mem_singleton.2 rfl)
        obtain⟨hA,hu⟩:=hop hp hx
        have hs:=RO.sl (g.obj n _ hl)
        rw[←show a.eval x=(env n).v from hu]at hs
        obtain⟨u',e9,r1,r2,r3⟩:=yS eJ hC hkk hs (jo (hop hp) h1) (jo (hop hp) h2) q0 q1 q2
        exact cP r1 ⟨hA,⟨e9,r2,r3.nodup (RO.own (g.obj n _ hl)).nodup,fun b hb=>r3.subset hb⟩,by simp⟩
       ·cases h
      ·cases h
     ·cases h
    ·rename_i oa len cap n1 hx h1
     split at h
     ·rename_i n2 h2
      simp only[oI]at h
      subst h
      obtain⟨q0,q1,q2,q3⟩:=hv _ (List.mem_singleton.2 rfl)
      obtain⟨hu,_⟩:=hop hp hx
      exact cP (Md eJ hC hu (jo (hop hp) h1) (jo (hop hp) h2) q0 q1 q2 q3) ⟨rfl,rfl⟩
     ·cases h
    ·cases h
   ·rename_i hk
    have hC:=C t
    rw[hk]at hC
    split at h
    ·rename_i s n1 hx h1
     split at h
     ·rename_i n2 h2
      simp only[oI]at h
      subst h
      obtain⟨q0,q1,q2⟩:=hv _ (List.mem_singleton.2 rfl)
      exact Gh eJ hC (hop hp hx).lit (jo (hop hp) h1) (jo (hop hp) h2) q0 q1 q2
     ·cases h
    ·cases h
   ·cases h
 |makeFunc fn first captured=>
  cases fn with
  |func f=>
   simp only[quiet]at h
   split at h
   ·rename_i x hf hc
    split at h
    ·rename_i n hx
     simp only[dA,oI]at h
     subst h
     obtain⟨hA,b,hb,hu⟩:=hop hp hx
     have e1:first= #[]:=by cases first;simp_all
     have e2:captured= #[x]:=by cases captured;simp_all
     refine cP (u:= .func (.func f) #[] #[.pointer (some ⟨b,0,none⟩)]) ?_ ⟨hA,b,hb,rfl⟩
     unfold execOp
     simp[eJ,Instr.makeFunc,e1,e2,hu]
    ·cases h
   ·cases h
  |_=>simp[quiet]at h
 |fieldAddr t x f=>
  simp only[quiet]at h
  split at h
  ·rename_i z tg fo hk
   have hC:=C t
   rw[hk]at hC
   split at h
   ·rename_i k hf'
    split at h
    ·rename_i n off hx
     simp only[dA,oI]at h
     subst h
     obtain⟨hc,b,hb,hu⟩:=hop hp hx
     exact lZ eJ hC hf' hu ⟨hc,b,hb,rfl⟩
    ·rename_i gt y off hx
     simp only[dA,oI]at h
     subst h
     obtain⟨b,o',cs,fp,hu,k1⟩:=hop hp hx
     exact lZ eJ hC hf' hu ⟨b,o',cs,fp,by rw[Nat.add_assoc],k1⟩
    ·rename_i n i off hx
     simp only[dA,oI]at h
     subst h
     obtain⟨t',l,hl,b,o',len,cap,hb,hu⟩:=hop hp hx
     exact lZ eJ hC hf' hu ⟨t',l,hl,b,o',len,cap,hb,by rw[Nat.add_assoc]⟩
    ·rename_i n gt y off hx
     simp only[dA,oI]at h
     subst h
     obtain⟨hA,b,o',cs,fp,hu,k1,k2,k3,knd,k4,k5⟩:=hop hp hx
     refine lZ eJ hC hf' hu ⟨hA,b,o',cs,fp,by rw[Nat.add_assoc],k1,k2,k3,knd,k4,fun i o2 j hq=> ?_⟩
     obtain⟨l,u0,b0,ox,len,cap,j1,j2,j3,j4,j5⟩:=k5 i o2 j hq
     rw[hu]at j5
     simp only[Value.pointer.injEq,oI,Addr.mk.injEq,and_true]at j5
     obtain⟨rfl,j5⟩:=j5
     exact⟨l,u0,b,ox,len,cap,j1,j2,j3,j4,by rw[j5,Nat.add_assoc]⟩
    ·cases h
   ·cases h
  ·cases h
 |indexAddr t x i=>
  simp only[quiet]at h
  split at h
  ·rename_i gt e hk
   have hC:=C t
   rw[hk]at hC
   split at h
   ·rename_i t' l ik n hx hi
    split at h
    ·rename_i hkk
     have hkk:=Nat.eq_of_beq_eq_true hkk
     simp only[oI]at h
     subst h
     obtain⟨h0,h1⟩:=hv _ (List.mem_singleton.2 rfl)
     have hx:=hop hp hx
     have hi:=(hop hp hi).lit
     obtain⟨b,off,len,cap,hu,hlt,hr⟩:=Ue hx h0 h1
     exact pZ eJ hC hu hi h0 hlt (by rw[hkk];exact hr)
    ·cases h
   ·rename_i m ik n hx hi
    split at h
    ·rename_i t' l hl
     split at h
     ·rename_i hkk
      have hkk:=Nat.eq_of_beq_eq_true hkk
      simp only[oI]at h
      subst h
      obtain⟨h0,h1⟩:=hv _ (List.mem_singleton.2 rfl)
      obtain⟨_,hu⟩:=hop hp hx
      have hi:=(hop hp hi).lit
      obtain⟨b,o',cap,cs,f,hs,_⟩:=Cu g hl (i:=n.toNat) (by omega)
      exact pZ eJ hC (hu.trans hs) hi h0 h1 ⟨t',l,hl,b,o',_,cap,hs,by rw[hkk];simp⟩
     ·cases h
    ·cases h
   ·rename_i m p' t' l ik n hx hi
    split at h
    ·rename_i hkk
     have hkk:=Nat.eq_of_beq_eq_true hkk
     simp only[oI]at h
     subst h
     obtain⟨h0,h1⟩:=hv _ (List.mem_singleton.2 rfl)
     have hx:=hop hp hx
     have hi:=(hop hp hi).lit
     obtain⟨b,off,len,cap,hu,hlt,hr⟩:=Uh hx h0 h1
     exact pZ eJ hC hu hi h0 hlt (by rw[hkk];exact hr)
    ·cases h
   ·cases h
  ·cases h
 |lookup t x y b=>
  cases b with
  |true=>simp[quiet]at h
  |false=>
   simp only[quiet]at h
   split at h
   ·rename_i hk
    have hC:=C t
    rw[hk]at hC
    obtain⟨kt,et,ht,hkt,hz,_⟩:=hC
    split at h
    ·rename_i n k hx hy
     split at h
     ·rename_i tg l0 hl
      split at h
      ·rename_i l hc
       simp only[dA,oI]at h
       subst h
       obtain⟨_,hu⟩:=hop hp hx
       have hy:=(hop hp hy).lit
       obtain⟨r,lx,h1,h2,h3⟩:=g.obj n _ hl
       rw[hc]at h1
       simp only[oI]at h1
       subst h1
       have Pn:a.eval x= .map (some r):=by rw[hu,h2]
       refine cP (u:= .int .i64 (nE l k)) ?_ ⟨rfl,rfl⟩
       unfold execOp
       simp only[eJ,Pn,hy,Sem.run_bind,Sem.run_pure,Ck ht hkt (hz w) h3,Result.andThen_ok]
      ·cases h
     ·cases h
    ·cases h
   ·cases h
 |index t x i=>
  simp only[quiet]at h
  split at h
  ·rename_i hk
   have hC:=C t
   rw[hk]at hC
   split at h
   ·rename_i s k n hx hy
    simp only[oI]at h
    subst h
    have hx:=(hop hp hx).lit
    have hy:=(hop hp hy).lit
    obtain⟨h0,h1⟩:0≤n∧n<(s.size:Int):=hv _ (List.mem_singleton.2 rfl)
    have hlt:n.toNat<s.size:=by omega
    have hgd:s.data.toList.getD n.toNat 0=s[n.toNat]:=by
     have h2:n.toNat<s.data.toList.length:=by rw[Array.length_toList];exact hlt
     rw[List.getD_eq_getElem?_getD,List.getElem?_eq_getElem h2]
     simp[ByteArray.getElem_eq_getElem_data]
    refine cP (u:= .int .u8 ((s.data.toList.getD n.toNat 0).toNat:Int)) ?_ ⟨rfl,rfl⟩
    unfold execOp
    simp only[eJ,hx,hy,Sem.run_bind,Sem.run_pure,run_index_string (P:=P) (w:=w) t s k n hC,dif_pos (And.intro h0 h1),Result.andThen_ok,hgd]
   ·cases h
  ·cases h
 |makeMap t r=>
  cases r with
  |some _=>simp[quiet]at h
  |none=>
   simp only[quiet]at h
   split at h
   ·simp only[oI]at h
    subst h
    exact N8 (by unfold execOp;simp[eJ,Instr.makeMap])
   ·cases h
 |makeSlice t x y=>
  simp only[quiet]at h
  split at h
  ·rename_i gt e hk
   have hC:=C t
   rw[hk]at hC
   split at h
   ·rename_i k1 n1 k2 n2 hx hy
    simp only[oI]at h
    subst h
    have hE:Gb P ty gt e:=hv _ (by simp)
    have hab:n1=n2:=hv _ (by simp)
    have h0:0≤n1:=hv _ (by simp)
    obtain⟨h1,h2⟩:n1.toNat*cK gt≤140737488355328∧n1.toNat≤maxLen:=hv _ (by simp)
    subst hab
    obtain⟨rfl,qM⟩:=hE
    obtain⟨w',u,fp,r1,r2,r3⟩:=Qh (P:=P) (w:=w) (a:=a) eJ hC.1 qM (hop hp hx).lit (hop hp hy).lit h0 h1 h2
    exact EZ r1 r2 r3
   ·cases h
  ·cases h
 |buildSlice t len parts=>
  simp only[quiet]at h
  split at h
  ·rename_i gt e hk
   have hC:=C t
   rw[hk]at hC
   split at h
   ·split at h
    case h_2=>cases h
    rename_i x hlen hps
    split at h
    case h_2=>cases h
    rename_i s hx
    split at h
    case h_2=>cases h
    rename_i c n hc
    split at h
    case h_2=>cases h
    rename_i vc y he hbig
    simp only[oI]at h
    subst h
    have hE:Gb P ty gt e:=hv _ (by simp)
    obtain⟨rfl,qM⟩:=hE
    have hs:=hop hp hx
    obtain⟨tA,lA,ZS,hl,Kn,hnd,hsub⟩:=Mg g (KA g hs hc) hc
    have hrd:=pX gt he (fun q hq=>hv q (by simp[hq])) Kn
    have hlen:=Nat.eq_of_beq_eq_true hlen
    subst hlen
    have hO0:=RO.own (g.obj n _ hl)
    have hO:Own _ w ZS:=⟨hnd,fun b hb=>hO0.ge b (hsub b hb),fun b hb=>hO0.kind b (hsub b hb)⟩
    have hfl:([ZS]:List (List Nat)).flatten=ZS:=by simp
    obtain⟨w',r1,r2,r3⟩:=tL (P:=P) (w:=w) (a:=a) eJ hC.1 qM (by rw[Nat.one_mul];exact Nat.le_of_ble_eq_true hbig) (by rw[hps];rfl) (Nat.zero_le _) (xs:= [y]) (bn:= [ZS]) (by rw[hps];rfl) (by rw[hps];rfl) rfl
     (fun i x' f hx' hf=>by
      cases i with
      |zero=>simp at hx' hf;subst hx';subst hf;exact⟨(0,x),by rw[hps];rfl,hrd⟩
      |succ i=>simp at hx') (by rw[hfl];exact hO)
    rw[hfl]at r3
    unfold Oper.wp
    rw[r1]
    refine⟨_,env,rfl,ke.none r2,⟨tA,lA,hl⟩,w.heap.size,ZS,ig.sl r3,fun ho=> ?_,hnd,hsub⟩
    have:=(g.ow ho).2
    omega
   split at h
   ·rename_i vc xs hlen hbig hb
    simp only[oI]at h
    subst h
    have hE:Gb P ty gt e:=hv _ (by simp)
    obtain⟨rfl,qM⟩:=hE
    obtain⟨q1,q2,q3⟩:=E0 g hp hb (fun q hq=>hv q (by simp[hq]))
    have hfl:(List.replicate xs.length ([]:List Nat)).flatten= []:=by simp
    obtain⟨w',r1,r2,r3⟩:=tL (P:=P) (w:=w) (a:=a) eJ hC.1 qM (Nat.le_of_ble_eq_true hbig) (Nat.eq_of_beq_eq_true hlen) (Nat.le_refl _) (xs:=xs) (bn:=List.replicate xs.length []) q1 q2 (by simp)
     (fun i x f hx hf=>by
      obtain⟨p,h1,h2⟩:=q3 i x hx
      rw[List.getElem?_replicate]at hf
      split at hf
      ·simp only[oI]at hf;subst hf;exact⟨p,h1,h2⟩
      ·cases hf) (by rw[hfl];exact Own.nil _ _)
    exact EZ r1 r2 r3
   ·cases h
  ·cases h
 |build t parts=>
  simp only[quiet]at h
  split at h
  ·rename_i z tg fo hk
   have hC:=C t
   rw[hk]at hC
   obtain⟨fs,hu,hi,h1,_,places,Cx,mK⟩:=hC
   split at h
   ·rename_i c hb
    simp only[dA,oI]at h
    subst h
    cases hq:P.info? t with
    |none=>simp[hq]at hi
    |some inf=>
     simp[hq]at hi
     obtain⟨cs',h3,h4⟩:=Ih (st:=st) (zb:=zb) g hp (pl:=fun j=>places[j]?) mK hb (Ct h1)
     refine cP (u:= .agg (Array.mk cs')) ?_ ⟨cs',rfl,h4⟩
     have hrun:=run_build (P:=P) w t (parts.map fun(q:Nat×Operand)=>(q.1,a.eval q.2)) (Array.mk cs') (by
      unfold Program.built
      rw[hq,hu]
      simp only[hi.2,Cx]
      rw[Array.toList_map]
      simpa[Value.cells]using h3)
     unfold execOp
     simp only[eJ,Sem.run_bind,hrun,Result.andThen_ok,Sem.run_pure]
   ·cases h
  ·cases h
 |nilCheck x=>
  simp only[quiet]at h
  split at h
  ·rename_i n off hx
   simp only[dA,oI]at h
   subst h
   obtain⟨hA,b,hb,hu⟩:=hop hp hx
   refine cP (u:=a.eval x) ?_ ⟨hA,b,hb,hu⟩
   unfold execOp
   simp[eJ,hu]
  ·rename_i n i off hx
   simp only[dA,oI]at h
   subst h
   obtain⟨t,l,hl,b,o',len,cap,hb,hu⟩:=hop hp hx
   refine cP (u:=a.eval x) ?_ ⟨t,l,hl,b,o',len,cap,hb,hu⟩
   unfold execOp
   simp[eJ,hu]
  ·cases h
 |extract x i=>
  cases x with
  |tmp t=>
   simp only[quiet]at h
   split at h
   ·rename_i l hl
    split at h
    ·rename_i x hx
     simp only[dA,oI]at h
     subst h
     obtain⟨us,hu,lO⟩:=g.slot t _ hl
     obtain⟨u,k1,k2⟩:=lO.at hx
     refine cP ?_ k2
     unfold execOp
     have Zu:a.eval (.tmp t)= .tuple us.toArray:=hu
     simp[eJ,Zu,Instr.extract,k1]
    ·cases h
   ·cases h
  |_=>simp[quiet]at h
 |call c=>
  obtain⟨callee,xs,ts⟩:=c
  cases callee with
  |value x=>
   cases x with
   |func f=>
    simp only[quiet]at h
    split at h
    ·rename_i as c h1 h2
     simp only[oI]at h
     obtain⟨own,rs⟩:=c
     have Xv:out.vc= [Sound ty P f as rs]:=by
      rw[←h]
      unfold outs
      dsimp only
      (repeat' split)<;>rfl
     exact Ma eJ rfl (hv _ (by rw[Xv];simp)) hA g (Gd g hp h1) h hn
    ·cases h
   |tmp x=>
    simp only[quiet]at h
    split at h
    ·rename_i v hx
     split at h
     ·rename_i f hfn
      split at h
      ·rename_i as c h1 h2
       simp only[oI]at h
       obtain⟨own,rs⟩:=c
       have Xv:out.vc= [Sound ty P f as rs]:=by
        rw[←h]
        unfold outs
        dsimp only
        (repeat' split)<;>rfl
       exact Ma eJ (Mc (hop hp hx) hfn) (hv _ (by rw[Xv];simp)) hA g (Gd g hp h1) h hn
      ·cases h
     ·cases h
    ·cases h
   |_=>simp[quiet]at h
  |builtin b=>
   cases b with
   |append=>
    simp only[quiet]at h
    split at h
    case h_2=>cases h
    rename_i x y t1 t2 hkey hxl htl
    obtain rfl:xs= #[x,y]:=by cases xs;simp_all
    obtain rfl:ts= #[t1,t2]:=by cases ts;simp_all
    split at h
    case h_2=>cases h
    rename_i gt e htt hk
    have htt:=Nat.eq_of_beq_eq_true htt
    subst htt
    split at h
    case h_2=>cases h
    rename_i n t l n2 pq t' l' hx hy
    split at h
    case h_2=>cases h
    rename_i la lb hnn hca hcb
    have hnn:=Nat.eq_of_beq_eq_true hnn
    subst hnn
    simp only[oI]at h
    subst h
    obtain⟨ea,rfl⟩:=cU hca
    subst ea
    obtain⟨eb,rfl⟩:=cU hcb
    subst eb
    have hE:Gb P ty t' e:=hv _ (by simp)
    obtain⟨b1,b2⟩:(l.length+l'.length)*cK t'≤140737488355328∧l.length+l'.length≤maxLen:=hv _ (by simp)
    obtain⟨rfl,qM⟩:=hE
    have hC:=C t1
    rw[hk]at hC
    obtain⟨hA1,⟨fp,hs,hsub⟩,hcap⟩:=hop hp hx
    obtain⟨hA2,⟨H8,oK,hnd,ZT⟩,_⟩:=hop hp hy
    obtain⟨oa,hu⟩:=hcap rfl
    obtain⟨olds,fx,n1,n2,n3,n4,n5,_⟩:=oP (cX t') (eS t') hs
    obtain⟨news,fy,m1,m2,m3,m4,m5,_⟩:=oP (cX t') (eS t') oK
    rw[hu]at n1
    obtain⟨v',w',hrun,hres⟩:=Uj (ty':=o.type) hC.1 qM (iJ t') (eS t') n1 n3 m1 m3 (Ui (cX t') (eS t') m2 m3 m4) b2 b1
    have key:Below w.heap.size w w'∧RA w' st.hp env (.mix n false t' (l++l')) v':=by
     rcases hres with⟨h0,rfl,rfl⟩| ⟨hrow,Qk⟩
     ·have e0:l'= []:=List.eq_nil_of_length_eq_zero h0
      subst e0
      refine⟨Below.refl _ _,hA1,⟨fp,?_,hsub⟩,fun hh=>by cases hh⟩
      rw[List.append_nil, ←hu];exact hs
     ·have Cm:Below w.heap.size w w':=⟨Qk.os,Qk.tape,Qk.output,Qk.size,fun b hb=>Qk.block b hb (fun h=>by cases h)⟩
      have hkk:=eS t'
      refine⟨Cm,hA1,⟨_,Xu (l:=l++l') (bn:=fx++fy) (by rw[List.length_append];exact hrow) (by rw[List.length_append,List.length_append,n2,m2]) (fun i x f hx hf=> ?_),fun b hb=> ?_⟩,fun hh=>by cases hh⟩
      ·refine(cX t').below ?_ Cm
       by_cases hi:i<l.length
       ·rw[List.getElem?_append_left hi]at hx
        rw[List.getElem?_append_left (by omega)]at hf
        have h1:i*kk t'+kk t'≤olds.length:=by
         have:=Nat.mul_le_mul_right (kk t') (show i+1≤l.length by omega)
         rw[Nat.add_mul]at this;omega
        rw[List.drop_append_of_le_length (by omega),List.take_append_of_le_length (by rw[List.length_drop];omega)]
        exact n4 i x f hx hf
       ·rw[List.getElem?_append_right (by omega)]at hx
        rw[List.getElem?_append_right (by omega),n2]at hf
        have h1:i*kk t'=olds.length+(i-l.length)*kk t':=by
         rw[n3, ←Nat.add_mul];congr 1;omega
        rw[h1,List.drop_append]
        have h2:olds.drop (olds.length+(i-l.length)*kk t')= []:=List.drop_eq_nil_of_le (by omega)
        rw[h2,List.nil_append,Nat.add_sub_cancel_left]
        exact m4 _ x f hx hf
      ·rcases List.mem_append.1 hb with hb|hb
       ·refine Or.inr fun ho=> ?_
        have h1:=(g.ow ho).2
        have h2:=(hrow.lt b (by simpa using hb)).1
        omega
       ·rw[List.flatten_append]at hb
        rcases List.mem_append.1 hb with hb|hb
        ·exact hsub b (n5.subset hb)
        ·exact Or.inl (ZT b (m5.subset hb))
    unfold Oper.wp execOp
    simp only[eJ,resolve,invoke,builtin,Sem.run_bind,Sem.run_pure,Result.andThen_ok,List.map_toArray,List.map_cons,List.map_nil,hu,hrun]
    exact⟨v',env,rfl,ke.none key.1,key.2⟩
   |max=>
    simp only[quiet]at h
    split at h
    ·rename_i k x r hxs
     split at h
     ·rename_i y hy
      simp only[dA,oI]at h
      subst h
      have he:=Cv g hp hxs
      refine cP (u:= .int k y) ?_ ⟨rfl,rfl⟩
      have hf:=Cw (P:=P) (w:=w) (f:=Builtin.max2) (F:=N2) (fun k x y=>rfl) hy
      unfold execOp
      simp[eJ,resolve,invoke,builtin,Builtin.max_,he,hf]
     ·cases h
    ·cases h
   |min=>
    simp only[quiet]at h
    split at h
    ·rename_i k x r hxs
     split at h
     ·rename_i y hy
      simp only[dA,oI]at h
      subst h
      have he:=Cv g hp hxs
      refine cP (u:= .int k y) ?_ ⟨rfl,rfl⟩
      have hf:=Cw (P:=P) (w:=w) (f:=Builtin.min2) (F:=wA) (fun k x y=>rfl) hy
      unfold execOp
      simp[eJ,resolve,invoke,builtin,Builtin.min_,he,hf]
     ·cases h
    ·cases h
   |len=>
    simp only[quiet]at h
    split at h
    ·rename_i x t hxl htl
     obtain rfl:xs= #[x]:=by cases xs;simp_all
     obtain rfl:ts= #[t]:=by cases ts;simp_all
     split at h
     ·rename_i v hx
      split at h
      ·rename_i n hn'
       simp only[dA,oI]at h
       subst h
       have hr:=hop hp hx
       have hC:=C t
       cases v with
       |sl t' l=>
        simp only[lenOf]at hn'
        split at hn'
        ·rename_i g' e' hk
         simp only[oI]at hn'
         subst hn'
         rw[hk]at hC
         obtain⟨fp,⟨oa,cap,hu,_⟩,_⟩:=hr
         exact Cp rfl eJ hC.1 hu (Or.inl ⟨_,oa,cap,l.length,rfl,rfl,rfl⟩)
        ·cases hn'
       |own m=>
        simp only[lenOf]at hn'
        split at hn'
        ·rename_i g' e' hk
         rw[hk]at hC
         split at hn'
         ·rename_i t' l hl
          simp only[oI]at hn'
          subst hn'
          obtain⟨_,hu⟩:=hr
          obtain⟨oa,cap,hs,_⟩:=RO.sl (g.obj m _ hl)
          exact Cp rfl eJ hC.1 (hu.trans hs) (Or.inl ⟨_,oa,cap,l.length,rfl,rfl,rfl⟩)
         ·cases hn'
        ·cases hn'
       |vw m p' t' l=>
        simp only[lenOf]at hn'
        split at hn'
        ·rename_i g' e' hk
         simp only[oI]at hn'
         subst hn'
         rw[hk]at hC
         obtain⟨_,⟨fp,⟨oa,cap,hu,_⟩,_⟩,_⟩:=hr
         exact Cp rfl eJ hC.1 hu (Or.inl ⟨_,oa,cap,l.length,rfl,rfl,rfl⟩)
        ·cases hn'
       |lit v=>
        have hu:=(show eT w st.hp env (.a (.lit v)) _ from hr).lit
        simp only[lenOf]at hn'
        split at hn'
        ·rename_i heq;cases heq
        ·rename_i heq;cases heq
        ·rename_i heq;cases heq
        ·rename_i heq
         simp only[V.lit.injEq]at heq
         subst heq
         split at hn'
         ·rename_i g' e' hk
          simp only[oI]at hn'
          subst hn'
          rw[hk]at hC
          exact Cp rfl eJ hC.1 hu (Or.inl ⟨_,none,0,0,rfl,rfl,rfl⟩)
         ·cases hn'
        ·rename_i s heq
         simp only[V.lit.injEq]at heq
         subst heq
         split at hn'
         ·rename_i hk
          simp only[oI]at hn'
          subst hn'
          rw[hk]at hC
          exact Cp rfl eJ hC hu (Or.inr ⟨_,rfl,rfl,rfl⟩)
         ·cases hn'
        ·cases hn'
       |_=>simp[lenOf]at hn'
      ·cases h
     ·cases h
    ·cases h
   |_=>simp[quiet]at h
  |invoke _ _=>simp[quiet]at h
 |_=>simp[quiet]at h
end
end
section
variable{ty:Tag→Nat}
theorem jq{α:Type}{f:Nat×α→α}: ∀{l:List (Nat×α)} {s:Nat},look (l.map fun e=>(e.1,f e)) s=(look l s).map fun x=>f (s,x)
 | [],_=>rfl
 | (j,x)::r,s=>by
   by_cases h:s=j
   ·subst h;rw[List.map_cons,look_eq,look_eq];rfl
   ·rw[List.map_cons,aZ h,aZ h];exact jq
theorem E1{tmps:Array Value}{d:Nat}{u:Value}{p:List (Nat×Bool)}(h:(p.any fun e=>Nat.beq e.1 d)=false):holds (tmps.setIfInBounds d u) p↔holds tmps p:=by
 have hne: ∀e,e∈p→d≠e.1:=by
  rintro e he rfl
  rw[List.any_eq_false]at h
  exact h e he (by simp)
 constructor
 ·intro hh e he
  have:=hh e he
  rwa [Array.getElem?_setIfInBounds_ne (hne e he)]at this
 ·intro hh e he
  rw[Array.getElem?_setIfInBounds_ne (hne e he)]
  exact hh e he
theorem nG.put{w:World}{hp:Hp}{env:Env}{tmps:Array Value}{d:Nat}{u y:Value}{x:SV}(hm:x.mentions d=false)(h:nG w hp env tmps x y):nG w hp env (tmps.setIfInBounds d u) x y:=by
 cases x with
 |one x=>exact h
 |uQ l=>exact h
 |cond p x=>exact⟨fun hh=>h.1 ((E1 hm).1 hh),fun hh=>h.2 fun k=>hh ((E1 hm).2 k)⟩
theorem Good.ZU{zb:cm}{st:St}{tmps:Array Value}{w:World}{env:Env}(g:Good ty zb st tmps w env){d:Nat}(hd:d<tmps.size){v:SV}{u:Value}(hv:nG w st.hp env tmps v u)(hm:v.mentions d=false)(f:SV→SV)(hf: ∀s y,look st.sl s=some y→f y= .one (.a .any)∨(f y=y∧y.mentions d=false)):
  Good ty zb ⟨st.n,(d,v)::st.sl.map fun e=>(e.1,f e.2),st.hp⟩ (tmps.setIfInBounds d u) w env:=by
 refine⟨g.obj,g.iq,fun s x hl=> ?_,g.dom,g.pins⟩
 by_cases hs:s=d
 ·subst hs
  have hl:look ((s,v)::_) s=some x:=hl
  rw[look_eq]at hl
  simp only[oI]at hl
  subst hl
  have:(tmps.setIfInBounds s u).getD s undef=u:=by
   rw[Array.getD_eq_getD_getElem?,Array.getElem?_setIfInBounds_self_of_lt hd];rfl
  rw[this]
  exact hv.put hm
 ·have hl:look ((d,v)::_) s=some x:=hl
  rw[aZ hs,jq (α:=SV) (f:=fun e:Nat×SV=>f e.2)]at hl
  cases hq:look st.sl s with
  |none=>rw[hq]at hl;cases hl
  |some y=>
   rw[hq]at hl
   simp only[Option.map_some,oI]at hl
   subst hl
   have hgd:(tmps.setIfInBounds d u).getD s undef=tmps.getD s undef:=by
    rw[Array.getD_eq_getD_getElem?,Array.getD_eq_getD_getElem?,Array.getElem?_setIfInBounds_ne (Ne.symm hs)]
   rw[hgd]
   show nG w st.hp env _ (f y) _
   rcases hf s y hq with h| ⟨h,hm'⟩
   ·rw[h];trivial
   ·rw[h];exact(g.slot s y hq).put hm'
theorem Good.put{zb:cm}{st:St}{tmps:Array Value}{w:World}{env:Env}(g:Good ty zb st tmps w env){d:Nat}(hd:d<tmps.size){v:SV}{u:Value}(hv:nG w st.hp env tmps v u)(hm:v.mentions d=false):
  Good ty zb (st.put (some d) v) (tmps.setIfInBounds d u) w env:=by
 unfold St.put
 dsimp only
 split
 ·rename_i hno
  have:=g.ZU hd hv hm id (fun s y hl=>Or.inr ⟨rfl,by
   rw[List.any_eq_false]at hno
   simpa using hno _ (dQ hl)⟩)
  simpa using this
 ·refine g.ZU hd hv hm (SV.PY d) fun s y hl=> ?_
  unfold SV.PY
  split
  ·exact Or.inl rfl
  ·rename_i hm';exact Or.inr ⟨rfl,hm'⟩
theorem mL{zb:cm}{st:St}{a:Act}{w:World}{env:Env}(g:Good ty zb st a.tmps w env){dst:Option Nat}(hd: ∀d,dst=some d→d<a.tmps.size){v:SV}{u:Value}(hv:nG w st.hp env a.tmps v u)(hm: ∀d,dst=some d→v.mentions d=false):
  Good ty zb (st.put dst v) (a.put dst u).tmps w env:=by
 cases dst with
 |none=>exact g
 |some d=>exact g.put (hd d rfl) hv (hm d rfl)
theorem gC(a:Act)(dst:Option Nat)(u:Value):(a.put dst u).tmps.size=a.tmps.size:=by
 cases dst<;>simp[Act.put]
theorem uR(st:St)(d:Option Nat)(v:SV):(st.put d v).n=st.n:=by
 unfold St.put
 split
 ·split<;>rfl
 ·rfl
theorem Xw(st:St)(d:Option Nat)(v:SV):(st.put d v).hp=st.hp:=by
 unfold St.put
 split
 ·split<;>rfl
 ·rfl
theorem put_defers(a:Act)(dst:Option Nat)(u:Value):(a.put dst u).defers=a.defers:=by
 cases dst<;>rfl
theorem p8{ops:Array Oper}{o:Oper}{j:Nat}{x:Bool}(hg:o.guard=some (j,x)){q:Oper}(hj:ops[j]? =some q){d:Nat}(hd:q.dst=some d)(tmps:Array Value):
  Region.wanted o (yielded ops tmps)=true↔tmps[d]? =some (.bool x):=by
 simp only[Region.wanted,hg,yielded,hj,Option.bind_some,hd]
 constructor
 ·intro h
  have h:=eq_of_beq h
  split at h
  ·rename_i b hb
   simp at h
   rw[hb,h]
  ·cases h
 ·intro h
  rw[h];simp
theorem yT{zb:cm}{st:St}{tmps:Array Value}{w:World}{env:Env}(g:Good ty zb st tmps w env){d:Nat}{p:List (Nat×Bool)}{b x:Bool}(hl:look st.sl d=some (.cond p (.a (.lit (.bool b)))))(h:tmps[d]? =some (.bool x)):holds tmps p∧b=x:=by
 have hs:=g.slot d _ hl
 rw[Array.getD_eq_getD_getElem?,h]at hs
 by_cases hh:holds tmps p
 ·have:=(hs.1 hh).lit
  simp at this
  exact⟨hh,this.symm⟩
 ·have:=hs.2 hh
  simp[undef]at this
theorem Ql{zb:cm}{st:St}{tmps:Array Value}{w:World}{env:Env}(g:Good ty zb st tmps w env){d:Nat}{b x:Bool}(hl:look st.sl d=some (.one (.a (.lit (.bool b)))))(h:tmps[d]? =some (.bool x)):b=x:=by
 have hs:=g.slot d _ hl
 rw[Array.getD_eq_getD_getElem?,h]at hs
 have:=(show eT w st.hp env (.a (.lit (.bool b))) (.bool x)from hs).lit
 simp at this
 exact this.symm
theorem BA{zb:cm}{st:St}{tmps:Array Value}{w:World}{env:Env}(g:Good ty zb st tmps w env): ∀{p:List (Nat×Bool)},holds tmps p→ ∀q,q∈hyps st p→q
 | [],_,q,hq=>by simp[hyps]at hq
 | (d,x)::r,h,q,hq=>by
   have h0:tmps[d]? =some (.bool x):=h (d,x) (by simp)
   have hr:holds tmps r:=fun e he=>h e (by simp[he])
   simp only[hyps]at hq
   split at hq
   ·rename_i b hl
    rcases List.mem_cons.1 hq with rfl|hq
    ·exact Ql g hl h0
    ·exact BA g hr q hq
   ·rename_i p' b hl
    rcases List.mem_cons.1 hq with rfl|hq
    ·exact(yT g hl h0).2
    ·exact BA g hr q hq
   ·exact BA g hr q hq
theorem Mh: ∀{hs:List Prop} {q:Prop},cV hs q→(∀h,h∈hs→h)→q
 | [],_,h,_=>h
 |h'::r,q,h,hh=>Mh (hs:=r) (h (hh h' (by simp))) fun x hx=>hh x (by simp[hx])
section
variable{P:Program}{zb:cm}{st st':St}{a:Act}{w:World}{Q:Exit→Act→World→Prop}{o:Oper}
def gD(P:Program)(ops:Array Oper)(o:Oper)(a:Act)(w:World)(K:Act→World→Prop)(Q:Exit→Act→World→Prop):Prop:=
 if Region.wanted o (yielded ops a.tmps)then o.wp P a w K Q∨(o.asks P a w∧LetsOut Q)else K (a.put o.dst undef) w
theorem iK{ops:Array Oper}(hg:o.guard=none){K:Act→World→Prop}(h:o.wp P a w K Q):gD P ops o a w K Q:=by
 unfold gD
 rw[if_pos (by simp[Region.wanted,hg])]
 exact .inl h
theorem Gi(iv:Inv ty zb st a w)(h:wD st o.dst=true): ∀d,o.dst=some d→d<a.tmps.size:=by
 intro d hd
 rw[hd]at h
 rw[iv.size]
 exact Nat.le_of_ble_eq_true h
theorem Ij{Γ:Nat→TK}(C: ∀t,cG P t (Γ t)){cO:List (Nat×Nat)}{cr:List (Nat×CR)}{ops:List Oper}{vc:List Prop}{v2:SV}{os:Hp}(h:oN Γ (Gb P ty) (Sound ty P) cO cr ops st o=some (vc,v2,os))(iv:Inv ty zb st a w)(hv: ∀q,q∈vc→q):
  gD P ops.toArray o a w (fun a' w'=>Inv ty zb (St.put ⟨st.n,st.sl,os++st.hp⟩ o.dst v2) a' w') Q:=by
 obtain⟨env,g⟩:=iv.good
 have Xx:=iv.kept.size
 simp only[oN]at h
 split at h
 ·rename_i m hd _ kf
  have uu:=Gi iv hd
  have hg:o.guard=none:=by
   cases hg:o.guard with
   |none=>rfl
   |some e=>
    obtain⟨j,x⟩:=e
    exfalso
    simp only[ij,hg]at kf
    repeat' split at kf
    all_goals simp at kf
  split at h
  ·rename_i v1 v os hq
   split at h
   ·rename_i hf hn
    simp only[oI,pI]at h
    obtain⟨rfl,rfl,rfl⟩:=h
    refine iK hg (Oper.wp_mono ?_ (Ii (Q:=Q) C hq g (fun e he=>by simp at he) (iv.Ej.now iv.kept) hv hf hn))
    rintro a' w' ⟨u,env',rfl,hN,hr⟩
    have g':=g.grow Xx hf hN
    have hnm: ∀d,o.dst=some d→v.mentions d=false:=by
     intro d _
     cases v with
     |one x=>rfl
     |uQ l=>rfl
     |cond p x=>
      exfalso
      have: ∀(op:Op) (d m:Nat) (out:Out) (p:List (Nat×Bool)) (x:S1),quiet Γ (Gb P ty) (Sound ty P) cr st [] d m op=some out→out.v≠ .cond p x:=by
       intro op d m out p x hh
       unfold quiet PZ at hh
       repeat' split at hh
       all_goals first
        | (cases hh;done)
        | (simp only[dA,oI]at hh;subst hh;intro e;cases e;done)
        | (simp only[oI]at hh;subst hh;unfold outs;(repeat' split)<;>(intro e;cases e))
      exact this _ _ _ _ p x hq rfl
    refine⟨by rw[gC,uR];exact iv.size,by rw[put_defers];exact iv.defers,iv.kept.trans (j9 hN.below Xx),iv.Ej,env',mL g' uu hr hnm⟩
   ·cases h
  ·cases h
 ·rename_i m e p hd _ kf
  have uu:=Gi iv hd
  split at h
  ·rename_i hne
   split at h
   ·rename_i v1 v hq
    simp only[oI,pI]at h
    obtain⟨rfl,rfl,rfl⟩:=h
    have hmn: ∀d,o.dst=some d→(SV.cond (e::p) v).mentions d=false:=by
     intro d Xy
     show((e::p).any fun e=>Nat.beq e.1 d)=false
     rw[List.any_eq_false]at hne ⊢
     intro x hx hb
     have:=Nat.eq_of_beq_eq_true hb
     exact hne x hx (by rw[Xy,this];simp)
    have fin: ∀{u:Value} {w':World},Below w.heap.size w w'→ke (ty:=ty) w w' st.hp [] env env→nG w' st.hp env a.tmps (.cond (e::p) v) u→Inv ty zb (st.put o.dst (.cond (e::p) v)) (a.put o.dst u) w':=by
     intro u w' hb hN hr
     have g':=g.grow (os:= []) Xx rfl hN
     exact⟨by rw[gC,uR];exact iv.size,by rw[put_defers];exact iv.defers,iv.kept.trans (j9 hb Xx),iv.Ej,env,mL g' uu hr hmn⟩
    have key: ∃j x q d,o.guard=some (j,x)∧ops[j]? =some q∧q.dst=some d∧(d,x)∈e::p∧(a.tmps[d]? =some (.bool x)→holds a.tmps (e::p)):=by
     unfold ij at kf
     split at kf
     ·simp at kf
     ·rename_i j x hg
      split at kf
      ·rename_i q hj
       split at kf
       ·rename_i d TP
        split at kf
        ·rename_i b hl
         simp only[oI]at kf
         refine⟨j,x,q,d,hg,hj,TP,by rw[←kf];simp,fun hh=> ?_⟩
         rw[←kf]
         intro y hy
         simp at hy
         subst hy
         exact hh
        ·rename_i p' b hl
         simp only[oI]at kf
         refine⟨j,x,q,d,hg,hj,TP,by rw[←kf];simp,fun hh=> ?_⟩
         rw[←kf]
         intro y hy
         rcases List.mem_cons.1 hy with rfl|hy
         ·exact hh
         ·exact(yT g hl hh).1 y hy
        ·cases kf
       ·cases kf
      ·cases kf
    obtain⟨j,x,q,d,hg,hj,TP,hmem,ZV⟩:=key
    have hw:=p8 (ops:=ops.toArray) hg (by simpa using hj) TP a.tmps
    unfold gD
    by_cases hb:a.tmps[d]? =some (.bool x)
    ·rw[if_pos (hw.2 hb)]
     have hp:=ZV hb
     left
     refine Oper.wp_mono ?_ (Ii (Q:=Q) C hq g hp (iv.Ej.now iv.kept) (fun z hz=> ?_) rfl rfl)
     ·rintro a' w' ⟨u,env',rfl,hN,hr⟩
      have he:env'=env:=funext fun n=>hN.old n rfl
      subst he
      exact fin hN.below hN ⟨fun _=>hr,fun hh=>absurd (fun y hy=>hp y hy) hh⟩
     ·exact Mh (hv _ (List.mem_map.2 ⟨z,hz,rfl⟩)) (BA g hp)
    ·rw[if_neg (fun hh=>hb (hw.1 hh))]
     exact fin (Below.refl _ _) (ke.none (Below.refl _ _)) ⟨fun hh=>absurd (hh (d,x) hmem) hb,fun _=>rfl⟩
   ·cases h
  ·cases h
 ·cases h
theorem Qm{Γ:Nat→TK}(C: ∀t,cG P t (Γ t)){cO:List (Nat×Nat)}{cr:List (Nat×CR)}{ops:List Oper}{vc:List Prop}(h:P0 Γ (Gb P ty) (Sound ty P) cO cr ops st o=some (vc,st'))(iv:Inv ty zb st a w)(hv: ∀q,q∈vc→q):
  gD P ops.toArray o a w (fun a' w'=>Inv ty zb st' a' w') Q:=by
 unfold P0 at h
 split at h
 ·rename_i nH v os hq
  simp only[oI,pI]at h
  obtain⟨rfl,rfl⟩:=h
  exact Ij C hq iv hv
 ·cases h
end
end
section
variable{ty:Tag→Nat}
def V.dead:V→V
 | .vw _ _ _ l=> .uo l.length
 |_=> .any
def V.bz(ks kv:List Nat)(v:V):V:=match v.name with
 |some m=>match ks.any (Nat.beq m)with
  |true=>v.dead
  |false=>match kv with
   | []=>v
   |kv=>match v.view with
    |some _=>match kv.any (Nat.beq m)with|true=>v.dead|false=>v
    |none=>v
 |none=>v
def S1.bz(ks kv:List Nat):S1→S1
 | .a v=> .a (v.bz ks kv)
 | .agg l=> .agg (l.map (V.bz ks kv))
def SV.bz(ks kv:List Nat):SV→SV
 | .one x=> .one (x.bz ks kv)
 | .uQ l=> .uQ (l.map (S1.bz ks kv))
 | .cond p x=> .cond p (x.bz ks kv)
def pP.bz(ks kv:List Nat):pP→pP
 | .of n=>match ks.any (Nat.beq n)||kv.any (Nat.beq n)with|true=> .gone|false=> .of n
 | .uq (some (n,i,o))=>match ks.any (Nat.beq n)||kv.any (Nat.beq n)with|true=> .uq none|false=> .uq (some (n,i,o))
 |s=>s
def Obj.bz(ks kv:List Nat):Obj→Obj
 | .box c=> .box (c.map (V.bz ks kv))
 | .arr t l=> .arr t l
 | .eZ t l s=> .eZ t l (s.bz ks kv)
def bW(ks kv:List Nat)(hp:Hp):Hp:=(hp.filter fun e=> !ks.any (Nat.beq e.1)).map fun e=>(e.1,e.2.bz ks kv)
def pinned(ks:List Nat):Bool:=ks.any soft
theorem V.KC{ks kv:List Nat}{v:V}:(v.bz ks kv).rR (fun n=>n∉ks) (fun n=>n∉ks∧n∉kv):=by
 have hx: ∀{l:List Nat} {m:Nat},(l.any (Nat.beq m))=false→m∉l:=by
  intro l m h hm
  rw[List.any_eq_false]at h
  exact h m hm (by simp)
 have Wo: ∀x:V,x.dead.rR (fun n=>n∉ks) (fun n=>n∉ks∧n∉kv):=by
  intro x
  cases x<;>exact⟨fun _ h=>by simp[V.dead,V.name]at h,fun _ h=>by simp[V.dead,V.view]at h⟩
 unfold V.bz
 split
 ·rename_i m hm
  split
  ·exact Wo v
  ·rename_i hk
   have hk:=hx hk
   have hn: ∀n,v.name=some n→n∉ks:=by
    intro n h;rw[hm]at h;simp only[oI]at h;subst h;exact hk
   split
   ·exact⟨hn,fun n h=>⟨hn n (V.oO h),by simp⟩⟩
   ·split
    ·split
     ·exact Wo v
     ·rename_i hv
      have hv:=hx hv
      refine⟨hn,fun n h=>⟨hn n (V.oO h),?_⟩⟩
      have:=V.oO h
      rw[hm]at this;simp only[oI]at this;subst this;exact hv
    ·rename_i hnv
     exact⟨hn,fun n h=>by rw[hnv]at h;cases h⟩
 ·rename_i hm
  refine⟨fun n h=> ?_,fun n h=> ?_⟩
  ·rw[hm]at h;cases h
  ·have:=V.oO h;rw[hm]at this;cases this
theorem RA.dead{w:World}{hp:Hp}{env:Env}{v:V}{u:Value}(h:RA w hp env v u):RA w hp env v.dead u:=by
 cases v with
 |vw n p t l=>
  obtain⟨_,⟨fp,⟨oa,cap,rfl,hc,hm,h3⟩,_⟩,_⟩:=h
  refine⟨oa,cap,rfl,hc,hm,fun ho=> ?_⟩
  rcases h3 with⟨_,_,h4⟩| ⟨b,off,bn,h4,_⟩
  ·exact h4
  ·rw[ho]at h4;cases h4
 |_=>trivial
theorem RA.bz{w:World}{hp:Hp}{env:Env}{ks kv:List Nat}{v:V}{u:Value}(h:RA w hp env v u):RA w hp env (v.bz ks kv) u:=by
 unfold V.bz
 repeat' split
 all_goals first
  |exact h
  |exact h.dead
  |trivial
abbrev oQ(ks kv:List Nat)(w:World)(hp:Hp)(env:Env)(w':World)(gq:Hp)(env':Env):Prop:=Step (fun n=>n∉ks) (fun n=>n∉ks∧n∉kv) w hp env w' gq env'
section
variable{ks kv:List Nat}{w w':World}{hp gq:Hp}{env env':Env}
theorem BE.gr(s:oQ ks kv w hp env w' gq env'){r:pP}{t:Tag}{x:T t}{u:Value}(h:BE w hp env r t x u):BE w' gq env' (r.bz ks kv) t x u:=by
 cases r with
 |gone=>trivial
 |mp=>trivial
 |HJ u=>trivial
 |uq p=>
  have: ∃q,pP.bz ks kv (.uq p)= .uq q:=by
   unfold pP.bz
   split
   ·rename_i e;cases e
   ·split
    ·exact⟨_,rfl⟩
    ·exact⟨_,rfl⟩
   ·exact⟨_,rfl⟩
  obtain⟨q,hq⟩:=this
  rw[hq];trivial
 |mH=>exact BE.step s (r:= .mH) (fun n hn=>by cases hn) h
 |of n=>
  unfold pP.bz
  dsimp only
  split
  ·trivial
  ·rename_i hk
   rw[Bool.or_eq_false_iff,List.any_eq_false,List.any_eq_false]at hk
   refine BE.step s (r:= .of n) (fun m hm=> ?_) h
   simp only[pP.name,oI]at hm
   subst hm
   exact⟨fun hm=>hk.1 n hm (by simp),fun hm=>hk.2 n hm (by simp)⟩
theorem RA.gr(s:oQ ks kv w hp env w' gq env'){v:V}{u:Value}(h:RA w hp env v u):RA w' gq env' (v.bz ks kv) u:=
 RA.step s V.KC h.bz
theorem bA.map{α β γ:Type}{R:α→β→Prop}{R':γ→β→Prop}{f:α→γ}: ∀{as:List α} {bs:List β},(∀a b,R a b→R' (f a) b)→bA R as bs→bA R' (as.map f) bs
 | [],[],_,_=>trivial
 |a::as,b::bs,h,⟨h1,h2⟩=>⟨h a b h1,bA.map h h2⟩
 | [],_::_,_,h=>h.elim
 |_::_,[],_,h=>h.elim
theorem eT.gr(s:oQ ks kv w hp env w' gq env'){x:S1}{u:Value}(h:eT w hp env x u):eT w' gq env' (x.bz ks kv) u:=by
 cases x with
 |a v=>exact RA.gr s h
 |agg l=>obtain⟨cs,hu,hl⟩:=h;exact⟨cs,hu,hl.map fun a b hr=>RA.gr s hr⟩
theorem nG.gr(s:oQ ks kv w hp env w' gq env'){tmps:Array Value}{x:SV}{u:Value}(h:nG w hp env tmps x u):nG w' gq env' tmps (x.bz ks kv) u:=by
 cases x with
 |one x=>exact eT.gr s h
 |uQ l=>obtain⟨us,hu,hl⟩:=h;exact⟨us,hu,hl.map fun a b hr=>eT.gr s hr⟩
 |cond p x=>exact⟨fun hh=>eT.gr s (h.1 hh),h.2⟩
theorem Good.gr{zb:cm}{st:St}{tmps:Array Value}(g:Good ty zb st tmps w env)(s:oQ ks kv w st.hp env w' gq env')
  (ho: ∀n o,look gq n=some o→RO ty w' gq env' n o (env' n))(hd: ∀n m o o',n≠m→look gq n=some o→look gq m=some o'→ ∀b,b∈(env' n).fp→b∉(env' m).fp)
  (hm: ∀n o,look gq n=some o→ ∀b,b∈(env' n).fp→b∈zb.L∨zb.w.heap.size≤b)(hp: ∀n,jg n=true→(env' n).v=(zb.pv n).v∧ ∀b,b∈(env' n).fp→b∈(zb.pv n).fp):
  Good ty zb ⟨st.n,st.sl.map fun e=>(e.1,e.2.bz ks kv),gq⟩ tmps w' env':=by
 refine⟨ho,hd,fun t v hl=> ?_,hm,hp⟩
 have hl:look (st.sl.map fun e=>(e.1,e.2.bz ks kv)) t=some v:=hl
 rw[jq (α:=SV) (f:=fun e:Nat×SV=>e.2.bz ks kv)]at hl
 cases hq:look st.sl t with
 |none=>rw[hq]at hl;cases hl
 |some y=>
  rw[hq]at hl
  simp only[Option.map_some,oI]at hl
  subst hl
  exact nG.gr s (g.slot t y hq)
end
theorem bI{ks kv:List Nat}{hp:Hp}{n:Nat}:look (bW ks kv hp) n=if n∈ks then none else(look hp n).map (Obj.bz ks kv):=by
 unfold bW
 rw[jq (α:=Obj) (f:=fun e:Nat×Obj=>e.2.bz ks kv)]
 have:look (hp.filter fun e=> !ks.any (Nat.beq e.1)) n=if n∈ks then none else look hp n:=by
  induction hp with
  |nil=>simp[look]
  |cons e r ih=>
   obtain⟨j,x⟩:=e
   by_cases hj:j∈ks
   ·have:(ks.any (Nat.beq j))=true:=List.any_eq_true.2 ⟨j,hj,by simp⟩
    rw[List.filter_cons_of_neg (by simp[this]),ih]
    by_cases hn:n∈ks
    ·simp[hn]
    ·have:n≠j:=by rintro rfl;exact hn hj
     rw[aZ this]
   ·have:(ks.any (Nat.beq j))=false:=List.any_eq_false.2 fun y hy hb=>hj (by have:=Nat.eq_of_beq_eq_true hb;rw[this];exact hy)
    rw[List.filter_cons_of_pos (by simp[this])]
    by_cases hn:n=j
    ·subst hn;rw[look_eq,look_eq,if_neg hj]
    ·rw[aZ hn,aZ hn,ih]
 rw[this]
 split<;>rfl
theorem oR: ∀{l:List V},rQ l=true→ ∀v,v∈l→v≠ .any
 |x::r,h,v,hv=>by
  cases x with
  |any=>simp[rQ]at h
  |_=>
   rcases List.mem_cons.1 hv with rfl|hv
   ·exact fun e=>by cases e
   ·exact oR (l:=r) (by simpa[rQ]using h) v hv
def Cy(Γ:Nat→TK)(st:St):Op→Option St
 | .store t x y=>match ff st [] x,Km st [] y with
   |some (.a (.ptr n off)),some v=>match look st.hp n with
    |some (.box c)=>match Γ t,v with
     | .st z _ _, .agg l=>match Nat.beq l.length z.length&&rQ l,Es c off l with
       |true,some c'=>some ⟨st.n,st.sl,(n, .box c')::st.hp⟩
       |_,_=>none
     | .st _ _ _, .a _=>none
     | .other,_=>none
     |_, .a .any=>none
     |_, .a v=>match Es c off [v]with
      |some c'=>some ⟨st.n,st.sl,(n, .box c')::st.hp⟩
      |none=>none
     |_,_=>none
    |_=>none
   |_,_=>none
 | .mapUpdate t m x y=>match Γ t with
   | .mp=>match ff st [] m,ff st [] x,ff st [] y with
     |some (.a (.tG n)),some (.a (.lit (.int .i64 k))),some (.a (.lit (.int .i64 v)))=>match look st.hp n with
      |some (.eZ tg l .mp)=>match gf .int tg l with
       |some l=>some ⟨st.n,st.sl,(n, .eZ .int (Ci l k v) .mp)::st.hp⟩
       |none=>none
      |_=>none
     |_,_,_=>none
   |_=>none
 |_=>none
section
variable{P:Program}{zb:cm}{st st':St}{a:Act}{w:World}{env:Env}{Q:Exit→Act→World→Prop}{o:Oper}
theorem RA.one(g:Good ty zb st a.tmps w env){v:V}{u:Value}(h:RA w st.hp env v u)(hv:v≠ .any):u.oneCell'=true:=by
 cases v with
 |any=>exact absurd rfl hv
 |lit x=>obtain⟨rfl,h1⟩:=h;exact h1
 |sl t l=>obtain⟨fp,⟨oa,cap,rfl,_⟩,_⟩:=h;rfl
 |own n=>
  obtain⟨⟨t,l,hl⟩,rfl⟩:=h
  obtain⟨oa,cap,h,_⟩:=RO.sl (g.obj n _ hl)
  rw[h];rfl
 |ptr n off=>obtain⟨_,b,_,rfl⟩:=h;rfl
 |Bt f n=>obtain⟨_,b,_,rfl⟩:=h;rfl
 |uo k=>obtain⟨oa,cap,rfl,_⟩:=h;rfl
 |raw x=>obtain⟨rfl,h1⟩:=h;exact h1
 |qK v t l=>obtain⟨_,fp,⟨oa,cap,rfl,_⟩,_⟩:=h;rfl
 |mG n i off=>obtain⟨t,l,_,b,o,len,cap,_,rfl⟩:=h;rfl
 |ip t x off=>obtain⟨b,o,cs,fp,rfl,_⟩:=h;rfl
 |vw n p t l=>obtain⟨_,⟨fp,⟨oa,cap,rfl,_⟩,_⟩,_⟩:=h;rfl
 |Ei n t l=>obtain⟨_,b,fp,⟨oa,cap,rfl,_⟩,_⟩:=h;rfl
 |mix n c t l=>obtain⟨_,⟨fp,⟨oa,cap,rfl,_⟩,_⟩,_⟩:=h;rfl
 |tG n=>
  obtain⟨⟨t,l,s,hl⟩,rfl⟩:=h
  rcases RO.Cl (g.obj n _ hl)with⟨_,r,lx,_,h,_⟩| ⟨_,_,hv,_,_,⟨oa,cap,h,_⟩,_⟩| ⟨_,_,_,⟨oa,m,cap,h⟩,_⟩| ⟨_,_,us,hB,_⟩
  ·rw[h];rfl
  ·rw[hv,h];rfl
  ·rw[h];rfl
  ·obtain⟨oa,cap,h,_⟩:=hB.sl
   rw[h];rfl
 |Eh n p t x off=>obtain⟨_,b,o,cs,fp,rfl,_⟩:=h;rfl
theorem tM(g:Good ty zb st a.tmps w env): ∀{l:List V} {us:List Value},bA (RA w st.hp env) l us→(∀v,v∈l→v≠ .any)→ ∀u,u∈us→u.oneCell'=true
 |v::l,u::us,⟨h1,h2⟩,hn,x,hx=>by
  rcases List.mem_cons.1 hx with rfl|hx
  ·exact RA.one g h1 (hn v (by simp))
  ·exact tM g h2 (fun y hy=>hn y (by simp[hy])) x hx
 | [],_::_,h,_,_,_=>h.elim
theorem Cz(g:Good ty zb st a.tmps w env){n:Nat}{c c':List V}(hl:look st.hp n=some (.box c)){b:Nat}{cs us:List Value}{e:TypeId}{off:Nat}(wK:env n=⟨.pointer (some ⟨b,0,none⟩),[b]⟩)(hh:w.heap[b]? =some (.cells (Array.mk cs) e (0,0)))
  (hlen:off+us.length≤cs.length)(hc:bA (RA w st.hp env) c' (cs.take off++(us++cs.drop (off+us.length)))):
  Good ty zb ⟨st.n,st.sl,(n, .box c')::st.hp⟩ a.tmps (w.setCells b off us) env:=by
 have hk: ∀x,x≠b→(w.setCells b off us).heap[x]? =w.heap[x]? :=fun x hx=>bV b us off w x hx
 have hlk: ∀m o,look ((n,Obj.box c')::st.hp) m=some o→(m=n∧o= .box c')∨(m≠n∧look st.hp m=some o):=by
  intro m o hm
  by_cases hmn:m=n
  ·subst hmn;rw[look_eq]at hm;simp only[oI]at hm;exact Or.inl ⟨rfl,hm.symm⟩
  ·rw[aZ hmn]at hm;exact Or.inr ⟨hmn,hm⟩
 have how:Ow st.hp env b:=⟨n,_,hl,by rw[wK];simp⟩
 have s:Step (fun _=>True) (fun _=>True) w st.hp env (w.setCells b off us) ((n, .box c')::st.hp) env:=by
  refine⟨fun x _ hx=>hk x (fun e=>hx (e▸how)),?_,?_,?_⟩
  ·rintro x _ ⟨m,o,h1,h2⟩
   rcases hlk m o h1 with⟨rfl,rfl⟩| ⟨_,h1⟩
   ·exact⟨m,_,hl,h2⟩
   ·exact⟨m,o,h1,h2⟩
  ·intro m o _ h1
   by_cases hmn:m=n
   ·subst hmn
    rw[hl]at h1
    simp only[oI]at h1
    subst h1
    exact⟨_,look_eq,trivial,rfl⟩
   ·exact⟨o,by rw[aZ hmn];exact h1,by cases o<;>simp[Obj.like],rfl⟩
  ·intro m t l _ h1
   have hmn:m≠n:=by rintro rfl;rw[hl]at h1;cases h1
   refine⟨by rw[aZ hmn];exact h1,rfl,fun x hx=>hk x ?_⟩
   rintro rfl
   exact g.iq m n _ _ hmn h1 hl x hx (by rw[wK];simp)
 refine⟨fun m o hm=> ?_,fun m m' o o' hne h1 h2=> ?_,fun t v hv=>nG.step s (fun v _=>v.dH) (g.slot t v hv),fun m o hm b hb=> ?_,g.pins⟩
 ·rcases hlk m o hm with⟨rfl,rfl⟩| ⟨hmn,hm⟩
  ·refine⟨b,_,e,wK,?_,hc.mono fun v u _ h=>RA.step s v.dH h⟩
   rw[Cb hh,nM us cs off hlen]
  ·have hro:=g.obj m o hm
   refine hro.step s (Obj.dH _) fun x hx=>hk x ?_
   rintro rfl
   exact g.iq m n o _ hmn hm hl x hx (by rw[wK];simp)
 ·rcases hlk m o h1 with⟨e1,e2⟩| ⟨_,k1⟩<;>rcases hlk m' o' h2 with⟨e3,e4⟩| ⟨_,k2⟩
  ·exact absurd (e1.trans e3.symm) hne
  ·exact g.iq m m' _ _ hne (e1▸hl) k2
  ·exact g.iq m m' _ _ hne k1 (e3▸hl)
  ·exact g.iq m m' _ _ hne k1 k2
 ·rcases hlk m o hm with⟨e1,_⟩| ⟨_,k1⟩
  ·subst e1;exact g.dom m _ hl b hb
  ·exact g.dom m o k1 b hb
theorem wM{b:Nat}(hb:b∈zb.L∨zb.w.heap.size≤b){c:Array Value}{e:TypeId}(hh:w.heap[b]? =some (.cells c e (0,0)))(off:Nat)(us:List Value):Kept zb w (w.setCells b off us):=by
 have h0:=BZ (B:=0) (w:=w) (Below.refl 0 w) (Nat.zero_le b) off us
 refine⟨h0.os,h0.tape,h0.output,h0.size,fun x hx hn=>bV b us off w x ?_,fun x c' e' hx=> ?_⟩
 ·rintro rfl
  rcases hb with h|h
  ·exact hn h
  ·omega
 ·by_cases Wp:x=b
  ·subst Wp
   rw[hh]at hx
   simp only[oI,Go.Obj.cells.injEq,and_true]at hx
   obtain⟨rfl,rfl⟩:=hx
   obtain⟨c2,h1,h2⟩:=cW x e us off w c hh
   exact⟨c2,h1,h2⟩
  ·exact⟨c',by rw[bV b us off w x Wp];exact hx,rfl⟩
theorem l5{t b off:Nat}{v:Value}{us:List Value}(hv:v.cells=us.toArray)(ht:w.there b off us.length)(hi:(P.info? t).map (·.size)=some us.length)(h1: ∀u,u∈us→u.oneCell'=true):
  (storeVar t ⟨b,off,none⟩ v).run P w= .ok () (w.setCells b off us):=by
 have:=run_storeVar_mid (P:=P) w b off t us.toArray (by simpa using ht) (by simpa using hi) (all_oneCell_toArray h1)
 unfold storeVar at this ⊢
 rw[hv]
 exact this
theorem Qn(g:Good ty zb st a.tmps w env){n:Nat}{l0 l':List Int}(hl:look st.hp n=some (.eZ .int l0 .mp)){r:Nat}(wK:env n=⟨.map (some r),[r]⟩){o0:Go.Obj}(hh:w.heap[r]? =some o0){es:Array MapEntry}{clock:Nat}(he:F6 es.toList l'):
  Good ty zb ⟨st.n,st.sl,(n, .eZ .int l' .mp)::st.hp⟩ a.tmps {w with heap:=w.heap.setIfInBounds r (.map es clock)} env:=by
 have hk: ∀x,x≠r→(w.heap.setIfInBounds r (.map es clock))[x]? =w.heap[x]? :=fun x hx=>(Go.MapKept.heap_set hh).2 x hx
 have hlk: ∀m o,look ((n,Obj.eZ .int l' .mp)::st.hp) m=some o→(m=n∧o= .eZ .int l' .mp)∨(m≠n∧look st.hp m=some o):=by
  intro m o hm
  by_cases hmn:m=n
  ·subst hmn;rw[look_eq]at hm;simp only[oI]at hm;exact Or.inl ⟨rfl,hm.symm⟩
  ·rw[aZ hmn]at hm;exact Or.inr ⟨hmn,hm⟩
 have how:Ow st.hp env r:=⟨n,_,hl,by rw[wK];simp⟩
 have s:Step (fun _=>True) (fun _=>True) w st.hp env {w with heap:=w.heap.setIfInBounds r (.map es clock)} ((n, .eZ .int l' .mp)::st.hp) env:=by
  refine⟨fun x _ hx=>hk x (fun e=>hx (e▸how)),?_,?_,?_⟩
  ·rintro x _ ⟨m,o,h1,h2⟩
   rcases hlk m o h1 with⟨rfl,rfl⟩| ⟨_,h1⟩
   ·exact⟨m,_,hl,h2⟩
   ·exact⟨m,o,h1,h2⟩
  ·intro m o _ h1
   by_cases hmn:m=n
   ·subst hmn
    rw[hl]at h1
    simp only[oI]at h1
    subst h1
    exact⟨_,look_eq,rfl,rfl⟩
   ·exact⟨o,by rw[aZ hmn];exact h1,by cases o<;>simp[Obj.like],rfl⟩
  ·intro m t l _ h1
   have hmn:m≠n:=by rintro rfl;rw[hl]at h1;cases h1
   refine⟨by rw[aZ hmn];exact h1,rfl,fun x hx=>hk x ?_⟩
   rintro rfl
   exact g.iq m n _ _ hmn h1 hl x hx (by rw[wK];simp)
 refine⟨fun m o hm=> ?_,fun m m' o o' hne h1 h2=> ?_,fun t v hv=>nG.step s (fun v _=>v.dH) (g.slot t v hv),fun m o hm b hb=> ?_,g.pins⟩
 ·rcases hlk m o hm with⟨rfl,rfl⟩| ⟨hmn,hm⟩
  ·exact⟨r,l',rfl,wK,es,clock,(Go.MapKept.heap_set hh).1,he⟩
  ·have hro:=g.obj m o hm
   refine hro.step s (Obj.dH _) fun x hx=>hk x ?_
   rintro rfl
   exact g.iq m n o _ hmn hm hl x hx (by rw[wK];simp)
 ·rcases hlk m o h1 with⟨e1,e2⟩| ⟨_,k1⟩<;>rcases hlk m' o' h2 with⟨e3,e4⟩| ⟨_,k2⟩
  ·exact absurd (e1.trans e3.symm) hne
  ·exact g.iq m m' _ _ hne (e1▸hl) k2
  ·exact g.iq m m' _ _ hne k1 (e3▸hl)
  ·exact g.iq m m' _ _ hne k1 k2
 ·rcases hlk m o hm with⟨e1,_⟩| ⟨_,k1⟩
  ·subst e1;exact g.dom m _ hl b hb
  ·exact g.dom m o k1 b hb
theorem Qo{r:Nat}(hb:r∈zb.L∨zb.w.heap.size≤r){es0 es:Array MapEntry}{c0 clock:Nat}(hh:w.heap[r]? =some (.map es0 c0)):Kept zb w {w with heap:=w.heap.setIfInBounds r (.map es clock)}:=by
 refine⟨rfl,rfl,rfl,by simp,fun x hx hn=>(Go.MapKept.heap_set hh).2 x ?_,fun x c' e' hx=>⟨c',?_,rfl⟩⟩
 ·rintro rfl
  rcases hb with h|h
  ·exact hn h
  ·omega
 ·rw[(Go.MapKept.heap_set hh).2 x (by rintro rfl;rw[hh]at hx;cases hx)];exact hx
theorem Oa{Γ:Nat→TK}(C: ∀t,cG P t (Γ t))(Z: ∀t,(∀z tg fo,Γ t≠ .st z tg fo)→Γ t≠ .other→(P.info? t).map (·.size)=some 1)(h:Cy Γ st o.op=some st')(g:Good ty zb st a.tmps w env):
  o.wp P a w (fun a' w'=>a'=a.put o.dst undef∧Kept zb w w'∧Good ty zb st' a.tmps w' env∧st'.n=st.n∧st'.sl=st.sl) Q:=by
 have hop: ∀{x v},ff st [] x=some v→eT w st.hp env v (a.eval x):=fun hx=>dB g (fun e he=>by simp at he) hx
 have hor: ∀{x v},Km st [] x=some v→eT w st.hp env v (a.eval x):=fun hx=>vh g (fun e he=>by simp at he) hx
 generalize eJ:o.op=op at h
 cases op with
 |mapUpdate t m x y=>
  simp only[Cy]at h
  split at h
  case h_2=>cases h
  rename_i hk
  have hC:=C t
  rw[hk]at hC
  obtain⟨kt,et,ht,hkt,_,_⟩:=hC
  split at h
  case h_2=>cases h
  rename_i n k v hm hx hy
  split at h
  case h_2=>cases h
  rename_i tg l0 hl
  split at h
  case h_2=>cases h
  rename_i l hc
  simp only[oI]at h
  obtain⟨e1,e2⟩:=cU hc
  subst e1
  subst e2
  obtain⟨_,hu⟩:=hop hm
  have hx:=(hop hx).lit
  have hy:=(hop hy).lit
  obtain⟨r,lx,h1,h2,h3⟩:=g.obj n _ hl
  rw[hc]at h1
  simp only[oI]at h1
  subst h1
  obtain⟨es,clock,q1,q2,es0,c0,q3⟩:=wu (x:=k) (y:=v) ht hkt h3
  have Pn:a.eval m= .map (some r):=by rw[hu,h2]
  have hM:=g.dom n _ hl r (by rw[h2];simp)
  subst h
  unfold Oper.wp execOp
  simp only[eJ,Pn,hx,hy,q1,Sem.run_bind,Sem.run_pure,Result.andThen_ok]
  exact⟨by trivial,Qo hM q3,Qn g hl h2 q3 q2,by trivial,by trivial⟩
 |store t x y=>
  simp only[Cy]at h
  split at h
  ·rename_i n off v hx hy
   have hx:=hop hx
   have hy:=hor hy
   split at h
   ·rename_i c hl
    obtain⟨_,b,hb,hu⟩:=hx
    obtain⟨b',cs,e,wK,hh,hc⟩:=g.obj n _ hl
    have hM:=g.dom n _ hl b' (by rw[wK];simp)
    have TO:b=b':=by rw[wK]at hb;simpa using hb.symm
    subst TO
    have fin: ∀{us:List Value} {c':List V},(a.eval y).cells=us.toArray→(P.info? t).map (·.size)=some us.length→(∀u,u∈us→u.oneCell'=true)→off+us.length≤cs.length→bA (RA w st.hp env) c' (cs.take off++(us++cs.drop (off+us.length)))→st'=⟨st.n,st.sl,(n, .box c')::st.hp⟩→
      o.wp P a w (fun a' w'=>a'=a.put o.dst undef∧Kept zb w w'∧Good ty zb st' a.tmps w' env∧st'.n=st.n∧st'.sl=st.sl) Q:=by
     intro us c' h1 h2 h3 h4 h5 h6
     subst h6
     unfold Oper.wp execOp
     simp only[eJ,hu,Instr.storeAt,Instr.sureAddr,Sem.run_bind,Sem.run_pure,Result.andThen_ok,l5 h1 (FY hh off us.length h4) h2 h3]
     exact⟨by trivial,wM hM hh off us,Cz g hl wK hh h4 h5,by trivial,by trivial⟩
    split at h
    ·rename_i z tg fo l hk _
     split at h
     ·rename_i c' hlen hs
      simp only[oI]at h
      obtain⟨us,Qi,Ko⟩:=hy
      obtain⟨k1,k2⟩:=Gf hc Ko hs
      have hC:=C t
      rw[hk]at hC
      obtain⟨fs,_,hi,_⟩:=hC
      simp only[Bool.and_eq_true]at hlen
      have jV:=Nat.eq_of_beq_eq_true hlen.1
      refine fin (us:=us) (by rw[Qi];rfl) ?_ ?_ k1 k2 h.symm
      ·rw[Ko.len,jV]
       cases hq:P.info? t with
       |none=>simp[hq]at hi
       |some i=>simp[hq]at hi;simp[hi.1]
      ·exact tM g Ko (oR hlen.2)
     ·cases h
    ·cases h
    ·cases h
    ·cases h
    ·rename_i v k1 k2 k3 _
     split at h
     ·rename_i c' hs
      simp only[oI]at h
      obtain⟨q1,q2⟩:=Gf (vs:= [v]) (us:= [a.eval y]) hc ⟨hy,trivial⟩ hs
      have hne:v≠ .any:=fun e=>k1 e
      refine fin (us:= [a.eval y]) (iS g hy hne) (Z t (fun z tg fo hz=>k2 z tg fo hz) k3) ?_ q1 q2 h.symm
      intro u Zu
      rw[List.mem_singleton.1 Zu]
      exact RA.one g hy hne
     ·cases h
    ·cases h
   ·cases h
  ·cases h
 |_=>simp[Cy]at h
end
end
section
variable{ty:Tag→Nat}
theorem wN{α:Type}{k:Nat}{E:ER α}(G:fJ k E)(hk:0<k){w:World}{u:Value}{l:List α}{fp:List Nat}(h:Sl k E w u l fp):
  ∃(news:List Value) (fx:List (List Nat)),Src w u l.length news∧fx.length=l.length∧news.length=l.length*k∧(∀i x f,l[i]? =some x→fx[i]? =some f→E w ((news.drop (i*k)).take k) x f)∧fx.flatten.Sublist fp:=by
 obtain⟨news,fx,h1,h2,h3,h4,h5,_⟩:=oP G hk h
 exact⟨news,fx,h1,h2,h3,h4,h5⟩
theorem pP.Ik{ks kv:List Nat}{r:pP}(h:r.br):(r.bz ks kv).br:=by
 cases r with
 |mp=>exact h.elim
 |HJ u=>exact h.elim
 |uq p=>exact h.elim
 |gone=>trivial
 |mH=>trivial
 |of n=>unfold pP.bz;dsimp only;split<;>trivial
theorem yP.gr{ks kv:List Nat}{w w':World}{hp gq:Hp}{env env':Env}(s:oQ ks kv w hp env w' gq env'){n:Nat}{t:Tag}{l:List (T t)}{p:Option (Nat×Nat×Nat)}{co:CO}(hk: ∀b,b∈co.fp→w'.heap[b]? =w.heap[b]?)(h:yP ty w hp env t l p co):RO ty w' gq env' n (.eZ t l ((pP.uq p).bz ks kv)) co:=by
 have hnone:yP ty w' gq env' t l none co:=⟨h.1.agree hk,h.2.1,fun _ _ _ e=>by cases e⟩
 cases p with
 |none=>exact hnone
 |some e=>
  obtain⟨m,i,o⟩:=e
  unfold pP.bz
  dsimp only
  split
  ·exact hnone
  ·rename_i hn
   rw[Bool.or_eq_false_iff,List.any_eq_false,List.any_eq_false]at hn
   refine yP.step s (fun n hm=> ?_) hk h
   simp only[pP.name,oI]at hm
   subst hm
   exact⟨fun hm=>hn.1 _ hm (by simp),fun hm=>hn.2 _ hm (by simp)⟩
theorem RO.gr{ks kv:List Nat}{w w':World}{hp gq:Hp}{env env':Env}(s:oQ ks kv w hp env w' gq env'){n:Nat}{o:Obj}{co:CO}
  (hk: ∀b,b∈co.fp→w'.heap[b]? =w.heap[b]?)(h:RO ty w hp env n o co):RO ty w' gq env' n (o.bz ks kv) co:=by
 cases o with
 |box c=>
  obtain⟨b,cs,e,rfl,hh,hc⟩:=h
  exact⟨b,cs,e,rfl,by rw[hk b (by simp)];exact hh,hc.map fun a u hr=>RA.gr s hr⟩
 |arr t l=>exact RO.agree h hk
 |eZ t l r=>
  rcases RO.Cl h with⟨rfl,h⟩| ⟨u,rfl,h⟩| ⟨p,rfl,h⟩| ⟨hr,h1,us,hB,h2,h3⟩
  ·exact H7.agree h hk
  ·exact F9.step s hk h
  ·exact yP.gr s hk h
  ·exact RO.N4 (pP.Ik hr) ⟨h1,us,ig.agree wE hB hk,h2,fun i x u hx hu=>BE.gr s (h3 i x u hx hu)⟩
def St.gone(st:St)(ks:List Nat)(d:Nat)(t:Tag)(l:List (T t)):St:=
 match ks with
 | []=>⟨st.n,st.sl,(d, .arr t l)::st.hp⟩
 |ks=>⟨st.n,st.sl.map fun e=>(e.1,e.2.bz ks []),(d, .arr t l)::bW ks [] st.hp⟩
theorem V.gS(v:V):v.bz [] []=v:=by
 unfold V.bz;split<;>simp
theorem S1.gS(x:S1):x.bz [] []=x:=by
 cases x with
 |a v=>simp[S1.bz,V.gS]
 |agg l=>simp only[S1.bz,S1.agg.injEq];rw[List.map_congr_left (g:=id) fun v _=>V.gS v,List.map_id]
theorem SV.gS(x:SV):x.bz [] []=x:=by
 cases x with
 |one x=>simp[SV.bz,S1.gS]
 |uQ l=>simp only[SV.bz,SV.uQ.injEq];rw[List.map_congr_left (g:=id) fun v _=>S1.gS v,List.map_id]
 |cond p x=>simp[SV.bz,S1.gS]
theorem KD(hp:Hp):bW [] [] hp=hp:=by
 unfold bW
 rw[List.filter_eq_self.2 (by simp),List.map_congr_left (g:=id),List.map_id]
 rintro⟨n,o⟩ _
 cases o with
 |box c=>simp only[Obj.bz,id];rw[List.map_congr_left (g:=id) fun v _=>V.gS v,List.map_id]
 |arr t l=>rfl
 |eZ t l s=>cases s with
  |uq p=>cases p<;>rfl
  |_=>rfl
theorem St.gone_eq(st:St)(ks:List Nat)(d:Nat)(t:Tag)(l:List (T t)):st.gone ks d t l=⟨st.n,st.sl.map fun e=>(e.1,e.2.bz ks []),(d, .arr t l)::bW ks [] st.hp⟩:=by
 unfold St.gone
 split
 ·rw[KD,List.map_congr_left (g:=id),List.map_id]
  rintro⟨n,x⟩ _
  simp[SV.gS]
 ·rfl
section
variable{P:Program}{zb:cm}{st st':St}{a:Act}{w:World}{env:Env}{Q:Exit→Act→World→Prop}{o:Oper}
theorem mM{ks:List Nat}(h:pinned ks=false){n:Nat}(hn:n∈ks):soft n=false:=by
 unfold pinned at h
 rw[List.any_eq_false]at h
 simpa using h n hn
theorem yU(g:Good ty zb st a.tmps w env)(hB:zb.w.heap.size≤w.heap.size){ks:List Nat}(hpk:pinned ks=false){d:Nat}(Xz:jg d=false)(hd:look (bW ks [] st.hp) d=none){v v':Value}{w':World}{ob:Obj}{fp fx e9:List Nat}
  (eR: ∀b,b∈fp++fx→ ∃i o,i∈ks∧look st.hp i=some o∧b∈(env i).fp)(AD: ∀b,v.ownBlock=some b→b∈fp)
  (hRO: ∀env':Env,env' d=⟨v',e9⟩→oQ ks [] w st.hp env w' ((d,ob)::bW ks [] st.hp) env'→RO ty w' ((d,ob)::bW ks [] st.hp) env' d ob ⟨v',e9⟩)(hg:w.grownBy w' v.ownBlock)(hsub: ∀b,b∈e9→b∈fp∨b∈fx∨b=w.heap.size):
  ∃env',Good ty zb ⟨st.n,st.sl.map fun e=>(e.1,e.2.bz ks []),(d,ob)::bW ks [] st.hp⟩ a.tmps w' env'∧(env' d).v=v'∧(∀n,n≠d→env' n=env n)∧(env' d).fp=e9:=by
 refine⟨fun n=>if n=d then⟨v',e9⟩else env n,?_,by simp,fun n hn=>by simp[hn],by simp⟩
 have hlk: ∀m o,look ((d,ob)::bW ks [] st.hp) m=some o→(m=d∧o=ob)∨(m≠d∧m∉ks∧ ∃o',look st.hp m=some o'∧o=o'.bz ks []):=by
  intro m o hm
  by_cases gE:m=d
  ·subst gE;rw[look_eq]at hm;simp only[oI]at hm;exact Or.inl ⟨rfl,hm.symm⟩
  ·rw[aZ gE,bI]at hm
   split at hm
   ·cases hm
   ·rename_i hks
    cases hq:look st.hp m with
    |none=>rw[hq]at hm;cases hm
    |some o'=>rw[hq]at hm;simp only[Option.map_some,oI]at hm;exact Or.inr ⟨gE,hks,o',rfl,hm.symm⟩
 have how: ∀b,b∈e9→b<w.heap.size→ ∃i o,i∈ks∧look st.hp i=some o∧b∈(env i).fp:=by
  intro b hb hlt
  rcases hsub b hb with h|h|h
  ·exact eR b (List.mem_append_left _ h)
  ·exact eR b (List.mem_append_right _ h)
  ·omega
 have hnd: ∀m o,m∉ks→look st.hp m=some o→m≠d:=by
  rintro m o hks h1 rfl
  rw[bI,if_neg hks,h1]at hd
  cases hd
 have hst: ∀m o,m∉ks→look st.hp m=some o→ ∀b,b∈(env m).fp→w'.heap[b]? =w.heap[b]? :=by
  intro m o hks h3 b hb
  refine hg.block b ((g.obj m o h3).va b hb) fun e=> ?_
  obtain⟨i,oi,hi,h5,h6⟩:=eR b (List.mem_append_left _ (AD b e.symm))
  exact g.iq m i _ _ (fun e=>hks (e▸hi)) h3 h5 b hb h6
 have s:oQ ks [] w st.hp env w' ((d,ob)::bW ks [] st.hp) (fun n=>if n=d then⟨v',e9⟩else env n):=by
  refine⟨fun b hb hno=>hg.block b hb fun e=> ?_,?_,?_,?_⟩
  ·obtain⟨i,o',_,h1,h2⟩:=eR b (List.mem_append_left _ (AD b e.symm))
   exact hno ⟨i,o',h1,h2⟩
  ·rintro b hb ⟨m,o',h1,h2⟩
   rcases hlk m o' h1 with⟨rfl,_⟩| ⟨gE,hks,we,h3,rfl⟩
   ·simp at h2
    obtain⟨i,o',_,h3,h4⟩:=how b h2 hb
    exact⟨i,o',h3,h4⟩
   ·simp[gE]at h2
    exact⟨m,we,h3,h2⟩
  ·intro m o' hks h1
   have gE:=hnd m o' hks h1
   refine⟨o'.bz ks [],by rw[aZ gE,bI,if_neg hks,h1];rfl,by cases o'<;>simp[Obj.like,Obj.bz],by simp[gE]⟩
  ·rintro m t' l' ⟨hks,_⟩ h1
   have gE:=hnd m _ hks h1
   exact⟨by rw[aZ gE,bI,if_neg hks,h1];rfl,by simp[gE],hst m _ hks h1⟩
 refine g.gr s (fun m o' hm=> ?_) (fun m m' o1 o2 hne h1 h2 b hb hb'=> ?_) (fun m o' hm b hb=> ?_) (fun m hm=> ?_)
 ·rcases hlk m o' hm with⟨e1,e2⟩| ⟨gE,hks,we,h3,rfl⟩
  ·rw[e1,e2]
   simp only[if_true]
   exact hRO _ (by simp) s
  ·simp only[if_neg gE]
   have hro:=g.obj m we h3
   exact hro.gr s (hst m we hks h3)
 ·rcases hlk m o1 h1 with⟨e1,_⟩| ⟨gE,hks,q1,h3,_⟩<;>rcases hlk m' o2 h2 with⟨e2,_⟩| ⟨Ba,KE,q2,h4,_⟩
  ·exact hne (e1.trans e2.symm)
  ·simp only[if_pos e1]at hb
   simp only[if_neg Ba]at hb'
   have hlt:=(g.obj m' q2 h4).va b hb'
   obtain⟨i,oi,hi,h5,h6⟩:=how b hb hlt
   exact g.iq m' i _ _ (fun e=>KE (e▸hi)) h4 h5 b hb' h6
  ·simp only[if_pos e2]at hb'
   simp only[if_neg gE]at hb
   have hlt:=(g.obj m q1 h3).va b hb
   obtain⟨i,oi,hi,h5,h6⟩:=how b hb' hlt
   exact g.iq m i _ _ (fun e=>hks (e▸hi)) h3 h5 b hb h6
  ·simp only[if_neg gE]at hb
   simp only[if_neg Ba]at hb'
   exact g.iq m m' _ _ hne h3 h4 b hb hb'
 ·rcases hlk m o' hm with⟨e1,_⟩| ⟨gE,hks,q1,h3,_⟩
  ·simp only[if_pos e1]at hb
   by_cases hlt:b<w.heap.size
   ·obtain⟨i,oi,hi,h5,h6⟩:=how b hb hlt
    exact g.dom i oi h5 b h6
   ·exact Or.inr (by omega)
  ·simp only[if_neg gE]at hb
   exact g.dom m q1 h3 b hb
 ·have:m≠d:=by rintro rfl;rw[Xz]at hm;cases hm
  simp only[if_neg this]
  exact g.pins m hm
theorem yV(g:Good ty zb st a.tmps w env)(hB:zb.w.heap.size≤w.heap.size){ks:List Nat}(hpk:pinned ks=false){d:Nat}(Xz:jg d=false)(hd:look (bW ks [] st.hp) d=none){v v':Value}{w':World}{t:Tag}{l:List (T t)}{fp fx e9:List Nat}
  (eR: ∀b,b∈fp++fx→ ∃i o,i∈ks∧look st.hp i=some o∧b∈(env i).fp)(AD: ∀b,v.ownBlock=some b→b∈fp)
  (XA:ig (kk t) (rd t) 0 (ty t) w' v' l e9)(hg:w.grownBy w' v.ownBlock)(hsub: ∀b,b∈e9→b∈fp∨b∈fx∨b=w.heap.size):
  ∃env',Good ty zb ⟨st.n,st.sl.map fun e=>(e.1,e.2.bz ks []),(d, .arr t l)::bW ks [] st.hp⟩ a.tmps w' env'∧(env' d).v=v'∧(∀n,n≠d→env' n=env n)∧(env' d).fp=e9:=
 yU g hB hpk Xz hd eR AD (fun _ _ _=>RO.EU XA) hg hsub
theorem wO(g:Good ty zb st a.tmps w env)(hB:zb.w.heap.size≤w.heap.size){ks:List Nat}(hpk:pinned ks=false){d:Nat}(Xz:jg d=false)(hd:look (bW ks [] st.hp) d=none){v v':Value}{w':World}{t:Tag}{l:List (T t)}{fp fx e9:List Nat}
  (eR: ∀b,b∈fp++fx→ ∃i o,i∈ks∧look st.hp i=some o∧b∈(env i).fp)(AD: ∀b,v.ownBlock=some b→b∈fp)
  (XA:ig (kk t) (rd t) 0 (ty t) w' v' l e9)(hg:w.grownBy w' v.ownBlock)(hsub: ∀b,b∈e9→b∈fp∨b∈fx∨b=w.heap.size):
  ∃env',Good ty zb ⟨st.n,st.sl.map fun e=>(e.1,e.2.bz ks []),(d, .arr t l)::bW ks [] st.hp⟩ a.tmps w' env'∧(env' d).v=v':=by
 obtain⟨env',h1,h2,_⟩:=yV g hB hpk Xz hd eR AD XA hg hsub
 exact⟨env',h1,h2⟩
end
def CA(st:St)(t:Tag):S1→Option (List (T t)×List Nat)
 | .a (.own n)=>match look st.hp n with
   |some (.arr t' l)=>match gf t t' l with|some l=>some (l,[n])|none=>none
   |_=>none
 | .a (.lit (.slice none 0 0))=>some ([],[])
 |_=>none
def Gj(st:St)(t:Tag):S1→Option (List (T t)×List Nat)
 | .a (.own n)=>match look st.hp n with
   |some (.arr t' l)=>match gf t t' l with|some l=>some (l,match flat t with|true=> []|false=> [n])|none=>none
   |_=>none
 | .a (.sl t' l)=>match flat t,gf t t' l with
   |true,some l=>some (l,[])
   |false,some l=>match l with| []=>some ([],[])|_=>none
   |_,_=>none
 | .a (.vw n _ t' l)=>match gf t t' l with
   |some l=>some (l,match flat t with|true=> []|false=> [n])
   |none=>none
 | .a (.Ei n t' l)=>match gf t t' l with
   |some l=>some (l,[n])
   |none=>none
 | .a (.lit (.slice none 0 0))=>some ([],[])
 | .a (.uo 0)=>some ([],[])
 |_=>none
def l6{α:Type}:List α→List α→List α
 | [],l=>l
 | [x],l=>x::l
 |k,l=>k++l
theorem dM{α:Type}(k l:List α):l6 k l=k++l:=by
 unfold l6;split<;>rfl
def wP(k m:List Nat):Bool:=k.all fun x=> !m.any fun y=>Nat.beq x y
def KF(P:Program)(ty:Tag→Nat)(Γ:Nat→TK)(st:St)(m0:Nat):Op→Option (List Prop×St×SV)
 | .call ⟨.builtin .append,xs,ts⟩=>match xs.toList,ts.toList with
   | [s,x],[t1,t2]=>match Γ t1,Nat.beq t1 t2 with
     | .sl t e,true=>match Nat.beq e (ty t),ff st [] s,ff st [] x with
       |true,some vs,some vx=>match CA st t vs,Gj st t vx with
        |some (l,k),some (lx,m)=>match wP k m&& !pinned (l6 k m)&& !jg m0,look (bW (l6 k m) [] st.hp) m0 with
         |true,none=>some ([El P ty t,(l.length+lx.length)*cK t≤140737488355328∧l.length+lx.length≤maxLen],
           st.gone (l6 k m) m0 t (l++lx), .one (.a (.own m0)))
         |_,_=>none
        |_,_=>none
       |_,_,_=>none
     |_,_=>none
   |_,_=>none
 |_=>none
section
variable{P:Program}{zb:cm}{st:St}{a:Act}{w:World}{env:Env}{Q:Exit→Act→World→Prop}{o:Oper}
theorem yW(g:Good ty zb st a.tmps w env){t:Tag}{x:S1}{u:Value}{l:List (T t)}{k:List Nat}(hr:eT w st.hp env x u)(h:CA st t x=some (l,k)):
  pinned k=false→ ∃fp,ig (kk t) (rd t) 0 (ty t) w u l fp∧(∀b,b∈fp→ ∃i o,i∈k∧look st.hp i=some o∧b∈(env i).fp)
  :=by
 intro hpk
 unfold CA at h
 split at h
 ·rename_i n
  split at h
  ·rename_i t' l' hl
   split at h
   ·rename_i l2 hc
    simp only[oI,pI]at h
    obtain⟨rfl,rfl⟩:=h
    obtain⟨e,rfl⟩:=cU hc
    subst e
    obtain⟨_,rfl⟩:=hr
    exact⟨(env n).fp,RO.TJ (mM hpk (by simp)) (g.obj n _ hl),fun b hb=>⟨n,_,by simp,hl,hb⟩⟩
   ·cases h
  ·cases h
 ·simp only[oI,pI]at h
  obtain⟨rfl,rfl⟩:=h
  have hu:=(show eT w st.hp env (.a (.lit F7)) u from hr).lit
  subst hu
  exact⟨[],ig.nil _ _ _ _ _,by simp⟩
 ·cases h
theorem CB{t:Tag}(hf:flat t=true){u:Value}{l:List (T t)}{fp:List Nat}(hs:Sl (kk t) (rd t) w u l fp):
  ∃(news:List Value) (fx:List (List Nat)),Src w u l.length news∧fx.length=l.length∧news.length=l.length*kk t∧(∀i x f,l[i]? =some x→fx[i]? =some f→rd t w ((news.drop (i*kk t)).take (kk t)) x f)∧fx.flatten= []:=by
 obtain⟨news,fx,h1,h2,h3,h4,h5⟩:=wN (cX t) (eS t) hs
 refine⟨news,fx,h1,h2,h3,h4,?_⟩
 rw[List.flatten_eq_nil_iff]
 intro f hf'
 obtain⟨i,hi⟩:=List.getElem?_of_mem hf'
 have hil:i<l.length:=by have:=(List.getElem?_eq_some_iff.1 hi).1;omega
 exact T6 t hf (h4 i _ f (List.getElem?_eq_getElem hil) hi)
theorem E2(g:Good ty zb st a.tmps w env){t:Tag}{x:S1}{u:Value}{l:List (T t)}{k:List Nat}(hr:eT w st.hp env x u)(h:Gj st t x=some (l,k)):
  ∃(news:List Value) (fx:List (List Nat)),Src w u l.length news∧fx.length=l.length∧news.length=l.length*kk t∧(∀i x f,l[i]? =some x→fx[i]? =some f→rd t w ((news.drop (i*kk t)).take (kk t)) x f)∧
   (∀b,b∈fx.flatten→ ∃i o,i∈k∧look st.hp i=some o∧b∈(env i).fp)∧Own 0 w fx.flatten:=by
 unfold Gj at h
 split at h
 ·rename_i n
  split at h
  ·rename_i t' l' hl
   split at h
   ·rename_i l2 hc
    simp only[oI,pI]at h
    obtain⟨rfl,hk⟩:=h
    obtain⟨e,rfl⟩:=cU hc
    subst e
    obtain⟨_,rfl⟩:=hr
    have hb:=RO.sl (g.obj n _ hl)
    split at hk
    ·rename_i hf
     subst hk
     obtain⟨news,fx,h1,h2,h3,h4,h5⟩:=CB hf hb
     exact⟨news,fx,h1,h2,h3,h4,by simp[h5],by rw[h5];exact Own.nil _ _⟩
    ·subst hk
     obtain⟨news,fx,h1,h2,h3,h4,h5⟩:=wN (cX t') (eS t') hb
     have ho:=RO.own (g.obj n _ hl)
     exact⟨news,fx,h1,h2,h3,h4,fun b hb=>⟨n,_,by simp,hl,h5.subset hb⟩,⟨h5.nodup ho.nodup,fun b hb=>ho.ge b (h5.subset hb),fun b hb=>ho.kind b (h5.subset hb)⟩⟩
   ·cases h
  ·cases h
 ·rename_i t' l'
  split at h
  ·rename_i l2 hf hc
   simp only[oI,pI]at h
   obtain⟨rfl,rfl⟩:=h
   obtain⟨e,rfl⟩:=cU hc
   subst e
   obtain⟨fp,hs,_⟩:=hr
   obtain⟨news,fx,h1,h2,h3,h4,h5⟩:=CB hf hs
   exact⟨news,fx,h1,h2,h3,h4,by simp[h5],by rw[h5];exact Own.nil _ _⟩
  ·rename_i l2 hf hc
   split at h
   ·simp only[oI,pI]at h
    obtain⟨rfl,rfl⟩:=h
    obtain⟨e,he⟩:=cU hc
    subst e
    obtain rfl:l'= []:=he.symm
    obtain⟨fp,hs,_⟩:=hr
    obtain⟨news,fx,h1,h2,h3,h4,h5⟩:=wN (cX t') (eS t') hs
    have BW:fx= []:=List.eq_nil_of_length_eq_zero h2
    subst BW
    exact⟨news,[],h1,rfl,h3,by simp,by simp,Own.nil _ _⟩
   ·cases h
  ·cases h
 ·rename_i n _ t' l'
  split at h
  ·rename_i l2 hc
   simp only[oI,pI]at h
   obtain⟨rfl,hk⟩:=h
   obtain⟨e,rfl⟩:=cU hc
   subst e
   obtain⟨⟨tA,lA,hl⟩,⟨fp,hs,hnd,hsub⟩,_⟩:=hr
   split at hk
   ·rename_i hf
    subst hk
    obtain⟨news,fx,h1,h2,h3,h4,h5⟩:=CB hf hs
    exact⟨news,fx,h1,h2,h3,h4,by simp[h5],by rw[h5];exact Own.nil _ _⟩
   ·subst hk
    obtain⟨news,fx,h1,h2,h3,h4,h5⟩:=wN (cX t') (eS t') hs
    have ho:=RO.own (g.obj n _ hl)
    exact⟨news,fx,h1,h2,h3,h4,fun b hb=>⟨n,_,by simp,hl,hsub b (h5.subset hb)⟩,⟨h5.nodup hnd,fun b _=>Nat.zero_le _,fun b hb=>ho.kind b (hsub b (h5.subset hb))⟩⟩
  ·cases h
 ·rename_i n t' l'
  split at h
  ·rename_i l2 hc
   simp only[oI,pI]at h
   obtain⟨rfl,rfl⟩:=h
   obtain⟨e,rfl⟩:=cU hc
   subst e
   obtain⟨⟨tA,lA,hl⟩,b,fp,hs,hb,hnd,hsub⟩:=hr
   obtain⟨news,fx,h1,h2,h3,h4,_,h5⟩:=oP (cX t') (eS t') hs
   have h5:=h5 b fp rfl
   have ho:=RO.own (g.obj n _ hl)
   exact⟨news,fx,h1,h2,h3,h4,fun c hc=>⟨n,_,by simp,hl,hsub c (by rw[←h5];exact hc)⟩,⟨by rw[h5];exact hnd,fun c _=>Nat.zero_le _,fun c hc=>ho.kind c (hsub c (by rw[←h5];exact hc))⟩⟩
  ·cases h
 ·simp only[oI,pI]at h
  obtain⟨rfl,rfl⟩:=h
  have hu:=(show eT w st.hp env (.a (.lit F7)) u from hr).lit
  subst hu
  exact⟨[],[],Or.inl ⟨rfl,rfl,rfl⟩,rfl,by simp,by simp,by simp,Own.nil _ _⟩
 ·simp only[oI,pI]at h
  obtain⟨rfl,rfl⟩:=h
  obtain⟨oa,cap,rfl,_,_,hz⟩:=hr
  refine⟨[],[],?_,rfl,by simp,by simp,by simp,Own.nil _ _⟩
  cases oa with
  |none=>exact Or.inl ⟨by simp[hz rfl],rfl,rfl⟩
  |some a=>exact Or.inr ⟨a,cap,rfl,by simp⟩
 ·cases h
theorem Ul{Γ:Nat→TK}(C: ∀t,cG P t (Γ t)){m0:Nat}{vc:List Prop}{st':St}{v:SV}(h:KF P ty Γ st m0 o.op=some (vc,st',v))(g:Good ty zb st a.tmps w env)(hB:zb.w.heap.size≤w.heap.size)(hv: ∀q,q∈vc→q):
  o.wp P a w (fun a' w'=> ∃u env',a'=a.put o.dst u∧Kept zb w w'∧Good ty zb st' a.tmps w' env'∧st'.n=st.n∧nG w' st'.hp env' a.tmps v u) Q:=by
 have hop: ∀{x v},ff st [] x=some v→eT w st.hp env v (a.eval x):=fun hx=>dB g (fun e he=>by simp at he) hx
 generalize eJ:o.op=op at h
 cases op with
 |call c=>
  obtain⟨callee,xs,ts⟩:=c
  cases callee with
  |builtin b=>
   cases b with
   |append=>
    simp only[KF]at h
    split at h
    ·rename_i s x t1 t2 hxl htl
     obtain rfl:xs= #[s,x]:=by cases xs;simp_all
     obtain rfl:ts= #[t1,t2]:=by cases ts;simp_all
     split at h
     ·rename_i t e hk vi
      have vi:=Nat.eq_of_beq_eq_true vi
      subst vi
      split at h
      ·rename_i vs vx he hs hx
       have he:=Nat.eq_of_beq_eq_true he
       split at h
       ·rename_i l k lx m hds Um
        split at h
        ·rename_i hno hlk
         simp only[Bool.and_eq_true,Bool.not_eq_true']at hno
         obtain⟨⟨hno,hpk⟩,Cx⟩:=hno
         rw[dM]at hpk
         have XB:pinned k=false:=by
          unfold pinned at hpk ⊢
          rw[List.any_append,Bool.or_eq_false_iff]at hpk
          exact hpk.1
         simp only[oI,pI,dM]at h
         rw[dM]at hlk
         obtain⟨rfl,h2,rfl⟩:=h
         rw[St.gone_eq]at h2
         subst h2
         have qM:El P ty t:=hv _ (by simp)
         obtain⟨bf,bU⟩:(l.length+lx.length)*cK t≤140737488355328∧l.length+lx.length≤maxLen:=hv _ (by simp)
         obtain⟨fp,hD,rH⟩:=yW g (hop hs) hds XB
         obtain⟨news,fx,n1,n2,n3,n4,n5,n6⟩:=E2 g (hop hx) Um
         have hC:=C t1
         rw[hk]at hC
         have NP:Own 0 w (fp++fx.flatten):=by
          have ho:=hD.own
          refine⟨List.nodup_append.2 ⟨ho.nodup,n6.nodup,?_⟩,fun b hb=> ?_,fun b hb=> ?_⟩
          ·rintro b hb c hc rfl
           obtain⟨i,oi,hi,h1,h2⟩:=rH b hb
           obtain⟨j,oj,hj,h3,h4⟩:=n5 b hc
           have hij:i≠j:=by
            rintro rfl
            simp only[wP,List.all_eq_true,Bool.not_eq_true',List.any_eq_false]at hno
            exact hno i hi i hj (by simp)
           exact g.iq i j _ _ hij h1 h3 b h2 h4
          ·rcases List.mem_append.1 hb with hb|hb
           ·exact ho.ge b hb
           ·exact n6.ge b hb
          ·rcases List.mem_append.1 hb with hb|hb
           ·exact ho.kind b hb
           ·exact n6.kind b hb
         refine Bs s x t1 eJ (cX t) (eS t) 0 (ty t) (eF t) (cK t) (by rw[←he];exact hC.1) qM (iJ t) _ l fp rfl hD _ rfl lx news fx n1 n2 n3 n4 NP bU bf (Nat.zero_le _) ?_
         intro v' w' e9 k1 k2 k3 k4 k5 _
         obtain⟨env',hg',CC⟩:=wO (ty:=ty) g hB (ks:=k++m) hpk Cx hlk (v:=a.eval s) (fp:=fp) (fx:=fx.flatten)
          (by
           intro b hb
           rcases List.mem_append.1 hb with hb|hb
           ·obtain⟨i,oi,hi,h1⟩:=rH b hb;exact⟨i,oi,List.mem_append_left _ hi,h1⟩
           ·obtain⟨i,oi,hi,h1⟩:=n5 b hb;exact⟨i,oi,List.mem_append_right _ hi,h1⟩)
          (by
           intro b hb
           obtain⟨xs,bn,_,_,_,eR,_⟩:=hD
           rw[eR,hb];simp)
          k1 k2 k4
         refine⟨v',env',rfl,⟨k2.os,k2.tape,k2.output,k2.size,fun b hb hn=>k2.block b (by omega) fun e=> ?_,k5⟩,hg',rfl,⟨t,_,look_eq⟩,CC.symm⟩
         have KG:b∈fp:=by
          obtain⟨xs,bn,_,_,_,eR,_⟩:=hD
          rw[eR, ←e];simp
         obtain⟨i,oi,hi,h1,h2⟩:=rH b KG
         rcases g.dom i oi h1 b h2 with h|h
         ·exact hn h
         ·omega
        ·cases h
       ·cases h
      ·cases h
     ·cases h
    ·cases h
   |_=>simp[KF]at h
  |_=>simp[KF]at h
 |_=>simp[KF]at h
end
end
section
variable{ty:Tag→Nat}
def takes(st:St):List V→Option (List V×List Nat)
 | []=>some ([],[])
 | .lit v::r=>match takes st r with|some (c,k)=>some (.lit v::c,k)|none=>none
 | .own n::r=>match look st.hp n,takes st r with
   |some (.arr t l),some (c,k)=>some (.sl t l::c,n::k)
   |_,_=>none
 |_=>none
def CD(st:St)(g:Tag):Nat→List (Nat×Operand)→Option (List Prop×List (T g)×List Nat)
 |_,[]=>some ([],[],[])
 |i,(j,x)::r=>match Nat.beq i j,ff st [] x with
  |true,some s=>match takes st (cellsOf s)with
   |some (c,k)=>match enc g c,CD st g (i+1) r with
    |some (vc,y),some (vcs,ys,ks)=>some (vc++vcs,y::ys,k++ks)
    |_,_=>none
   |none=>none
  |_,_=>none
def iL(st:St):List V→Option (List V×List Nat)
 | []=>some ([],[])
 | .lit v::r=>match iL st r with|some (c,k)=>some (.lit v::c,k)|none=>none
 | .own n::r=>match look st.hp n,iL st r with
   |some (.arr t l),some (c,k)=>some (.sl t l::c,n::k)
   |_,_=>none
 | .vw n _ t l::r=>match look st.hp n,iL st r with
   |some (.arr _ _),some (c,k)=>some (.sl t l::c,n::k)
   |_,_=>none
 |_=>none
def wQ(st:St)(g:Tag):Nat→List (Nat×Operand)→Option (List Prop×List (T g)×List Nat)
 |_,[]=>some ([],[],[])
 |i,(j,x)::r=>match Nat.beq i j,ff st [] x with
  |true,some s=>match iL st (cellsOf s)with
   |some (c,k)=>match enc g c,wQ st g (i+1) r with
    |some (vc,y),some (vcs,ys,ks)=>some (vc++vcs,y::ys,k++ks)
    |_,_=>none
   |none=>none
  |_,_=>none
def oy:List Nat→Bool
 | []=>true
 |n::r=> !(r.any fun m=>Nat.beq n m)&&oy r
def CE(P:Program)(ty:Tag→Nat)(Γ:Nat→TK)(st:St)(m0:Nat):Op→Option (List Prop×St×SV)
 | .buildSlice t len parts=>match Γ t with
   | .sl g e=>match Nat.beq e (ty g),Nat.beq parts.toList.length len,Nat.ble (len*kk g) 16777216,wQ st g 0 parts.toList with
     |true,true,true,some (vc,xs,ks)=>match oy ks&& !pinned ks&& !jg m0,look (bW ks [] st.hp) m0 with
      |true,none=>some (El P ty g::vc,st.gone ks m0 g xs, .one (.a (.own m0)))
      |_,_=>none
     |_,_,_,_=>none
   |_=>none
 |_=>none
theorem iT: ∀{l:List Nat},oy l=true→l.Nodup
 | [],_=>List.nodup_nil
 |n::r,h=>by
  simp only[oy,Bool.and_eq_true,Bool.not_eq_true',List.any_eq_false]at h
  exact List.nodup_cons.2 ⟨fun hm=>h.1 n hm (by simp),iT h.2⟩
section
variable{P:Program}{zb:cm}{st:St}{a:Act}{w:World}{env:Env}{Q:Exit→Act→World→Prop}{o:Oper}
theorem wS(g:Good ty zb st a.tmps w env): ∀{l c:List V} {k:List Nat} {us:List Value},bA (RA w st.hp env) l us→takes st l=some (c,k)→k.Nodup→
  ∃fp,bT w c us fp∧Own 0 w fp∧ ∀b,b∈fp→ ∃i o,i∈k∧look st.hp i=some o∧b∈(env i).fp
 | [],c,k,us,hr,h,_=>by
   simp only[takes,oI,pI]at h
   obtain⟨rfl,rfl⟩:=h
   cases us with
   |nil=>exact⟨[],rfl,Own.nil _ _,by simp⟩
   |cons _ _=>exact hr.elim
 |v::r,c,k,us,hr,h,hnd=>by
  cases us with
  |nil=>exact hr.elim
  |cons u us=>
   cases v with
   |lit x=>
    simp only[takes]at h
    split at h
    ·rename_i c' k' h'
     simp only[oI,pI]at h
     obtain⟨rfl,rfl⟩:=h
     obtain⟨fp,h1,h2,h3⟩:=wS g hr.2 h' hnd
     obtain⟨e1,e2⟩:=hr.1
     exact⟨fp,⟨[],fp,⟨e1,e2,rfl⟩,h1,rfl⟩,h2,h3⟩
    ·cases h
   |own n=>
    simp only[takes]at h
    split at h
    ·rename_i t l c' k' hl h'
     simp only[oI,pI]at h
     obtain⟨rfl,rfl⟩:=h
     obtain⟨hn1,hn2⟩:=List.nodup_cons.1 hnd
     obtain⟨fp,h1,h2,h3⟩:=wS g hr.2 h' hn2
     obtain⟨_,rfl⟩:=hr.1
     have hb:=RO.sl (g.obj n _ hl)
     have ho:=RO.own (g.obj n _ hl)
     refine⟨(env n).fp++fp,⟨_,_,hb,h1,rfl⟩,⟨List.nodup_append.2 ⟨ho.nodup,h2.nodup,?_⟩,fun b hb=> ?_,fun b hb=> ?_⟩,fun b hb=> ?_⟩
     ·rintro b hb x hx rfl
      obtain⟨i,o,hi,h4,h5⟩:=h3 b hx
      exact g.iq n i _ _ (fun e=>hn1 (e▸hi)) hl h4 b hb h5
     ·rcases List.mem_append.1 hb with hb|hb
      ·exact ho.ge b hb
      ·exact h2.ge b hb
     ·rcases List.mem_append.1 hb with hb|hb
      ·exact ho.kind b hb
      ·exact h2.kind b hb
     ·rcases List.mem_append.1 hb with hb|hb
      ·exact⟨n,_,by simp,hl,hb⟩
      ·obtain⟨i,o,hi,h4,h5⟩:=h3 b hb
       exact⟨i,o,List.mem_cons_of_mem _ hi,h4,h5⟩
    ·cases h
   |_=>simp[takes]at h
theorem iM(g:Good ty zb st a.tmps w env){s:S1}{u:Value}(hr:eT w st.hp env s u)(hn:rQ (cellsOf s)=true):bA (RA w st.hp env) (cellsOf s) u.cells.toList:=by
 cases s with
 |a v=>
  have:=iS g (show RA w st.hp env v u from hr) (oR hn v (by simp[cellsOf]))
  rw[this]
  exact⟨hr,trivial⟩
 |agg l=>
  obtain⟨cs,rfl,hl⟩:=hr
  exact hl
theorem fj{st:St}: ∀{l c:List V} {k:List Nat},takes st l=some (c,k)→rQ l=true
 | [],_,_,_=>rfl
 |v::r,c,k,h=>by
  cases v with
  |lit x=>
   simp only[takes]at h
   split at h
   ·rename_i h';exact fj (l:=r) h'
   ·cases h
  |own n=>
   simp only[takes]at h
   split at h
   ·rename_i h';exact fj (l:=r) h'
   ·cases h
  |_=>simp[takes]at h
theorem tN(g:Good ty zb st a.tmps w env): ∀{l c:List V} {k:List Nat} {us:List Value},bA (RA w st.hp env) l us→iL st l=some (c,k)→k.Nodup→
  ∃fp,bT w c us fp∧Own 0 w fp∧ ∀b,b∈fp→ ∃i o,i∈k∧look st.hp i=some o∧b∈(env i).fp
 | [],c,k,us,hr,h,_=>by
   simp only[iL,oI,pI]at h
   obtain⟨rfl,rfl⟩:=h
   cases us with
   |nil=>exact⟨[],rfl,Own.nil _ _,by simp⟩
   |cons _ _=>exact hr.elim
 |v::r,c,k,us,hr,h,hnd=>by
  cases us with
  |nil=>exact hr.elim
  |cons u us=>
   cases v with
   |lit x=>
    simp only[iL]at h
    split at h
    ·rename_i c' k' h'
     simp only[oI,pI]at h
     obtain⟨rfl,rfl⟩:=h
     obtain⟨fp,h1,h2,h3⟩:=tN g hr.2 h' hnd
     obtain⟨e1,e2⟩:=hr.1
     exact⟨fp,⟨[],fp,⟨e1,e2,rfl⟩,h1,rfl⟩,h2,h3⟩
    ·cases h
   |own n=>
    simp only[iL]at h
    split at h
    ·rename_i t l c' k' hl h'
     simp only[oI,pI]at h
     obtain⟨rfl,rfl⟩:=h
     obtain⟨hn1,hn2⟩:=List.nodup_cons.1 hnd
     obtain⟨fp,h1,h2,h3⟩:=tN g hr.2 h' hn2
     obtain⟨_,rfl⟩:=hr.1
     have hb:=RO.sl (g.obj n _ hl)
     have ho:=RO.own (g.obj n _ hl)
     refine⟨(env n).fp++fp,⟨_,_,hb,h1,rfl⟩,⟨List.nodup_append.2 ⟨ho.nodup,h2.nodup,?_⟩,fun b hb=> ?_,fun b hb=> ?_⟩,fun b hb=> ?_⟩
     ·rintro b hb x hx rfl
      obtain⟨i,o,hi,h4,h5⟩:=h3 b hx
      exact g.iq n i _ _ (fun e=>hn1 (e▸hi)) hl h4 b hb h5
     ·rcases List.mem_append.1 hb with hb|hb
      ·exact ho.ge b hb
      ·exact h2.ge b hb
     ·rcases List.mem_append.1 hb with hb|hb
      ·exact ho.kind b hb
      ·exact h2.kind b hb
     ·rcases List.mem_append.1 hb with hb|hb
      ·exact⟨n,_,by simp,hl,hb⟩
      ·obtain⟨i,o,hi,h4,h5⟩:=h3 b hb
       exact⟨i,o,List.mem_cons_of_mem _ hi,h4,h5⟩
    ·cases h
   |vw n p t l=>
    simp only[iL]at h
    split at h
    ·rename_i t0 l0 c' k' hl h'
     simp only[oI,pI]at h
     obtain⟨rfl,rfl⟩:=h
     obtain⟨hn1,hn2⟩:=List.nodup_cons.1 hnd
     obtain⟨fp,h1,h2,h3⟩:=tN g hr.2 h' hn2
     obtain⟨_,⟨fv,hs,hnv,hsub⟩,_⟩:=hr.1
     have ho:=RO.own (g.obj n _ hl)
     refine⟨fv++fp,⟨_,_,hs,h1,rfl⟩,⟨List.nodup_append.2 ⟨hnv,h2.nodup,?_⟩,fun b hb=> ?_,fun b hb=> ?_⟩,fun b hb=> ?_⟩
     ·rintro b hb x hx rfl
      obtain⟨i,o,hi,h4,h5⟩:=h3 b hx
      exact g.iq n i _ _ (fun e=>hn1 (e▸hi)) hl h4 b (hsub b hb) h5
     ·rcases List.mem_append.1 hb with hb|hb
      ·exact ho.ge b (hsub b hb)
      ·exact h2.ge b hb
     ·rcases List.mem_append.1 hb with hb|hb
      ·exact ho.kind b (hsub b hb)
      ·exact h2.kind b hb
     ·rcases List.mem_append.1 hb with hb|hb
      ·exact⟨n,_,by simp,hl,hsub b hb⟩
      ·obtain⟨i,o,hi,h4,h5⟩:=h3 b hb
       exact⟨i,o,List.mem_cons_of_mem _ hi,h4,h5⟩
    ·cases h
   |_=>simp[iL]at h
theorem l7{st:St}: ∀{l c:List V} {k:List Nat},iL st l=some (c,k)→rQ l=true
 | [],_,_,_=>rfl
 |v::r,c,k,h=>by
  cases v with
  |lit x=>
   simp only[iL]at h
   split at h
   ·rename_i h';exact l7 (l:=r) h'
   ·cases h
  |own n=>
   simp only[iL]at h
   split at h
   ·rename_i h';exact l7 (l:=r) h'
   ·cases h
  |vw n p t l=>
   simp only[iL]at h
   split at h
   ·rename_i h';exact l7 (l:=r) h'
   ·cases h
  |_=>simp[iL]at h
theorem CF(g:Good ty zb st a.tmps w env){t:Tag}: ∀{ps:List (Nat×Operand)} {i:Nat} {vc:List Prop} {xs:List (T t)} {ks:List Nat},wQ st t i ps=some (vc,xs,ks)→ks.Nodup→(∀q,q∈vc→q)→
  (ps.map fun p=>(p.1,a.eval p.2))=ur i (ps.map fun p=>a.eval p.2)∧xs.length=ps.length∧ ∃bn:List (List Nat),bn.length=xs.length∧
   (∀(i:Nat) (x:T t) (f:List Nat),xs[i]? =some x→bn[i]? =some f→ ∃p:Nat×Operand,ps[i]? =some p∧rd t w (a.eval p.2).cells.toList x f)∧Own 0 w bn.flatten∧ ∀b,b∈bn.flatten→ ∃i o,i∈ks∧look st.hp i=some o∧b∈(env i).fp
 | [],i,vc,xs,ks,h,_,_=>by
   simp only[wQ,oI,pI]at h
   obtain⟨rfl,rfl,rfl⟩:=h
   exact⟨rfl,rfl,[],rfl,by simp,Own.nil _ _,by simp⟩
 | (j,x)::r,i,vc,xs,ks,h,hnd,hv=>by
   simp only[wQ]at h
   split at h
   ·rename_i s hij hx
    have hij:=Nat.eq_of_beq_eq_true hij
    subst hij
    split at h
    ·rename_i c k hc
     split at h
     ·rename_i nH y vcs ys ks1 he hb
      simp only[oI,pI]at h
      obtain⟨rfl,rfl,rfl⟩:=h
      obtain⟨hn1,hn2,TM⟩:=List.nodup_append.1 hnd
      obtain⟨q1,q2,bn,q3,q4,q5,q6⟩:=CF g hb hn2 (fun q hq=>hv q (List.mem_append_right _ hq))
      obtain⟨fp,r1,r2,r3⟩:=tN g (iM g (dB g (fun e he=>by simp at he) hx) (l7 hc)) hc hn1
      have hE:=pX t he (fun q hq=>hv q (List.mem_append_left _ hq)) r1
      refine⟨by simp[ur,q1],by simp[q2],fp::bn,by simp[q3],?_,⟨?_,?_,?_⟩,?_⟩
      ·intro i' x' f hx' hf
       cases i' with
       |zero=>simp at hx' hf;subst hx';subst hf;exact⟨(i,x),rfl,hE⟩
       |succ n=>simp at hx' hf;obtain⟨p,h1,h2⟩:=q4 n x' f hx' hf;exact⟨p,by simpa using h1,h2⟩
      ·rw[List.flatten_cons]
       refine List.nodup_append.2 ⟨r2.nodup,q5.nodup,?_⟩
       rintro b hb z hz rfl
       obtain⟨n,o1,h1,h2,h3⟩:=r3 b hb
       obtain⟨m,o2,h4,h5,h6⟩:=q6 b hz
       exact g.iq n m _ _ (fun e=>TM n h1 m h4 e) h2 h5 b h3 h6
      ·intro b hb
       rw[List.flatten_cons]at hb
       rcases List.mem_append.1 hb with hb|hb
       ·exact r2.ge b hb
       ·exact q5.ge b hb
      ·intro b hb
       rw[List.flatten_cons]at hb
       rcases List.mem_append.1 hb with hb|hb
       ·exact r2.kind b hb
       ·exact q5.kind b hb
      ·intro b hb
       rw[List.flatten_cons]at hb
       rcases List.mem_append.1 hb with hb|hb
       ·obtain⟨n,o1,h1,h2,h3⟩:=r3 b hb;exact⟨n,o1,List.mem_append_left _ h1,h2,h3⟩
       ·obtain⟨n,o1,h1,h2,h3⟩:=q6 b hb;exact⟨n,o1,List.mem_append_right _ h1,h2,h3⟩
     ·cases h
    ·cases h
   ·cases h
theorem Ob{Γ:Nat→TK}(C: ∀t,cG P t (Γ t)){m0:Nat}{vc:List Prop}{st':St}{v:SV}(h:CE P ty Γ st m0 o.op=some (vc,st',v))(g:Good ty zb st a.tmps w env)(hB:zb.w.heap.size≤w.heap.size)(hv: ∀q,q∈vc→q):
  o.wp P a w (fun a' w'=> ∃u env',a'=a.put o.dst u∧Kept zb w w'∧Good ty zb st' a.tmps w' env'∧st'.n=st.n∧nG w' st'.hp env' a.tmps v u) Q:=by
 generalize eJ:o.op=op at h
 cases op with
 |buildSlice t len parts=>
  simp only[CE]at h
  split at h
  ·rename_i gt e hk
   split at h
   ·rename_i nH xs ks he hlen hbig hb
    have he:=Nat.eq_of_beq_eq_true he
    split at h
    ·rename_i hnd hlk
     simp only[Bool.and_eq_true,Bool.not_eq_true']at hnd
     obtain⟨⟨hnd,hpk⟩,Cx⟩:=hnd
     simp only[oI,pI]at h
     obtain⟨rfl,h2,rfl⟩:=h
     rw[St.gone_eq]at h2
     subst h2
     have qM:El P ty gt:=hv _ (by simp)
     obtain⟨q1,q2,bn,q3,q4,q5,q6⟩:=CF g hb (iT hnd) (fun q hq=>hv q (by simp[hq]))
     have hC:=C t
     rw[hk,he]at hC
     obtain⟨w',r1,r2,r3⟩:=tL (P:=P) (w:=w) (a:=a) eJ hC.1 qM (Nat.le_of_ble_eq_true hbig) (Nat.eq_of_beq_eq_true hlen) (Nat.zero_le _) q1 q2 q3 q4 q5
     obtain⟨env',hg',CC⟩:=wO (ty:=ty) g hB (ks:=ks) hpk Cx hlk (v:=F7) (fp:= []) (fx:=bn.flatten) (by simpa using q6) (by intro b hb;cases hb) r3
      ⟨r2.os,r2.tape,r2.output,r2.size,fun b hb _=>r2.block b hb⟩ (by
       intro b hb
       rcases List.mem_cons.1 hb with h|h
       ·exact Or.inr (Or.inr h)
       ·exact Or.inr (Or.inl h))
     unfold Oper.wp
     rw[r1]
     exact⟨_,env',rfl,j9 r2 hB,hg',rfl,⟨gt,_,look_eq⟩,CC.symm⟩
    ·cases h
   ·cases h
  ·cases h
 |_=>simp[CE]at h
end
end
section
variable{ty:Tag→Nat}
theorem nO{w:World}{b o:Nat}{x y:List Value}(hx:w.rangeAt b o x)(hy:w.rangeAt b (o+x.length) y):w.rangeAt b o (x++y):=by
 intro j v hv
 by_cases hj:j<x.length
 ·rw[List.getElem?_append_left hj]at hv;exact hx j v hv
 ·rw[List.getElem?_append_right (by omega)]at hv
  have:=hy _ v hv
  rwa [show o+x.length+(j-x.length)=o+j by omega]at this
theorem wT{w:World}{b o n:Nat}{cs:List Value}(h:w.rangeAt b o cs):w.rangeAt b o (cs.take n):=by
 intro j v hv
 rw[List.getElem?_take]at hv
 split at hv
 ·exact h j v hv
 ·cases hv
theorem wU{w:World}{b o n:Nat}{cs:List Value}(h:w.rangeAt b o cs):w.rangeAt b (o+n) (cs.drop n):=by
 intro j v hv
 rw[List.getElem?_drop]at hv
 have:=h _ v hv
 rwa [show o+n+j=o+(n+j)by omega]
theorem rV{w:World}{b o off:Nat}{cs us:List Value}(h:w.rangeAt b o cs)(hl:off+us.length≤cs.length)(ht:w.there b (o+off) us.length):
  (w.setCells b (o+off) us).rangeAt b o (cs.take off++(us++cs.drop (off+us.length))):=by
 have l1:(cs.take off).length=off:=by rw[List.length_take];omega
 refine nO (World.rangeAt_setCells_apart (wT h) _ _ _ (Or.inr (Or.inl (by rw[l1];exact Nat.le_refl _)))) ?_
 rw[l1]
 refine nO (World.rangeAt_setCells_same w b _ us ht) ?_
 rw[Nat.add_assoc]
 exact World.rangeAt_setCells_apart (wU h) _ _ _ (Or.inr (Or.inr (by omega)))
theorem bT.XC{w:World}{x y z:List V}{us vs ts:List Value}{f g h:List Nat}(a:bT w x us f)(b:bT w y vs g)(c:bT w z ts h):bT w (x++(y++z)) (us++(vs++ts)) (f++(g++h)):=bT.app a (bT.app b c)
theorem bT.split{w:World}: ∀(n:Nat) {c:List V} {cs:List Value} {f:List Nat},bT w c cs f→ ∃f1 f2,f=f1++f2∧bT w (c.take n) (cs.take n) f1∧bT w (c.drop n) (cs.drop n) f2
 |0,c,cs,f,h=>⟨[],f,rfl,by simp[bT],by simpa using h⟩
 |n+1,[],[],f,h=>⟨[],f,rfl,by simp[bT],by simpa using h⟩
 |n+1,v::r,u::us,f,⟨f1,f2,h1,h2,e⟩=>by
  obtain⟨g1,g2,k1,k2,k3⟩:=bT.split n h2
  exact⟨f1++g1,g2,by rw[e,k1,List.append_assoc],⟨f1,g1,h1,k2,rfl⟩,by simpa using k3⟩
 |_+1,[],_::_,_,h=>h.elim
 |_+1,_::_,[],_,h=>h.elim
theorem bT.Es{w:World}{c d vs:List V}{cs us:List Value}{f g:List Nat}{off:Nat}(h:bT w c cs f)(hv:bT w vs us g)(hs:G.Es c off vs=some d):
  ∃f1 f2 f3,f=f1++(f2++f3)∧bT w d (cs.take off++(us++cs.drop (off+us.length))) (f1++(g++f3))∧off+us.length≤cs.length:=by
 unfold G.Es at hs
 split at hs
 ·rename_i hb
  have hb:=Nat.le_of_ble_eq_true hb
  simp only[oI]at hs
  subst hs
  obtain⟨f1,f',e1,k1,k2⟩:=bT.split off h
  obtain⟨f2,f3,e2,_,k4⟩:=bT.split us.length k2
  have h1:=h.len
  have h2:=hv.len
  refine⟨f1,f2,f3,by rw[e1,e2],?_,by omega⟩
  have:=bT.XC k1 hv k4
  rw[List.drop_drop,List.drop_drop]at this
  rw[←h2]
  exact this
 ·cases hs
theorem rW{bn:List (List Nat)}{i:Nat}{f':List Nat}{b:Nat}(h:b∈(bn.set i f').flatten):b∈f'∨ ∃j f,j≠i∧bn[j]? =some f∧b∈f:=by
 obtain⟨f,hf,hb⟩:=List.mem_flatten.1 h
 obtain⟨j,hj⟩:=List.getElem?_of_mem hf
 by_cases hji:j=i
 ·subst hji
  have hlt:=(List.getElem?_eq_some_iff.1 hj).1
  rw[List.length_set]at hlt
  rw[List.getElem?_set_self hlt]at hj
  simp only[oI]at hj
  subst hj
  exact Or.inl hb
 ·rw[List.getElem?_set_ne (Ne.symm hji)]at hj
  exact Or.inr ⟨j,f,hji,hj,hb⟩
theorem oz{bn:List (List Nat)}{i:Nat}{f':List Nat}(h:bn.flatten.Nodup)(hf:f'.Nodup)(hd: ∀j f,j≠i→bn[j]? =some f→ ∀b,b∈f→b∉f'):(bn.set i f').flatten.Nodup:=by
 have h1:=List.pairwise_flatten.1 h
 refine List.pairwise_flatten.2 ⟨fun l hl=> ?_,?_⟩
 ·obtain⟨j,hj⟩:=List.getElem?_of_mem hl
  by_cases hji:j=i
  ·subst hji
   have hlt:=(List.getElem?_eq_some_iff.1 hj).1
   rw[List.length_set]at hlt
   rw[List.getElem?_set_self hlt]at hj
   simp only[oI]at hj
   subst hj
   exact hf
  ·rw[List.getElem?_set_ne (Ne.symm hji)]at hj
   exact h1.1 _ (List.mem_of_getElem? hj)
 ·have h2:=List.pairwise_iff_getElem.1 h1.2
  rw[List.pairwise_iff_getElem]
  intro p q hp hq hpq x hx y hy e
  subst e
  rw[List.length_set]at hp hq
  rw[List.getElem_set]at hx hy
  split at hx<;>split at hy
  ·omega
  ·rename_i e1 e2
   subst e1
   exact hd q _ (by omega) (List.getElem?_eq_getElem hq) x hy hx
  ·rename_i e1 e2
   subst e2
   exact hd p _ (by omega) (List.getElem?_eq_getElem hp) x hx hy
  ·exact h2 p q hp hq hpq x hx x hy rfl
theorem yX{α:Type}{k:Nat}{E:ER α}(G:fJ k E){w w':World}{b off:Nat}{l:List α}{bn:List (List Nat)}(h:nJ k E w b off l bn){i:Nat}{x':α}{f':List Nat}{cs':List Value}
  (hr:w'.rangeAt b (off+i*k) cs')(hE:E w' cs' x' f')(ho: ∀j cs,j≠i→cs.length=k→w.rangeAt b (off+j*k) cs→w'.rangeAt b (off+j*k) cs)(ha: ∀j f,j≠i→bn[j]? =some f→Agree w w' f):
  nJ k E w' b off (l.set i x') (bn.set i f'):=by
 refine⟨by rw[List.length_set,List.length_set];exact h.1,fun j y fy hy lX=> ?_⟩
 by_cases hj:i=j
 ·subst hj
  have hi:=(List.getElem?_eq_some_iff.1 hy).1
  rw[List.length_set]at hi
  have hi2:=(List.getElem?_eq_some_iff.1 lX).1
  rw[List.length_set]at hi2
  rw[List.getElem?_set_self hi]at hy
  rw[List.getElem?_set_self hi2]at lX
  simp only[oI]at hy lX
  subst hy;subst lX
  exact⟨cs',hr,hE⟩
 ·rw[List.getElem?_set_ne hj]at hy lX
  obtain⟨cy,XD,L0⟩:=h.2 j y fy hy lX
  exact⟨cy,ho j cy (Ne.symm hj) (G.len L0) XD,G.agree L0 (ha j fy (Ne.symm hj) lX)⟩
theorem XE{α:Type}{k:Nat}{E:ER α}(G:fJ k E){e:Nat}{w w':World}{v:Value}{l l':List α}{fp e9:List Nat}(h:ig k E 0 e w v l fp)(hs:Shape w w')(h':Sl k E w' v l' e9)(ho:Own 0 w' e9)(hsub: ∀b,b∈e9→b∈fp):
  ∃H8,ig k E 0 e w' v l' H8∧ ∀b,b∈H8→b∈fp:=by
 rcases h.parts with⟨rfl,rfl,rfl⟩| ⟨g,o,n,c,bn,rfl,hn,hnm,vk,Gk,rfl⟩
 ·obtain⟨oa,cap,hv,_,_,h3⟩:=h'
  simp only[Value.slice.injEq]at hv
  obtain⟨rfl,hl,rfl⟩:=hv
  have:l'= []:=List.eq_nil_of_length_eq_zero hl.symm
  subst this
  exact⟨[],ig.nil _ _ _ _ _,by simp⟩
 ·obtain⟨oa,cap,hv,hc,hm,h3⟩:=h'
  simp only[Value.slice.injEq]at hv
  obtain⟨rfl,hl,rfl⟩:=hv
  obtain⟨c',hs1,oK⟩:=hs g c e vk
  rcases h3 with⟨rfl,rfl,_⟩| ⟨b,off,Oc,hb,acu,rfl,hE⟩
  ·rw[hl]
   refine⟨[g],iU G (l:= []) (bn:= []) hs1 (by rw[oK];exact Gk) (Nat.zero_le _) hm ⟨rfl,by simp⟩ ⟨by simp,by simp,fun b hb=> ?_⟩,by simp⟩
   simp only[List.flatten_nil,List.mem_singleton]at hb
   exact⟨_,_,by rw[hb];exact hs1⟩
  ·simp only[oI,Addr.mk.injEq,and_true]at hb
   obtain⟨rfl,rfl⟩:=hb
   rw[hl]
   exact⟨_,iU G hs1 (by rw[oK];exact Gk) hc hm hE ho,hsub⟩
def fits:TK→S1→Bool
 | .st z _ _, .agg c=>Nat.beq c.length z.length
 | .st _ _ _,_=>false
 | .other,_=>false
 |_, .a _=>true
 |_,_=>false
theorem Il{k:TK}{c:List V}(h:fits k (.agg c)=true): ∃z tg fo,k= .st z tg fo∧Nat.beq c.length z.length=true:=by
 cases k with
 |st z tg fo=>exact⟨z,tg,fo,rfl,h⟩
 |_=>cases h
theorem wV{k:TK}{v:V}(h:fits k (.a v)=true):(∀z tg fo,k≠ .st z tg fo)∧k≠ .other:=by
 cases k with
 |st z tg fo=>cases h
 |other=>cases h
 |_=>exact⟨fun _ _ _ e=>(by cases e),fun e=>(by cases e)⟩
def St.KH(st:St)(ms:List Nat)(n:Nat)(t:Tag)(l:List (T t)):St:=⟨st.n,st.sl.map fun e=>(e.1,e.2.bz ms [n]),(n, .arr t l)::bW ms [n] st.hp⟩
def Im(n:Nat)(ms:List Nat):Bool:=oy (n::ms)&& !pinned ms&&(match ms with| []=>true|_=> !jg n)
def Uo(Γ:Nat→TK)(st:St):Op→Option (List Prop×St)
 | .store t x y=>match ff st [] x,ff st [] y with
   |some (.a (.mG n i off)),some v=>match look st.hp n with
    |some (.arr g l)=>match fits (Γ t) v,takes st (cellsOf v)with
     |true,some (c,ms)=>match Es (dec g (l.getD i (aB g))) off c with
      |some d=>match enc g d,Im n ms with
       |some (vc,y'),true=>some ((i<l.length)::vc,st.KH ms n g (l.set i y'))
       |_,_=>none
      |none=>none
     |_,_=>none
    |_=>none
   |_,_=>none
 |_=>none
section
variable{P:Program}{zb:cm}{st st':St}{a:Act}{w:World}{env:Env}{Q:Exit→Act→World→Prop}{o:Oper}
theorem AE(g:Good ty zb st a.tmps w env){n:Nat}{t:Tag}{l l':List (T t)}(hl:look st.hp n=some (.arr t l)){ms:List Nat}(hok:Im n ms=true){w':World}{e9 fx:List Nat}
  (BW: ∀b,b∈fx→ ∃i o,i∈ms∧look st.hp i=some o∧b∈(env i).fp)(hsub: ∀b,b∈e9→b∈(env n).fp∨b∈fx)(Io:jg n=true→ ∀b,b∈e9→b∈(env n).fp)
  (hk: ∀b,b∉(env n).fp→b∉fx→b<w.heap.size→w'.heap[b]? =w.heap[b]?)(acv:kZ ty w' n t l' ⟨(env n).v,e9⟩):
  ∃env',Good ty zb (st.KH ms n t l') a.tmps w' env'∧(env' n).v=(env n).v:=by
 simp only[Im,Bool.and_eq_true,Bool.not_eq_true']at hok
 obtain⟨⟨hnd,hpk⟩,XF⟩:=hok
 have hnd:=iT hnd
 have hnm:n∉ms:=(List.nodup_cons.1 hnd).1
 refine⟨fun m=>if m=n then⟨(env n).v,e9⟩else env m,?_,by simp⟩
 have hlk: ∀m o,look ((n,Obj.arr t l')::bW ms [n] st.hp) m=some o→(m=n∧o= .arr t l')∨(m≠n∧m∉ms∧ ∃o',look st.hp m=some o'∧o=o'.bz ms [n]):=by
  intro m o hm
  by_cases gE:m=n
  ·subst gE;rw[look_eq]at hm;simp only[oI]at hm;exact Or.inl ⟨rfl,hm.symm⟩
  ·rw[aZ gE,bI]at hm
   split at hm
   ·cases hm
   ·rename_i hks
    cases hq:look st.hp m with
    |none=>rw[hq]at hm;cases hm
    |some o'=>rw[hq]at hm;simp only[Option.map_some,oI]at hm;exact Or.inr ⟨gE,hks,o',rfl,hm.symm⟩
 have how: ∀b,b∈e9→ ∃i o,(i=n∨i∈ms)∧look st.hp i=some o∧b∈(env i).fp:=by
  intro b hb
  rcases hsub b hb with h|h
  ·exact⟨n,_,Or.inl rfl,hl,h⟩
  ·obtain⟨i,o,h1,h2,h3⟩:=BW b h;exact⟨i,o,Or.inr h1,h2,h3⟩
 have hst: ∀m o,m≠n→m∉ms→look st.hp m=some o→ ∀b,b∈(env m).fp→w'.heap[b]? =w.heap[b]? :=by
  intro m o hmn hks h3 b hb
  refine hk b (fun h=>g.iq m n _ _ hmn h3 hl b hb h) (fun h=> ?_) ((g.obj m o h3).va b hb)
  obtain⟨i,oi,hi,h5,h6⟩:=BW b h
  exact g.iq m i _ _ (fun e=>hks (e▸hi)) h3 h5 b hb h6
 have s:oQ ms [n] w st.hp env w' ((n, .arr t l')::bW ms [n] st.hp) (fun m=>if m=n then⟨(env n).v,e9⟩else env m):=by
  refine⟨fun b hb hno=>hk b (fun h=>hno ⟨n,_,hl,h⟩) (fun h=> ?_) hb,?_,?_,?_⟩
  ·obtain⟨i,oi,hi,h5,h6⟩:=BW b h
   exact hno ⟨i,oi,h5,h6⟩
  ·rintro b hb ⟨m,o',h1,h2⟩
   rcases hlk m o' h1 with⟨rfl,rfl⟩| ⟨gE,hks,we,h3,rfl⟩
   ·simp at h2
    obtain⟨i,o',_,h3,h4⟩:=how b h2
    exact⟨i,o',h3,h4⟩
   ·simp[gE]at h2
    exact⟨m,we,h3,h2⟩
  ·intro m o' hks h1
   by_cases hmn:m=n
   ·subst hmn
    rw[hl]at h1
    simp only[oI]at h1
    subst h1
    exact⟨_,look_eq,rfl,by simp⟩
   ·exact⟨o'.bz ms [n],by rw[aZ hmn,bI,if_neg hks,h1];rfl,by cases o'<;>simp[Obj.like,Obj.bz],by simp[hmn]⟩
  ·rintro m t' l2 ⟨hks,hmn⟩ h1
   have hmn:m≠n:=by simpa using hmn
   exact⟨by rw[aZ hmn,bI,if_neg hks,h1];rfl,by simp[hmn],hst m _ hmn hks h1⟩
 refine g.gr s (fun m o' hm=> ?_) (fun m m' o1 o2 hne h1 h2 b hb hb'=> ?_) (fun m o' hm b hb=> ?_) (fun m hm=> ?_)
 ·rcases hlk m o' hm with⟨rfl,rfl⟩| ⟨gE,hks,we,h3,rfl⟩
  ·simp only[if_true];exact acv
  ·simp only[if_neg gE]
   exact(g.obj m we h3).gr s (hst m we gE hks h3)
 ·rcases hlk m o1 h1 with⟨e1,_⟩| ⟨gE,hks,q1,h3,_⟩<;>rcases hlk m' o2 h2 with⟨e2,_⟩| ⟨Ba,KE,q2,h4,_⟩
  ·exact hne (e1.trans e2.symm)
  ·simp only[if_pos e1]at hb
   simp only[if_neg Ba]at hb'
   obtain⟨i,oi,hi,h5,h6⟩:=how b hb
   refine g.iq m' i _ _ (fun e=> ?_) h4 h5 b hb' h6
   rcases hi with hi|hi
   ·exact Ba (e.trans hi)
   ·exact KE (e▸hi)
  ·simp only[if_pos e2]at hb'
   simp only[if_neg gE]at hb
   obtain⟨i,oi,hi,h5,h6⟩:=how b hb'
   refine g.iq m i _ _ (fun e=> ?_) h3 h5 b hb h6
   rcases hi with hi|hi
   ·exact gE (e.trans hi)
   ·exact hks (e▸hi)
  ·simp only[if_neg gE]at hb
   simp only[if_neg Ba]at hb'
   exact g.iq m m' _ _ hne h3 h4 b hb hb'
 ·rcases hlk m o' hm with⟨e1,_⟩| ⟨gE,hks,q1,h3,_⟩
  ·simp only[if_pos e1]at hb
   obtain⟨i,oi,_,h5,h6⟩:=how b hb
   exact g.dom i oi h5 b h6
  ·simp only[if_neg gE]at hb
   exact g.dom m q1 h3 b hb
 ·by_cases hmn:m=n
  ·subst hmn
   simp only[if_true]
   exact⟨(g.pins m hm).1,fun b hb=>(g.pins m hm).2 b (Io hm b hb)⟩
  ·simp only[if_neg hmn]
   exact g.pins m hm
theorem Up{Γ:Nat→TK}(C: ∀t,cG P t (Γ t))(Z: ∀t,(∀z tg fo,Γ t≠ .st z tg fo)→Γ t≠ .other→(P.info? t).map (·.size)=some 1){vc:List Prop}(h:Uo Γ st o.op=some (vc,st'))(g:Good ty zb st a.tmps w env)(hv: ∀q,q∈vc→q):
  o.wp P a w (fun a' w'=> ∃env',a'=a.put o.dst undef∧Kept zb w w'∧Good ty zb st' a.tmps w' env'∧st'.n=st.n) Q:=by
 have hop: ∀{x v},ff st [] x=some v→eT w st.hp env v (a.eval x):=fun hx=>dB g (fun e he=>by simp at he) hx
 generalize eJ:o.op=op at h
 cases op with
 |store t x y=>
  simp only[Uo]at h
  split at h
  ·rename_i n i off v hx hy
   have hx:=hop hx
   have hy:=hop hy
   split at h
   ·rename_i gt l hl
    split at h
    ·rename_i c ms hfit Po
     split at h
     ·rename_i d hs
      split at h
      ·rename_i nH y' he hok
       simp only[oI,pI]at h
       obtain⟨rfl,rfl⟩:=h
       have hi:i<l.length:=hv _ (by simp)
       have ZW:=hok
       simp only[Im,Bool.and_eq_true,Bool.not_eq_true']at ZW
       obtain⟨⟨hnd,hpk⟩,XF⟩:=ZW
       have hnd:=iT hnd
       have hnm:n∉ms:=(List.nodup_cons.1 hnd).1
       obtain⟨t1,l1,hl1,b2,o2,XG,Uq,A9,hu⟩:=hx
       rw[hl]at hl1
       simp only[oI,Obj.arr.injEq]at hl1
       obtain⟨rfl,_⟩:=hl1
       have hro:=g.obj n _ hl
       obtain⟨oa,cap,lP,vk,Gk,h3⟩:=RO.sl hro
       have hown:=RO.own hro
       rcases h3 with⟨rfl,_⟩| ⟨b,o1,bn,KI,bU,eR,hE⟩
       ·simp at hi
       rw[lP,KI]at A9
       simp only[Value.slice.injEq,oI,Addr.mk.injEq,and_true]at A9
       obtain⟨⟨rfl,rfl⟩,rfl,rfl⟩:=A9
       have Qq:l[i]? =some (l.getD i (aB gt)):=by rw[List.getD_eq_getElem?_getD,List.getElem?_eq_getElem hi];rfl
       obtain⟨f,hf⟩:=gd hE.1 Qq
       obtain⟨cs,wL,TQ⟩:=hE.2 _ _ f Qq hf
       have hlen:=(cX gt).len TQ
       rw[eR]at hown
       have p9:=List.nodup_cons.1 hown.nodup
       obtain⟨fx,Kn,Pp,BW⟩:=wS g (iM g hy (fj Po)) Po (List.nodup_cons.1 hnd).2
       obtain⟨f1,f2,f3,Mb,hrd,hlo⟩:=bT.Es (reads gt TQ) Kn hs
       have XH:=pX gt he (fun q hq=>hv q (by simp[hq])) hrd
       have hsz:(P.info? t).map (·.size)=some (a.eval y).cells.toList.length∧ ∀u,u∈(a.eval y).cells.toList→u.oneCell'=true:=by
        refine⟨?_,tM g (iM g hy (fj Po)) (oR (fj Po))⟩
        cases v with
        |agg c'=>
         have hk: ∃z tg fo,Γ t= .st z tg fo∧Nat.beq c'.length z.length=true:=by
          exact Il hfit
         obtain⟨z,tg,fo,hk,hfit⟩:=hk
         have hC:=C t
         rw[hk]at hC
         obtain⟨fs,_,hi2,_⟩:=hC
         obtain⟨us,Qi,Ko⟩:=hy
         have:=Nat.eq_of_beq_eq_true hfit
         have Qr:=Ko.len
         rw[Qi]
         cases hq:P.info? t with
         |none=>simp[hq]at hi2
         |some inf=>simp[hq]at hi2;simp[hi2.1,Value.cells,Qr,this]
        |a v'=>
         have hk:(∀z tg fo,Γ t≠ .st z tg fo)∧Γ t≠ .other:=by
          exact wV hfit
         have hne:v'≠ .any:=by rintro rfl;simp[cellsOf,takes]at Po
         have:=iS g (show RA w st.hp env v' (a.eval y)from hy) hne
         rw[this]
         exact Z t hk.1 hk.2
       obtain⟨cb,eb,qa⟩:=hown.kind b (by simp)
       have LZ:w.there b (o1+i*kk gt+off) (a.eval y).cells.toList.length:=by
        refine FY qa _ _ ?_
        have qY:o1+i*kk gt+cs.length≤cb.size:=by
         have hk0:=eS gt
         have:=wL (cs.length-1) _ (List.getElem?_eq_getElem (by omega))
         rw[Ca qa]at this
         have:=(Array.getElem?_eq_some_iff.1 this).1
         omega
        omega
       have hkeep: ∀x,x≠b→(w.setCells b (o1+i*kk gt+off) (a.eval y).cells.toList).heap[x]? =w.heap[x]? :=fun x hx=>bV b _ _ w x hx
       have HK: ∀x,x∈fx→x≠b:=by
        rintro x hx rfl
        obtain⟨m,om,hm,h5,h6⟩:=BW x hx
        exact g.iq n m _ _ (fun e=>hnm (e▸hm)) hl h5 x (by rw[eR];simp) h6
       have KG: ∀x,x∈bn.flatten→x≠b:=fun x hx e=>p9.1 (e▸hx)
       have uS: ∀x,x∈f1++(fx++f3)→x∈f∨x∈fx:=by
        intro x hx
        rw[Mb]
        rcases List.mem_append.1 hx with hx|hx
        ·exact Or.inl (List.mem_append_left _ hx)
        ·rcases List.mem_append.1 hx with hx|hx
         ·exact Or.inr hx
         ·exact Or.inl (List.mem_append_right _ (List.mem_append_right _ hx))
       have Xo: ∀x,x∈f1++(fx++f3)→x≠b:=by
        intro x hx
        rcases uS x hx with h|h
        ·exact KG x (bX hf h)
        ·exact HK x h
       have NQ:Agree w (w.setCells b (o1+i*kk gt+off) (a.eval y).cells.toList) (f1++(fx++f3)):=fun x hx=>hkeep x (Xo x hx)
       have Gl:=yX (cX gt) (w':=w.setCells b (o1+i*kk gt+off) (a.eval y).cells.toList) hE (i:=i) (x':=y') (f':=f1++(fx++f3))
        (rV wL hlo LZ) ((cX gt).agree XH NQ)
        (fun j cs' hj qY hr=>World.rangeAt_setCells_apart hr _ _ _ (Or.inr (by
         rw[qY]
         rcases Nat.lt_or_ge j i with h1|h1
         ·left
          have:=Nat.mul_le_mul_right (kk gt) (show j+1≤i by omega)
          rw[Nat.add_mul]at this;omega
         ·right
          have:=Nat.mul_le_mul_right (kk gt) (show i+1≤j by omega)
          rw[Nat.add_mul]at this;omega)))
        (fun j f' _ hf' x hx=>hkeep x (KG x (bX hf' hx)))
       have Qs:(f1++(fx++f3)).Nodup:=by
        have h1:=(List.pairwise_flatten.1 p9.2).1 f (List.mem_of_getElem? hf)
        rw[Mb]at h1
        obtain⟨h2,h3,h4⟩:=List.nodup_append.1 h1
        obtain⟨_,h6,_⟩:=List.nodup_append.1 h3
        have hap: ∀x,x∈fx→x∉f:=by
         intro x hx hxf
         obtain⟨m,om,hm,h5,h7⟩:=BW x hx
         exact g.iq n m _ _ (fun e=>hnm (e▸hm)) hl h5 x (by rw[eR];exact List.mem_cons_of_mem _ (bX hf hxf)) h7
        rw[Mb]at hap
        refine List.nodup_append.2 ⟨h2,List.nodup_append.2 ⟨Pp.nodup,h6,?_⟩,?_⟩
        ·rintro x hx z hz rfl
         exact hap x hx (by simp[hz])
        ·rintro x hx z hz rfl
         rcases List.mem_append.1 hz with hz|hz
         ·exact hap x hz (by simp[hx])
         ·exact h4 x hx x (by simp[hz]) rfl
       have hmem: ∀x,x∈(bn.set i (f1++(fx++f3))).flatten→x∈bn.flatten∨x∈fx:=by
        intro x hx
        rcases rW hx with h| ⟨j,f',_,hj,h⟩
        ·rcases uS x h with h|h
         ·exact Or.inl (bX hf h)
         ·exact Or.inr h
        ·exact Or.inl (bX hj h)
       have TR:Own 0 (w.setCells b (o1+i*kk gt+off) (a.eval y).cells.toList) (b::(bn.set i (f1++(fx++f3))).flatten):=by
        refine⟨List.nodup_cons.2 ⟨fun hm=> ?_,oz p9.2 Qs fun j f' hj hf' x hx hx'=> ?_⟩,fun _ _=>Nat.zero_le _,fun x hx=> ?_⟩
        ·rcases hmem b hm with h|h
         ·exact p9.1 h
         ·exact HK b h rfl
        ·rcases uS x hx' with h|h
         ·exact tO p9.2 hf' hf hj x hx h
         ·obtain⟨m,om,hm,h5,h7⟩:=BW x h
          exact g.iq n m _ _ (fun e=>hnm (e▸hm)) hl h5 x (by rw[eR];exact List.mem_cons_of_mem _ (bX hf' hx)) h7
        ·rcases List.mem_cons.1 hx with rfl|hx
         ·obtain⟨c',q1,_⟩:=cW x eb (a.eval y).cells.toList (o1+i*kk gt+off) w cb qa
          exact⟨_,_,q1⟩
         ·rcases hmem x hx with h|h
          ·rw[hkeep x (KG x h)];exact hown.kind x (List.mem_cons_of_mem _ h)
          ·rw[hkeep x (HK x h)];exact Pp.kind x h
       have Qt:Sl (kk gt) (rd gt) (w.setCells b (o1+i*kk gt+off) (a.eval y).cells.toList) (env n).v (l.set i y') (b::(bn.set i (f1++(fx++f3))).flatten):=by
        refine⟨some ⟨b,o1,none⟩,cap,by rw[lP,KI,List.length_set],by rw[List.length_set];exact vk,Gk,Or.inr ⟨b,o1,_,rfl,?_,rfl,Gl⟩⟩
        exact bU.set qa _ _
       have hM:=g.dom n _ hl b (by rw[eR];simp)
       have Qu:=wM hM qa (o1+i*kk gt+off) (a.eval y).cells.toList
       have hrun:(storeVar t ⟨b,o1+i*kk gt+off,none⟩ (a.eval y)).run P w= .ok () (w.setCells b (o1+i*kk gt+off) (a.eval y).cells.toList):=l5 (by simp) LZ hsz.1 hsz.2
       have acw: ∃e9,(∀x,x∈e9→x∈(env n).fp∨x∈fx)∧(jg n=true→ ∀x,x∈e9→x∈(env n).fp)∧kZ ty (w.setCells b (o1+i*kk gt+off) (a.eval y).cells.toList) n gt (l.set i y') ⟨(env n).v,e9⟩:=by
        have hall: ∀x,x∈b::(bn.set i (f1++(fx++f3))).flatten→x∈(env n).fp∨x∈fx:=by
         intro x hx
         rw[eR]
         rcases List.mem_cons.1 hx with rfl|hx
         ·exact Or.inl (by simp)
         ·rcases hmem x hx with h|h
          ·exact Or.inl (List.mem_cons_of_mem _ h)
          ·exact Or.inr h
        cases hp:soft n with
        |true=>
         refine⟨_,hall,fun hpt x hx=> ?_,by unfold kZ;rw[hp];exact⟨Qt,TR⟩⟩
         rcases hall x hx with h|h
         ·exact h
         ·obtain⟨m,om,hm,_⟩:=BW x h
          cases ms with
          |nil=>simp at hm
          |cons _ _=>rw[hpt]at XF;simp at XF
        |false=>
         have hB:=RO.TJ hp hro
         have Pq:ig (kk gt) (rd gt) 0 (ty gt) (w.setCells b (o1+i*kk gt+off) (a.eval y).cells.toList) (env n).v (l.set i y') (b::(bn.set i (f1++(fx++f3))).flatten):=by
          rcases hB.parts with⟨h1,rfl,_⟩| ⟨g0,o0,n0,cc,XI,h1,hn0,Od,q1,q2,_⟩
          ·simp at hi
          ·rw[lP,KI]at h1
           simp only[Value.slice.injEq,oI,Addr.mk.injEq,and_true,true_and]at h1
           obtain⟨⟨rfl,rfl⟩,rfl⟩:=h1
           obtain⟨cc',q3,q4⟩:=cW b (ty gt) (a.eval y).cells.toList (o1+i*kk gt+off) w cc q1
           rw[lP,KI, ←List.length_set (as:=l) (i:=i) (a:=y')]
           exact iU (cX gt) q3 (by rw[q4];exact q2) (by rw[List.length_set];exact vk) Gk Gl TR
         refine⟨_,hall,?_,?_⟩
         ·intro h;rw[P6 hp]at h;cases h
         ·unfold kZ;rw[hp];exact Pq
       obtain⟨e9,k1,k2,k3⟩:=acw
       obtain⟨env',hg',CC⟩:=AE g hl hok (w':=w.setCells b (o1+i*kk gt+off) (a.eval y).cells.toList) BW k1 k2 (fun x hx _ _=>hkeep x (fun e=>hx (by rw[e,eR];simp))) k3
       unfold Oper.wp execOp
       simp only[eJ,hu,Instr.storeAt,Instr.sureAddr,Sem.run_bind,Sem.run_pure,Result.andThen_ok,hrun]
       exact⟨env',rfl,Qu,hg',rfl⟩
      ·cases h
     ·cases h
    ·cases h
   ·cases h
  ·cases h
 |_=>simp[Uo]at h
end
end
section
variable{ty:Tag→Nat}
def RF(w:World):List V→List Value→List (List Nat)→Prop
 | [],[],bn=>bn= []
 |v::vs,u::us,bn=> ∃f g,RI w v u f∧RF w vs us g∧bn=f::g
 |_,_,_=>False
def AF(w:World):List S1→List Value→List (List Nat)→Prop
 | [],[],bn=>bn= []
 | .a v::as,u::us,bn=> ∃f g,RI w v u f∧AF w as us g∧bn=f::g
 | .agg l::as,u::us,bn=> ∃cs f g,u= .agg cs.toArray∧RF w l cs f∧AF w as us g∧bn=f++g
 |_,_,_=>False
def Oe:List (List Nat)→List (List Nat)→Prop
 | [],[]=>True
 |f::r,g::s=>(∀b,b∈f→b∈g)∧Oe r s
 |_,_=>False
def Gm(P:Program)(f:FuncId)(as as':List S1)(v:Value):Prop:=
 (∀(args:Array Value) (w:World),(callFunc f args).run P w= .ok (.enter f args) w)∧
 ∀w us bn,F5 w→(∀b,Ky b→b∉bn.flatten)→AF w as us bn→Own 0 w bn.flatten→Calls P f us.toArray w fun e w'=> ∃Oc,e= .returned v∧Kept ⟨w,bn.flatten,fun _=>⟨v,[]⟩⟩ w w'∧AF w' as' us Oc∧Own 0 w' Oc.flatten∧Oe Oc bn
def St.upd(st:St)(os:Hp):St:=⟨st.n,st.sl.map fun e=>(e.1,e.2.bz [] (os.map Prod.fst)),os++bW [] (os.map Prod.fst) st.hp⟩
theorem Of{os:Hp}{n:Nat}:n∈os.map Prod.fst↔look os n≠none:=by
 induction os with
 |nil=>simp[look]
 |cons e r ih=>
  obtain⟨j,x⟩:=e
  by_cases h:n=j
  ·subst h;simp[look_eq]
  ·rw[aZ h, ←ih];simp[h]
section
variable{P:Program}{zb:cm}{st st':St}{a:Act}{w:World}{env:Env}{Q:Exit→Act→World→Prop}{o:Oper}
theorem Ip(g:Good ty zb st a.tmps w env){os:Hp}(hos: ∀n o,look os n=some o→ ∃t l l',look st.hp n=some (.arr t l)∧o= .arr t l'){w':World}{XJ:Nat→List Nat}
  (hsub: ∀n o,look os n=some o→ ∀b,b∈XJ n→b∈(env n).fp)(hk: ∀b,b<w.heap.size→(∀n o,look os n=some o→b∉(env n).fp)→w'.heap[b]? =w.heap[b]?)
  (hro: ∀n t l',look os n=some (.arr t l')→kZ ty w' n t l' ⟨(env n).v,XJ n⟩):
  ∃env',Good ty zb (st.upd os) a.tmps w' env'∧ ∀n,(env' n).v=(env n).v:=by
 refine⟨fun m=>match look os m with|some _=>⟨(env m).v,XJ m⟩|none=>env m,?_,fun n=>by dsimp only;split<;>rfl⟩
 have hlk: ∀m o,look (os++bW [] (os.map Prod.fst) st.hp) m=some o→(look os m=some o)∨(look os m=none∧ ∃o',look st.hp m=some o'∧o=o'.bz [] (os.map Prod.fst)):=by
  intro m o hm
  cases hq:look os m with
  |some x=>rw[cz hq]at hm;exact Or.inl hm
  |none=>
   rw[bB hq,bI,if_neg (by simp)]at hm
   cases Et:look st.hp m with
   |none=>rw[Et]at hm;cases hm
   |some o'=>rw[Et]at hm;simp only[Option.map_some,oI]at hm;exact Or.inr ⟨rfl,o',rfl,hm.symm⟩
 have hst: ∀m o,look os m=none→look st.hp m=some o→ ∀b,b∈(env m).fp→w'.heap[b]? =w.heap[b]? :=by
  intro m o hm h3 b hb
  refine hk b ((g.obj m o h3).va b hb) fun n o' hn h=> ?_
  obtain⟨t,l,l',h4,_⟩:=hos n o' hn
  exact g.iq m n _ _ (fun e=>by rw[e,hn]at hm;cases hm) h3 h4 b hb h
 have eR: ∀m o,look (os++bW [] (os.map Prod.fst) st.hp) m=some o→ ∀b,b∈(match look os m with|some _=>(⟨(env m).v,XJ m⟩:CO)|none=>env m).fp→b∈(env m).fp∧ ∃o',look st.hp m=some o':=by
  intro m o hm b hb
  rcases hlk m o hm with h| ⟨h,o',h2,_⟩
  ·rw[h]at hb
   obtain⟨t,l,l',h4,_⟩:=hos m o h
   exact⟨hsub m o h b hb,_,h4⟩
  ·rw[h]at hb
   exact⟨hb,o',h2⟩
 have s:oQ [] (os.map Prod.fst) w st.hp env w' (os++bW [] (os.map Prod.fst) st.hp) (fun m=>match look os m with|some _=>⟨(env m).v,XJ m⟩|none=>env m):=by
  refine⟨fun b hb hno=>hk b hb fun n o hn h=> ?_,?_,?_,?_⟩
  ·obtain⟨t,l,l',h4,_⟩:=hos n o hn
   exact hno ⟨n,_,h4,h⟩
  ·rintro b hb ⟨m,o',h1,h2⟩
   obtain⟨h3,o2,h4⟩:=eR m o' h1 b h2
   exact⟨m,o2,h4,h3⟩
  ·intro m o' _ h1
   cases hq:look os m with
   |some x=>
    obtain⟨t,l,l',h4,rfl⟩:=hos m x hq
    rw[h4]at h1
    simp only[oI]at h1
    subst h1
    exact⟨_,cz hq,rfl,rfl⟩
   |none=>
    exact⟨o'.bz [] (os.map Prod.fst),by rw[bB hq,bI,if_neg (by simp),h1];rfl,by cases o'<;>simp[Obj.like,Obj.bz],rfl⟩
  ·rintro m t' l2 ⟨_,hmn⟩ h1
   have hq:look os m=none:=by
    cases hq:look os m with
    |none=>rfl
    |some x=>exact absurd (Of.2 (by rw[hq];simp)) hmn
   exact⟨by rw[bB hq,bI,if_neg (by simp),h1];rfl,by simp[hq],hst m _ hq h1⟩
 refine g.gr s (fun m o' hm=> ?_) (fun m m' o1 o2 hne h1 h2 b hb hb'=> ?_) (fun m o' hm b hb=> ?_) (fun m hm=> ?_)
 ·rcases hlk m o' hm with h| ⟨h,we,h3,rfl⟩
  ·obtain⟨t,l,l',h4,rfl⟩:=hos m o' h
   simp only[h]
   exact hro m t l' h
  ·simp only[h]
   exact(g.obj m we h3).gr s (hst m we h h3)
 ·obtain⟨h3,q1,h4⟩:=eR m o1 h1 b hb
  obtain⟨h5,q2,h6⟩:=eR m' o2 h2 b hb'
  exact g.iq m m' _ _ hne h4 h6 b h3 h5
 ·obtain⟨h3,q1,h4⟩:=eR m o' hm b hb
  exact g.dom m q1 h4 b h3
 ·refine⟨?_,fun b hb=> ?_⟩
  ·have:=(g.pins m hm).1
   split<;>exact this
  ·cases hq:look os m with
   |none=>simp only[hq]at hb;exact(g.pins m hm).2 b hb
   |some x=>simp only[hq]at hb;exact(g.pins m hm).2 b (hsub m x hq b hb)
theorem CG{n:Nat}{t:Tag}{l l':List (T t)}{co:CO}{e9:List Nat}{w':World}{hp:Hp}(h:RO ty w hp env n (.arr t l) co)(hs:Shape w w')(h':Sl (kk t) (rd t) w' co.v l' e9)(ho:Own 0 w' e9)(hsub: ∀b,b∈e9→b∈co.fp):
  ∃H8,kZ ty w' n t l' ⟨co.v,H8⟩∧ ∀b,b∈H8→b∈co.fp:=by
 unfold kZ
 cases hp:soft n with
 |true=>exact⟨e9,⟨h',ho⟩,hsub⟩
 |false=>exact XE (cX t) (RO.TJ hp h) hs h' ho hsub
end
def Og(st:St)(tg:Option Tag):V→Option V
 | .own n=>match look st.hp n with|some (.arr t l)=>some (.sl t l)|_=>none
 | .lit (.slice none 0 0)=>match tg with|some t=>some (.sl t [])|none=>none
 | .lit (.slice _ _ _)=>none
 | .lit v=>some (.lit v)
 |_=>none
def Iq(st:St):List (Option Tag)→List V→Option (List V)
 |_,[]=>some []
 |tg,v::r=>match Og st (match tg with|t::_=>t| []=>none) v,Iq st (match tg with|_::ts=>ts| []=> []) r with
  |some x,some y=>some (x::y)
  |_,_=>none
def Qv(st:St)(k:TK):S1→Option S1
 | .a v=>match Og st (match k with| .sl t _=>some t|_=>none) v with|some x=>some (.a x)|none=>none
 | .agg l=>match Iq st (match k with| .st _ tg _=>tg|_=> []) l with|some x=>some (.agg x)|none=>none
def rX(Γ:Nat→TK)(st:St):List Operand→List Nat→Option (List S1×List S1)
 | [],_=>some ([],[])
 |x::r,t=>match ff st [] x with
  |some v=>match Qv st (match t with|t::_=>Γ t| []=> .other) v,rX Γ st r (match t with|_::ts=>ts| []=> [])with
   |some y,some (vs,ys)=>some (v::vs,y::ys)
   |_,_=>none
  |none=>none
def back(st:St):List V→List V→Option Hp
 | [],[]=>some []
 | .own n::r, .sl t' l'::s=>match look st.hp n,back st r s with
   |some (.arr t _),some os=>match gf t t' l' with|some l'=>some ((n, .arr t l')::os)|none=>none
   |_,_=>none
 | .lit _::r,_::s=>back st r s
 |_,_=>none
def eio(P:Program)(ty:Tag→Nat)(Γ:Nat→TK)(cr:List (Nat×CR))(st:St)(d:Option Nat):Op→Option (List Prop×St×SV)
 | .call ⟨.value (.func f),xs,ts⟩=>match rX Γ st xs.toList ts.toList,look cr (d.getD 0+100000)with
   |some (vs,as),some ⟨_, .a (.lit v)::as'⟩=>match back st (vs.flatMap cellsOf) (as'.flatMap cellsOf),v.oneCell' with
    |some os,true=>match gm os with
     |true=>some ([Gm P f as as' v],st.upd os, .one (.a (.lit v)))
     |false=>none
    |_,_=>none
   |_,_=>none
 |_=>none
def wW(st:St):List Operand→Option (List S1)
 | []=>some []
 |x::r=>match ff st [] x,wW st r with
  |some (.a (.lit (.slice _ _ _))),_=>none
  |some (.a (.lit v)),some ys=>some (.a (.lit v)::ys)
  |_,_=>none
def eiv(P:Program)(ty:Tag→Nat)(cr:List (Nat×CR))(st:St)(d:Option Nat):Op→Option (List Prop×St×SV)
 | .call ⟨.value (.func f),xs,_⟩=>match xs.toList with
   |x::r=>match ff st [] x,wW st r,look cr (d.getD 0+200000)with
    |some (.a (.vw n (some (i,off)) t l)),some ls,some ⟨_, .a (.lit v):: .a (.sl t' l')::ls'⟩=>match look st.hp n,gf t t' l',v.oneCell' with
     |some (.arr g l0),some l',true=>match Es (dec g (l0.getD i (aB g))) off [.sl t l']with
      |some c=>match enc g c with
       |some (vc,x')=>some (Gm P f (.a (.sl t l)::ls) (.a (.sl t l')::ls') v::vc,st.upd [(n, .arr g (l0.set i x'))], .one (.a (.lit v)))
       |none=>none
      |none=>none
     |_,_,_=>none
    |_,_,_=>none
   | []=>none
 |_=>none
section
variable{P:Program}{zb:cm}{st st':St}{a:Act}{w:World}{env:Env}{Q:Exit→Act→World→Prop}{o:Oper}
theorem RI.cells{v:V}{u:Value}{f:List Nat}(h:RI w v u f):u.cells= #[u]:=by
 cases v with
 |lit x=>obtain⟨rfl,h1,_⟩:=h;cases u<;>simp_all [Value.cells,Value.oneCell']
 |sl t l=>obtain⟨oa,cap,rfl,_⟩:=h;rfl
 |_=>exact h.elim
theorem RF.app{w:World}: ∀{x y:List V} {us vs:List Value} {f g:List (List Nat)},RF w x us f→RF w y vs g→RF w (x++y) (us++vs) (f++g)
 | [],_,[],_,_,_,h,k=>by rw[show _=_ from h];exact k
 |_::_,_,_::_,_,_,_,⟨f1,f2,h1,h2,e⟩,k=>⟨f1,f2++_,h1,RF.app h2 k,by rw[e,List.cons_append]⟩
 | [],_,_::_,_,_,_,h,_=>h.elim
 |_::_,_,[],_,_,_,h,_=>h.elim
theorem vl{w:World}: ∀{as:List S1} {us:List Value} {bn:List (List Nat)},AF w as us bn→RF w (as.flatMap cellsOf) (us.flatMap fun u=>u.cells.toList) bn
 | [],[],_,h=>h
 | .a v::as,u::us,_,⟨f,g,h1,h2,e⟩=>by
   have:=RF.app (x:= [v]) (us:= [u]) (f:= [f]) ⟨f,[],h1,rfl,rfl⟩ (vl h2)
   rw[List.flatMap_cons,List.flatMap_cons,RI.cells h1,e]
   exact this
 | .agg l::as,u::us,_,⟨cs,f,g,hu,h1,h2,e⟩=>by
   rw[List.flatMap_cons,List.flatMap_cons,hu,e]
   exact RF.app h1 (vl h2)
 | [],_::_,_,h=>h.elim
 | .a _::_,[],_,h=>h.elim
 | .agg _::_,[],_,h=>h.elim
def Gn(env:Env):V→List Nat
 | .own n=>(env n).fp
 |_=> []
theorem Mi(g:Good ty zb st a.tmps w env){tg:Option Tag}{v x:V}{u:Value}(hr:RA w st.hp env v u)(h:Og st tg v=some x):RI w x u (Gn env v):=by
 cases v with
 |own n=>
  simp only[Og]at h
  split at h
  ·rename_i t l hl
   simp only[oI]at h
   subst h
   obtain⟨_,rfl⟩:=hr
   exact RO.sl (g.obj n _ hl)
  ·cases h
 |lit v=>
  obtain⟨rfl,h1⟩:=hr
  simp only[Og]at h
  split at h
  ·rename_i heq;cases heq
  ·rename_i heq
   simp only[V.lit.injEq]at heq
   subst heq
   split at h
   ·simp only[oI]at h
    subst h
    exact⟨none,0,rfl,Nat.le_refl _,Nat.zero_le _,Or.inl ⟨rfl,rfl,rfl⟩⟩
   ·cases h
  ·cases h
  ·rename_i heq
   simp only[V.lit.injEq]at heq
   subst heq
   simp only[oI]at h
   subst h
   exact⟨rfl,h1,rfl⟩
  ·cases h
 |_=>simp[Og]at h
theorem Ir(g:Good ty zb st a.tmps w env): ∀{vs:List V} {tg:List (Option Tag)} {xs:List V} {us:List Value},bA (RA w st.hp env) vs us→Iq st tg vs=some xs→RF w xs us (vs.map (Gn env))
 | [],tg,xs,us,hr,h=>by
   simp only[Iq,oI]at h
   subst h
   cases us with
   |nil=>rfl
   |cons _ _=>exact hr.elim
 |v::r,tg,xs,us,hr,h=>by
  cases us with
  |nil=>exact hr.elim
  |cons u us=>
   simp only[Iq]at h
   split at h
   ·rename_i x y h1 h2
    simp only[oI]at h
    subst h
    exact⟨_,_,Mi g hr.1 h1,Ir g hr.2 h2,rfl⟩
   ·cases h
theorem AG{Γ:Nat→TK}(g:Good ty zb st a.tmps w env): ∀{xs:List Operand} {ts:List Nat} {vs as:List S1},rX Γ st xs ts=some (vs,as)→
  AF w as (xs.map a.eval) ((vs.flatMap cellsOf).map (Gn env))∧bA (RA w st.hp env) (vs.flatMap cellsOf) ((xs.map a.eval).flatMap fun u=>u.cells.toList)
 | [],ts,vs,as,h=>by
   simp only[rX,oI,pI]at h
   obtain⟨rfl,rfl⟩:=h
   exact⟨rfl,trivial⟩
 |x::r,ts,vs,as,h=>by
  simp only[rX]at h
  split at h
  ·rename_i v hx
   split at h
   ·rename_i y vs' ys h1 h2
    simp only[oI,pI]at h
    obtain⟨rfl,rfl⟩:=h
    have AB:=dB g (fun e he=>by simp at he) hx
    obtain⟨k1,k2⟩:=AG g h2
    cases v with
    |a v=>
     simp only[Qv]at h1
     split at h1
     ·rename_i x' hl
      simp only[oI]at h1
      subst h1
      have Kn:=Mi g AB hl
      refine⟨⟨_,_,Kn,k1,rfl⟩,?_⟩
      rw[List.map_cons,List.flatMap_cons,List.flatMap_cons,RI.cells Kn]
      exact⟨AB,k2⟩
     ·cases h1
    |agg l=>
     simp only[Qv]at h1
     split at h1
     ·rename_i x' hl
      simp only[oI]at h1
      subst h1
      obtain⟨cs,hu,lO⟩:=AB
      refine⟨⟨cs,_,_,hu,Ir g lO hl,k1,by rw[List.flatMap_cons,List.map_append];rfl⟩,?_⟩
      rw[List.map_cons,List.flatMap_cons,List.flatMap_cons,hu]
      exact bA.app lO k2
     ·cases h1
   ·cases h
  ·cases h
theorem Gp(g:Good ty zb st a.tmps w env){w':World}: ∀{vs as:List V} {us:List Value} {bn:List (List Nat)} {os:Hp},back st vs as=some os→bA (RA w st.hp env) vs us→RF w' as us bn→Oe bn (vs.map (Gn env))→Own 0 w' bn.flatten→gm os=true→
  (∀b,b∈(vs.map (Gn env)).flatten→ ∃n o,look os n=some o∧b∈(env n).fp)∧
  (∀n o,look os n=some o→(∃t l l' e9,look st.hp n=some (.arr t l)∧o= .arr t l'∧Sl (kk t) (rd t) w' (env n).v l' e9∧Own 0 w' e9∧ ∀b,b∈e9→b∈(env n).fp)∧ ∀b,b∈(env n).fp→b∈(vs.map (Gn env)).flatten)∧
  ((vs.map (Gn env)).flatten.Nodup)
 | [],[],us,bn,os,h,_,_,_,_,_=>by
   simp only[back,oI]at h
   subst h
   exact⟨by simp,by simp[look],by simp⟩
 | .own n::r, .sl t' l'::s,us,bn,os,h,hr,hf,hsub,hown,hnd=>by
   cases us with
   |nil=>exact hr.elim
   |cons u us=>
    obtain⟨f,fr,h1,h2,rfl⟩:=hf
    simp only[back]at h
    split at h
    ·rename_i t l os' hl hb
     split at h
     ·rename_i l2 hc
      simp only[oI]at h
      subst h
      obtain⟨e,rfl⟩:=cU hc
      subst e
      simp only[gm,Bool.and_eq_true]at hnd
      rw[List.flatten_cons]at hown
      obtain⟨hn1,hn2,TM⟩:=List.nodup_append.1 hown.nodup
      have o1:Own 0 w' f:=⟨hn1,fun _ _=>Nat.zero_le _,fun b hb=>hown.kind b (List.mem_append_left _ hb)⟩
      have o2:Own 0 w' fr.flatten:=⟨hn2,fun _ _=>Nat.zero_le _,fun b hb=>hown.kind b (List.mem_append_right _ hb)⟩
      obtain⟨q1,q2,q3⟩:=Gp g hb hr.2 h2 hsub.2 o2 hnd.2
      have hu:u=(env n).v:=hr.1.2
      have hno:look os' n=none:=by
       cases hq:look os' n with
       |none=>rfl
       |some x=>simp[hq]at hnd
      refine⟨fun b hb=> ?_,fun m o hm=> ?_,?_⟩
      ·rw[List.map_cons,List.flatten_cons]at hb
       rcases List.mem_append.1 hb with hb|hb
       ·exact⟨n,_,look_eq,hb⟩
       ·obtain⟨m,o,h3,h4⟩:=q1 b hb
        have hmn:m≠n:=by rintro rfl;rw[hno]at h3;cases h3
        exact⟨m,o,by rw[aZ hmn];exact h3,h4⟩
      ·by_cases hmn:m=n
       ·subst hmn
        rw[look_eq]at hm
        simp only[oI]at hm
        exact⟨⟨t',l,l',f,hl,hm.symm,by rw[←hu];exact h1,o1,hsub.1⟩,fun b hb=>by rw[List.map_cons,List.flatten_cons];exact List.mem_append_left _ hb⟩
       ·rw[aZ hmn]at hm
        obtain⟨h3,h4⟩:=q2 m o hm
        exact⟨h3,fun b hb=>by rw[List.map_cons,List.flatten_cons];exact List.mem_append_right _ (h4 b hb)⟩
      ·rw[List.map_cons,List.flatten_cons]
       refine List.nodup_append.2 ⟨(RO.own (g.obj n _ hl)).nodup,q3,?_⟩
       rintro b hb c hc rfl
       obtain⟨m,o,h3,h4⟩:=q1 b hc
       have hmn:n≠m:=by rintro rfl;rw[hno]at h3;cases h3
       obtain⟨⟨t2,l2,_,_,h5,_⟩,_⟩:=q2 m o h3
       exact g.iq n m _ _ hmn hl h5 b hb h4
     ·cases h
    ·cases h
 | .lit x::r,y::s,us,bn,os,h,hr,hf,hsub,hown,hnd=>by
   cases us with
   |nil=>exact hr.elim
   |cons u us=>
    obtain⟨f,fr,h1,h2,rfl⟩:=hf
    simp only[back]at h
    rw[List.flatten_cons]at hown
    obtain⟨_,hn2,_⟩:=List.nodup_append.1 hown.nodup
    obtain⟨q1,q2,q3⟩:=Gp g h hr.2 h2 hsub.2 ⟨hn2,fun _ _=>Nat.zero_le _,fun b hb=>hown.kind b (List.mem_append_right _ hb)⟩ hnd
    exact⟨q1,q2,q3⟩
 | .own _::_, .lit _::_,_,_,_,h,_,_,_,_,_=>by simp[back]at h
 | .own _::_, .any::_,_,_,_,h,_,_,_,_,_=>by simp[back]at h
 | .own _::_, .own _::_,_,_,_,h,_,_,_,_,_=>by simp[back]at h
 | .own _::_, .ptr _ _::_,_,_,_,h,_,_,_,_,_=>by simp[back]at h
 | .own _::_, .mG _ _ _::_,_,_,_,h,_,_,_,_,_=>by simp[back]at h
 | .own _::_, .ip _ _ _::_,_,_,_,h,_,_,_,_,_=>by simp[back]at h
 | .own _::_, .vw _ _ _ _::_,_,_,_,h,_,_,_,_,_=>by simp[back]at h
 | .own _::_, .Eh _ _ _ _ _::_,_,_,_,h,_,_,_,_,_=>by simp[back]at h
 | .own _::_, .Ei _ _ _::_,_,_,_,h,_,_,_,_,_=>by simp[back]at h
 | .own _::_, .mix _ _ _ _::_,_,_,_,h,_,_,_,_,_=>by simp[back]at h
 | .own _::_, .tG _::_,_,_,_,h,_,_,_,_,_=>by simp[back]at h
 | .own _::_, .Bt _ _::_,_,_,_,h,_,_,_,_,_=>by simp[back]at h
 | .own _::_, .uo _::_,_,_,_,h,_,_,_,_,_=>by simp[back]at h
 | .own _::_, .raw _::_,_,_,_,h,_,_,_,_,_=>by simp[back]at h
 | .own _::_, .qK _ _ _::_,_,_,_,h,_,_,_,_,_=>by simp[back]at h
 | .own _::_,[],_,_,_,h,_,_,_,_,_=>by simp[back]at h
 | .lit _::_,[],_,_,_,h,_,_,_,_,_=>by simp[back]at h
 | [],_::_,_,_,_,h,_,_,_,_,_=>by simp[back]at h
 | .any::_,_,_,_,_,h,_,_,_,_,_=>by simp[back]at h
 | .sl _ _::_,_,_,_,_,h,_,_,_,_,_=>by simp[back]at h
 | .ptr _ _::_,_,_,_,_,h,_,_,_,_,_=>by simp[back]at h
 | .mG _ _ _::_,_,_,_,_,h,_,_,_,_,_=>by simp[back]at h
 | .ip _ _ _::_,_,_,_,_,h,_,_,_,_,_=>by simp[back]at h
 | .vw _ _ _ _::_,_,_,_,_,h,_,_,_,_,_=>by simp[back]at h
 | .Eh _ _ _ _ _::_,_,_,_,_,h,_,_,_,_,_=>by simp[back]at h
 | .Ei _ _ _::_,_,_,_,_,h,_,_,_,_,_=>by simp[back]at h
 | .mix _ _ _ _::_,_,_,_,_,h,_,_,_,_,_=>by simp[back]at h
 | .tG _::_,_,_,_,_,h,_,_,_,_,_=>by simp[back]at h
 | .Bt _ _::_,_,_,_,_,h,_,_,_,_,_=>by simp[back]at h
 | .uo _::_,_,_,_,_,h,_,_,_,_,_=>by simp[back]at h
 | .raw _::_,_,_,_,_,h,_,_,_,_,_=>by simp[back]at h
 | .qK _ _ _::_,_,_,_,_,h,_,_,_,_,_=>by simp[back]at h
theorem CH(g:Good ty zb st a.tmps w env): ∀{vs as:List V} {os:Hp},back st vs as=some os→gm os=true→
  Own 0 w (vs.map (Gn env)).flatten∧(∀b,b∈(vs.map (Gn env)).flatten→ ∃n o o',look os n=some o∧look st.hp n=some o'∧b∈(env n).fp)
 | [],[],os,h,_=>⟨Own.nil _ _,by simp⟩
 | .own n::r, .sl t' l'::s,os,h,hnd=>by
   simp only[back]at h
   split at h
   ·rename_i t l os' hl hb
    split at h
    ·rename_i l2 hc
     simp only[oI]at h
     subst h
     simp only[gm,Bool.and_eq_true]at hnd
     obtain⟨q1,q2⟩:=CH g hb hnd.2
     have hno:look os' n=none:=by
      cases hq:look os' n with
      |none=>rfl
      |some x=>simp[hq]at hnd
     have ho:=RO.own (g.obj n _ hl)
     rw[List.map_cons,List.flatten_cons]
     refine⟨⟨List.nodup_append.2 ⟨ho.nodup,q1.nodup,?_⟩,fun _ _=>Nat.zero_le _,fun b hb=> ?_⟩,fun b hb=> ?_⟩
     ·rintro b hb c HI rfl
      obtain⟨m,o,o',h3,h5,h4⟩:=q2 b HI
      have hmn:n≠m:=by rintro rfl;rw[hno]at h3;cases h3
      exact g.iq n m _ _ hmn hl h5 b hb h4
     ·rcases List.mem_append.1 hb with hb|hb
      ·exact ho.kind b hb
      ·exact q1.kind b hb
     ·rcases List.mem_append.1 hb with hb|hb
      ·exact⟨n,_,_,look_eq,hl,hb⟩
      ·obtain⟨m,o,o',h3,h5,h4⟩:=q2 b hb
       have hmn:m≠n:=by rintro rfl;rw[hno]at h3;cases h3
       exact⟨m,o,o',by rw[aZ hmn];exact h3,h5,h4⟩
    ·cases h
   ·cases h
 | .lit x::r,y::s,os,h,hnd=>by
   simp only[back]at h
   have q:=CH g h hnd
   exact q
 | .own _::_, .lit _::_,_,h,_=>by simp[back]at h
 | .own _::_, .any::_,_,h,_=>by simp[back]at h
 | .own _::_, .own _::_,_,h,_=>by simp[back]at h
 | .own _::_, .ptr _ _::_,_,h,_=>by simp[back]at h
 | .own _::_, .mG _ _ _::_,_,h,_=>by simp[back]at h
 | .own _::_, .ip _ _ _::_,_,h,_=>by simp[back]at h
 | .own _::_, .vw _ _ _ _::_,_,h,_=>by simp[back]at h
 | .own _::_, .Eh _ _ _ _ _::_,_,h,_=>by simp[back]at h
 | .own _::_, .Ei _ _ _::_,_,h,_=>by simp[back]at h
 | .own _::_, .mix _ _ _ _::_,_,h,_=>by simp[back]at h
 | .own _::_, .tG _::_,_,h,_=>by simp[back]at h
 | .own _::_, .Bt _ _::_,_,h,_=>by simp[back]at h
 | .own _::_, .uo _::_,_,h,_=>by simp[back]at h
 | .own _::_, .raw _::_,_,h,_=>by simp[back]at h
 | .own _::_, .qK _ _ _::_,_,h,_=>by simp[back]at h
 | .own _::_,[],_,h,_=>by simp[back]at h
 | .lit _::_,[],_,h,_=>by simp[back]at h
 | [],_::_,_,h,_=>by simp[back]at h
 | .any::_,_,_,h,_=>by simp[back]at h
 | .sl _ _::_,_,_,h,_=>by simp[back]at h
 | .ptr _ _::_,_,_,h,_=>by simp[back]at h
 | .mG _ _ _::_,_,_,h,_=>by simp[back]at h
 | .ip _ _ _::_,_,_,h,_=>by simp[back]at h
 | .vw _ _ _ _::_,_,_,h,_=>by simp[back]at h
 | .Eh _ _ _ _ _::_,_,_,h,_=>by simp[back]at h
 | .Ei _ _ _::_,_,_,h,_=>by simp[back]at h
 | .mix _ _ _ _::_,_,_,h,_=>by simp[back]at h
 | .tG _::_,_,_,h,_=>by simp[back]at h
 | .Bt _ _::_,_,_,h,_=>by simp[back]at h
 | .uo _::_,_,_,h,_=>by simp[back]at h
 | .raw _::_,_,_,h,_=>by simp[back]at h
 | .qK _ _ _::_,_,_,h,_=>by simp[back]at h
theorem Kept.XK{L:List Nat}{pv:Nat→CO}{w':World}(h:Kept ⟨w,L,pv⟩ w w')(hB:zb.w.heap.size≤w.heap.size)(hL: ∀b,b∈L→b∈zb.L∨zb.w.heap.size≤b):Kept zb w w':=
 ⟨h.os,h.tape,h.output,h.size,fun b hb hn=>h.block b (Nat.lt_of_lt_of_le hb hB) fun hm=>(hL b hm).elim hn fun h=>by omega,h.shape⟩
theorem E3{f:FuncId}{xs:Array Operand}{ts:Array TypeId}(ho:o.op= .call ⟨.value (.func f),xs,ts⟩)(hS: ∀(args:Array Value) (w:World),(callFunc f args).run P w= .ok (.enter f args) w):
  (execOp a.eval o).run P w= .ok (.enter f (xs.toList.map a.eval).toArray) w:=by
 have hx:xs.map a.eval=(xs.toList.map a.eval).toArray:=by rw[←List.map_toArray]
 rw[←hx]
 have h0:a.eval (.func f)= .func (.func f) #[] #[]:=rfl
 unfold execOp
 simp[ho,resolve,invoke,Deferred.ofValue,h0,hS]
theorem XL{Γ:Nat→TK}{cr:List (Nat×CR)}{vc:List Prop}{v:SV}{d:Option Nat}(h:eio P ty Γ cr st d o.op=some (vc,st',v))(g:Good ty zb st a.tmps w env)(hB:zb.w.heap.size≤w.heap.size)(hA:Ga zb)(hN:F5 w)(hv: ∀q,q∈vc→q):
  o.wp P a w (fun a' w'=> ∃u env',a'=a.put o.dst u∧Kept zb w w'∧Good ty zb st' a.tmps w' env'∧st'.n=st.n∧nG w' st'.hp env' a.tmps v u) Q:=by
 generalize eJ:o.op=op at h
 unfold eio at h
 split at h
 ·rename_i f xs ts
  split at h
  ·rename_i vs as own v0 as' hl hcr
   split at h
   ·rename_i os hb h1
    split at h
    ·rename_i hnd
     simp only[oI,pI]at h
     obtain⟨rfl,rfl,rfl⟩:=h
     obtain⟨ZX,ZY⟩:Gm P f as as' v0:=hv _ (by simp)
     obtain⟨q1,q2⟩:=AG g hl
     obtain⟨q3,q4⟩:=CH g hb hnd
     unfold Oper.wp
     rw[E3 eJ ZX]
     simp only[Oper.upon]
     refine(ZY w _ _ hN (fun b h0 hb=>by obtain⟨n,o,o',_,hl',Is⟩:=q4 b hb;exact hA.free (g.dom n o' hl' b Is) h0) q1 q3).mono ?_
     rintro e w' ⟨Oc,rfl,hk,ha,hown,hsub⟩
     obtain⟨r1,r2,_⟩:=Gp g hb q2 (vl ha) hsub hown hnd
     have eR: ∀n, ∃H8, ∀t l',look os n=some (.arr t l')→kZ ty w' n t l' ⟨(env n).v,H8⟩∧ ∀b,b∈H8→b∈(env n).fp:=by
      intro n
      cases hq:look os n with
      |none=>exact⟨[],fun _ _ h=>by cases h⟩
      |some o'=>
       obtain⟨⟨t,l,l',e9,h3,rfl,h5,h6,h7⟩,_⟩:=r2 n o' hq
       obtain⟨H8,k1,k2⟩:=CG (hp:=st.hp) (g.obj n _ h3) hk.shape h5 h6 h7
       refine⟨H8,fun t2 l2 h=> ?_⟩
       simp only[oI,Obj.arr.injEq]at h
       obtain⟨rfl,h⟩:=h
       cases h
       exact⟨k1,k2⟩
     obtain⟨env',hg',CC⟩:=Ip g (os:=os) (w':=w') (XJ:=fun n=>Classical.choose (eR n))
      (fun n o' hn=>by
       obtain⟨⟨t,l,l',e9,h3,h4,_⟩,_⟩:=r2 n o' hn
       exact⟨t,l,l',h3,h4⟩)
      (fun n o' hn b hb'=>by
       obtain⟨⟨t,l,l',e9,h3,rfl,_⟩,_⟩:=r2 n o' hn
       exact(Classical.choose_spec (eR n) t l' hn).2 b hb')
      (fun b hlt hno=>hk.block b hlt fun hm=>by
       obtain⟨n,o',h3,h4⟩:=r1 b hm
       exact hno n o' h3 h4)
      (fun n t l' hn=>(Classical.choose_spec (eR n) t l' hn).1)
     refine⟨v0,env',rfl,hk.XK hB fun b hm=> ?_,hg',rfl,rfl,h1⟩
     obtain⟨n,o1,o2,h3,h4,h5⟩:=q4 b hm
     exact g.dom n o2 h4 b h5
    ·cases h
   ·cases h
  ·cases h
 ·cases h
theorem CI(g:Good ty zb st a.tmps w env): ∀{xs:List Operand} {as:List S1},wW st xs=some as→AF w as (xs.map a.eval) (as.map fun _=> [])
 | [],as,h=>by
   simp only[wW,oI]at h
   subst h;rfl
 |x::r,as,h=>by
  simp only[wW]at h
  split at h
  ·cases h
  ·rename_i v ys hne hx h2
   simp only[oI]at h
   subst h
   obtain⟨h3,h4⟩:=dB g (fun e he=>by simp at he) hx
   exact⟨[],_,⟨h3,h4,rfl⟩,CI g h2,rfl⟩
  ·cases h
theorem CJ{n i off:Nat}{t:Tag}{l l2:List (T t)}{u0:Value}{gt:Tag}{l0:List (T gt)}{c:List V}{x':T gt}{nH:List Prop}{pv:Nat→CO}(g:Good ty zb st a.tmps w env)(hB:zb.w.heap.size≤w.heap.size)
  (TN:RV w st.hp env n (some (i,off)) t l u0)(hl:look st.hp n=some (.arr gt l0))(hs:Es (dec gt (l0.getD i (aB gt))) off [.sl t l2]=some c)(he:enc gt c=some (nH,x'))(hv: ∀q,q∈nH→q):
  ∃fv,RI w (.sl t l) u0 fv∧(∀y,y∈fv→y∈zb.L∨zb.w.heap.size≤y)∧Own 0 w fv∧ ∀w' Bb,Kept ⟨w,fv,pv⟩ w w'→RI w' (.sl t l2) u0 Bb→Own 0 w' Bb→(∀y,y∈Bb→y∈fv)→ ∃env',Kept zb w w'∧Good ty zb (st.upd [(n, .arr gt (l0.set i x'))]) a.tmps w' env':=by
 obtain⟨_,_,Qw⟩:=TN
 obtain⟨t1,l1,b2,o2,XG,Uq,hl1,hi,KJ,Oh,Eu,hcell⟩:=Qw i off rfl
 rw[hl]at hl1
 simp only[oI,Obj.arr.injEq]at hl1
 obtain⟨rfl,hl1⟩:=hl1
 cases hl1
 have hro:=g.obj n _ hl
 obtain⟨oa,cap,lP,vk,Gk,h3⟩:=RO.sl hro
 have hown:=RO.own hro
 rcases h3 with⟨rfl,_⟩| ⟨b,o1,bn,KI,bU,eR,hE⟩
 ·simp at hi
 rw[lP,KI]at Oh
 simp only[Value.slice.injEq,oI,Addr.mk.injEq,and_true]at Oh
 obtain⟨⟨rfl,rfl⟩,rfl,rfl⟩:=Oh
 have Qq:l0[i]? =some (l0.getD i (aB gt)):=by rw[List.getD_eq_getElem?_getD,List.getElem?_eq_getElem hi];rfl
 obtain⟨fe,hf⟩:=gd hE.1 Qq
 obtain⟨cs,wL,TQ⟩:=hE.2 _ _ fe Qq hf
 rw[eR]at hown
 have p9:=List.nodup_cons.1 hown.nodup
 have hR:=reads gt TQ
 obtain⟨f1,f',Ur,k1,k2⟩:=bT.split off hR
 have uu: ∃r',(dec gt (l0.getD i (aB gt))).drop off= .sl t l::r':=by
  rw[wI]at KJ
  have hlt:=(List.getElem?_eq_some_iff.1 KJ).1
  rw[List.drop_eq_getElem_cons hlt]
  have:=(List.getElem?_eq_some_iff.1 KJ).2
  rw[this]
  exact⟨_,rfl⟩
 obtain⟨r',uu⟩:=uu
 rw[uu]at k2
 have CK: ∃u us,cs.drop off=u::us:=by
  cases hq:cs.drop off with
  |nil=>rw[hq]at k2;exact k2.elim
  |cons u us=>exact⟨u,us,rfl⟩
 obtain⟨u,us,CK⟩:=CK
 rw[CK]at k2
 obtain⟨fv,f3,Kn,Qx,hf'⟩:=k2
 have huc:cs[off]? =some u:=by
  have:=congrArg (fun l=>l[0]?) CK
  simpa using this
 have ZZ:u0=u:=by
  have:=wL off u huc
  rw[hcell]at this
  simpa using this
 rw[ZZ]at hcell ⊢
 have E4: ∀y,y∈fv→y∈fe:=fun y hy=>by rw[Ur,hf'];simp[hy]
 have Z0:=(List.pairwise_flatten.1 p9.2).1 fe (List.mem_of_getElem? hf)
 rw[Ur,hf']at Z0
 obtain⟨n1,n2,n3⟩:=List.nodup_append.1 Z0
 obtain⟨n4,n5,n6⟩:=List.nodup_append.1 n2
 have Qy:Own 0 w fv:=⟨n4,fun _ _=>Nat.zero_le _,fun y hy=>hown.kind y (List.mem_cons_of_mem _ (bX hf (E4 y hy)))⟩
 refine⟨fv,Kn,fun y hy=>g.dom n _ hl y (by rw[eR];exact List.mem_cons_of_mem _ (bX hf (E4 y hy))),Qy,?_⟩
 intro w' Bb hk XM KK KL
 have m1:=KK.nodup
 have hkeep: ∀y,y<w.heap.size→y∉fv→w'.heap[y]? =w.heap[y]? :=fun y hy hn=>hk.block y hy hn
 have KG: ∀y,y∈bn.flatten→y≠b:=fun y hy e=>p9.1 (e▸hy)
 have Oi: ∀y,y∈bn.flatten→y<w.heap.size:=fun y hy=>hown.lt y (List.mem_cons_of_mem _ hy)
 have hkb:w'.heap[b]? =w.heap[b]? :=hkeep b bU.lt fun hm=>p9.1 (bX hf (E4 b hm))
 have Z1: ∀{o:Nat} {cs:List Value},w.rangeAt b o cs→w'.rangeAt b o cs:=by
  intro o cs hr j v hv
  rw[World.cell?_of_block (w:=w) (a:=⟨b,_,none⟩) hkb];exact hr j v hv
 have ag1:Agree w w' f1:=fun y hy=>hkeep y (Oi y (bX hf (by rw[Ur];simp[hy]))) fun hm=>n3 y hy y (by simp[hm]) rfl
 have ag3:Agree w w' f3:=fun y hy=>hkeep y (Oi y (bX hf (by rw[Ur,hf'];simp[hy]))) fun hm=>n6 y hm y hy rfl
 have Qz: ∀{c:List V} {us:List Value} {f:List Nat},bT w c us f→Agree w w' f→bT w' c us f:=by
  intro c
  induction c with
  |nil=>intro us f h _;cases us with
   |nil=>exact h
   |cons _ _=>exact h.elim
  |cons v r ih=>
   intro us f h ha
   cases us with
   |nil=>exact h.elim
   |cons u us=>
    obtain⟨f1,f2,h1,h2,rfl⟩:=h
    refine⟨f1,f2,?_,ih h2 (ha.sub fun y hy=>List.mem_append_right _ hy),rfl⟩
    cases v with
    |lit x=>exact h1
    |sl t l=>exact Sl.agree (cX t) h1 (ha.sub fun y hy=>List.mem_append_left _ hy)
    |_=>exact h1.elim
 have HI:c=(dec gt (l0.getD i (aB gt))).take off++([.sl t l2]++r'):=by
  unfold Es at hs
  split at hs
  ·simp only[oI]at hs
   rw[←hs]
   congr 2
   have:(dec gt (l0.getD i (aB gt))).drop (off+ [V.sl t l2].length)=((dec gt (l0.getD i (aB gt))).drop off).drop 1:=by rw[List.drop_drop];rfl
   rw[this,uu];rfl
  ·cases hs
 have acA:cs=cs.take off++([u]++us):=by
  have:=(List.take_append_drop off cs).symm
  rw[CK]at this
  exact this
 have hrd:bT w' c cs (f1++(Bb++f3)):=by
  rw[HI,acA]
  refine bT.XC (Qz k1 ag1) (y:= [.sl t l2]) (vs:= [u]) ?_ (Qz Qx ag3)
  exact⟨Bb,[],XM,rfl,by simp⟩
 have XH:=pX gt he (fun q hq=>hv q hq) hrd
 have uS: ∀y,y∈f1++(Bb++f3)→y∈fe:=by
  intro y hy
  rw[Ur,hf']
  simp only[List.mem_append]at hy ⊢
  rcases hy with hy|hy|hy
  ·exact Or.inl hy
  ·exact Or.inr (Or.inl (KL y hy))
  ·exact Or.inr (Or.inr hy)
 have Gl:=yX (cX gt) (w':=w') hE (i:=i) (x':=x') (f':=f1++(Bb++f3)) (Z1 wL) XH (fun j cs' _ _ hr=>Z1 hr)
  (fun j f' hj hf' y hy=>hkeep y (Oi y (bX hf' hy)) fun hm=>tO p9.2 hf' hf hj y hy (E4 y hm))
 have hmem: ∀y,y∈(bn.set i (f1++(Bb++f3))).flatten→y∈bn.flatten:=by
  intro y hy
  rcases rW hy with h| ⟨j,f',_,hj,h⟩
  ·exact bX hf (uS y h)
  ·exact bX hj h
 have TR:Own 0 w' (b::(bn.set i (f1++(Bb++f3))).flatten):=by
  refine⟨List.nodup_cons.2 ⟨fun hm=>p9.1 (hmem b hm),oz p9.2 ?_ fun j f' hj hf' y hy hy'=>tO p9.2 hf' hf hj y hy (uS y hy')⟩,fun _ _=>Nat.zero_le _,fun y hy=> ?_⟩
  ·refine List.nodup_append.2 ⟨n1,List.nodup_append.2 ⟨m1,n5,fun y hy z hz e=>n6 y (KL y hy) z hz e⟩,fun y hy z hz e=> ?_⟩
   rcases List.mem_append.1 hz with hz|hz
   ·exact n3 y hy z (by simp[KL z hz]) e
   ·exact n3 y hy z (by simp[hz]) e
  ·obtain⟨cb,eb,qa⟩:=hown.kind y (by
    rcases List.mem_cons.1 hy with rfl|hy
    ·simp
    ·exact List.mem_cons_of_mem _ (hmem y hy))
   obtain⟨cb',h5,_⟩:=hk.shape y cb eb qa
   exact⟨_,_,h5⟩
 have Qt:Sl (kk gt) (rd gt) w' (env n).v (l0.set i x') (b::(bn.set i (f1++(Bb++f3))).flatten):=by
  refine⟨some ⟨b,o1,none⟩,cap,by rw[lP,KI,List.length_set],by rw[List.length_set];exact vk,Gk,Or.inr ⟨b,o1,_,rfl,bU.agree hkb,rfl,Gl⟩⟩
 obtain⟨H8,w1,w2⟩:=CG (hp:=st.hp) hro hk.shape Qt TR (fun y hy=>by
  rw[eR]
  rcases List.mem_cons.1 hy with rfl|hy
  ·simp
  ·exact List.mem_cons_of_mem _ (hmem y hy))
 have hlk: ∀m o',look [(n,Obj.arr gt (l0.set i x'))] m=some o'→m=n∧o'= .arr gt (l0.set i x'):=by
  intro m o' hm
  by_cases hmn:m=n
  ·subst hmn;rw[look_eq]at hm;simp only[oI]at hm;exact⟨rfl,hm.symm⟩
  ·rw[aZ hmn]at hm;cases hm
 obtain⟨env',hg',CC⟩:=Ip g (os:= [(n, .arr gt (l0.set i x'))]) (w':=w') (XJ:=fun _=>H8)
  (fun m o' hm=>by obtain⟨rfl,rfl⟩:=hlk m o' hm;exact⟨_,_,_,hl,rfl⟩)
  (fun m o' hm y hy=>by obtain⟨rfl,_⟩:=hlk m o' hm;exact w2 y hy)
  (fun y hlt hno=>hkeep y hlt fun hm=>hno n _ look_eq (by rw[eR];exact List.mem_cons_of_mem _ (bX hf (E4 y hm))))
  (fun m t2 l3 hm=>by
   obtain⟨rfl,h5⟩:=hlk m _ hm
   simp only[Obj.arr.injEq]at h5
   obtain⟨rfl,h5⟩:=h5
   cases h5
   exact w1)
 refine⟨env',hk.XK hB fun y hm=> ?_,hg'⟩
 exact g.dom n _ hl y (by rw[eR];exact List.mem_cons_of_mem _ (bX hf (E4 y hm)))
theorem XN{Γ:Nat→TK}{cr:List (Nat×CR)}{vc:List Prop}{v:SV}{d:Option Nat}(h:eiv P ty cr st d o.op=some (vc,st',v))(g:Good ty zb st a.tmps w env)(hB:zb.w.heap.size≤w.heap.size)(hA:Ga zb)(hN:F5 w)(hv: ∀q,q∈vc→q):
  o.wp P a w (fun a' w'=> ∃u env',a'=a.put o.dst u∧Kept zb w w'∧Good ty zb st' a.tmps w' env'∧st'.n=st.n∧nG w' st'.hp env' a.tmps v u) Q:=by
 generalize eJ:o.op=op at h
 unfold eiv at h
 split at h
 ·rename_i f xs ts
  split at h
  ·rename_i x r hxs
   split at h
   ·rename_i n i off t l ls own v0 t' l' ls' hx hls hcr
    split at h
    ·rename_i gt l0 l2 hl hc hv0
     split at h
     ·rename_i c hs
      split at h
      ·rename_i nH x' he
       simp only[oI,pI]at h
       obtain⟨rfl,rfl,rfl⟩:=h
       obtain⟨ZX,ZY⟩:Gm P f (.a (.sl t l)::ls) (.a (.sl t l2)::ls') v0:=hv _ (by simp)
       obtain⟨fv,Kn,Z2,Qy,QA⟩:=CJ (pv:=fun _=>⟨v0,[]⟩) g hB (dB g (fun e he=>by simp at he) hx) hl hs he (fun q hq=>hv q (by simp[hq]))
       have qN:((fv::ls.map fun _=>([]:List Nat))).flatten=fv:=by
        rw[List.flatten_cons]
        have:(ls.map fun _=>([]:List Nat)).flatten= []:=by simp
        rw[this,List.append_nil]
       unfold Oper.wp
       rw[E3 eJ ZX]
       simp only[Oper.upon]
       rw[hxs,List.map_cons]
       have hargs:AF w (.a (.sl t l)::ls) (a.eval x::r.map a.eval) (fv::ls.map fun _=> []):=⟨fv,_,Kn,CI g hls,rfl⟩
       refine(ZY w _ (fv::ls.map fun _=> []) hN (by rw[qN];exact fun b h0 hb=>hA.free (Z2 b hb) h0) hargs (by rw[qN];exact Qy)).mono ?_
       rintro e w' ⟨Oc,rfl,hk,⟨Bb,fr,XM,_,rfl⟩,CL,hsub⟩
       rw[qN]at hk
       rw[List.flatten_cons]at CL
       obtain⟨m1,_,_⟩:=List.nodup_append.1 CL.nodup
       have KK:Own 0 w' Bb:=⟨m1,fun _ _=>Nat.zero_le _,fun y hy=>CL.kind y (List.mem_append_left _ hy)⟩
       obtain⟨env',hk2,hg'⟩:=QA w' Bb hk XM KK hsub.1
       exact⟨v0,env',rfl,hk2,hg',rfl,rfl,hv0⟩
      ·cases h
     ·cases h
    ·cases h
   ·cases h
  ·cases h
 ·cases h
def evs(Γ:Nat→TK)(st:St):Op→Option (List Prop×St)
 | .store t x y=>match ff st [] x,ff st [] y with
   |some (.a (.Eh n (some (i,o2,j)) tg _ off)),some v=>match look st.hp n with
    |some (.arr g l0)=>match fits (Γ t) v,takes st (cellsOf v),wv (dec g (l0.getD i (aB g))) o2 with
     |true,some (cv,[]),some (.sl t' l')=>match gf tg t' l' with
      |some l=>match Es (dec tg (l.getD j (aB tg))) off cv with
       |some d=>match enc tg d with
        |some (Zv,y')=>match Es (dec g (l0.getD i (aB g))) o2 [.sl tg (l.set j y')]with
         |some c=>match enc g c with
          |some (nH,x')=>some (nH++Zv,st.upd [(n, .arr g (l0.set i x'))])
          |none=>none
         |none=>none
        |none=>none
       |none=>none
      |none=>none
     |_,_,_=>none
    |_=>none
   |_,_=>none
 |_=>none
theorem XO{Γ:Nat→TK}(C: ∀t,cG P t (Γ t))(Z: ∀t,(∀z tg fo,Γ t≠ .st z tg fo)→Γ t≠ .other→(P.info? t).map (·.size)=some 1){vc:List Prop}(h:evs Γ st o.op=some (vc,st'))(g:Good ty zb st a.tmps w env)(hB:zb.w.heap.size≤w.heap.size)(hv: ∀q,q∈vc→q):
  o.wp P a w (fun a' w'=> ∃env',a'=a.put o.dst undef∧Kept zb w w'∧Good ty zb st' a.tmps w' env'∧st'.n=st.n) Q:=by
 have hop: ∀{x v},ff st [] x=some v→eT w st.hp env v (a.eval x):=fun hx=>dB g (fun e he=>by simp at he) hx
 generalize eJ:o.op=op at h
 cases op with
 |store t x y=>
  simp only[evs]at h
  split at h
  case h_2=>cases h
  rename_i n i o2 j tg xx off v hx hy
  have hx:=hop hx
  have hy:=hop hy
  split at h
  case h_2=>cases h
  rename_i gt l0 hl
  split at h
  case h_2=>cases h
  rename_i cv t' l' hfit Po It
  split at h
  case h_2=>cases h
  rename_i l hcast
  split at h
  case h_2=>cases h
  rename_i d hs1
  split at h
  case h_2=>cases h
  rename_i Zv y' he1
  split at h
  case h_2=>cases h
  rename_i c oK
  split at h
  case h_2=>cases h
  rename_i nH x' Ew
  simp only[oI,pI]at h
  obtain⟨rfl,rfl⟩:=h
  obtain⟨_,_,_,_,_,_,_,_,_,_,_,hpos⟩:=hx
  obtain⟨l3,u0,b0,ox,len,cap,TN,hj,_,Wq,hu⟩:=hpos i o2 j rfl
  have Qr:l3=l:=by
   obtain⟨_,_,hpv⟩:=TN
   obtain⟨t1,l1,_,_,_,_,hl1,_,hel,_⟩:=hpv i o2 rfl
   rw[hl]at hl1
   simp only[oI,Obj.arr.injEq]at hl1
   obtain⟨rfl,hl1⟩:=hl1
   cases hl1
   rw[hel]at It
   simp only[oI,V.sl.injEq]at It
   obtain⟨rfl,It⟩:=It
   cases It
   obtain⟨e,rfl⟩:=cU hcast
   rfl
  subst Qr
  obtain⟨fv,Kn,_,hown,QA⟩:=CJ (pv:=fun _=>⟨u0,[]⟩) g hB TN hl oK Ew (fun q hq=>hv q (by simp[hq]))
  obtain⟨oa,Uq,lP,vk,Gk,h3⟩:=Kn
  rcases h3 with⟨rfl,_⟩| ⟨b,o1,bn,KI,bU,eR,hE⟩
  ·simp at hj
  rw[Wq,KI]at lP
  simp only[Value.slice.injEq,oI,Addr.mk.injEq,and_true]at lP
  obtain⟨⟨rfl,rfl⟩,rfl,rfl⟩:=lP
  have Qq:l3[j]? =some (l3.getD j (aB tg)):=by rw[List.getD_eq_getElem?_getD,List.getElem?_eq_getElem hj];rfl
  obtain⟨f,hf⟩:=gd hE.1 Qq
  obtain⟨cs,wL,TQ⟩:=hE.2 _ _ f Qq hf
  have hlen:=(cX tg).len TQ
  rw[eR]at hown
  have p9:=List.nodup_cons.1 hown.nodup
  obtain⟨fx,Zw,Pp,BW⟩:=wS g (iM g hy (fj Po)) Po List.nodup_nil
  have acC:fx= []:=by
   cases fx with
   |nil=>rfl
   |cons y r=>obtain⟨m,_,hm,_⟩:=BW y (by simp);simp at hm
  subst acC
  obtain⟨f1,f2,f3,Mb,hrd,hlo⟩:=bT.Es (reads tg TQ) Zw hs1
  have XH:=pX tg he1 (fun q hq=>hv q (by simp[hq])) hrd
  have hsz:(P.info? t).map (·.size)=some (a.eval y).cells.toList.length∧ ∀u,u∈(a.eval y).cells.toList→u.oneCell'=true:=by
   refine⟨?_,tM g (iM g hy (fj Po)) (oR (fj Po))⟩
   cases v with
   |agg c'=>
    obtain⟨z,tg',fo,hk,hfit⟩:=Il hfit
    have hC:=C t
    rw[hk]at hC
    obtain⟨fs,_,hi2,_⟩:=hC
    obtain⟨us,Qi,Ko⟩:=hy
    have:=Nat.eq_of_beq_eq_true hfit
    have Qr:=Ko.len
    rw[Qi]
    cases hq:P.info? t with
    |none=>simp[hq]at hi2
    |some inf=>simp[hq]at hi2;simp[hi2.1,Value.cells,Qr,this]
   |a v'=>
    have hk:=wV hfit
    have hne:v'≠ .any:=by rintro rfl;simp[cellsOf,takes]at Po
    have:=iS g (show RA w st.hp env v' (a.eval y)from hy) hne
    rw[this]
    exact Z t hk.1 hk.2
  obtain⟨cb,eb,qa⟩:=hown.kind b0 (by simp)
  have LZ:w.there b0 (ox+j*kk tg+off) (a.eval y).cells.toList.length:=by
   refine FY qa _ _ ?_
   have qY:ox+j*kk tg+cs.length≤cb.size:=by
    have hk0:=eS tg
    have:=wL (cs.length-1) _ (List.getElem?_eq_getElem (by omega))
    rw[Ca qa]at this
    have:=(Array.getElem?_eq_some_iff.1 this).1
    omega
   omega
  have hkeep: ∀x,x≠b0→(w.setCells b0 (ox+j*kk tg+off) (a.eval y).cells.toList).heap[x]? =w.heap[x]? :=fun x hx=>bV b0 _ _ w x hx
  have KG: ∀x,x∈bn.flatten→x≠b0:=fun x hx e=>p9.1 (e▸hx)
  have uS: ∀x,x∈f1++([]++f3)→x∈f:=by
   intro x hx
   rw[Mb]
   rcases List.mem_append.1 hx with hx|hx
   ·exact List.mem_append_left _ hx
   ·rw[List.nil_append]at hx;exact List.mem_append_right _ (List.mem_append_right _ hx)
  have NQ:Agree w (w.setCells b0 (ox+j*kk tg+off) (a.eval y).cells.toList) (f1++([]++f3)):=fun x hx=>hkeep x (KG x (bX hf (uS x hx)))
  have Gl:=yX (cX tg) (w':=w.setCells b0 (ox+j*kk tg+off) (a.eval y).cells.toList) hE (i:=j) (x':=y') (f':=f1++([]++f3))
   (rV wL hlo LZ) ((cX tg).agree XH NQ)
   (fun j1 cs' Un qY hr=>World.rangeAt_setCells_apart hr _ _ _ (Or.inr (by
    rw[qY]
    rcases Nat.lt_or_ge j1 j with h1|h1
    ·left
     have:=Nat.mul_le_mul_right (kk tg) (show j1+1≤j by omega)
     rw[Nat.add_mul]at this;omega
    ·right
     have:=Nat.mul_le_mul_right (kk tg) (show j+1≤j1 by omega)
     rw[Nat.add_mul]at this;omega)))
   (fun j1 f' _ hf' x hx=>hkeep x (KG x (bX hf' hx)))
  have Qs:(f1++([]++f3)).Nodup:=by
   have h1:=(List.pairwise_flatten.1 p9.2).1 f (List.mem_of_getElem? hf)
   rw[Mb]at h1
   obtain⟨h2,h3,h4⟩:=List.nodup_append.1 h1
   obtain⟨_,h6,_⟩:=List.nodup_append.1 h3
   rw[List.nil_append]
   exact List.nodup_append.2 ⟨h2,h6,fun x hx z hz=>h4 x hx z (List.mem_append_right _ hz)⟩
  have hmem: ∀x,x∈(bn.set j (f1++([]++f3))).flatten→x∈bn.flatten:=by
   intro x hx
   rcases rW hx with h| ⟨j1,f',_,Un,h⟩
   ·exact bX hf (uS x h)
   ·exact bX Un h
  have TR:Own 0 (w.setCells b0 (ox+j*kk tg+off) (a.eval y).cells.toList) (b0::(bn.set j (f1++([]++f3))).flatten):=by
   refine⟨List.nodup_cons.2 ⟨fun hm=>p9.1 (hmem b0 hm),oz p9.2 Qs fun j1 f' Un hf' x hx hx'=>tO p9.2 hf' hf Un x hx (uS x hx')⟩,fun _ _=>Nat.zero_le _,fun x hx=> ?_⟩
   rcases List.mem_cons.1 hx with rfl|hx
   ·obtain⟨c',q1,_⟩:=cW x eb (a.eval y).cells.toList (ox+j*kk tg+off) w cb qa
    exact⟨_,_,q1⟩
   ·rw[hkeep x (KG x (hmem x hx))];exact hown.kind x (List.mem_cons_of_mem _ (hmem x hx))
  have Qu:Kept ⟨w,fv,fun _=>⟨u0,[]⟩⟩ w (w.setCells b0 (ox+j*kk tg+off) (a.eval y).cells.toList):=
   wM (zb:=⟨w,fv,fun _=>⟨u0,[]⟩⟩) (Or.inl (by rw[eR];simp)) qa _ _
  have hrun:(storeVar t ⟨b0,ox+j*kk tg+off,none⟩ (a.eval y)).run P w= .ok () (w.setCells b0 (ox+j*kk tg+off) (a.eval y).cells.toList):=l5 (by simp) LZ hsz.1 hsz.2
  obtain⟨env',hk2,hg'⟩:=QA _ (b0::(bn.set j (f1++([]++f3))).flatten) Qu
   ⟨some ⟨b0,ox,none⟩,cap,by rw[Wq,List.length_set],by rw[List.length_set];exact vk,Gk,Or.inr ⟨b0,ox,_,rfl,bU.set qa _ _,rfl,Gl⟩⟩ TR
   (fun y hy=>by
    rw[eR]
    rcases List.mem_cons.1 hy with rfl|hy
    ·simp
    ·exact List.mem_cons_of_mem _ (hmem y hy))
  unfold Oper.wp execOp
  simp only[eJ,hu,Instr.storeAt,Instr.sureAddr,Sem.run_bind,Sem.run_pure,Result.andThen_ok,hrun]
  exact⟨env',rfl,hk2,hg',rfl⟩
 |_=>simp[evs]at h
end
end
section
variable{ty:Tag→Nat}
def Ut(st:St):List V→Option (List V×List Nat)
 | []=>some ([],[])
 | .lit (.slice _ _ _)::_=>none
 | .lit v::r=>match Ut st r with|some (c,k)=>some (.lit v::c,k)|none=>none
 | .sl t l::r=>match Ut st r with|some (c,k)=>some (.sl t l::c,k)|none=>none
 | .own n::r=>match look st.hp n,Ut st r with
   |some (.arr t l),some (c,k)=>some (.sl t l::c,n::k)
   |_,_=>none
 |_=>none
def CM(st:St)(g:Tag):Nat→List (Nat×Operand)→Option (List Prop×List (T g)×List Nat)
 |_,[]=>some ([],[],[])
 |i,(j,x)::r=>match Nat.beq i j,ff st [] x with
  |true,some s=>match Ut st (cellsOf s)with
   |some (c,k)=>match enc g c,CM st g (i+1) r with
    |some (vc,y),some (vcs,ys,ks)=>some (vc++vcs,y::ys,k++ks)
    |_,_=>none
   |none=>none
  |_,_=>none
def Z3(P:Program)(ty:Tag→Nat)(Γ:Nat→TK)(st:St):Op→Option (List Prop×St×SV)
 | .buildSlice t len parts=>match Γ t with
   | .sl g e=>match Nat.beq e (ty g),Nat.beq parts.toList.length len,Nat.ble (len*kk g) 16777216,CM st g 0 parts.toList with
     |true,true,true,some (vc,xs,ks)=>match oy ks&& !pinned ks with
      |true=>some (El P ty g::vc,⟨st.n,st.sl.map fun e=>(e.1,e.2.bz ks []),bW ks [] st.hp⟩, .one (.a (.sl g xs)))
      |_=>none
     |_,_,_,_=>none
   |_=>none
 |_=>none
section
variable{P:Program}{zb:cm}{st:St}{a:Act}{w:World}{env:Env}{Q:Exit→Act→World→Prop}{o:Oper}
theorem tP{st:St}: ∀{l c:List V} {k:List Nat},Ut st l=some (c,k)→rQ l=true
 | [],_,_,_=>rfl
 |v::r,c,k,h=>by
  unfold Ut at h
  split at h
  ·rename_i he;cases he
  ·cases h
  ·rename_i x r' _ he
   simp only[List.cons.injEq]at he
   obtain⟨rfl,rfl⟩:=he
   split at h
   ·rename_i h';have h2:=tP h';exact h2
   ·cases h
  ·rename_i t l r' he
   simp only[List.cons.injEq]at he
   obtain⟨rfl,rfl⟩:=he
   split at h
   ·rename_i h';have h2:=tP h';exact h2
   ·cases h
  ·rename_i n r' he
   simp only[List.cons.injEq]at he
   obtain⟨rfl,rfl⟩:=he
   split at h
   ·rename_i h';have h2:=tP h';exact h2
   ·cases h
  ·cases h
theorem Gq(g:Good ty zb st a.tmps w env): ∀{l c:List V} {k:List Nat} {us:List Value},bA (RA w st.hp env) l us→Ut st l=some (c,k)→
  ∃fp,bT w c us fp∧ ∀b,b∈fp→b<w.heap.size∧(¬Ow st.hp env b∨ ∃i o,i∈k∧look st.hp i=some o∧b∈(env i).fp)
 | [],c,k,us,hr,h=>by
   simp only[Ut,oI,pI]at h
   obtain⟨rfl,rfl⟩:=h
   cases us with
   |nil=>exact⟨[],rfl,by simp⟩
   |cons _ _=>exact hr.elim
 |v::r,c,k,us,hr,h=>by
  cases us with
  |nil=>exact hr.elim
  |cons u us=>
   unfold Ut at h
   split at h
   ·rename_i he;cases he
   ·cases h
   ·rename_i x r' _ he
    simp only[List.cons.injEq]at he
    obtain⟨rfl,rfl⟩:=he
    split at h
    ·rename_i c' k' h'
     simp only[oI,pI]at h
     obtain⟨rfl,rfl⟩:=h
     obtain⟨fp,h1,h3⟩:=Gq g hr.2 h'
     obtain⟨e1,e2⟩:=hr.1
     exact⟨fp,⟨[],fp,⟨e1,e2,rfl⟩,h1,rfl⟩,h3⟩
    ·cases h
   ·rename_i t l r' he
    simp only[List.cons.injEq]at he
    obtain⟨rfl,rfl⟩:=he
    split at h
    ·rename_i c' k' h'
     simp only[oI,pI]at h
     obtain⟨rfl,rfl⟩:=h
     obtain⟨fp,h1,h3⟩:=Gq g hr.2 h'
     obtain⟨f0,k1,k2⟩:=hr.1
     refine⟨f0++fp,⟨f0,fp,k1,h1,rfl⟩,fun b hb=> ?_⟩
     rcases List.mem_append.1 hb with hb|hb
     ·exact⟨Sl.lt (cX t) k1 b hb,Or.inl (k2 b hb)⟩
     ·exact h3 b hb
    ·cases h
   ·rename_i n r' he
    simp only[List.cons.injEq]at he
    obtain⟨rfl,rfl⟩:=he
    split at h
    ·rename_i t l c' k' hl h'
     simp only[oI,pI]at h
     obtain⟨rfl,rfl⟩:=h
     obtain⟨fp,h1,h3⟩:=Gq g hr.2 h'
     obtain⟨_,rfl⟩:=hr.1
     have hb:=RO.sl (g.obj n _ hl)
     refine⟨(env n).fp++fp,⟨_,_,hb,h1,rfl⟩,fun b hb=> ?_⟩
     rcases List.mem_append.1 hb with hb|hb
     ·exact⟨(g.obj n _ hl).va b hb,Or.inr ⟨n,_,by simp,hl,hb⟩⟩
     ·obtain⟨q1,q2⟩:=h3 b hb
      refine⟨q1,q2.imp id ?_⟩
      rintro⟨i,o,hi,h4,h5⟩
      exact⟨i,o,List.mem_cons_of_mem _ hi,h4,h5⟩
    ·cases h
   ·cases h
theorem E5(g:Good ty zb st a.tmps w env){t:Tag}: ∀{ps:List (Nat×Operand)} {i:Nat} {vc:List Prop} {xs:List (T t)} {ks:List Nat},CM st t i ps=some (vc,xs,ks)→(∀q,q∈vc→q)→
  (ps.map fun p=>(p.1,a.eval p.2))=ur i (ps.map fun p=>a.eval p.2)∧xs.length=ps.length∧ ∃bn:List (List Nat),bn.length=xs.length∧
   (∀(i:Nat) (x:T t) (f:List Nat),xs[i]? =some x→bn[i]? =some f→ ∃p:Nat×Operand,ps[i]? =some p∧rd t w (a.eval p.2).cells.toList x f)∧ ∀b,b∈bn.flatten→b<w.heap.size∧(¬Ow st.hp env b∨ ∃i o,i∈ks∧look st.hp i=some o∧b∈(env i).fp)
 | [],i,vc,xs,ks,h,_=>by
   simp only[CM,oI,pI]at h
   obtain⟨rfl,rfl,rfl⟩:=h
   exact⟨rfl,rfl,[],rfl,by simp,by simp⟩
 | (j,x)::r,i,vc,xs,ks,h,hv=>by
   simp only[CM]at h
   split at h
   ·rename_i s hij hx
    have hij:=Nat.eq_of_beq_eq_true hij
    subst hij
    split at h
    ·rename_i c k hc
     split at h
     ·rename_i nH y vcs ys ks1 he hb
      simp only[oI,pI]at h
      obtain⟨rfl,rfl,rfl⟩:=h
      obtain⟨q1,q2,bn,q3,q4,q6⟩:=E5 g hb (fun q hq=>hv q (List.mem_append_right _ hq))
      obtain⟨fp,r1,r3⟩:=Gq g (iM g (dB g (fun e he=>by simp at he) hx) (tP hc)) hc
      have hE:=pX t he (fun q hq=>hv q (List.mem_append_left _ hq)) r1
      refine⟨by simp[ur,q1],by simp[q2],fp::bn,by simp[q3],?_,?_⟩
      ·intro i' x' f hx' hf
       cases i' with
       |zero=>simp at hx' hf;subst hx';subst hf;exact⟨(i,x),rfl,hE⟩
       |succ n=>simp at hx' hf;obtain⟨p,h1,h2⟩:=q4 n x' f hx' hf;exact⟨p,by simpa using h1,h2⟩
      ·intro b hb
       rw[List.flatten_cons]at hb
       rcases List.mem_append.1 hb with hb|hb
       ·obtain⟨z1,z2⟩:=r3 b hb
        exact⟨z1,z2.imp id fun⟨n,o1,h1,h2,h3⟩=>⟨n,o1,List.mem_append_left _ h1,h2,h3⟩⟩
       ·obtain⟨z1,z2⟩:=q6 b hb
        exact⟨z1,z2.imp id fun⟨n,o1,h1,h2,h3⟩=>⟨n,o1,List.mem_append_right _ h1,h2,h3⟩⟩
     ·cases h
    ·cases h
   ·cases h
theorem run_frozen{t len:Nat}{parts:Array (Nat×Operand)}(ho:o.op= .buildSlice t len parts){g:Tag}(hu:P.underlying t=some (.slice (ty g)))(qM:El P ty g)(hbig:len*kk g≤16777216)(hlen:parts.toList.length=len)
  {xs:List (T g)}{bn:List (List Nat)}(q1:(parts.toList.map fun p=>(p.1,a.eval p.2))=ur 0 (parts.toList.map fun p=>a.eval p.2))(q2:xs.length=parts.toList.length)(q3:bn.length=xs.length)
  (q4: ∀(i:Nat) (x:T g) (f:List Nat),xs[i]? =some x→bn[i]? =some f→ ∃p:Nat×Operand,parts.toList[i]? =some p∧rd g w (a.eval p.2).cells.toList x f):
  ∃w',(execOp a.eval o).run P w= .ok (.value (.slice (some ⟨w.heap.size,0,none⟩) len len)) w'∧Below w.heap.size w w'∧Sl (kk g) (rd g) w' (.slice (some ⟨w.heap.size,0,none⟩) len len) xs (w.heap.size::bn.flatten):=by
 have hkp:=eS g
 have qY: ∀v,v∈(parts.toList.map fun p=>a.eval p.2)→v.cells.size=kk g:=by
  intro v hv
  obtain⟨i,hi⟩:=List.getElem?_of_mem hv
  have hil:i<xs.length:=by have:=(List.getElem?_eq_some_iff.1 hi).1;simp at this;rw[q2];simpa using this
  have hfl:i<bn.length:=by omega
  obtain⟨p,h1,h2⟩:=q4 i xs[i] bn[i] (List.getElem?_eq_getElem hil) (List.getElem?_eq_getElem hfl)
  rw[List.getElem?_map,h1]at hi
  simp at hi
  subst hi
  simpa using(cX g).len h2
 cases hq:P.info? (ty g)with
 |none=>simp[El,hq]at qM
 |some inf=>
  simp[El,hq]at qM
  obtain⟨z1,z2,z3⟩:=qM
  let zs:List Value:=(List.range (len*kk g)).map fun j=>(if len*kk g=0 then #[]else(eF g).cells)[j % (if len*kk g=0 then #[]else(eF g).cells).size]!
  have hzl:zs.length=len*kk g:=by simp[zs]
  have hf:=Cs (k:=kk g) (parts.toList.map fun p=>a.eval p.2) 0 zs qY (by rw[hzl,List.length_map,hlen,Nat.zero_add])
  rw[Nat.zero_mul,List.take_zero,List.nil_append]at hf
  have hrun:(execOp a.eval o).run P w= .ok (.value (.slice (some ⟨w.heap.size,0,none⟩) len len)) (w.alloc (.cells (Array.mk ((parts.toList.map fun p=>a.eval p.2).flatMap fun v=>v.cells.toList)) (ty g) (0,0))):=by
   unfold execOp
   have mK:(parts.map fun(p:Nat×Operand)=>(p.1,a.eval p.2)).toList=ur 0 (parts.toList.map fun p=>a.eval p.2):=by
    rw[Array.toList_map];exact q1
   have hzs:((Array.range (len*kk g)).map fun j=>(if len*kk g=0 then #[]else(eF g).cells)[j % (if len*kk g=0 then #[]else(eF g).cells).size]!)=Array.mk zs:=by
    simp only[zs]
    apply Array.ext'
    simp
   have hze:(sizeOf (ty g)).run P w= .ok (kk g) w:=by simp[sizeOf,typeInfo,hq,z2]
   simp only[ho,Instr.buildSlice,Sem.run_bind,run_underlying hu,Result.andThen_ok,hze]
   rw[if_neg (by omega)]
   by_cases hz0:len*kk g=0
   ·simp only[if_pos hz0]at hzs ⊢
    simp only[Sem.run_bind,Sem.run_pure,Result.andThen_ok]
    rw[hzs,mK,hf]
    simp[newRow]
   ·have hzv:(zeroValue (ty g)).run P w= .ok (eF g) w:=by simp[zeroValue,typeInfo,hq,z1]
    simp only[if_neg hz0]at hzs ⊢
    simp only[Sem.run_bind,hzv,Sem.run_pure,Result.andThen_ok]
    rw[hzs,mK,hf]
    simp[newRow]
  have hps:((parts.toList.map fun p=>a.eval p.2).flatMap fun v=>v.cells.toList)=((parts.toList.map fun p=>(a.eval p.2).cells.toList).flatMap id):=by
   simp[List.flatMap_map]
  have Qf: ∀v,v∈(parts.toList.map fun p=>(a.eval p.2).cells.toList)→v.length=kk g:=by
   intro v hv
   obtain⟨p,hp,rfl⟩:=List.mem_map.1 hv
   simpa using qY _ (List.mem_map.2 ⟨p,hp,rfl⟩)
  have EY:=rU Qf
  rw[List.length_map,hlen]at EY
  have hb0:Below w.heap.size w (w.alloc (.cells (Array.mk ((parts.toList.map fun p=>a.eval p.2).flatMap fun v=>v.cells.toList)) (ty g) (0,0))):=(Below.refl _ _).alloc (Nat.le_refl _) _
  have Z4:=oL (w:=w) (o:= .cells (Array.mk ((parts.toList.map fun p=>a.eval p.2).flatMap fun v=>v.cells.toList)) (ty g) (0,0)) (k:=w.heap.size) rfl
  refine⟨_,hrun,hb0,some ⟨w.heap.size,0,none⟩,len,by rw[q2,hlen],by rw[q2,hlen];exact Nat.le_refl _,?_,Or.inr ⟨w.heap.size,0,bn,rfl,⟨_,_,_,Z4,by simp only[List.size_toArray];rw[hps];omega⟩,rfl,q3,?_⟩⟩
  ·unfold maxLen;have:=Nat.le_mul_of_pos_right len hkp;omega
  ·intro i x f hx Mb
   obtain⟨p,h1,h2⟩:=q4 i x f hx Mb
   have hkey:(((parts.toList.map fun p=>a.eval p.2).flatMap fun v=>v.cells.toList).drop (i*kk g)).take (kk g)=(a.eval p.2).cells.toList:=by
    rw[hps];exact rT Qf (by rw[List.getElem?_map,h1];rfl)
   refine⟨_,L8 Z4 _ _ fun j v hv=> ?_,(cX g).below h2 hb0⟩
   rw[←hkey]at hv
   rw[List.getElem?_take]at hv
   split at hv
   ·rw[List.getElem?_drop]at hv
    rw[Nat.zero_add,List.getElem?_toArray]
    exact hv
   ·cases hv
theorem Oj(g:Good ty zb st a.tmps w env){ks:List Nat}{w':World}(hb:Below w.heap.size w w'):Good ty zb ⟨st.n,st.sl.map fun e=>(e.1,e.2.bz ks []),bW ks [] st.hp⟩ a.tmps w' env:=by
 have hlk: ∀m o,look (bW ks [] st.hp) m=some o→m∉ks∧ ∃o',look st.hp m=some o'∧o=o'.bz ks []:=by
  intro m o hm
  rw[bI]at hm
  split at hm
  ·cases hm
  ·rename_i hks
   cases hq:look st.hp m with
   |none=>rw[hq]at hm;cases hm
   |some o'=>rw[hq]at hm;simp only[Option.map_some,oI]at hm;exact⟨hks,o',rfl,hm.symm⟩
 have s:oQ ks [] w st.hp env w' (bW ks [] st.hp) env:=by
  refine⟨fun b hlt _=>hb.block b hlt,?_,?_,?_⟩
  ·rintro b hlt ⟨m,o',h1,h2⟩
   obtain⟨_,we,h3,rfl⟩:=hlk m o' h1
   exact⟨m,we,h3,h2⟩
  ·intro m o' hks h1
   exact⟨o'.bz ks [],by rw[bI,if_neg hks,h1];rfl,by cases o'<;>simp[Obj.like,Obj.bz],rfl⟩
  ·rintro m t' l' ⟨hks,_⟩ h1
   exact⟨by rw[bI,if_neg hks,h1];rfl,rfl,fun b Eu=>hb.block b ((g.obj m _ h1).va b Eu)⟩
 refine g.gr s (fun m o' hm=> ?_) (fun m m' o1 o2 hne h1 h2 b Eu hb'=> ?_) (fun m o' hm b Eu=> ?_) g.pins
 ·obtain⟨hks,we,h3,rfl⟩:=hlk m o' hm
  exact(g.obj m we h3).gr s fun b Eu=>hb.block b ((g.obj m we h3).va b Eu)
 ·obtain⟨_,q1,h3,_⟩:=hlk m o1 h1
  obtain⟨_,q2,h4,_⟩:=hlk m' o2 h2
  exact g.iq m m' _ _ hne h3 h4 b Eu hb'
 ·obtain⟨_,q1,h3,_⟩:=hlk m o' hm
  exact g.dom m q1 h3 b Eu
theorem XP{Γ:Nat→TK}(C: ∀t,cG P t (Γ t)){vc:List Prop}{st':St}{v:SV}(h:Z3 P ty Γ st o.op=some (vc,st',v))(g:Good ty zb st a.tmps w env)(hB:zb.w.heap.size≤w.heap.size)(hv: ∀q,q∈vc→q):
  o.wp P a w (fun a' w'=> ∃u env',a'=a.put o.dst u∧Kept zb w w'∧Good ty zb st' a.tmps w' env'∧st'.n=st.n∧nG w' st'.hp env' a.tmps v u) Q:=by
 generalize eJ:o.op=op at h
 cases op with
 |buildSlice t len parts=>
  simp only[Z3]at h
  split at h
  ·rename_i gt e hk
   split at h
   ·rename_i nH xs ks he hlen hbig hb
    have he:=Nat.eq_of_beq_eq_true he
    split at h
    ·rename_i hnd
     simp only[oI,pI]at h
     obtain⟨rfl,rfl,rfl⟩:=h
     have qM:El P ty gt:=hv _ (by simp)
     obtain⟨q1,q2,bn,q3,q4,q6⟩:=E5 g hb (fun q hq=>hv q (by simp[hq]))
     have hC:=C t
     rw[hk,he]at hC
     obtain⟨w',r1,r2,r3⟩:=run_frozen (P:=P) (w:=w) (a:=a) eJ hC.1 qM (Nat.le_of_ble_eq_true hbig) (Nat.eq_of_beq_eq_true hlen) q1 q2 q3 q4
     have hg':=Oj g (ks:=ks) r2
     unfold Oper.wp
     rw[r1]
     refine⟨_,env,rfl,j9 r2 hB,hg',rfl,_,r3,?_⟩
     rintro b Eu ⟨m,o',h1,h2⟩
     rw[bI]at h1
     split at h1
     ·cases h1
     ·rename_i hks
      cases hq:look st.hp m with
      |none=>rw[hq]at h1;cases h1
      |some we=>
       have hlt:=(g.obj m we hq).va b h2
       rcases List.mem_cons.1 Eu with rfl|Eu
       ·omega
       ·rcases(q6 b Eu).2 with h3| ⟨i,oi,hi,h4,h5⟩
        ·exact h3 ⟨m,we,hq,h2⟩
        ·exact g.iq m i _ _ (fun e=>hks (e▸hi)) hq h4 b h2 h5
    ·cases h
   ·cases h
  ·cases h
 |_=>simp[Z3]at h
end
end
section
variable{ty:Tag→Nat}
def inv:List (Nat×Nat)→Nat→Option Nat
 | [],_=>none
 | (n,m)::r,k=>match Nat.beq k m with|true=>some n|false=>inv r k
def V.toF(ρ:List (Nat×Nat)):V→V
 | .lit v=> .lit v
 | .sl t l=> .sl t l
 | .own m=>match inv ρ m with|some n=> .own n|none=> .any
 | .ptr m o=>match inv ρ m with|some n=> .ptr n o|none=> .any
 | .Bt f m=>match inv ρ m with|some n=> .Bt f n|none=> .any
 | .qK v t l=> .qK v t l
 |_=> .any
def Obj.toF(ρ:List (Nat×Nat)):Obj→Obj
 | .box c=> .box (c.map (V.toF ρ))
 | .arr t l=> .arr t l
 | .eZ t l .mp=> .eZ t l .mp
 | .eZ t l (.HJ u)=> .eZ t l (.HJ u)
 | .eZ t l (.uq _)=> .eZ t l (.uq none)
 | .eZ t l _=> .eZ t l .gone
def wX(st:St)(ρ:List (Nat×Nat)):List (Nat×Nat)→Option Hp
 | []=>some []
 | (n,m)::r=>match look st.hp m, !jg m||jg n, !soft m||soft n,wX st ρ r with
   |some o,true,true,some h=>some ((n,o.toF ρ)::h)
   |_,_,_,_=>none
def Uu(st:St)(ρ:List (Nat×Nat))(tg:Option Tag)(v:V):Option V:=match v.name with
 |some m=>match inv ρ m with
  |some n=>match v with
   | .own _=>some (.own n)
   | .ptr _ o=>some (.ptr n o)
   | .Bt f _=>some (.Bt f n)
   |_=>none
  |none=>match v with
   | .mix _ _ _ _=>none
   | .tG _=>none
   |v=>mH st tg v
 |none=>mH st tg v
def Iu(st:St)(ρ:List (Nat×Nat)):List (Option Tag)→List V→Option (List V)
 |_,[]=>some []
 |tg,v::r=>match Uu st ρ (match tg with|t::_=>t| []=>none) v,Iu st ρ (match tg with|_::ts=>ts| []=> []) r with
  |some x,some y=>some (x::y)
  |_,_=>none
def V.Wr:V→Bool
 | .qK _ _ _=>true
 |_=>false
def XQ(st:St)(ρ:List (Nat×Nat))(k:TK):S1→Option S1
 | .a v=>match v.Wr with
   |true=>some (.a v)
   |false=>match Uu st ρ (match k with| .sl t _=>some t|_=>none) v with|some x=>some (.a x)|none=>none
 | .agg l=>match Iu st ρ (match k with| .st _ tg _=>tg|_=> []) l with|some x=>some (.agg x)|none=>none
def Iv(Γ:Nat→TK)(st:St)(ρ:List (Nat×Nat)):List Operand→List Nat→Option (List S1)
 | [],_=>some []
 |x::r,t=>match Km st [] x with
  |some v=>match XQ st ρ (match t with|t::_=>Γ t| []=> .other) v,Iv Γ st ρ r (match t with|_::ts=>ts| []=> [])with
   |some y,some ys=>some (y::ys)
   |_,_=>none
  |none=>none
def Gr(st:St)(ρ:List (Nat×Nat))(x:Operand):Option (FuncId×List S1):=match ff st [] x with
 |some (.a (.Bt f m))=>match inv ρ m with|some n=>some (f,[.a (.ptr n 0)])|none=>none
 |some v=>match T9 v with|some f=>some (f,[])|none=>none
 |none=>none
def XR:List V→Option (List (Nat×Nat))
 | []=>some []
 | .ptr n m::r=>match XR r with|some l=>some ((n,m)::l)|none=>none
 |_=>none
def Z5:List V→Option (List Nat)
 | []=>some []
 | .own n::r=>match Z5 r with|some l=>some (n::l)|none=>none
 |_=>none
def QB:List Nat→List S1→Option Hp
 | [],[]=>some []
 |n::ns, .a (.sl t l)::r=>match QB ns r with|some h=>some ((n, .arr t l)::h)|none=>none
 |n::ns, .agg c::r=>match QB ns r with|some h=>some ((n, .box c)::h)|none=>none
 |_,_=>none
def knV:List V→Option V
 | []=>none
 | .qK v t l::_=>some (.qK v t l)
 |_::r=>knV r
def Z6(st:St):List Operand→Option V
 | []=>none
 |x::r=>match Km st [] x with
  |some (.a v)=>match v.Wr with|true=>some v|false=>Z6 st r
  |_=>Z6 st r
def Z7(st:St):List (Nat×Nat)→Option V
 | []=>none
 | (_,m)::r=>match look st.hp m with
   |some (.box c)=>match knV c with|some v=>some v|none=>Z7 st r
   |_=>Z7 st r
def Uv(st:St)(xs:List Operand)(ρ:List (Nat×Nat)):Option V:=match Z6 st xs with|some v=>some v|none=>Z7 st ρ
def Iw(kn:Option V):V→List Prop
 | .qK v _ _=>match kn with
   |some (.qK u _ _)=> [v=u]
   |_=> [False]
 |_=> []
def QC(kn:Option V):List V→List Prop
 | []=> []
 |v::r=>l6 (Iw kn v) (QC kn r)
def KM(kn:Option V):Hp→List Prop
 | []=> []
 | (_, .box c)::r=>l6 (QC kn c) (KM kn r)
 |_::r=>KM kn r
def V.toA(kn:Option V)(ρ:List (Nat×Nat)):V→Option V
 | .qK _ _ _=>kn
 | .any=>some .any
 | .lit v=>some (.lit v)
 | .own n=>match look ρ n with|some m=>some (.own m)|none=>none
 | .ptr n o=>match look ρ n with|some m=>some (.ptr m o)|none=>none
 |_=>none
def toAs(kn:Option V)(ρ:List (Nat×Nat)):List V→Option (List V)
 | []=>some []
 |v::r=>match v.toA kn ρ,toAs kn ρ r with|some x,some y=>some (x::y)|_,_=>none
def S1.toA(ρ:List (Nat×Nat)):S1→Option S1
 | .a v=>match v.toA none ρ with|some x=>some (.a x)|none=>none
 | .agg l=>match toAs none ρ l with|some x=>some (.agg x)|none=>none
def Uw(ρ:List (Nat×Nat)):List S1→Option (List S1)
 | []=>some []
 |v::r=>match v.toA ρ,Uw ρ r with|some x,some y=>some (x::y)|_,_=>none
def Obj.toA(kn:Option V)(ρ:List (Nat×Nat)):Obj→Option Obj
 | .box c=>match toAs kn ρ c with|some x=>some (.box x)|none=>none
 | .arr t l=>some (.arr t l)
 | .eZ _ _ _=>none
def CN(kn:Option V)(ρ:List (Nat×Nat)):Hp→Option (List (Nat×Nat×Obj))
 | []=>some []
 | (n,o)::r=>match look ρ n,o.toA kn ρ,CN kn ρ r with
   |some m,some o',some h=>match !jg m||jg n, !soft n||soft m with|true,true=>some ((n,m,o')::h)|_,_=>none
   |_,_,_=>none
def CP:Option Obj→Bool
 |some (.box _)=>true
 |_=>false
def Ix(ty:Tag→Nat)(w:World)(hp:Hp)(env:Env):Prop:=(∀n o,look hp n=some o→RO ty w hp env n o (env n))∧ ∀n m o o',n≠m→look hp n=some o→look hp m=some o'→ ∀b,b∈(env n).fp→b∉(env m).fp
def wY(hp:Hp)(env:Env):List Nat:=hp.flatMap fun e=>(env e.1).fp
def Z8(w:World)(hp:Hp)(env:Env)(rs:List S1)(u:Value):Prop:=match rs with
 | [r]=>eT w hp env r u
 |rs=> ∃us,u= .tuple us.toArray∧bA (eT w hp env) rs us
def mN(ty:Tag→Nat)(P:Program)(f:FuncId)(gl:Hp)(as:List S1)(eO:Hp)(rs:List S1):Prop:=
 (∀(args:Array Value) (w:World),(callFunc f args).run P w= .ok (.enter f args) w)∧
 ∀w env us,F5 w→(∀b,Ky b→b∉wY gl env)→Ix ty w gl env→bA (eT w gl env) as us→Calls P f us.toArray w fun e w'=> ∃env' u,e= .returned u∧Kept ⟨w,wY gl env,env⟩ w w'∧Ix ty w' eO env'∧
  (∀n o,look eO n=some o→ ∀b,b∈(env' n).fp→b∈wY gl env∨w.heap.size≤b)∧(∀n,jg n=true→(env' n).v=(env n).v∧ ∀b,b∈(env' n).fp→b∈(env n).fp)∧Z8 w' eO env' rs u
def bM{ty:Tag→Nat}{P:Program}{f:FuncId}{xs rs:List S1}(_:Sound ty P f xs rs):List S1:=rs
def Gs{ty:Tag→Nat}{P:Program}{f:FuncId}{gl:Hp}{xs:List S1}{eO:Hp}{rs:List S1}(_:mN ty P f gl xs eO rs):List S1:=rs
def obS:Obj→S1
 | .box c=> .agg c
 | .arr t l=> .a (.sl t l)
 | .eZ _ _ _=> .agg []
def Gt{ty:Tag→Nat}{P:Program}{f:FuncId}{gl:Hp}{xs:List S1}{eO:Hp}{rs:List S1}(_:mN ty P f gl xs eO rs):List S1:= .agg (eO.map fun e=> .own e.1)::eO.map fun e=>obS e.2
def BB(B:List (Nat×Nat×Obj)):Hp:=B.map fun e=>(e.2.1,e.2.2)
def Ex:List (Nat×Nat×Obj)→Nat→Option Nat
 | [],_=>none
 | (n,m,_)::r,k=>match Nat.beq k m with|true=>some n|false=>Ex r k
def CQ(kv ks:List Nat)(hp:Hp):Hp:=(hp.filter fun e=> !kv.any (Nat.beq e.1)).map fun e=>(e.1,e.2.bz ks kv)
def Gu(hp:Hp):Hp→Bool
 | []=>true
 | (m,_)::r=>(match look hp m with|none=>true|some _=>false)&&Gu hp r
def QD(P:Program)(ty:Tag→Nat)(Γ:Nat→TK)(cr:List (Nat×CR))(st:St)(d:Option Nat):Op→Option (List Prop×St×SV)
 | .call ⟨.value x,xs,ts⟩=>match look cr (d.getD 99999+700000),look cr (d.getD 99999+800000)with
   |some ⟨_, .agg a:: .agg b:: .agg c::os⟩,some ⟨_,rs⟩=>match XR a,XR b,Z5 c with
    |some ρ0,some ρ1,some ns=>match QB ns os,wX st ρ0 ρ0,Gr st ρ0 x,Iv Γ st ρ0 xs.toList ts.toList with
     |some eO,some gl,some (f,ex),some as=>match CN (Uv st xs.toList ρ0) (ρ0++ρ1) eO,Uw (ρ0++ρ1) rs with
      |some B,some rsA=>match oy ((ρ0++ρ1).map Prod.fst)&&oy (ρ0.map Prod.snd)&&gm eO&&gm (BB B)&&Gu (CQ (ρ0.map Prod.snd) ((ρ0.filter fun e=> !jg e.1).map Prod.snd) st.hp) (BB B)&&ρ0.all (fun e=> !jg e.1|| (CP (look gl e.1)&&CP (look eO e.1)))&&ρ1.all (fun e=> !jg e.2)with
       |true=>some (mN ty P f gl (l6 as ex) eO rs::KM (Uv st xs.toList ρ0) eO,⟨st.n,st.sl.map fun e=>(e.1,e.2.bz ((ρ0.filter fun e=> !jg e.1).map Prod.snd) (ρ0.map Prod.snd)),BB B++CQ (ρ0.map Prod.snd) ((ρ0.filter fun e=> !jg e.1).map Prod.snd) st.hp⟩,match rsA with| [r]=> .one r|l=> .uQ l)
       |false=>none
      |_,_=>none
     |_,_,_,_=>none
    |_,_,_=>none
   |_,_=>none
 |_=>none
theorem l8: ∀{ρ:List (Nat×Nat)} {m n:Nat},inv ρ m=some n→(n,m)∈ρ
 | (a,b)::r,m,n,h=>by
   simp only[inv]at h
   split at h
   ·rename_i hb
    have:=Nat.eq_of_beq_eq_true hb
    simp only[oI]at h
    subst h;subst this;simp
   ·exact List.mem_cons_of_mem _ (l8 h)
theorem Iy: ∀{ρ:List (Nat×Nat)} {m:Nat},inv ρ m=none→m∉ρ.map Prod.snd
 | [],_,_=>by simp
 | (a,b)::r,m,h=>by
   simp only[inv]at h
   split at h
   ·cases h
   ·rename_i hb
    have hne:m≠b:=fun e=>by rw[e,Nat.beq_refl]at hb;cases hb
    have:=Iy h
    simp only[List.map_cons,List.mem_cons,not_or]
    exact⟨hne,this⟩
theorem eB{α:Type}: ∀{l:List (Nat×α)} {n:Nat} {x:α},(l.map Prod.fst).Nodup→(n,x)∈l→look l n=some x
 | (j,y)::r,n,x,hnd,h=>by
   obtain⟨h1,h2⟩:=List.nodup_cons.1 hnd
   rcases List.mem_cons.1 h with h'|h'
   ·simp only[pI]at h'
    obtain⟨rfl,rfl⟩:=h'
    exact look_eq
   ·have hne:n≠j:=fun e=>h1 (List.mem_map.2 ⟨(n,x),h',e⟩)
    rw[aZ hne];exact eB h2 h'
theorem tQ: ∀{l:Hp},gm l=true→(l.map Prod.fst).Nodup
 | [],_=>List.nodup_nil
 | (n,x)::r,h=>by
   simp only[gm,Bool.and_eq_true]at h
   refine List.nodup_cons.2 ⟨fun hm=> ?_,tQ h.2⟩
   obtain⟨e,he,rfl⟩:=List.mem_map.1 hm
   have:=eB (tQ h.2) (show(e.1,e.2)∈r from he)
   rw[this]at h;simp at h
theorem mo: ∀{B:List (Nat×Nat×Obj)} {m:Nat} {o:Obj},look (BB B) m=some o→ ∃n,(n,m,o)∈B∧Ex B m=some n
 | (n,k,x)::r,m,o,h=>by
   have h:look ((k,x)::BB r) m=some o:=h
   by_cases hm:m=k
   ·subst hm
    rw[look_eq]at h
    simp only[oI]at h
    subst h
    exact⟨n,by simp,by simp[Ex]⟩
   ·rw[aZ hm]at h
    obtain⟨n',h1,h2⟩:=mo h
    refine⟨n',List.mem_cons_of_mem _ h1,?_⟩
    simp only[Ex]
    cases hb:Nat.beq m k with
    |true=>exact absurd (Nat.eq_of_beq_eq_true hb) hm
    |false=>exact h2
theorem E6: ∀{B:List (Nat×Nat×Obj)} {m:Nat},look (BB B) m=none→Ex B m=none
 | [],_,_=>rfl
 | (n,k,x)::r,m,h=>by
   have h:look ((k,x)::BB r) m=none:=h
   have hm:m≠k:=by rintro rfl;rw[look_eq]at h;cases h
   rw[aZ hm]at h
   simp only[Ex]
   cases hb:Nat.beq m k with
   |true=>exact absurd (Nat.eq_of_beq_eq_true hb) hm
   |false=>exact E6 h
theorem kg{kn:Option V}{ρ:List (Nat×Nat)}: ∀{hp:Hp} {B:List (Nat×Nat×Obj)},CN kn ρ hp=some B→ ∀n m o',(n,m,o')∈B→ ∃o,(n,o)∈hp∧look ρ n=some m∧o.toA kn ρ=some o'∧(jg m=true→jg n=true)∧(soft n=true→soft m=true)
 | [],B,h,n,m,o',hm=>by
   simp only[CN,oI]at h
   subst h;cases hm
 | (k,x)::r,B,h,n,m,o',hm=>by
   simp only[CN]at h
   split at h
   ·rename_i m1 o1 h1 e1 e2 e3
    split at h
    ·rename_i hp hs
     simp only[oI]at h
     subst h
     rcases List.mem_cons.1 hm with h|h
     ·simp only[pI]at h
      obtain⟨rfl,rfl,rfl⟩:=h
      refine⟨x,by simp,e1,e2,fun hn=> ?_,fun hn=> ?_⟩
      ·rw[hn]at hp;simpa using hp
      ·rw[hn]at hs;simpa using hs
     ·obtain⟨o,q1,q2⟩:=kg e3 n m o' h
      exact⟨o,List.mem_cons_of_mem _ q1,q2⟩
    ·cases h
   ·cases h
theorem E7{kn:Option V}{ρ:List (Nat×Nat)}: ∀{hp:Hp} {B:List (Nat×Nat×Obj)},CN kn ρ hp=some B→ ∀n o,(n,o)∈hp→ ∃m o',(n,m,o')∈B∧look ρ n=some m∧o.toA kn ρ=some o'
 | [],B,h,n,o,hm=>by cases hm
 | (k,x)::r,B,h,n,o,hm=>by
   simp only[CN]at h
   split at h
   ·rename_i m1 o1 h1 e1 e2 e3
    split at h
    ·simp only[oI]at h
     subst h
     rcases List.mem_cons.1 hm with h|h
     ·simp only[pI]at h
      obtain⟨rfl,rfl⟩:=h
      exact⟨m1,o1,by simp,e1,e2⟩
     ·obtain⟨m,o',q1,q2⟩:=E7 e3 n o h
      exact⟨m,o',List.mem_cons_of_mem _ q1,q2⟩
    ·cases h
   ·cases h
theorem E8{st:St}{ρ:List (Nat×Nat)}: ∀{r:List (Nat×Nat)} {hp:Hp},wX st ρ r=some hp→(∀n o,(n,o)∈hp→ ∃m x,(n,m)∈r∧look st.hp m=some x∧o=x.toF ρ∧(jg m=true→jg n=true)∧(soft m=true→soft n=true))∧ ∀n m,(n,m)∈r→ ∃x,look st.hp m=some x∧(n,x.toF ρ)∈hp
 | [],hp,h=>by
   simp only[wX,oI]at h
   subst h
   exact⟨(fun n o hm=>nomatch hm),(fun n m hm=>nomatch hm)⟩
 | (k,j)::r,hp,h=>by
   simp only[wX]at h
   split at h
   ·rename_i x h' e1 e2 e3 e4
    simp only[oI]at h
    subst h
    obtain⟨q1,q2⟩:=E8 e4
    refine⟨fun n o hm=> ?_,fun n m hm=> ?_⟩
    ·rcases List.mem_cons.1 hm with h|h
     ·simp only[pI]at h
      obtain⟨rfl,rfl⟩:=h
      exact⟨j,x,by simp,e1,rfl,fun hs=>by rw[hs]at e2;simpa using e2,fun hs=>by rw[hs]at e3;simpa using e3⟩
     ·obtain⟨m,y,p1,p2⟩:=q1 n o h
      exact⟨m,y,List.mem_cons_of_mem _ p1,p2⟩
    ·rcases List.mem_cons.1 hm with h|h
     ·simp only[pI]at h
      obtain⟨rfl,rfl⟩:=h
      exact⟨x,e1,by simp⟩
     ·obtain⟨y,p1,p2⟩:=q2 n m h
      exact⟨y,p1,List.mem_cons_of_mem _ p2⟩
   ·cases h
theorem yY{st:St}{ρ:List (Nat×Nat)}: ∀{r:List (Nat×Nat)} {hp:Hp},wX st ρ r=some hp→hp.map Prod.fst=r.map Prod.fst
 | [],hp,h=>by simp only[wX,oI]at h;subst h;rfl
 | (k,j)::r,hp,h=>by
   simp only[wX]at h
   split at h
   ·rename_i e4
    simp only[oI]at h
    subst h
    rw[List.map_cons,List.map_cons,yY e4]
   ·cases h
theorem qb{kv ks:List Nat}{hp:Hp}{n:Nat}:look (CQ kv ks hp) n=if n∈kv then none else(look hp n).map (Obj.bz ks kv):=by
 unfold CQ
 rw[jq (α:=Obj) (f:=fun e:Nat×Obj=>e.2.bz ks kv)]
 have:look (hp.filter fun e=> !kv.any (Nat.beq e.1)) n=if n∈kv then none else look hp n:=by
  induction hp with
  |nil=>simp[look]
  |cons e r ih=>
   obtain⟨j,x⟩:=e
   by_cases hj:j∈kv
   ·have:(kv.any (Nat.beq j))=true:=List.any_eq_true.2 ⟨j,hj,by simp⟩
    rw[List.filter_cons_of_neg (by simp[this]),ih]
    by_cases hn:n∈kv
    ·simp[hn]
    ·have:n≠j:=by rintro rfl;exact hn hj
     rw[if_neg hn,if_neg hn,aZ this]
   ·have:(kv.any (Nat.beq j))=false:=by
     rw[List.any_eq_false]
     intro y hy hb
     exact hj (by rw[Nat.eq_of_beq_eq_true hb];exact hy)
    rw[List.filter_cons_of_pos (by simp[this])]
    by_cases XS:n=j
    ·subst XS;rw[look_eq,if_neg hj,look_eq]
    ·rw[aZ XS,aZ XS,ih]
 rw[this]
 split<;>simp
theorem E9{hp:Hp}: ∀{l:Hp},Gu hp l=true→ ∀m o,look l m=some o→look hp m=none
 | (k,x)::r,h,m,o,hl=>by
   simp only[Gu,Bool.and_eq_true]at h
   by_cases hm:m=k
   ·subst hm
    cases hq:look hp m with
    |none=>rfl
    |some y=>rw[hq]at h;simp at h
   ·rw[aZ hm]at hl;exact E9 h.2 m o hl
theorem QE{w:World}{hp:Hp}{env:Env}: ∀{c:List V} {us:List Value} {x:V},bA (RA w hp env) c us→knV c=some x→ ∃u t l,x= .qK u t l∧RA w hp env x u
 | [],_,_,_,h=>by cases h
 |v::r,us,x,hr,h=>by
  cases us with
  |nil=>exact hr.elim
  |cons u us=>
   cases v with
   |qK v t l=>
    simp only[knV,oI]at h
    subst h
    have h1:=hr.1
    obtain⟨hu,_⟩:=h1
    subst hu
    exact⟨_,t,l,rfl,hr.1⟩
   |_=>exact QE hr.2 h
theorem KN{zb:cm}{st:St}{a:Act}{w:World}{env:Env}(g:Good ty zb st a.tmps w env): ∀{xs:List Operand} {x:V},Z6 st xs=some x→ ∃u t l,x= .qK u t l∧RA w st.hp env x u
 | [],_,h=>by cases h
 |y::r,x,h=>by
  simp only[Z6]at h
  split at h
  ·rename_i v hv
   split at h
   ·rename_i hl
    simp only[oI]at h
    subst h
    have hr:=vh g (fun e he=>by simp at he) hv
    cases v with
    |qK v t l=>
     have h1:RA w st.hp env (.qK v t l) (a.eval y):=hr
     obtain⟨hu,_⟩:=h1
     refine⟨v,t,l,rfl,?_⟩
     have h2:RA w st.hp env (.qK v t l) (a.eval y):=hr
     rw[hu]at h2
     exact h2
    |_=>cases hl
   ·exact KN g h
  ·exact KN g h
theorem KO{zb:cm}{st:St}{tmps:Array Value}{w:World}{env:Env}(g:Good ty zb st tmps w env): ∀{ρ:List (Nat×Nat)} {x:V},Z7 st ρ=some x→ ∃u t l,x= .qK u t l∧RA w st.hp env x u
 | [],_,h=>by cases h
 | (n,m)::r,x,h=>by
   simp only[Z7]at h
   split at h
   ·rename_i c hc
    split at h
    ·rename_i v hv
     simp only[oI]at h
     subst h
     obtain⟨b,cs,e,_,_,h3⟩:=g.obj m _ hc
     exact QE h3 hv
    ·exact KO g h
   ·exact KO g h
theorem XT{zb:cm}{st:St}{a:Act}{w:World}{env:Env}(g:Good ty zb st a.tmps w env){xs:List Operand}{ρ:List (Nat×Nat)}{x:V}(h:Uv st xs ρ=some x): ∃u t l,x= .qK u t l∧RA w st.hp env x u:=by
 unfold Uv at h
 split at h
 ·rename_i v hv
  simp only[oI]at h
  subst h
  exact KN g hv
 ·exact KO g h
theorem Iz{kn:Option V}: ∀{c:List V} {v:V},v∈c→ ∀q,q∈Iw kn v→q∈QC kn c
 |x::r,v,hv,q,hq=>by
  simp only[QC,dM]
  rcases List.mem_cons.1 hv with rfl|hv
  ·exact List.mem_append_left _ hq
  ·exact List.mem_append_right _ (Iz hv q hq)
theorem IA{kn:Option V}: ∀{hp:Hp} {n:Nat} {c:List V},(n, .box c)∈hp→ ∀q,q∈QC kn c→q∈KM kn hp
 | (m,o)::r,n,c,h,q,hq=>by
   rcases List.mem_cons.1 h with h|h
   ·simp only[pI]at h
    obtain⟨_,rfl⟩:=h
    simp only[KM,dM]
    exact List.mem_append_left _ hq
   ·have:=IA h q hq
    cases o with
    |box d=>simp only[KM,dM];exact List.mem_append_right _ this
    |_=>exact this
end
section
variable{ty:Tag→Nat}
def wZ(env:Env)(ρ:List (Nat×Nat)):Env:=fun n=>match look ρ n with|some m=>env m|none=>⟨F7,[]⟩
section
variable{P:Program}{zb:cm}{st st':St}{a:Act}{w:World}{env:Env}{Q:Exit→Act→World→Prop}{o:Oper}{ρ:List (Nat×Nat)}{gl:Hp}
structure w5(st:St)(env:Env)(ρ:List (Nat×Nat))(gl:Hp):Prop where
 at_: ∀n m,(n,m)∈ρ→look ρ n=some m
 obj: ∀n m,(n,m)∈ρ→ ∃x,look st.hp m=some x∧look gl n=some (x.toF ρ)
 back: ∀n o,look gl n=some o→ ∃m x,(n,m)∈ρ∧look st.hp m=some x∧o=x.toF ρ∧(jg m=true→jg n=true)∧(soft m=true→soft n=true)
 uniq:(ρ.map Prod.snd).Nodup
theorem w5.of{st:St}{env:Env}{gl:Hp}(h:wX st ρ ρ=some gl)(h1:(ρ.map Prod.fst).Nodup)(h2:(ρ.map Prod.snd).Nodup):w5 st env ρ gl:=by
 obtain⟨q1,q2⟩:=E8 h
 have hnd:(gl.map Prod.fst).Nodup:=by rw[yY h];exact h1
 refine⟨fun n m hm=>eB h1 hm,fun n m hm=> ?_,fun n o hl=> ?_,h2⟩
 ·obtain⟨x,p1,p2⟩:=q2 n m hm
  exact⟨x,p1,eB hnd p2⟩
 ·obtain⟨m,x,p1,p2,p3,p4⟩:=q1 n o (dQ hl)
  exact⟨m,x,p1,p2,p3,p4⟩
theorem w5.en(L:w5 st env ρ gl){n m:Nat}(h:(n,m)∈ρ):wZ env ρ n=env m:=by unfold wZ;rw[L.at_ n m h]
theorem w5.ow(L:w5 st env ρ gl){b:Nat}(h:Ow gl (wZ env ρ) b): ∃n m x,(n,m)∈ρ∧look st.hp m=some x∧b∈(env m).fp:=by
 obtain⟨n,o,h1,h2⟩:=h
 obtain⟨m,x,p1,p2,_⟩:=L.back n o h1
 rw[L.en p1]at h2
 exact⟨n,m,x,p1,p2,h2⟩
theorem Mj: ∀{ρ:List (Nat×Nat)} {n n' m:Nat},(ρ.map Prod.snd).Nodup→(n,m)∈ρ→(n',m)∈ρ→n=n'
 | (a,b)::r,n,n',m,hnd,h1,h2=>by
   obtain⟨q1,q2⟩:=List.nodup_cons.1 hnd
   rcases List.mem_cons.1 h1 with e1|e1<;>rcases List.mem_cons.1 h2 with e2|e2
   ·rw[pI]at e1 e2;rw[e1.1,e2.1]
   ·rw[pI]at e1;exact absurd (List.mem_map.2 ⟨_,e2,e1.2⟩) q1
   ·rw[pI]at e2;exact absurd (List.mem_map.2 ⟨_,e1,e2.2⟩) q1
   ·exact Mj q2 e1 e2
theorem toF_ok(L:w5 st env ρ gl){v:V}{u:Value}(h:RA w st.hp env v u):RA w gl (wZ env ρ) (v.toF ρ) u:=by
 cases v with
 |lit x=>exact h
 |sl t l=>
  obtain⟨fp,h1,h2⟩:=h
  refine⟨fp,h1,fun b hb ho=>h2 b hb ?_⟩
  obtain⟨n,m,x,_,p2,p3⟩:=L.ow ho
  exact⟨m,x,p2,p3⟩
 |own m=>
  simp only[V.toF]
  split
  ·rename_i n hn
   obtain⟨⟨t,l,hl⟩,hu⟩:=h
   obtain⟨x,p1,p2⟩:=L.obj n m (l8 hn)
   rw[hl]at p1
   simp only[oI]at p1
   subst p1
   exact⟨⟨t,l,p2⟩,by rw[L.en (l8 hn)];exact hu⟩
  ·trivial
 |ptr m off=>
  simp only[V.toF]
  split
  ·rename_i n hn
   obtain⟨⟨c,hl⟩,hu⟩:=h
   obtain⟨x,p1,p2⟩:=L.obj n m (l8 hn)
   rw[hl]at p1
   simp only[oI]at p1
   subst p1
   exact⟨⟨_,p2⟩,by rw[L.en (l8 hn)];exact hu⟩
  ·trivial
 |Bt f m=>
  simp only[V.toF]
  split
  ·rename_i n hn
   obtain⟨⟨c,hl⟩,hu⟩:=h
   obtain⟨x,p1,p2⟩:=L.obj n m (l8 hn)
   rw[hl]at p1
   simp only[oI]at p1
   subst p1
   exact⟨⟨_,p2⟩,by rw[L.en (l8 hn)];exact hu⟩
  ·trivial
 |qK v t l=>
  obtain⟨hu,fp,h1,h2⟩:=h
  refine⟨hu,fp,h1,fun b hb ho=>h2 b hb ?_⟩
  obtain⟨n,m,x,_,p2,p3⟩:=L.ow ho
  exact⟨m,x,p2,p3⟩
 |_=>trivial
theorem Mk{w:World}{hp gq:Hp}{env env':Env}{n m:Nat}{t:Tag}{l:List (T t)}{co:CO}(hs:soft m=true→soft n=true)(h:RO ty w hp env m (.arr t l) co):RO ty w gq env' n (.arr t l) co:=by
 cases hm:soft m with
 |false=>exact RO.EU (RO.TJ hm h)
 |true=>exact RO.P3 (hs hm) (RO.sl h) (RO.own h)
theorem Ok(g:Good ty zb st a.tmps w env)(L:w5 st env ρ gl):Ix ty w gl (wZ env ρ):=by
 refine⟨fun n o hl=> ?_,fun n n' o o' hne h1 h2 b hb hb'=> ?_⟩
 ·obtain⟨m,x,p1,p2,rfl,_,p4⟩:=L.back n o hl
  rw[L.en p1]
  have hro:=g.obj m x p2
  cases x with
  |arr t l=>exact Mk p4 hro
  |box c=>
   obtain⟨b,cs,e,h1,h2,h3⟩:=hro
   exact⟨b,cs,e,h1,h2,h3.map fun x y hr=>toF_ok L hr⟩
  |eZ t l s=>
   rcases RO.Cl hro with⟨rfl,h⟩| ⟨u,rfl,h1,h2,fp,h3,h4⟩| ⟨p,rfl,h⟩| ⟨hr,h1,us,hB,h2,_⟩
   ·exact h
   ·refine⟨h1,h2,fp,h3,h4.imp id fun⟨c,e1,e2⟩=>⟨c,e1,fun ho=> ?_⟩⟩
    obtain⟨n',m',x',p1',p2',p3'⟩:=L.ow ho
    exact e2 ⟨m',x',p2',p3'⟩
   ·exact⟨h.1,h.2.1,fun _ _ _ e=>by cases e⟩
   ·have e:(Obj.eZ t l s).toF ρ= .eZ t l .gone:=by cases s<;>first|rfl|exact hr.elim
    rw[e]
    exact⟨h1,us,hB,h2,fun _ _ _ _ _=>trivial⟩
 ·obtain⟨m,x,p1,p2,_⟩:=L.back n o h1
  obtain⟨m',x',p1',p2',_⟩:=L.back n' o' h2
  rw[L.en p1]at hb
  rw[L.en p1']at hb'
  refine g.iq m m' x x' (fun e=> ?_) p2 p2' b hb hb'
  subst e
  exact hne (Mj L.uniq p1 p1')
theorem Ml(g:Good ty zb st a.tmps w env)(L:w5 st env ρ gl){tg:Option Tag}{v v':V}{u:Value}(h:RA w st.hp env v u)(hf:Uu st ρ tg v=some v'):RA w gl (wZ env ρ) v' u:=by
 have Z9:(∀n c t l,v≠ .mix n c t l)→(∀n,v≠ .tG n)→(∀m,v.name=some m→inv ρ m=none)→mH st tg v=some v'→RA w gl (wZ env ρ) v' u:=by
  intro Pm hbw hno hi
  have aaa: ∀{m:Nat} {x:Obj},v.name=some m→look st.hp m=some x→ ∀b,b∈(env m).fp→ ¬Ow gl (wZ env ρ) b:=by
   intro m x hm hl b hb ho
   obtain⟨n,m',x',p1,p2,p3⟩:=L.ow ho
   have hne:m≠m':=by
    rintro rfl
    exact Iy (hno m hm) (List.mem_map.2 ⟨_,p1,rfl⟩)
   exact g.iq m m' x x' hne hl p2 b hb p3
  cases v with
  |sl t l=>
   simp only[mH,oI]at hi
   subst hi
   exact toF_ok L h
  |own m=>
   simp only[mH]at hi
   split at hi
   ·rename_i t l hl
    simp only[oI]at hi
    subst hi
    obtain⟨_,hu⟩:=h
    refine⟨(env m).fp,?_,aaa rfl hl⟩
    rw[hu];exact RO.sl (g.obj m _ hl)
   ·cases hi
  |vw m p t l=>
   simp only[mH,oI]at hi
   subst hi
   obtain⟨⟨tA,lA,hl⟩,⟨fp,hs,_,hsub⟩,_⟩:=h
   exact⟨fp,hs,fun b hb=>aaa rfl hl b (hsub b hb)⟩
  |lit x=>
   unfold mH at hi
   split at hi
   ·rename_i he;cases he
   ·rename_i he;cases he
   ·rename_i he;cases he
   ·rename_i he;cases he
   ·rename_i he;cases he
   ·rename_i he
    simp only[V.lit.injEq]at he
    subst he
    obtain⟨hu,_⟩:=h
    split at hi
    ·simp only[oI]at hi
     subst hi
     refine⟨[],?_,by simp⟩
     rw[hu]
     exact⟨none,0,rfl,Nat.le_refl _,Nat.zero_le _,Or.inl ⟨rfl,rfl,rfl⟩⟩
    ·cases hi
   ·cases hi
   ·rename_i he
    simp only[V.lit.injEq]at he
    subst he
    simp only[oI]at hi
    subst hi
    exact h
   ·cases hi
  |mix n c t l=>exact absurd rfl (Pm n c t l)
  |tG n=>exact absurd rfl (hbw n)
  |_=>simp[mH]at hi
 unfold Uu at hf
 split at hf
 ·rename_i m hm
  split at hf
  ·rename_i n hn
   have hF:=toF_ok L h
   split at hf
   ·rename_i m'
    simp only[V.name,oI]at hm
    subst hm
    simp only[oI]at hf
    subst hf
    simpa only[V.toF,hn]using hF
   ·rename_i m' off
    simp only[V.name,oI]at hm
    subst hm
    simp only[oI]at hf
    subst hf
    simpa only[V.toF,hn]using hF
   ·rename_i f m'
    simp only[V.name,oI]at hm
    subst hm
    simp only[oI]at hf
    subst hf
    simpa only[V.toF,hn]using hF
   ·cases hf
  ·rename_i hn
   split at hf
   ·cases hf
   ·cases hf
   ·rename_i h1 h2
    exact Z9 (fun n c t l e=>h1 n c t l e) (fun n e=>h2 n e) (fun k hk=>by rw[hm]at hk;simp only[oI]at hk;subst hk;exact hn) hf
 ·rename_i hm
  exact Z9 (fun n c t l e=>by rw[e]at hm;cases hm) (fun n e=>by rw[e]at hm;cases hm) (fun k hk=>by rw[hm]at hk;cases hk) hf
theorem IB(g:Good ty zb st a.tmps w env)(L:w5 st env ρ gl): ∀{vs vs':List V} {tg:List (Option Tag)} {us:List Value},bA (RA w st.hp env) vs us→Iu st ρ tg vs=some vs'→bA (RA w gl (wZ env ρ)) vs' us
 | [],vs',tg,us,h,hf=>by
   simp only[Iu,oI]at hf
   subst hf
   cases us with
   |nil=>trivial
   |cons _ _=>exact h.elim
 |v::r,vs',tg,us,h,hf=>by
  cases us with
  |nil=>exact h.elim
  |cons u us=>
   simp only[Iu]at hf
   split at hf
   ·rename_i x y h1 h2
    simp only[oI]at hf
    subst hf
    exact⟨Ml g L h.1 h1,IB g L h.2 h2⟩
   ·cases hf
theorem IC(g:Good ty zb st a.tmps w env)(L:w5 st env ρ gl){Γ:Nat→TK}: ∀{xs:List Operand} {ts:List Nat} {as:List S1},Iv Γ st ρ xs ts=some as→bA (eT w gl (wZ env ρ)) as (xs.map a.eval)
 | [],_,as,h=>by
   simp only[Iv,oI]at h
   subst h;trivial
 |x::r,ts,as,h=>by
  simp only[Iv]at h
  split at h
  ·rename_i v hv
   split at h
   ·rename_i y ys h1 h2
    simp only[oI]at h
    subst h
    have hr:=vh g (fun e he=>by simp at he) hv
    refine⟨?_,IC g L h2⟩
    cases v with
    |a v=>
     simp only[XQ]at h1
     split at h1
     ·rename_i hl
      simp only[oI]at h1
      subst h1
      cases v with
      |qK v t l=>exact toF_ok L (v:= .qK v t l) hr
      |_=>cases hl
     ·split at h1
      ·rename_i z hz
       simp only[oI]at h1
       subst h1
       exact Ml g L hr hz
      ·cases h1
    |agg l=>
     simp only[XQ]at h1
     split at h1
     ·rename_i z hz
      simp only[oI]at h1
      subst h1
      obtain⟨cs,hu,hl⟩:=hr
      exact⟨cs,hu,IB g L hl hz⟩
     ·cases h1
   ·cases h
  ·cases h
theorem bA.append{α β:Type}{R:α→β→Prop}: ∀{as as':List α} {bs bs':List β},bA R as bs→bA R as' bs'→bA R (as++as') (bs++bs'):=bA.app
theorem KP(g:Good ty zb st a.tmps w env)(L:w5 st env ρ gl){x:Operand}{xs:Array Operand}{ts:Array TypeId}(ho:o.op= .call ⟨.value x,xs,ts⟩){f:FuncId}{ex:List S1}(h:Gr st ρ x=some (f,ex))(hS: ∀(args:Array Value) (w:World),(callFunc f args).run P w= .ok (.enter f args) w):
  ∃us,(execOp a.eval o).run P w= .ok (.enter f (xs.toList.map a.eval++us).toArray) w∧bA (eT w gl (wZ env ρ)) ex us:=by
 have hx:xs.map a.eval=(xs.toList.map a.eval).toArray:=by rw[←List.map_toArray]
 unfold Gr at h
 split at h
 ·rename_i f' m hv
  split at h
  ·rename_i n hn
   simp only[oI,pI]at h
   obtain⟨rfl,rfl⟩:=h
   have hr:=dB g (fun e he=>by simp at he) hv
   have hA:RA w st.hp env (.Bt f' m) (a.eval x):=hr
   obtain⟨⟨c,hl⟩,b,hb,hu⟩:=hA
   refine⟨[.pointer (some ⟨b,0,none⟩)],?_,?_,trivial⟩
   ·unfold execOp
    simp[ho,resolve,invoke,Deferred.ofValue,hu,hS]
    rw[hx];simp
   ·obtain⟨y,p1,p2⟩:=L.obj n m (l8 hn)
    rw[hl]at p1
    simp only[oI]at p1
    subst p1
    exact⟨⟨_,p2⟩,b,by rw[L.en (l8 hn)];exact hb,rfl⟩
  ·cases h
 ·rename_i v _ hv
  split at h
  ·rename_i f' hf
   simp only[oI,pI]at h
   obtain⟨rfl,rfl⟩:=h
   have h0:=Mc (dB g (fun e he=>by simp at he) hv) hf
   refine⟨[],?_,trivial⟩
   unfold execOp
   simp[ho,resolve,invoke,Deferred.ofValue,h0,hS]
   exact hx
  ·cases h
 ·cases h
theorem toA_ok{w:World}{eO Ol:Hp}{mO env':Env}{ρ:List (Nat×Nat)}{kn Ws:Option V}(hn: ∀n m,look ρ n=some m→ ∀o,look eO n=some o→(∃o',look Ol m=some o'∧o.toA Ws ρ=some o')∧env' m=mO n)(hK: ∀x,kn=some x→ ∃u t l,x= .qK u t l∧RA w Ol env' x u){v v':V}{u:Value}(hP: ∀q,q∈Iw kn v→q)(h:RA w eO mO v u)(hv:v.toA kn ρ=some v'):RA w Ol env' v' u:=by
 cases v with
 |any=>simp only[V.toA,oI]at hv;subst hv;trivial
 |lit x=>simp only[V.toA,oI]at hv;subst hv;exact h
 |qK v t l=>
  simp only[V.toA]at hv
  obtain⟨u0,t0,l0,rfl,h0⟩:=hK _ hv
  subst hv
  have e:=hP (v=u0) (by simp[Iw])
  obtain⟨hu,_⟩:=h
  rw[hu,e]
  exact h0
 |own n=>
  simp only[V.toA]at hv
  split at hv
  ·rename_i m hm
   simp only[oI]at hv
   subst hv
   obtain⟨⟨t,l,hl⟩,hu⟩:=h
   obtain⟨⟨o',q1,q2⟩,q3⟩:=hn n m hm _ hl
   simp only[Obj.toA,oI]at q2
   subst q2
   exact⟨⟨t,l,q1⟩,by rw[q3];exact hu⟩
  ·cases hv
 |ptr n off=>
  simp only[V.toA]at hv
  split at hv
  ·rename_i m hm
   simp only[oI]at hv
   subst hv
   obtain⟨⟨c,hl⟩,hu⟩:=h
   obtain⟨⟨o',q1,q2⟩,q3⟩:=hn n m hm _ hl
   simp only[Obj.toA]at q2
   split at q2
   ·simp only[oI]at q2
    subst q2
    exact⟨⟨_,q1⟩,by rw[q3];exact hu⟩
   ·cases q2
  ·cases hv
 |_=>simp[V.toA]at hv
theorem toAs_ok{w:World}{eO Ol:Hp}{mO env':Env}{ρ:List (Nat×Nat)}{kn Ws:Option V}(hn: ∀n m,look ρ n=some m→ ∀o,look eO n=some o→(∃o',look Ol m=some o'∧o.toA Ws ρ=some o')∧env' m=mO n)(hK: ∀x,kn=some x→ ∃u t l,x= .qK u t l∧RA w Ol env' x u): ∀{vs vs':List V} {us:List Value},(∀v,v∈vs→ ∀q,q∈Iw kn v→q)→bA (RA w eO mO) vs us→toAs kn ρ vs=some vs'→bA (RA w Ol env') vs' us
 | [],vs',us,_,h,hv=>by
   simp only[toAs,oI]at hv
   subst hv
   cases us with
   |nil=>trivial
   |cons _ _=>exact h.elim
 |v::r,vs',us,hP,h,hv=>by
  cases us with
  |nil=>exact h.elim
  |cons u us=>
   simp only[toAs]at hv
   split at hv
   ·rename_i x y h1 h2
    simp only[oI]at hv
    subst hv
    exact⟨toA_ok hn hK (hP v (by simp)) h.1 h1,toAs_ok hn hK (fun z hz=>hP z (List.mem_cons_of_mem _ hz)) h.2 h2⟩
   ·cases hv
theorem toA_none{kn:Option V}{ρ:List (Nat×Nat)}{v v':V}(hk:kn=none)(h:v.toA kn ρ=some v'): ∀q,q∈Iw kn v→q:=by
 subst hk
 cases v with
 |qK v t l=>simp[V.toA]at h
 |_=>intro q hq;simp[Iw]at hq
theorem toAs_none{ρ:List (Nat×Nat)}: ∀{vs vs':List V},toAs none ρ vs=some vs'→ ∀v,v∈vs→ ∀q,q∈Iw none v→q
 |x::r,vs',h,v,hv=>by
  simp only[toAs]at h
  split at h
  ·rename_i h1 h2
   rcases List.mem_cons.1 hv with rfl|hv
   ·exact toA_none rfl h1
   ·exact toAs_none h2 v hv
  ·cases h
theorem QF{w:World}{eO Ol:Hp}{mO env':Env}{ρ:List (Nat×Nat)}{Ws:Option V}(hn: ∀n m,look ρ n=some m→ ∀o,look eO n=some o→(∃o',look Ol m=some o'∧o.toA Ws ρ=some o')∧env' m=mO n){v v':S1}{u:Value}(h:eT w eO mO v u)(hv:v.toA ρ=some v'):eT w Ol env' v' u:=by
 cases v with
 |a v=>
  simp only[S1.toA]at hv
  split at hv
  ·rename_i x hx
   simp only[oI]at hv
   subst hv
   exact toA_ok (kn:=none) hn (fun _ h=>by cases h) (toA_none rfl hx) h hx
  ·cases hv
 |agg l=>
  simp only[S1.toA]at hv
  split at hv
  ·rename_i x hx
   simp only[oI]at hv
   subst hv
   obtain⟨cs,hu,hl⟩:=h
   exact⟨cs,hu,toAs_ok (kn:=none) hn (fun _ h=>by cases h) (toAs_none hx) hl hx⟩
  ·cases hv
theorem KQ{w:World}{eO Ol:Hp}{mO env':Env}{ρ:List (Nat×Nat)}{Ws:Option V}(hn: ∀n m,look ρ n=some m→ ∀o,look eO n=some o→(∃o',look Ol m=some o'∧o.toA Ws ρ=some o')∧env' m=mO n): ∀{vs vs':List S1} {us:List Value},bA (eT w eO mO) vs us→Uw ρ vs=some vs'→bA (eT w Ol env') vs' us
 | [],vs',us,h,hv=>by
   simp only[Uw,oI]at hv
   subst hv
   cases us with
   |nil=>trivial
   |cons _ _=>exact h.elim
 |v::r,vs',us,h,hv=>by
  cases us with
  |nil=>exact h.elim
  |cons u us=>
   simp only[Uw]at hv
   split at hv
   ·rename_i x y h1 h2
    simp only[oI]at hv
    subst hv
    exact⟨QF hn h.1 h1,KQ hn h.2 h2⟩
   ·cases hv
theorem Mm{ρ:List (Nat×Nat)}: ∀{vs vs':List S1},Uw ρ vs=some vs'→vs'.length=vs.length
 | [],vs',h=>by simp only[Uw,oI]at h;subst h;rfl
 |v::r,vs',h=>by
  simp only[Uw]at h
  split at h
  ·rename_i x y h1 h2
   simp only[oI]at h
   subst h
   rw[List.length_cons,List.length_cons,Mm h2]
  ·cases h
theorem Ux{Γ:Nat→TK}{cr:List (Nat×CR)}{d:Option Nat}{vc:List Prop}{v:SV}(h:QD P ty Γ cr st d o.op=some (vc,st',v))(g:Good ty zb st a.tmps w env)(hB:zb.w.heap.size≤w.heap.size)(hA:Ga zb)(hN:F5 w)(hv: ∀q,q∈vc→q):
  (∀k,v.mentions k=false)∧o.wp P a w (fun a' w'=> ∃u env',a'=a.put o.dst u∧Kept zb w w'∧Good ty zb st' a.tmps w' env'∧st'.n=st.n∧nG w' st'.hp env' a.tmps v u) Q:=by
 generalize eJ:o.op=op at h
 cases op with
 |call c=>
  obtain⟨callee,xs,ts⟩:=c
  cases callee with
  |value x=>
   simp only[QD]at h
   split at h
   case h_2=>cases h
   rename_i _ ca cb cc os _ rs _ _
   split at h
   case h_2=>cases h
   rename_i ρ0 ρ1 ns _ _ _
   split at h
   case h_2=>cases h
   rename_i eO gl f ex as _ Wt acE hargs
   split at h
   case h_2=>cases h
   rename_i B rsA CS AB
   split at h
   case h_2=>cases h
   rename_i aab
   simp only[Bool.and_eq_true]at aab
   obtain⟨⟨⟨⟨⟨⟨c1,c2⟩,c3⟩,c4⟩,c5⟩,c6⟩,c7⟩:=aab
   simp only[oI,pI,dM]at h
   obtain⟨rfl,rfl,rfl⟩:=h
   have hS:mN ty P f gl (as++ex) eO rs:=hv _ (List.mem_cons_self ..)
   have acF: ∀q,q∈KM (Uv st xs.toList ρ0) eO→q:=fun q hq=>hv q (List.mem_cons_of_mem _ hq)
   have QG:=iT c1
   rw[List.map_append]at QG
   have aac:=(List.nodup_append.1 QG).1
   have L:w5 st env ρ0 gl:=w5.of Wt aac (iT c2)
   refine⟨fun k=>by split<;>rfl,?_⟩
   have Uy: ∀b,b∈wY gl (wZ env ρ0)→ ∃m x,m∈ρ0.map Prod.snd∧look st.hp m=some x∧b∈(env m).fp:=by
    intro b hb
    obtain⟨e,he,Is⟩:=List.mem_flatMap.1 hb
    have acG:(gl.map Prod.fst).Nodup:=by rw[yY Wt];exact aac
    obtain⟨m,x,p1,p2,_⟩:=L.back e.1 e.2 (eB acG he)
    rw[L.en p1]at Is
    exact⟨m,x,List.mem_map.2 ⟨_,p1,rfl⟩,p2,Is⟩
   have hLz: ∀b,b∈wY gl (wZ env ρ0)→b∈zb.L∨zb.w.heap.size≤b:=by
    intro b hb
    obtain⟨m,x,_,p2,p3⟩:=Uy b hb
    exact g.dom m x p2 b p3
   obtain⟨us,hrun,hex⟩:=KP (P:=P) g L eJ acE hS.1
   unfold Oper.wp
   rw[hrun]
   simp only[Oper.upon]
   refine(hS.2 w (wZ env ρ0) _ hN (fun b h0 hb=>hA.free (hLz b hb) h0) (Ok g L) (bA.app (IC g L hargs) hex)).mono ?_
   rintro e w' ⟨mO,u,rfl,hK,⟨hG1,hG2⟩,eR,Io,hres⟩
   have aad: ∀n m,(n,m)∈ρ0→look (ρ0++ρ1) n=some m:=fun n m hm=>eB (by rw[List.map_append];exact QG) (List.mem_append_left _ hm)
   have XU:=tQ c3
   have aae:=tQ c4
   have acI: ∀{n m n':Nat} {o1 o2:Obj},(n,m,o1)∈B→(n',m,o2)∈B→n=n':=by
    intro n m n' o1 o2 h1 h2
    have: ∀{B:List (Nat×Nat×Obj)},((BB B).map Prod.fst).Nodup→(n,m,o1)∈B→(n',m,o2)∈B→n=n':=by
     intro B
     induction B with
     |nil=>intro _ h;cases h
     |cons x r ih=>
      intro hnd h1 h2
      obtain⟨q1,q2⟩:=List.nodup_cons.1 (show((x.2.1)::(BB r).map Prod.fst).Nodup from hnd)
      have hin: ∀{k:Nat} {o:Obj},(k,m,o)∈r→m∈(BB r).map Prod.fst:=fun h=>List.mem_map.2 ⟨(m,_),List.mem_map.2 ⟨_,h,rfl⟩,rfl⟩
      rcases List.mem_cons.1 h1 with e1|e1<;>rcases List.mem_cons.1 h2 with e2|e2
      ·rw[←e1]at e2;simp only[pI]at e2;exact e2.1.symm
      ·rw[←e1]at q1;exact absurd (hin e2) q1
      ·rw[←e2]at q1;exact absurd (hin e1) q1
      ·exact ih q2 e1 e2
    exact this aae h1 h2
   have aaf: ∀{n m:Nat} {o':Obj},(n,m,o')∈B→look (BB B) m=some o'∧Ex B m=some n:=by
    intro n m o' hm
    have h1:look (BB B) m=some o':=eB aae (List.mem_map.2 ⟨_,hm,rfl⟩)
    obtain⟨n',h2,h3⟩:=mo h1
    rw[acI hm h2]
    exact⟨h1,h3⟩
   let env':Env:=fun m=>match Ex B m with|some n=>mO n|none=>env m
   have ID: ∀{n m:Nat} {o':Obj},(n,m,o')∈B→env' m=mO n:=by
    intro n m o' hm
    show(match Ex B m with|some n=>mO n|none=>env m)=mO n
    rw[(aaf hm).2]
   have Mn: ∀{m:Nat},look (BB B) m=none→env' m=env m:=by
    intro m hm
    show(match Ex B m with|some n=>mO n|none=>env m)=env m
    rw[E6 hm]
   have hn: ∀n m,look (ρ0++ρ1) n=some m→ ∀o,look eO n=some o→(∃o',look (BB B) m=some o'∧o.toA (Uv st xs.toList ρ0) (ρ0++ρ1)=some o')∧env' m=mO n:=by
    intro n m hm o hl
    obtain⟨m',o',q1,q2,q3⟩:=E7 CS n o (dQ hl)
    rw[hm]at q2
    simp only[oI]at q2
    subst q2
    exact⟨⟨o',(aaf q1).1,q3⟩,ID q1⟩
   have hfr:=E9 c5
   have hlk: ∀m o,look (BB B++CQ (ρ0.map Prod.snd) ((ρ0.filter fun e=> !jg e.1).map Prod.snd) st.hp) m=some o→(∃n o1,look (BB B) m=some o∧look eO n=some o1∧o1.toA (Uv st xs.toList ρ0) (ρ0++ρ1)=some o∧env' m=mO n∧(jg m=true→jg n=true)∧(soft n=true→soft m=true))∨(look (BB B) m=none∧m∉ρ0.map Prod.snd∧ ∃x,look st.hp m=some x∧o=x.bz ((ρ0.filter fun e=> !jg e.1).map Prod.snd) (ρ0.map Prod.snd)∧env' m=env m):=by
    intro m o hm
    cases hq:look (BB B) m with
    |some o2=>
     rw[cz hq]at hm
     simp only[oI]at hm
     subst hm
     obtain⟨n,h1,_⟩:=mo hq
     obtain⟨o1,p1,p2,p3,p4,p5⟩:=kg CS n m _ h1
     exact Or.inl ⟨n,o1,rfl,eB XU p1,p3,ID h1,p4,p5⟩
    |none=>
     rw[bB hq,qb]at hm
     split at hm
     ·cases hm
     ·rename_i hnk
      cases hx:look st.hp m with
      |none=>rw[hx]at hm;cases hm
      |some x=>
       rw[hx]at hm
       simp only[Option.map_some,oI]at hm
       exact Or.inr ⟨rfl,hnk,x,rfl,hm.symm,Mn hq⟩
   have hold: ∀m x,m∉ρ0.map Prod.snd→look st.hp m=some x→look (BB B) m=none:=by
    intro m x hnk hx
    cases hq:look (BB B) m with
    |none=>rfl
    |some o2=>
     have:=hfr m o2 hq
     rw[qb,if_neg hnk,hx]at this
     cases this
   have hst: ∀m x,m∉ρ0.map Prod.snd→look st.hp m=some x→ ∀b,b∈(env m).fp→w'.heap[b]? =w.heap[b]? :=by
    intro m x hnk hx b hb
    refine hK.block b ((g.obj m x hx).va b hb) fun hL=> ?_
    obtain⟨m',x',p1,p2,p3⟩:=Uy b hL
    exact g.iq m m' x x' (fun e=>hnk (e▸p1)) hx p2 b hb p3
   have hnew: ∀{m n:Nat} {o1:Obj},look eO n=some o1→ ∀b,b∈(mO n).fp→b<w.heap.size→ ∃m' x',m'∈ρ0.map Prod.snd∧look st.hp m'=some x'∧b∈(env m').fp:=by
    intro m n o1 hl b hb hlt
    rcases eR n o1 hl b hb with h|h
    ·exact Uy b h
    ·omega
   have s:oQ ((ρ0.filter fun e=> !jg e.1).map Prod.snd) (ρ0.map Prod.snd) w st.hp env w' (BB B++CQ (ρ0.map Prod.snd) ((ρ0.filter fun e=> !jg e.1).map Prod.snd) st.hp) env':=by
    refine⟨fun b hb hno=>hK.block b hb fun hL=> ?_,?_,?_,?_⟩
    ·obtain⟨m,x,_,p2,p3⟩:=Uy b hL
     exact hno ⟨m,x,p2,p3⟩
    ·rintro b hb ⟨m,o',h1,h2⟩
     rcases hlk m o' h1 with⟨n,o1,_,q2,_,q4,_⟩| ⟨_,_,x,q3,_,q5⟩
     ·rw[q4]at h2
      obtain⟨m',x',_,p2,p3⟩:=hnew (m:=m) q2 b h2 hb
      exact⟨m',x',p2,p3⟩
     ·rw[q5]at h2
      exact⟨m,x,q3,h2⟩
    ·intro m o' hks h1
     by_cases hkv:m∈ρ0.map Prod.snd
     ·obtain⟨e,he,rfl⟩:=List.mem_map.1 hkv
      have hpe:jg e.1=true:=by
       cases hp:jg e.1 with
       |true=>rfl
       |false=>exact absurd (List.mem_map.2 ⟨e,List.mem_filter.2 ⟨he,by simp[hp]⟩,rfl⟩) hks
      have HK:=List.all_eq_true.1 c6 e he
      rw[hpe]at HK
      simp only[Bool.not_true,Bool.false_or,Bool.and_eq_true]at HK
      obtain⟨x,p1,p2⟩:=L.obj e.1 e.2 he
      rw[h1]at p1
      simp only[oI]at p1
      subst p1
      rw[p2]at HK
      cases hq1:look eO e.1 with
      |none=>rw[hq1]at HK;simp[CP]at HK
      |some o1=>
       rw[hq1]at HK
       obtain⟨⟨o2,q1,q2⟩,q3⟩:=hn e.1 e.2 (aad e.1 e.2 he) o1 hq1
       refine⟨o2,cz q1,?_,by rw[q3,(Io e.1 hpe).1,L.en he]⟩
       cases o' with
       |arr t l=>simp[Obj.toF,CP]at HK
       |eZ t l s=>cases s<;>simp[Obj.toF,CP]at HK
       |box c=>
        cases o1 with
        |arr t l=>simp[CP]at HK
        |eZ t l s=>simp[CP]at HK
        |box c1=>
         simp only[Obj.toA]at q2
         split at q2
         ·simp only[oI]at q2;subst q2;trivial
         ·cases q2
     ·have hno:=hold m o' hkv h1
      refine⟨o'.bz _ _,by rw[bB hno,qb,if_neg hkv,h1];rfl,by cases o'<;>simp[Obj.like,Obj.bz],by rw[Mn hno]⟩
    ·rintro m t' l' ⟨_,hkv⟩ h1
     have hno:=hold m _ hkv h1
     refine⟨by rw[bB hno,qb,if_neg hkv,h1];rfl,Mn hno,hst m _ hkv h1⟩
   have QH:=g.gr s (fun m o' hm=> ?_) (fun m m' o1 o2 hne h1 h2 b hb hb'=> ?_) (fun m o' hm b hb=> ?_) (fun m hm=> ?_)
   ·refine⟨u,env',rfl,Kept.XK hK hB hLz,QH,by first|trivial|rfl,?_⟩
    have h1: ∀{hp:Hp},(∀m o,look (BB B) m=some o→look hp m=some o)→(∀n m,look (ρ0++ρ1) n=some m→ ∀o,look eO n=some o→(∃o',look hp m=some o'∧o.toA (Uv st xs.toList ρ0) (ρ0++ρ1)=some o')∧env' m=mO n):=by
     intro hp hh n m hm o hl
     obtain⟨⟨o',p1,p2⟩,p3⟩:=hn n m hm o hl
     exact⟨⟨o',hh m o' p1,p2⟩,p3⟩
    have h2:=h1 (hp:=BB B++CQ (ρ0.map Prod.snd) ((ρ0.filter fun e=> !jg e.1).map Prod.snd) st.hp) (fun m o hm=>cz hm)
    have hlen:=Mm AB
    match rs,rsA,AB,hres,hlen with
    | [r],[ra],AB,hres,_=>
      simp only[Uw]at AB
      split at AB
      ·rename_i x y e1 e2
       simp only[oI,List.cons.injEq]at e2 AB
       obtain⟨rfl,_⟩:=AB
       exact QF h2 hres e1
      ·cases AB
    | [],[],AB,⟨us',hu,hall⟩,_=>exact⟨us',hu,KQ h2 hall AB⟩
    |r1::r2::r,x1::x2::xr,AB,⟨us',hu,hall⟩,_=>exact⟨us',hu,KQ h2 hall AB⟩
    | [],_::_,_,_,hl=>cases hl
    | [_],[],_,_,hl=>cases hl
    | [_],_::_::_,_,_,hl=>simp at hl
    |_::_::_,[],_,_,hl=>simp at hl
    |_::_::_,[_],_,_,hl=>simp at hl
   ·rcases hlk m o' hm with⟨n,o1,q1,q2,q3,q4,_,q6⟩| ⟨q1,q2,x,q3,rfl,q5⟩
    ·rw[q4]
     have hro:=hG1 n o1 q2
     cases o1 with
     |arr t l=>
      simp only[Obj.toA,oI]at q3
      subst q3
      exact Mk q6 hro
     |eZ t l s=>cases q3
     |box c=>
      simp only[Obj.toA]at q3
      split at q3
      ·rename_i c' HI
       simp only[oI]at q3
       subst q3
       obtain⟨b,cs,e,h1,h2,h3⟩:=hro
       refine⟨b,cs,e,h1,h2,toAs_ok (Ws:=Uv st xs.toList ρ0) (eO:=eO) (mO:=mO) ?_ (fun y hy=> ?_) (fun y hy q hq=>acF q (IA (dQ q2) q (Iz hy q hq))) h3 HI⟩
       ·intro n m hm o hl
        obtain⟨⟨o',p1,p2⟩,p3⟩:=hn n m hm o hl
        exact⟨⟨o',cz p1,p2⟩,p3⟩
       ·obtain⟨u0,t0,l0,e0,h0⟩:=XT g hy
        subst e0
        exact⟨u0,t0,l0,rfl,RA.gr s h0⟩
      ·cases q3
    ·rw[q5]
     exact(g.obj m x q3).gr s (hst m x q2 q3)
   ·rcases hlk m o1 h1 with⟨n,p1,q1,q2,q3,q4,_⟩| ⟨q1,q2,x,q3,_,q5⟩<;>rcases hlk m' o2 h2 with⟨n',p1',q1',q2',q3',q4',_⟩| ⟨q1',q2',x',q3',_,q5'⟩
    ·rw[q4]at hb
     rw[q4']at hb'
     obtain⟨k1,k2,k3⟩:=mo q1
     obtain⟨k1',k2',k3'⟩:=mo q1'
     have e1:=ID k2
     have e2:=ID k2'
     have acM:k1≠k1':=by
      rintro rfl
      obtain⟨_,_,z1,_⟩:=kg CS _ _ _ k2
      obtain⟨_,_,z2,_⟩:=kg CS _ _ _ k2'
      rw[z1]at z2
      simp only[oI]at z2
      exact hne z2
     rw[q4]at e1
     rw[q4']at e2
     rw[e1]at hb
     rw[e2]at hb'
     obtain⟨y1,z1,_⟩:=kg CS _ _ _ k2
     obtain⟨y2,z2,_⟩:=kg CS _ _ _ k2'
     exact hG2 k1 k1' y1 y2 acM (eB XU z1) (eB XU z2) b hb hb'
    ·rw[q4]at hb
     rw[q5']at hb'
     have hlt:=(g.obj m' x' q3').va b hb'
     obtain⟨k,y,p1,p2,p3⟩:=hnew (m:=m) q2 b hb hlt
     exact g.iq m' k x' y (fun e=>q2' (e▸p1)) q3' p2 b hb' p3
    ·rw[q5]at hb
     rw[q4']at hb'
     have hlt:=(g.obj m x q3).va b hb
     obtain⟨k,y,p1,p2,p3⟩:=hnew (m:=m') q2' b hb' hlt
     exact g.iq m k x y (fun e=>q2 (e▸p1)) q3 p2 b hb p3
    ·rw[q5]at hb
     rw[q5']at hb'
     exact g.iq m m' x x' hne q3 q3' b hb hb'
   ·rcases hlk m o' hm with⟨n,p1,q1,q2,q3,q4,_⟩| ⟨q1,q2,x,q3,_,q5⟩
    ·rw[q4]at hb
     rcases eR n p1 q2 b hb with h|h
     ·exact hLz b h
     ·exact Or.inr (by omega)
    ·rw[q5]at hb
     exact g.dom m x q3 b hb
   ·cases hq:look (BB B) m with
    |none=>rw[Mn hq];exact g.pins m hm
    |some o2=>
     obtain⟨n,h1,_⟩:=mo hq
     obtain⟨_,_,p2,_,p4,_⟩:=kg CS n m _ h1
     have XF:=p4 hm
     have hin:(n,m)∈ρ0:=by
      rcases List.mem_append.1 (dQ p2)with h|h
      ·exact h
      ·have:=List.all_eq_true.1 c7 _ h
       simp only[hm]at this;cases this
     rw[ID h1]
     obtain⟨k1,k2⟩:=Io n XF
     rw[L.en hin]at k1 k2
     obtain⟨j1,j2⟩:=g.pins m hm
     exact⟨k1.trans j1,fun b hb=>j2 b (k2 b hb)⟩
  |_=>simp[QD]at h
 |_=>simp[QD]at h
end
end
section
variable{ty:Tag→Nat}
def aag(hp:Hp)(n m:Nat)(t:Tag)(l:List (T t))(r:pP:= .mH):Hp:=(m, .eZ t l r)::bW [n] [] hp
def apx:S1→Option ((t:Tag)×List (T t)×pP)
 | .a (.sl t l)=>some ⟨t,l, .mH⟩
 | .a (.Ei q t l)=>some ⟨t,l, .of q⟩
 |_=>none
def QI:pP→pP→Nat→Bool
 | .mH, .mH,_=>true
 | .of q, .of q',n=>match Nat.beq q q',Nat.beq q n with|true,false=>true|_,_=>false
 |_,_,_=>false
theorem QJ{r r':pP}{n:Nat}(h:QI r r' n=true):r=r'∧r.bz [n] []=r∧r.br:=by
 cases r with
 |gone=>cases r'<;>cases h
 |mp=>cases r'<;>cases h
 |HJ u=>cases r'<;>cases h
 |uq p=>cases r'<;>cases h
 |mH=>cases r' with
  |mH=>exact⟨rfl,rfl,trivial⟩
  |_=>cases h
 |of q=>cases r' with
  |of q'=>
   simp only[QI]at h
   split at h
   ·rename_i h1 h2
    refine⟨by rw[Nat.eq_of_beq_eq_true h1],?_,trivial⟩
    simp[pP.bz,h2]
   ·cases h
  |_=>cases h
def KR(P:Program)(ty:Tag→Nat)(Γ:Nat→TK)(st:St)(m0:Nat):Op→Option (List Prop×St×SV)
 | .call ⟨.builtin .append,xs,ts⟩=>match xs.toList,ts.toList with
   | [s,x],[t1,t2]=>match Γ t1,Nat.beq t1 t2 with
     | .sl t e,true=>match Nat.beq e (ty t),Nat.beq (kk t) 1,ff st [] s,(ff st [] x).bind apx with
       |true,true,some (.a (.tG n)),some ⟨t2',lx,r⟩=>match look st.hp n,gf t t2' lx with
        |some (.eZ t' l r'),some lx=>match gf t t' l,pinned [n],jg m0,look (bW [n] [] st.hp) m0,QI r r' n with
         |some l,false,false,none,true=>some ([El P ty t,(l.length+lx.length)*cK t≤140737488355328∧l.length+lx.length≤maxLen],
           ⟨st.n,st.sl.map fun e=>(e.1,e.2.bz [n] []),aag st.hp n m0 t (l++lx) r⟩, .one (.a (.tG m0)))
         |_,_,_,_,_=>none
        |_,_=>none
       |_,_,_,_=>none
     |_,_=>none
   |_,_=>none
 |_=>none
section
variable{P:Program}{zb:cm}{st st':St}{a:Act}{w:World}{env:Env}{Q:Exit→Act→World→Prop}{o:Oper}
theorem AH{α β:Type}(l:List α):(l.map fun _=>([]:List β)).flatten= []:=by
 induction l with
 |nil=>rfl
 |cons _ _ ih=>simpa using ih
theorem Uz{Γ:Nat→TK}(C: ∀t,cG P t (Γ t)){m0:Nat}{vc:List Prop}{v:SV}(h:KR P ty Γ st m0 o.op=some (vc,st',v))(g:Good ty zb st a.tmps w env)(hB:zb.w.heap.size≤w.heap.size)(hv: ∀q,q∈vc→q):
  o.wp P a w (fun a' w'=> ∃u env',a'=a.put o.dst u∧Kept zb w w'∧Good ty zb st' a.tmps w' env'∧st'.n=st.n∧nG w' st'.hp env' a.tmps v u) Q:=by
 have hop: ∀{x v},ff st [] x=some v→eT w st.hp env v (a.eval x):=fun hx=>dB g (fun e he=>by simp at he) hx
 generalize eJ:o.op=op at h
 cases op with
 |call c=>
  obtain⟨callee,xs,ts⟩:=c
  cases callee with
  |builtin b=>
   cases b with
   |append=>
    simp only[KR]at h
    split at h
    case h_2=>cases h
    rename_i s x t1 t2 hxl htl
    obtain rfl:xs= #[s,x]:=by cases xs;simp_all
    obtain rfl:ts= #[t1,t2]:=by cases ts;simp_all
    split at h
    case h_2=>cases h
    rename_i t e hk vi
    have vi:=Nat.eq_of_beq_eq_true vi
    subst vi
    split at h
    case h_2=>cases h
    rename_i n t2' TS r he hk1 hs hx
    have he:=Nat.eq_of_beq_eq_true he
    have hk1:=Nat.eq_of_beq_eq_true hk1
    split at h
    case h_2=>cases h
    rename_i t' l0 r' lx hl hcx
    split at h
    case h_2=>cases h
    rename_i l qY hpk Cx hlk hbk
    obtain⟨rfl,hkr,hmp⟩:=QJ hbk
    obtain⟨sx,Pp,hx⟩:=Option.bind_eq_some_iff.1 hx
    simp only[oI,pI]at h
    obtain⟨rfl,rfl,rfl⟩:=h
    obtain⟨e1,rfl⟩:=cU hcx
    subst e1
    obtain⟨e2,rfl⟩:=cU qY
    subst e2
    have qM:El P ty t':=hv _ (by simp)
    obtain⟨bf,bU⟩:(l0.length+TS.length)*cK t'≤140737488355328∧l0.length+TS.length≤maxLen:=hv _ (by simp)
    obtain⟨_,hu⟩:=hop hs
    obtain⟨fpx,Xs,hnx⟩: ∃fp,Sl (kk t') (rd t') w (a.eval x) TS fp∧ ∀(t:Tag) (y:T t) (u:Value) (f:List Nat),(∀b,b∈f→b∈fp)→rd t w [u] y f→BE w st.hp env r t y u:=by
     have hr:=hop Pp
     unfold apx at hx
     split at hx
     ·simp only[oI,Sigma.mk.injEq]at hx
      obtain⟨rfl,hx⟩:=hx
      obtain⟨rfl,rfl⟩:=Prod.mk.inj (eq_of_heq hx)
      obtain⟨fp,h1,h2⟩:=hr
      exact⟨fp,h1,fun t y u f hf hr=>⟨f,hr,fun b hb=>h2 b (hf b hb)⟩⟩
     ·simp only[oI,Sigma.mk.injEq]at hx
      obtain⟨rfl,hx⟩:=hx
      obtain⟨rfl,rfl⟩:=Prod.mk.inj (eq_of_heq hx)
      obtain⟨h0,b0,fp,h1,h2,_,h3⟩:=hr
      refine⟨_,h1,fun t y u f hf hr=>⟨h0,f,hr,fun b hb=> ?_⟩⟩
      rcases List.mem_cons.1 (hf b hb)with rfl|h
      ·exact Or.inr h2
      ·exact Or.inl (h3 b h)
     ·cases hx
    obtain⟨_,us,hBl,Ko,Is⟩:P2 ty w st.hp env t' l0 r (env n):=by
     rcases RO.Cl (g.obj n _ hl)with⟨rfl,_⟩| ⟨u,rfl,_⟩| ⟨p,rfl,_⟩| ⟨_,h⟩
     ·exact hmp.elim
     ·exact hmp.elim
     ·exact hmp.elim
     ·exact h
    obtain⟨news,fx,n1,n2,n3,n4,n5⟩:=wN (cX t') (eS t') Xs
    rw[hk1]at n3 n4
    have hC:=C t1
    rw[hk]at hC
    have hone: ∀(i:Nat) (y:Value),news[i]? =some y→y.oneCell'=true∧ ∀x,TS[i]? =some x→BE w st.hp env r t' x y:=by
     intro i y hy
     have hi:i<news.length:=(List.getElem?_eq_some_iff.1 hy).1
     have hx':TS[i]? =some (TS[i]'(by omega)):=List.getElem?_eq_getElem (by omega)
     have hf':fx[i]? =some (fx[i]'(by omega)):=List.getElem?_eq_getElem (by omega)
     have hr:=n4 i _ _ hx' hf'
     have hch:(news.drop (i*1)).take 1= [y]:=by
      rw[Nat.mul_one,List.drop_eq_getElem_cons hi]
      have:news[i]=y:=(List.getElem?_eq_some_iff.1 hy).2
      rw[this];rfl
     rw[hch]at hr
     refine⟨(cX t').one hr y (by simp),fun x hx=> ?_⟩
     rw[hx']at hx
     simp only[oI]at hx
     subst hx
     exact hnx _ _ _ _ (fun b hb=>n5.subset (List.mem_flatten.2 ⟨_,List.getElem_mem _,hb⟩)) hr
    have hB0:ig 1 P1 0 (ty t') w (a.eval s) us (env n).fp:=by rw[hu];exact hBl
    have PA:(P.info? (ty t')).map (fun i=>(i.zero,i.size,i.bytes))=some (some (eF t'),1,cK t'):=by rw[←hk1];exact qM
    refine Bs s x t1 eJ wE (by decide) 0 (ty t') (eF t') (cK t') (by rw[←he];exact hC.1) PA (by rw[←hk1];exact iJ t') _ us (env n).fp rfl hB0 _ rfl news news (news.map fun _=> [])
     (by rw[show news.length=TS.length by omega];exact n1) (by simp) (by omega) (fun i y f hy hf=> ?_) (by rw[AH,List.append_nil];exact hBl.own) (by rw[Ko,show news.length=TS.length by omega];exact bU) (by rw[Ko,show news.length=TS.length by omega];exact bf) (Nat.zero_le _) ?_
    ·have hi:i<news.length:=(List.getElem?_eq_some_iff.1 hy).1
     have hf0:f= []:=by
      rw[List.getElem?_map,hy]at hf
      simpa using hf.symm
     subst hf0
     refine⟨?_,rfl,(hone i y hy).1⟩
     rw[Nat.mul_one,List.drop_eq_getElem_cons hi]
     have:news[i]=y:=(List.getElem?_eq_some_iff.1 hy).2
     rw[this];rfl
    ·intro v' w' e9 k1 k2 k3 k4 k5 _
     have AD: ∀b,(a.eval s).ownBlock=some b→b∈(env n).fp:=by
      intro b hb
      obtain⟨xs,bn,_,_,_,eR,_⟩:=hB0
      rw[eR,hb];simp
     obtain⟨env',hg',CC,_,_⟩:=yU (ty:=ty) g hB (ks:= [n]) hpk Cx hlk (v:=a.eval s) (v':=v') (ob:= .eZ t' (l0++TS) r) (fp:=(env n).fp) (fx:= []) (e9:=e9)
      (by
       intro b hb
       rw[List.append_nil]at hb
       exact⟨n,_,by simp,hl,hb⟩)
      AD
      (by
       intro acN hd s2
       refine RO.N4 hmp ⟨hk1,us++news,k1,by rw[List.length_append,List.length_append,Ko];omega,fun i x u hx Pn=> ?_⟩
       by_cases hi:i<l0.length
       ·rw[List.getElem?_append_left hi]at hx
        rw[List.getElem?_append_left (by omega)]at Pn
        have UA:=BE.gr s2 (r:=r) (Is i x u hx Pn);rw[hkr]at UA;exact UA
       ·rw[List.getElem?_append_right (by omega)]at hx
        rw[List.getElem?_append_right (by omega),Ko]at Pn
        have UA:=BE.gr s2 (r:=r) ((hone _ u Pn).2 x hx);rw[hkr]at UA;exact UA)
      k2 (by intro b hb;rcases k4 b hb with h|h|h
             ·exact Or.inl h
             ·rw[AH]at h;cases h
             ·exact Or.inr (Or.inr h))
     refine⟨v',env',rfl,⟨k2.os,k2.tape,k2.output,k2.size,fun b hb hn=>k2.block b (by omega) fun e=> ?_,k5⟩,hg',rfl,⟨t',_,_,look_eq⟩,CC.symm⟩
     rcases g.dom n _ hl b (AD b e.symm)with h|h
     ·exact hn h
     ·omega
   |_=>simp[KR]at h
  |_=>simp[KR]at h
 |_=>simp[KR]at h
end
def Wu:Hp→Option (Nat×(t:Tag)×List (T t)×Value)
 | []=>none
 | (n, .eZ t l (.HJ u))::_=>some (n,⟨t,l,u⟩)
 |_::r=>Wu r
def QK(hp:Hp)(n:Nat)(t:Tag):Option (List (T t)×Value):=match look hp n with
 |some (.eZ t' l (.HJ u))=>match gf t t' l with|some l=>some (l,u)|none=>none
 |_=>none
def acO(hp:Hp):Option Nat:=match Wu hp with|some (n,_)=>some n|none=>none
def UB(P:Program)(ty:Tag→Nat)(Γ:Nat→TK)(st:St)(m0:Nat):Op→Option (List Prop×St×SV)
 | .call ⟨.builtin .append,xs,ts⟩=>match xs.toList,ts.toList with
   | [s,x],[t1,t2]=>match Γ t1,Nat.beq t1 t2 with
     | .sl t e,true=>match Nat.beq e (ty t),ff st [] s,ff st [] x,acO st.hp with
       |true,some vs,some (.a (.raw u)),some n=>match CA st t vs,QK st.hp n t with
        |some (l,k),some (lx,u')=>match wP k [n]&& !pinned (l6 k [n])&& !jg m0,look (bW (l6 k [n]) [] st.hp) m0 with
         |true,none=>some ([u=u',El P ty t,(l.length+lx.length)*cK t≤140737488355328∧l.length+lx.length≤maxLen],
           st.gone (l6 k [n]) m0 t (l++lx), .one (.a (.own m0)))
         |_,_=>none
        |_,_=>none
       |_,_,_,_=>none
     |_,_=>none
   |_,_=>none
 |_=>none
theorem QL{zb:cm}{st:St}{tmps:Array Value}{w:World}{env:Env}(g:Good ty zb st tmps w env){t:Tag}{n:Nat}{l:List (T t)}{u:Value}(h:QK st.hp n t=some (l,u)):
  ∃(news:List Value) (fx:List (List Nat)),Src w u l.length news∧fx.length=l.length∧news.length=l.length*kk t∧(∀i x f,l[i]? =some x→fx[i]? =some f→rd t w ((news.drop (i*kk t)).take (kk t)) x f)∧
   (∀b,b∈fx.flatten→ ∃i o,i∈ [n]∧look st.hp i=some o∧b∈(env i).fp)∧Own 0 w fx.flatten:=by
 unfold QK at h
 split at h
 case h_2=>cases h
 rename_i t' l' u' hl
 split at h
 case h_2=>cases h
 rename_i l2 hc
 simp only[oI,pI]at h
 obtain⟨rfl,rfl⟩:=h
 obtain⟨e,rfl⟩:=cU hc
 subst e
 obtain⟨_,ho,fp,hs,h2⟩:F9 w st.hp env t' l' u' (env n):=by
  rcases RO.Cl (g.obj n _ hl)with⟨h,_⟩| ⟨u,h,hh⟩| ⟨p,h,_⟩| ⟨h,_⟩
  ·cases h
  ·cases h;exact hh
  ·cases h
  ·exact h.elim
 obtain⟨news,fx,h1,h3,h4,h5,h6,h7⟩:=oP (cX t') (eS t') hs
 have BW:fx.flatten=(env n).fp:=by
  rcases h2 with⟨rfl,h2⟩| ⟨b,rfl,_⟩
  ·rw[h2];exact List.sublist_nil.1 h6
  ·exact h7 b _ rfl
 exact⟨news,fx,h1,h3,h4,h5,fun b hb=>⟨n,_,by simp,hl,by rw[←BW];exact hb⟩,by rw[BW];exact ho⟩
section
variable{P:Program}{zb:cm}{st:St}{a:Act}{w:World}{env:Env}{Q:Exit→Act→World→Prop}{o:Oper}
theorem UC{Γ:Nat→TK}(C: ∀t,cG P t (Γ t)){m0:Nat}{vc:List Prop}{st':St}{v:SV}(h:UB P ty Γ st m0 o.op=some (vc,st',v))(g:Good ty zb st a.tmps w env)(hB:zb.w.heap.size≤w.heap.size)(hv: ∀q,q∈vc→q):
  o.wp P a w (fun a' w'=> ∃u env',a'=a.put o.dst u∧Kept zb w w'∧Good ty zb st' a.tmps w' env'∧st'.n=st.n∧nG w' st'.hp env' a.tmps v u) Q:=by
 have hop: ∀{x v},ff st [] x=some v→eT w st.hp env v (a.eval x):=fun hx=>dB g (fun e he=>by simp at he) hx
 generalize eJ:o.op=op at h
 unfold UB at h
 split at h
 case h_2=>cases h
 rename_i xs ts
 split at h
 case h_2=>cases h
 rename_i s x t1 t2 hxl htl
 obtain rfl:xs= #[s,x]:=by cases xs;simp_all
 obtain rfl:ts= #[t1,t2]:=by cases ts;simp_all
 split at h
 case h_2=>cases h
 rename_i t e hk vi
 have vi:=Nat.eq_of_beq_eq_true vi
 subst vi
 split at h
 case h_2=>cases h
 rename_i vs ux n he hs hx Zx
 have he:=Nat.eq_of_beq_eq_true he
 split at h
 case h_2=>cases h
 rename_i l k lx u' hds Um
 split at h
 case h_2=>cases h
 rename_i hno hlk
 simp only[Bool.and_eq_true,Bool.not_eq_true']at hno
 obtain⟨⟨hno,hpk⟩,Cx⟩:=hno
 rw[dM]at hpk
 have XB:pinned k=false:=by
  unfold pinned at hpk ⊢
  rw[List.any_append,Bool.or_eq_false_iff]at hpk
  exact hpk.1
 simp only[oI,pI,dM]at h
 rw[dM]at hlk
 obtain⟨rfl,h2,rfl⟩:=h
 rw[St.gone_eq]at h2
 subst h2
 have huu:ux=u':=hv _ (by simp)
 subst huu
 have qM:El P ty t:=hv _ (by simp)
 obtain⟨bf,bU⟩:(l.length+lx.length)*cK t≤140737488355328∧l.length+lx.length≤maxLen:=hv _ (by simp)
 obtain⟨fp,hD,rH⟩:=yW g (hop hs) hds XB
 obtain⟨news,fx,n1,n2,n3,n4,n5,n6⟩:=QL g Um
 obtain⟨ZZ,_⟩:=hop hx
 rw[←ZZ]at n1
 have hC:=C t1
 rw[hk]at hC
 have NP:Own 0 w (fp++fx.flatten):=by
  have ho:=hD.own
  refine⟨List.nodup_append.2 ⟨ho.nodup,n6.nodup,?_⟩,fun b hb=> ?_,fun b hb=> ?_⟩
  ·rintro b hb c hc rfl
   obtain⟨i,oi,hi,h1,h2⟩:=rH b hb
   obtain⟨j,oj,hj,h3,h4⟩:=n5 b hc
   have hij:i≠j:=by
    rintro rfl
    simp only[wP,List.all_eq_true,Bool.not_eq_true',List.any_eq_false]at hno
    exact hno i hi i hj (by simp)
   exact g.iq i j _ _ hij h1 h3 b h2 h4
  ·rcases List.mem_append.1 hb with hb|hb
   ·exact ho.ge b hb
   ·exact n6.ge b hb
  ·rcases List.mem_append.1 hb with hb|hb
   ·exact ho.kind b hb
   ·exact n6.kind b hb
 refine Bs s x t1 eJ (cX t) (eS t) 0 (ty t) (eF t) (cK t) (by rw[←he];exact hC.1) qM (iJ t) _ l fp rfl hD _ rfl lx news fx n1 n2 n3 n4 NP bU bf (Nat.zero_le _) ?_
 intro v' w' e9 k1 k2 k3 k4 k5 _
 obtain⟨env',hg',CC⟩:=wO (ty:=ty) g hB (ks:=k++ [n]) hpk Cx hlk (v:=a.eval s) (fp:=fp) (fx:=fx.flatten)
  (by
   intro b hb
   rcases List.mem_append.1 hb with hb|hb
   ·obtain⟨i,oi,hi,h1⟩:=rH b hb;exact⟨i,oi,List.mem_append_left _ hi,h1⟩
   ·obtain⟨i,oi,hi,h1⟩:=n5 b hb;exact⟨i,oi,List.mem_append_right _ hi,h1⟩)
  (by
   intro b hb
   obtain⟨xs,bn,_,_,_,eR,_⟩:=hD
   rw[eR,hb];simp)
  k1 k2 k4
 refine⟨v',env',rfl,⟨k2.os,k2.tape,k2.output,k2.size,fun b hb hn=>k2.block b (by omega) fun e=> ?_,k5⟩,hg',rfl,⟨t,_,look_eq⟩,CC.symm⟩
 have KG:b∈fp:=by
  obtain⟨xs,bn,_,_,_,eR,_⟩:=hD
  rw[eR, ←e];simp
 obtain⟨i,oi,hi,h1,h2⟩:=rH b KG
 rcases g.dom i oi h1 b h2 with h|h
 ·exact hn h
 ·omega
end
theorem QM{t:Tag}{w:World}{e:Nat}{v:Value}{l:List (T t)}{fp:List Nat}(h:ig (kk t) (rd t) 0 e w v l fp){j:Nat}(hj:j≤l.length):
  ∃oa cap,v= .slice oa l.length cap∧l.length≤cap∧ ∃e9,ig (kk t) (rd t) 0 e w (Pk oa cap (kk t) j l.length) (l.drop j) e9∧ ∀b,b∈e9→b∈fp:=by
 have ho:=h.own
 obtain⟨oa,cap,hv,hc,hm,h3⟩:=h.sl
 refine⟨oa,cap,hv,hc,?_⟩
 rcases h.parts with⟨rfl,rfl,rfl⟩| ⟨g,o,n,c,XI,N9,hn,hnm,q1,q2,aaj⟩
 ·simp only[Value.slice.injEq]at hv
  obtain⟨rfl,_,rfl⟩:=hv
  obtain rfl:j=0:=by simpa using hj
  exact⟨[],ig.nil _ _ _ _ _,by simp⟩
 ·rw[N9]at hv
  simp only[Value.slice.injEq,true_and]at hv
  obtain⟨rfl,rfl⟩:=hv
  have hnil:n=j→ ∃e9,ig (kk t) (rd t) 0 e w (Pk (some ⟨g,o,none⟩) n (kk t) j l.length) (l.drop j) e9∧ ∀b,b∈e9→b∈fp:=by
   rintro rfl
   have e0:l.drop n= []:=List.drop_eq_nil_of_le hn
   have e1:l.length=n:=by omega
   refine⟨[g],?_,fun b hb=>by rw[aaj];rw[List.mem_singleton.1 hb];simp⟩
   rw[e0]
   have:Pk (some ⟨g,o,none⟩) n (kk t) n l.length= .slice (some ⟨g,o,none⟩) ([]:List (T t)).length 0:=by
    unfold Pk;rw[if_pos rfl,e1,Nat.sub_self];rfl
   rw[this]
   refine iU (cX t) (bn:= []) q1 (by omega) (Nat.zero_le _) (Nat.zero_le _) ⟨rfl,by simp⟩ ⟨by simp,by simp,fun b hb=> ?_⟩
   simp only[List.flatten_nil,List.mem_singleton]at hb
   exact⟨_,_,by rw[hb];exact q1⟩
  by_cases ZP:n=j
  ·exact hnil ZP
  ·rcases h3 with⟨rfl,_,_⟩| ⟨b,off,bn,hb,acu,eR,hE⟩
   ·refine⟨[g],?_,fun b hb=>by rw[aaj];rw[List.mem_singleton.1 hb];simp⟩
    obtain rfl:j=0:=by simpa using hj
    have:Pk (some ⟨g,o,none⟩) n (kk t) 0 ([]:List (T t)).length= .slice (some ⟨g,o,none⟩) ([]:List (T t)).length n:=by
     unfold Pk;rw[if_neg ZP];simp[Addr.add_mid]
    rw[this]
    refine iU (cX t) (bn:= []) q1 q2 (Nat.zero_le _) hm ⟨rfl,by simp⟩ ⟨by simp,by simp,fun b hb=> ?_⟩
    simp only[List.flatten_nil,List.mem_singleton]at hb
    exact⟨_,_,by rw[hb];exact q1⟩
   ·simp only[oI,Addr.mk.injEq,and_true]at hb
    obtain⟨rfl,rfl⟩:=hb
    have hsub: ∀b,b∈g::(bn.drop j).flatten→b∈fp:=by
     intro b hb
     rw[eR]
     rcases List.mem_cons.1 hb with rfl|hb
     ·simp
     ·exact List.mem_cons_of_mem _ ((nN (List.drop_sublist j bn)).subset hb)
    have lO:l.length-j=(l.drop j).length:=by simp
    refine⟨g::(bn.drop j).flatten,?_,hsub⟩
    have:Pk (some ⟨g,o,none⟩) n (kk t) j l.length= .slice (some ⟨g,o+j*kk t,none⟩) (l.drop j).length (n-j):=by
     unfold Pk;rw[if_neg ZP,lO];simp[Addr.add_mid]
    rw[this]
    refine iU (cX t) q1 ?_ (by rw[←lO];omega) (by omega) ⟨by simp[hE.1],fun i x f hx hf=> ?_⟩ ?_
    ·have h5:j*kk t≤n*kk t:=Nat.mul_le_mul_right _ (by omega)
     rw[Nat.sub_mul];omega
    ·rw[List.getElem?_drop]at hx hf
     obtain⟨cs,k1,k2⟩:=hE.2 _ x f hx hf
     exact⟨cs,by rw[Nat.add_assoc, ←Nat.add_mul];exact k1,k2⟩
    ·rw[eR]at ho
     have hss:(g::(bn.drop j).flatten).Sublist (g::bn.flatten):=List.Sublist.cons_cons _ (nN (List.drop_sublist j bn))
     exact⟨hss.nodup ho.nodup,fun b hb=>ho.ge b (hss.subset hb),fun b hb=>ho.kind b (hss.subset hb)⟩
def UD(Γ:Nat→TK)(cr:List (Nat×CR))(st:St)(m0:Nat)(d:Option Nat):Op→Option (List Prop×St×SV)
 | .slice t x (some lo) none none=>match d,Γ t with
   |some dd, .sl g _=>match(look cr (dd+600000)).isSome,ff st [] x,N1 st [] lo with
    |true,some (.a (.own n)),some (_,lo)=>match look st.hp n with
     |some (.arr t' l)=>match Nat.beq (kk g) (kk t'),pinned [n],jg m0,look (bW [n] [] st.hp) m0 with
      |true,false,false,none=>some ([0≤lo∧lo≤(l.length:Int)],st.gone [n] m0 t' (l.drop lo.toNat), .one (.a (.own m0)))
      |_,_,_,_=>none
     |_=>none
    |_,_,_=>none
   |_,_=>none
 |_=>none
section
variable{P:Program}{zb:cm}{st:St}{a:Act}{w:World}{env:Env}{Q:Exit→Act→World→Prop}{o:Oper}
theorem UE{Γ:Nat→TK}(C: ∀t,cG P t (Γ t)){cr:List (Nat×CR)}{m0:Nat}{d:Option Nat}{vc:List Prop}{st':St}{v:SV}(h:UD Γ cr st m0 d o.op=some (vc,st',v))(g:Good ty zb st a.tmps w env)(hB:zb.w.heap.size≤w.heap.size)(hv: ∀q,q∈vc→q):
  o.wp P a w (fun a' w'=> ∃u env',a'=a.put o.dst u∧Kept zb w w'∧Good ty zb st' a.tmps w' env'∧st'.n=st.n∧nG w' st'.hp env' a.tmps v u) Q:=by
 have hop: ∀{x v},ff st [] x=some v→eT w st.hp env v (a.eval x):=fun hx=>dB g (fun e he=>by simp at he) hx
 generalize eJ:o.op=op at h
 unfold UD at h
 split at h
 case h_2=>cases h
 rename_i t x lo
 split at h
 case h_2=>cases h
 rename_i dd gt e hk
 split at h
 case h_2=>cases h
 rename_i n kk0 j hkey hx hlo
 split at h
 case h_2=>cases h
 rename_i t' l hl
 split at h
 case h_2=>cases h
 rename_i hkk hpk Cx hlk
 have hkk:=Nat.eq_of_beq_eq_true hkk
 simp only[oI,pI]at h
 obtain⟨rfl,h2,rfl⟩:=h
 rw[St.gone_eq]at h2
 subst h2
 obtain⟨q0,q1⟩:=hv _ (List.mem_singleton.2 rfl)
 have hC:=C t
 rw[hk]at hC
 obtain⟨_,hu⟩:=hop hx
 have hBl:=RO.TJ (mM hpk (by simp)) (g.obj n _ hl)
 obtain⟨oa,cap,A9,hcap,e9,XA,hsub⟩:=QM hBl (j:=j.toNat) (by omega)
 have hex:a.eval x= .slice oa l.length cap:=by rw[←A9];exact hu
 have acP:a.eval lo= .int kk0 j:=by
  unfold N1 at hlo
  split at hlo
  ·rename_i k i hq
   simp only[oI,pI]at hlo
   obtain⟨rfl,rfl⟩:=hlo
   exact(hop hq).lit
  ·cases hlo
 have hrun:=Md (P:=P) (w:=w) eJ hC hex (n1:=j) (n2:=(l.length:Int)) (Or.inr ⟨lo,kk0,rfl,acP⟩) (Or.inl ⟨rfl,rfl⟩) q0 q1 (Int.le_refl _) hcap
 have AD: ∀b,(env n).v.ownBlock=some b→b∈(env n).fp:=by
  intro b hb
  obtain⟨xs,bn,_,_,_,eR,_⟩:=hBl
  rw[eR,hb];simp
 obtain⟨env',hg',CC,_,_⟩:=yV (ty:=ty) g hB (ks:= [n]) hpk Cx hlk (v:=(env n).v) (w':=w) (fp:=(env n).fp) (fx:= [])
  (by
   intro b hb
   rw[List.append_nil]at hb
   exact⟨n,_,by simp,hl,hb⟩) AD XA ⟨rfl,rfl,rfl,Nat.le_refl _,fun _ _ _=>rfl⟩ (fun b hb=>Or.inl (hsub b hb))
 unfold Oper.wp
 rw[hrun]
 refine⟨_,env',rfl,Kept.refl _ _,hg',rfl,⟨t',_,look_eq⟩,?_⟩
 rw[CC,hkk]
 rfl
end
end
end Go.Proofs.YtkcegdacbddipaaGreat.G
