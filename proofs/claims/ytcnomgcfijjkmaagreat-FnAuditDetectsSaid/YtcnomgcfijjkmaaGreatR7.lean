/-
  Calls that are lent memory: the theorem.
-/
import Derived.Laws.OwnMore
import Derived.Test.YtcnomgcfijjkmaaGreatR6
namespace Go.Proofs.YtcnomgcfijjkmaaGreat.G
set_option linter.all false
open Go.RowKit L D
section
variable{ty:Tag→Nat}
theorem kO: ∀(vs:List Value) (cs:List Value) (o:Nat),o+vs.length≤cs.length→splice (Array.mk cs) o vs=Array.mk (cs.take o++(vs++cs.drop (o+vs.length)))
 | [],cs,o,h=>by simp[splice,List.take_append_drop]
 |v::r,cs,o,h=>by
  simp only[List.length_cons]at h
  have e0:cs.set o v=cs.take o++v::cs.drop (o+1):=by
   rw[List.set_eq_take_append_cons_drop,if_pos (by omega)]
  have hl:(cs.take o).length=o:=by rw[List.length_take];omega
  have t1:(cs.take o++v::cs.drop (o+1)).take (o+1)=cs.take o++ [v]:=by
   rw[List.take_append,hl,show o+1-o=1 by omega,List.take_of_length_le (by rw[hl];omega)];rfl
  have t2:(cs.take o++v::cs.drop (o+1)).drop (o+1+r.length)=cs.drop (o+1+r.length):=by
   rw[List.drop_append,hl,show o+1+r.length-o=r.length+1 by omega,List.drop_succ_cons,List.drop_drop,List.drop_eq_nil_of_le (as:=cs.take o) (by rw[hl];omega),List.nil_append]
  rw[splice,List.setIfInBounds_toArray,kO r _ _ (by simp;omega),e0,t1,t2,List.append_assoc,List.length_cons,show o+(r.length+1)=o+1+r.length by omega]
  rfl
theorem Ce{R:V→Value→Prop}{c c' vs:List V}{cs us:List Value}{off:Nat}(h:bg R c cs)(hv:bg R vs us)(hs:Az c off vs=some c'):off+us.length≤cs.length∧bg R c' (cs.take off++(us++cs.drop (off+us.length))):=by
 unfold Az at hs
 split at hs
 ·rename_i hb
  have hb:=Nat.le_of_ble_eq_true hb
  simp only[oI]at hs
  subst hs
  have h1:=h.len
  have h2:=hv.len
  refine⟨by omega,bg.app (h.take off) (bg.app hv ?_)⟩
  rw[h2];exact h.drop _
 ·cases hs
theorem mR(off:Nat): ∀(l:List Value) (n:Nat) (c:Array Value),(l.zipIdx n).foldl (fun cs (p:Value×Nat)=>cs.setIfInBounds (off+p.2) p.1) c=splice c (off+n) l
 | [],_,_=>rfl
 |v::r,n,c=>by rw[List.zipIdx_cons,List.foldl_cons,mR off r (n+1)];rfl
def sL:Nat→List Value→List (Nat×Value)
 |_,[]=> []
 |i,v::r=>(i,v)::sL (i+1) r
theorem yu{k:Nat}: ∀(ps:List Value) (i:Nat) (cells:List Value),(∀v,v∈ps→v.cells.size=k)→cells.length=(i+ps.length)*k→
  Instr.fill (fun i=>some (i*k,k)) (Array.mk cells) (sL i ps)=some (Array.mk (cells.take (i*k)++ps.flatMap fun v=>v.cells.toList))
 | [],i,cells,_,h=>by
   rw[sL,Instr.fill,List.take_of_length_le (by rw[h];simp)];simp
 |v::r,i,cells,hk,h=>by
  have hv:=hk v (by simp)
  have hlen:i*k+k≤cells.length:=by
   rw[h,List.length_cons,show i+(r.length+1)=(i+1)+r.length by omega,Nat.add_mul (i+1),Nat.add_mul i 1,Nat.one_mul];omega
  rw[sL,Instr.fill]
  simp only[hv,ne_eq,not_true_eq_false,decide_false,Bool.false_or,List.size_toArray]
  rw[if_neg (by simp;omega)]
  have KR:(v.cells.zipIdx.foldl (fun cs (x:Value×Nat)=>cs.setIfInBounds (i*k+x.2) x.1) (Array.mk cells))=splice (Array.mk cells) (i*k) v.cells.toList:=by
   rw[←Array.foldl_toList,Array.toList_zipIdx,mR,Nat.add_zero]
  have hsz:v.cells.toList.length=k:=by simpa using hv
  have:=kO v.cells.toList cells (i*k) (by omega)
  show Instr.fill _ (v.cells.zipIdx.foldl (fun cs (x:Value×Nat)=>cs.setIfInBounds (i*k+x.2) x.1) (Array.mk cells)) _=_
  rw[KR,this,yu r (i+1) _ (fun u hu=>hk u (by simp[hu])) (by
   simp only[List.length_append,List.length_take,List.length_drop,hsz]
   rw[h,List.length_cons]at*
   have:(i+1+r.length)*k=(i+(r.length+1))*k:=by congr 1;omega
   rw[this]
   omega)]
  have h1:(i+1)*k=i*k+k:=by rw[Nat.add_mul,Nat.one_mul]
  have t:((cells.take (i*k))++(v.cells.toList++cells.drop (i*k+v.cells.toList.length))).take ((i+1)*k)=cells.take (i*k)++v.cells.toList:=by
   rw[←List.append_assoc]
   exact List.take_left' (by rw[List.length_append,List.length_take,hsz,h1];omega)
  rw[t,List.flatMap_cons,List.append_assoc]
theorem oz{k:Nat}: ∀{ps:List (List Value)} {i:Nat} {c:List Value},(∀v,v∈ps→v.length=k)→ps[i]? =some c→(((ps.flatMap id).drop (i*k)).take k)=c
 |p::r,0,c,hk,h=>by
  simp at h
  subst h
  have:=hk p (by simp)
  rw[List.flatMap_cons,Nat.zero_mul,List.drop_zero,List.take_append]
  simp[←this]
 |p::r,i+1,c,hk,h=>by
  have hp:=hk p (by simp)
  rw[List.flatMap_cons,List.drop_append,show(id p).length=k from hp,List.drop_eq_nil_of_le (by rw[show(id p).length=k from hp,Nat.add_mul];omega),List.nil_append,show(i+1)*k-k=i*k by rw[Nat.add_mul];omega]
  exact oz (fun v hv=>hk v (by simp[hv])) (by simpa using h)
theorem oA{k:Nat}: ∀{ps:List (List Value)},(∀v,v∈ps→v.length=k)→(ps.flatMap id).length=ps.length*k
 | [],_=>by simp
 |p::r,hh=>by
  rw[List.flatMap_cons,List.length_append,oA fun v hv=>hh v (by simp[hv]),show(id p).length=k from hh p (by simp),List.length_cons,Nat.add_mul];omega
section
variable{P:Program}{a:Act}{w:World}{o:Oper}
theorem uA{t len:Nat}{parts:Array (Nat×Operand)}(ho:o.op= .buildSlice t len parts){g:Tag}(hu:P.underlying t=some (.slice (ty g)))(oB:El P ty g)(hbig:len*kk g≤16777216)(hlen:parts.toList.length=len){lo:Nat}(hlo:lo≤w.heap.size)
  {xs:List (T g)}{aO:List (List Nat)}(q1:(parts.toList.map fun p=>(p.1,a.eval p.2))=sL 0 (parts.toList.map fun p=>a.eval p.2))(q2:xs.length=parts.toList.length)(q3:aO.length=xs.length)
  (q4: ∀(i:Nat) (x:T g) (f:List Nat),xs[i]? =some x→aO[i]? =some f→ ∃p:Nat×Operand,parts.toList[i]? =some p∧rd g w (a.eval p.2).cells.toList x f)(q5:Own lo w aO.flatten):
  ∃w',(execOp a.eval o).run P w= .ok (.value (.slice (some ⟨w.heap.size,0,none⟩) len len)) w'∧Below w.heap.size w w'∧fZ (kk g) (rd g) lo (ty g) w' (.slice (some ⟨w.heap.size,0,none⟩) len len) xs (w.heap.size::aO.flatten):=by
 have hkp:=eu g
 have um: ∀v,v∈(parts.toList.map fun p=>a.eval p.2)→v.cells.size=kk g:=by
  intro v hv
  obtain⟨i,hi⟩:=List.getElem?_of_mem hv
  have hil:i<xs.length:=by have:=(List.getElem?_eq_some_iff.1 hi).1;simp at this;rw[q2];simpa using this
  have hfl:i<aO.length:=by omega
  obtain⟨p,h1,h2⟩:=q4 i xs[i] aO[i] (List.getElem?_eq_getElem hil) (List.getElem?_eq_getElem hfl)
  rw[List.getElem?_map,h1]at hi
  simp at hi
  subst hi
  simpa using(cF g).len h2
 cases hq:P.info? (ty g)with
 |none=>simp[El,hq]at oB
 |some inf=>
  simp[El,hq]at oB
  obtain⟨z1,z2,z3⟩:=oB
  let zs:List Value:=(List.range (len*kk g)).map fun j=>(if len*kk g=0 then #[]else(dN g).cells)[j % (if len*kk g=0 then #[]else(dN g).cells).size]!
  have hzl:zs.length=len*kk g:=by simp[zs]
  have hf:=yu (k:=kk g) (parts.toList.map fun p=>a.eval p.2) 0 zs um (by rw[hzl,List.length_map,hlen,Nat.zero_add])
  rw[Nat.zero_mul,List.take_zero,List.nil_append]at hf
  have hrun:(execOp a.eval o).run P w= .ok (.value (.slice (some ⟨w.heap.size,0,none⟩) len len)) (w.alloc (.cells (Array.mk ((parts.toList.map fun p=>a.eval p.2).flatMap fun v=>v.cells.toList)) (ty g) (0,0))):=by
   unfold execOp
   have kP:(parts.map fun(p:Nat×Operand)=>(p.1,a.eval p.2)).toList=sL 0 (parts.toList.map fun p=>a.eval p.2):=by
    rw[Array.toList_map];exact q1
   have hzs:((Array.range (len*kk g)).map fun j=>(if len*kk g=0 then #[]else(dN g).cells)[j % (if len*kk g=0 then #[]else(dN g).cells).size]!)=Array.mk zs:=by
    simp only[zs]
    apply Array.ext'
    simp
   have Xo:(sizeOf (ty g)).run P w= .ok (kk g) w:=by simp[sizeOf,typeInfo,hq,z2]
   simp only[ho,Instr.buildSlice,Sem.run_bind,run_underlying hu,Result.andThen_ok,Xo]
   rw[if_neg (by omega)]
   by_cases hz0:len*kk g=0
   ·simp only[if_pos hz0]at hzs ⊢
    simp only[Sem.run_bind,Sem.run_pure,Result.andThen_ok]
    rw[hzs,kP,hf]
    simp[newRow]
   ·have Xp:(zeroValue (ty g)).run P w= .ok (dN g) w:=by simp[zeroValue,typeInfo,hq,z1]
    simp only[if_neg hz0]at hzs ⊢
    simp only[Sem.run_bind,Xp,Sem.run_pure,Result.andThen_ok]
    rw[hzs,kP,hf]
    simp[newRow]
  have hps:((parts.toList.map fun p=>a.eval p.2).flatMap fun v=>v.cells.toList)=((parts.toList.map fun p=>(a.eval p.2).cells.toList).flatMap id):=by
   simp[List.flatMap_map]
  have KS: ∀v,v∈(parts.toList.map fun p=>(a.eval p.2).cells.toList)→v.length=kk g:=by
   intro v hv
   obtain⟨p,hp,rfl⟩:=List.mem_map.1 hv
   simpa using um _ (List.mem_map.2 ⟨p,hp,rfl⟩)
  have A9:=oA KS
  rw[List.length_map,hlen]at A9
  have hb0:Below w.heap.size w (w.alloc (.cells (Array.mk ((parts.toList.map fun p=>a.eval p.2).flatMap fun v=>v.cells.toList)) (ty g) (0,0))):=(Below.refl _ _).alloc (Nat.le_refl _) _
  have Xq:=q5.lt
  refine⟨_,hrun,hb0,((parts.toList.map fun p=>a.eval p.2).flatMap fun v=>v.cells.toList),aO,⟨?_,Or.inr ⟨w.heap.size,0,len,Array.mk ((parts.toList.map fun p=>a.eval p.2).flatMap fun v=>v.cells.toList),?_,hlo,?_,?_,?_,?_,?_⟩⟩,q3,?_,rfl,?_⟩
  ·rw[hps,A9,q2,hlen]
  ·rw[q2,hlen]
  ·exact lU rfl
  ·rw[q2,hlen];exact Nat.le_refl _
  ·unfold maxLen;have:=Nat.le_mul_of_pos_right len hkp;omega
  ·rw[List.size_toArray,hps,A9];omega
  ·rw[List.drop_zero,List.take_of_length_le];simp only[hps,A9,q2,hlen];exact Nat.le_refl _
  ·intro i x f hx Ob
   obtain⟨p,h1,h2⟩:=q4 i x f hx Ob
   have hkey:(((parts.toList.map fun p=>a.eval p.2).flatMap fun v=>v.cells.toList).drop (i*kk g)).take (kk g)=(a.eval p.2).cells.toList:=by
    rw[hps];exact oz KS (by rw[List.getElem?_map,h1];rfl)
   rw[hkey]
   exact(cF g).below h2 hb0
  ·refine⟨List.nodup_cons.2 ⟨fun hm=>by have:=Xq _ hm;omega,q5.nodup⟩,fun b hb=> ?_,fun b hb=> ?_⟩
   ·rcases List.mem_cons.1 hb with rfl|hb
    ·exact hlo
    ·exact q5.ge b hb
   ·rcases List.mem_cons.1 hb with rfl|hb
    ·exact⟨_,_,lU rfl⟩
    ·exact(q5.below hb0).kind b hb
theorem KT(z:Array Value)(n k i:Nat)(hk:z.size=k)(hi:i<n)(hk0:0<k):(((madeCells z (n*k)).toList.drop (i*k)).take k)=z.toList:=by
 apply List.ext_getElem?
 intro j
 have h5:i*k+k≤n*k:=by
  have:=Nat.mul_le_mul_right k (show i+1≤n by omega)
  rw[Nat.add_mul]at this;omega
 by_cases hj:j<k
 ·rw[List.getElem?_take,if_pos hj,List.getElem?_drop]
  simp only[madeCells,Array.toList_map,Array.toList_range,List.getElem?_map]
  rw[List.getElem?_range (by omega),hk]
  simp only[Option.map_some]
  have hm:(i*k+j)% k=j:=by rw[Nat.mul_comm,Nat.mul_add_mod];exact Nat.mod_eq_of_lt hj
  rw[hm]
  have:j<z.size:=by omega
  simp[this]
 ·rw[List.getElem?_take,if_neg hj]
  rw[List.getElem?_eq_none (by simp;omega)]
theorem KU{t:Nat}{x y:Operand}(ho:o.op= .makeSlice t x y){g:Tag}(hu:P.underlying t=some (.slice (ty g)))(oB:El P ty g){k1 k2:IntKind}{n:Int}(hx:a.eval x= .int k1 n)(hy:a.eval y= .int k2 n)(h0:0≤n)(hb:n.toNat*dB g≤140737488355328)(hm:n.toNat≤maxLen):
  ∃w' u fp,(execOp a.eval o).run P w= .ok (.value u) w'∧Below w.heap.size w w'∧fZ (kk g) (rd g) w.heap.size (ty g) w' u (List.replicate n.toNat (aA g)) fp:=by
 cases hq:P.info? (ty g)with
 |none=>simp[El,hq]at oB
 |some inf=>
  simp[El,hq]at oB
  obtain⟨z1,z2,z3⟩:=oB
  obtain⟨w',hr,hrow,hg⟩:=run_make_full (P:=P) w w.heap.size t (ty g) inf (dN g) (kk g) hu hq z1 z2 k1 k2 n.toNat (by rw[z3,Nat.mul_comm];omega) hm (Nat.le_refl _)
  rw[Int.toNat_of_nonneg h0]at hr
  refine⟨w', .slice (some ⟨w.heap.size,0,none⟩) n.toNat n.toNat,[w.heap.size],?_,⟨hg.os,hg.tape,hg.output,hg.size,fun b hb=>hg.block b hb (by simp)⟩,(madeCells (dN g).cells (n.toNat*kk g)).toList,List.replicate n.toNat [],?_,by simp,?_,?_,?_⟩
  ·unfold execOp
   simp only[ho,hx,hy,Sem.run_bind,hr,Result.andThen_ok,Sem.run_pure]
  ·rw[List.length_replicate];exact fM.of hrow
  ·intro i v f hi hf
   rw[List.getElem?_replicate]at hi hf
   split at hi
   ·rename_i hlt
    rw[if_pos hlt]at hf
    simp only[oI]at hi hf
    subst hi;subst hf
    rw[KT _ _ _ _ (ij g) hlt (eu g)]
    exact OF g
   ·cases hi
  ·simp[Value.ownBlock]
  ·refine⟨by simp,by simp,fun b hb=> ?_⟩
   rcases hrow.2 with⟨h,_⟩| ⟨g',cap,cur,h,_,hh,_⟩
   ·cases h
   ·simp only[Value.slice.injEq,oI,Addr.mk.injEq,and_true]at h
    rw[List.mem_singleton.1 hb,h.1]
    exact⟨_,_,hh⟩
end
end
section
variable{ty:Tag→Nat}
section
variable{P:Program}{zb:bP}{st:St}{a:Act}{w:World}{env:Env}{Q:Exit→Act→World→Prop}{o:Oper}
theorem yw{hp:Hp}{env:Env}: ∀{z:List Value},(∀v,v∈z→v.oneCell'=true)→bg (RA w hp env) (z.map V.lit) z
 | [],_=>trivial
 |v::r,h=>⟨⟨rfl,h v (by simp)⟩,yw fun u hu=>h u (by simp[hu])⟩
theorem gC(g:Good ty zb st a.tmps w env){v:V}{u:Value}(h:RA w st.hp env v u)(hv:v≠ .any):u.cells= #[u]:=by
 cases v with
 |any=>exact absurd rfl hv
 |lit x=>obtain⟨rfl,h1⟩:=h;cases u<;>simp_all [Value.cells,Value.oneCell']
 |sl t l=>obtain⟨fp,⟨oa,cap,rfl,_⟩,_⟩:=h;rfl
 |own n=>
  obtain⟨⟨t,l,hl⟩,rfl⟩:=h
  obtain⟨oa,cap,h,_⟩:=RO.sl (g.obj n _ hl)
  rw[h];rfl
 |ptr n off=>obtain⟨_,b,_,rfl⟩:=h;rfl
 |vV f n=>obtain⟨_,b,_,rfl⟩:=h;rfl
 |mJ k=>obtain⟨oa,cap,rfl,_⟩:=h;rfl
 |raw x=>obtain⟨rfl,h1⟩:=h;cases u<;>simp_all [Value.cells,Value.oneCell']
 |gL v t l=>obtain⟨_,fp,⟨oa,cap,rfl,_⟩,_⟩:=h;rfl
 |iQ n i off=>obtain⟨t,l,_,b,o,len,cap,_,rfl⟩:=h;rfl
 |ip t x off=>obtain⟨b,o,cs,fp,rfl,_⟩:=h;rfl
 |vw n p t l=>obtain⟨_,⟨fp,⟨oa,cap,rfl,_⟩,_⟩,_⟩:=h;rfl
 |wL n t l=>obtain⟨_,b,fp,⟨oa,cap,rfl,_⟩,_⟩:=h;rfl
 |mix n c t l=>obtain⟨_,⟨fp,⟨oa,cap,rfl,_⟩,_⟩,_⟩:=h;rfl
 |nK n=>
  obtain⟨⟨t,l,s,hl⟩,rfl⟩:=h
  rcases RO.AA (g.obj n _ hl)with⟨_,r,lx,_,h,_⟩| ⟨_,_,hv,_,_,⟨oa,cap,h,_⟩,_⟩| ⟨_,_,_,⟨oa,m,cap,h⟩,_⟩| ⟨_,_,us,hB,_⟩
  ·rw[h];rfl
  ·rw[hv,h];rfl
  ·rw[h];rfl
  ·obtain⟨oa,cap,h,_⟩:=hB.sl
   rw[h];rfl
 |wK n p t x off=>obtain⟨_,b,o,cs,fp,rfl,_⟩:=h;rfl
theorem ON{op:BinOp}{k k':IntKind}{x y:Int}{vc:List Prop}{v:Value}(h:OG op k k' x y=some (vc,v))(hv: ∀q,q∈vc→q){t:TypeId}{X Y:Operand}:
  (do eqGuard op t X Y (.int k x) (.int k' y);binOp op t (.int k x) (.int k' y):Sem Value).run P w= .ok v w∧v.oneCell'=true:=by
 have gen:(∀(_: ¬(op= .shl∨op= .shr)),(match decEq k k' with|isTrue _=>WH op k x y|isFalse _=>none)=some (vc,v)→(do eqGuard op t X Y (.int k x) (.int k' y);binOp op t (.int k x) (.int k' y):Sem Value).run P w= .ok v w∧v.oneCell'=true):=by
  intro _ h'
  clear h
  split at h'
  ·rename_i hk _
   subst hk
   exact Sm h' hv
  ·cases h'
 cases op with
 |shl=>
  simp only[OG,oI,pI]at h
  obtain⟨rfl,rfl⟩:=h
  have hy: ¬y<0:=by have:0≤y:=hv _ (List.mem_singleton.2 rfl);omega
  refine⟨?_,rfl⟩
  simp[eqGuard,binOp,Op.shift,hy]
 |shr=>
  simp only[OG,oI,pI]at h
  obtain⟨rfl,rfl⟩:=h
  have hy: ¬y<0:=by have:0≤y:=hv _ (List.mem_singleton.2 rfl);omega
  refine⟨?_,rfl⟩
  simp[eqGuard,binOp,Op.shift,hy]
 |_=>exact gen (by simp) h
theorem OO{op:BinOp}{x y:ByteArray}{vc:List Prop}{v:Value}(h:IF op x y=some (vc,v))(hv: ∀q,q∈vc→q){t:TypeId}{X Y:Operand}:
  (do eqGuard op t X Y (.string x) (.string y);binOp op t (.string x) (.string y):Sem Value).run P w= .ok v w∧v.oneCell'=true:=by
 cases op with
 |add=>
  simp only[IF,oI,pI]at h
  obtain⟨rfl,rfl⟩:=h
  have hy:((x.size+y.size:Nat):Int)≤IntKind.i64.max:=hv _ (List.mem_singleton.2 rfl)
  refine⟨?_,rfl⟩
  have hy': ¬((x.size+y.size:Nat):Int)>IntKind.i64.max:=by omega
  simp only[eqGuard,binOp,Op.stringOp,if_neg hy']
  rfl
 |eql=>
  simp only[IF,oI,pI]at h
  obtain⟨rfl,rfl⟩:=h
  exact⟨by simp[eqGuard,binOp,Op.stringOp],rfl⟩
 |neq=>
  simp only[IF,oI,pI]at h
  obtain⟨rfl,rfl⟩:=h
  exact⟨by simp[eqGuard,binOp,Op.stringOp],rfl⟩
 |_=>simp[IF]at h
theorem He{v:S1}{u:Value}{f:FuncId}(hr:eC w st.hp env v u)(h:OH v=some f):u= .func (.func f) #[] #[]:=by
 unfold OH at h
 split at h
 ·simp only[oI]at h
  subst h
  exact hr.lit
 ·cases h
theorem IL(l:List UInt8):strOfNums (l.map fun n=>(n.toNat:Int))=lE l:=by
 unfold strOfNums lE
 congr 2
 rw[List.map_map]
 conv=>rhs;rw[←List.map_id l]
 apply List.map_congr_left
 intro n _
 simp
theorem wP(ad:Addr)(cap:Nat):(Conv.bytesToString (.slice (some ad) 0 cap)).run P w= .ok (.string (lE [])) w:=by
 have:=run_bytesToString (P:=P) w ad 0 cap [] (by simp[loadCells,loadCellsFrom])
 exact this
theorem kQ{a b:List (List Nat)}(h:a.Sublist b):a.flatten.Sublist b.flatten:=by
 induction h with
 |slnil=>exact List.Sublist.refl _
 |cons x _ ih=>rw[List.flatten_cons];exact ih.trans (List.sublist_append_right _ _)
 |cons_cons x _ ih=>rw[List.flatten_cons,List.flatten_cons];exact List.Sublist.append (List.Sublist.refl _) ih
theorem uB{t:Nat}{x:Operand}{lo hi:Option Operand}(ho:o.op= .slice t x lo hi none){g:Tag}{e:Nat}(hk:b7 P t (.sl g e)){t':Tag}{l:List (T t')}(hkk:kk g=kk t'){fp:List Nat}(hx:Sl (kk t') (rd t') w (a.eval x) l fp){n1 n2:Int}
  (h1:(lo=none∧n1=0)∨ ∃y k,lo=some y∧a.eval y= .int k n1)(h2:(hi=none∧n2=l.length)∨ ∃y k,hi=some y∧a.eval y= .int k n2)(q0:0≤n1)(q1:n1≤n2)(q2:n2≤(l.length:Int)):
  ∃u' eR,(execOp a.eval o).run P w= .ok (.value u') w∧Sl (kk t') (rd t') w u' ((l.take n2.toNat).drop n1.toNat) eR∧eR.Sublist fp:=by
 obtain⟨hu,hs⟩:=hk
 obtain⟨oa,cap,hv,hc,hm,h3⟩:=hx
 cases hq:P.info? e with
 |none=>simp[hq]at hs
 |some inf=>
  have hsz:inf.size=kk g:=by simpa[hq]using hs
  have hcap:n2≤(cap:Int):=by omega
  have hn2:0≤n2:=by omega
  have KW:max n2 0=n2:=by omega
  have hlen:((l.take n2.toNat).drop n1.toNat).length=n2.toNat-n1.toNat:=by simp;omega
  have hrun:(Instr.sliceAt t (.slice oa l.length cap) (lo.map a.eval) (hi.map a.eval) none).run P w= .ok (.slice (if cap=n1.toNat then oa else oa.map (·.add (n1.toNat*kk g))) (n2.toNat-n1.toNat) (cap-n1.toNat)) w:=by
   rcases h1 with⟨rfl,rfl⟩| ⟨y1,k1,rfl,e1⟩<;>rcases h2 with⟨rfl,rfl⟩| ⟨y2,k2,rfl,e2⟩
   all_goals simp[Instr.sliceAt,Instr.slice,Instr.sliceBounds,Instr.sliceBound,asIntOf,run_underlying hu,sizeOf,typeInfo,hq,hsz, *]
  have hex:(execOp a.eval o).run P w= .ok (.value (.slice (if cap=n1.toNat then oa else oa.map (·.add (n1.toNat*kk g))) (n2.toNat-n1.toNat) (cap-n1.toNat))) w:=by
   unfold execOp
   simp only[ho,hv,Option.map_none,Sem.run_bind,hrun,Result.andThen_ok,Sem.run_pure]
  rcases h3 with⟨rfl,rfl,hn⟩| ⟨b,off,aO,rfl,hb,rfl,hE⟩
  ·have e0:n1=0:=by simp at q2;omega
   have e2:n2=0:=by simp at q2;omega
   subst e0;subst e2
   refine⟨_,[],hex,⟨_,_,rfl,by simp,by omega,Or.inl ⟨by simp,rfl,by simp[hn]⟩⟩,List.nil_sublist _⟩
  ·by_cases Sp:cap=n1.toNat
   ·have e0:(l.take n2.toNat).drop n1.toNat= []:=by
     apply List.eq_nil_of_length_eq_zero;omega
    refine⟨_,[],hex,⟨_,_,by rw[hlen],by rw[hlen];omega,by omega,Or.inl ⟨e0,rfl,by omega⟩⟩,List.nil_sublist _⟩
   ·refine⟨_,b::((aO.take n2.toNat).drop n1.toNat).flatten,hex,⟨_,_,by rw[hlen],by rw[hlen];omega,by omega,Or.inr ⟨b,off+n1.toNat*kk t',(aO.take n2.toNat).drop n1.toNat,?_,hb.mono (by rw[Nat.add_assoc, ←Nat.add_mul,Nat.add_sub_cancel' (by omega)];exact Nat.le_refl _),rfl,?_,?_⟩⟩,?_⟩
    ·rw[if_neg Sp,hkk];simp[Addr.add_mid]
    ·have:=hE.1;simp[this]
    ·intro i x f hx hf
     rw[List.getElem?_drop,List.getElem?_take]at hx hf
     split at hx
     ·rename_i hlt
      rw[if_pos hlt]at hf
      obtain⟨cs,k1,k2⟩:=hE.2 _ x f hx hf
      exact⟨cs,by rw[Nat.add_assoc, ←Nat.add_mul];exact k1,k2⟩
     ·cases hx
    ·exact List.Sublist.cons_cons _ (kQ ((List.drop_sublist _ _).trans (List.take_sublist _ _)))
theorem Hf{t:Nat}{x:Operand}{lo hi:Option Operand}(ho:o.op= .slice t x lo hi none){g:Tag}{e:Nat}(hk:b7 P t (.sl g e)){oa:Option Addr}{n cap:Nat}(hv:a.eval x= .slice oa n cap){n1 n2:Int}
  (h1:(lo=none∧n1=0)∨ ∃y k,lo=some y∧a.eval y= .int k n1)(h2:(hi=none∧n2=(n:Int))∨ ∃y k,hi=some y∧a.eval y= .int k n2)(q0:0≤n1)(q1:n1≤n2)(q2:n2≤(n:Int))(q3:n≤cap):
  (execOp a.eval o).run P w= .ok (.value (xk oa cap (kk g) n1.toNat n2.toNat)) w:=by
 obtain⟨hu,hs⟩:=hk
 cases hq:P.info? e with
 |none=>simp[hq]at hs
 |some inf=>
  have hsz:inf.size=kk g:=by simpa[hq]using hs
  have hcap:n2≤(cap:Int):=by omega
  have hn2:0≤n2:=by omega
  have KW:max n2 0=n2:=by omega
  have hrun:(Instr.sliceAt t (.slice oa n cap) (lo.map a.eval) (hi.map a.eval) none).run P w= .ok (xk oa cap (kk g) n1.toNat n2.toNat) w:=by
   rcases h1 with⟨rfl,rfl⟩| ⟨y1,k1,rfl,e1⟩<;>rcases h2 with⟨rfl,rfl⟩| ⟨y2,k2,rfl,e2⟩
   all_goals simp[Instr.sliceAt,Instr.slice,Instr.sliceBounds,Instr.sliceBound,asIntOf,run_underlying hu,sizeOf,typeInfo,hq,hsz,xk, *]
  unfold execOp
  simp only[ho,hv,Option.map_none,Sem.run_bind,hrun,Result.andThen_ok,Sem.run_pure]
theorem DN{t:Nat}{x:Operand}{lo:Option Operand}(ho:o.op= .slice t x lo none none){g:Tag}{e:Nat}(hk:b7 P t (.sl g e)){oa:Option Addr}{n cap:Nat}(hv:a.eval x= .slice oa n cap)(hc:n≤cap){n1:Int}
  (h1:(lo=none∧n1=0)∨ ∃y k,lo=some y∧a.eval y= .int k n1)(hn:n1=(n:Int)):
  ∃Kf,(execOp a.eval o).run P w= .ok (.value (.slice Kf 0 (cap-n))) w∧(Kf=none→oa=none):=by
 obtain⟨hu,hs⟩:=hk
 cases hq:P.info? e with
 |none=>simp[hq]at hs
 |some inf=>
  have hsz:inf.size=kk g:=by simpa[hq]using hs
  subst hn
  have KW:max (n:Int) 0=n:=by omega
  refine⟨if cap=n then oa else oa.map (·.add (n*kk g)),?_,fun h=> ?_⟩
  ·have hrun:(Instr.sliceAt t (.slice oa n cap) (lo.map a.eval) none none).run P w= .ok (.slice (if cap=n then oa else oa.map (·.add (n*kk g))) 0 (cap-n)) w:=by
    have h0:(n:Int)≤(cap:Int):=by omega
    rcases h1 with⟨rfl,e1⟩| ⟨y1,k1,rfl,e1⟩
    ·have:n=0:=by omega
     subst this
     simp[Instr.sliceAt,Instr.slice,Instr.sliceBounds,Instr.sliceBound,asIntOf,run_underlying hu,sizeOf,typeInfo,hq,hsz]
    ·simp[Instr.sliceAt,Instr.slice,Instr.sliceBounds,Instr.sliceBound,asIntOf,run_underlying hu,sizeOf,typeInfo,hq,hsz, *]
   unfold execOp
   simp only[ho,hv,Option.map_none,Sem.run_bind,hrun,Result.andThen_ok,Sem.run_pure]
  ·split at h
   ·exact h
   ·simpa using h
theorem bG.at{w:World}: ∀{c:List V} {cs:List Value} {f:List Nat} {i:Nat} {v:V},bG w c cs f→sr c i=some v→ ∃u f',cs[i]? =some u∧RI w v u f'∧f'.Sublist f
 |x::r,u::us,_,0,v,⟨f1,f2,h1,_,rfl⟩,h=>by
  simp only[sr,oI]at h
  subst h
  exact⟨u,f1,rfl,h1,List.sublist_append_left _ _⟩
 |x::r,u::us,_,i+1,v,⟨f1,f2,_,h2,rfl⟩,h=>by
  obtain⟨u',f',k1,k2,k3⟩:=bG.at h2 (show sr r i=some v from h)
  exact⟨u',f',by simpa using k1,k2,k3.trans (List.sublist_append_right _ _)⟩
 | [],_,_,_,_,_,h=>by simp[sr]at h
 |_::_,[],_,_,_,h,_=>h.elim
theorem yx(g:Good ty zb st a.tmps w env){n:Nat}{t:Tag}{l:List (T t)}(hl:look st.hp n=some (.arr t l)){i:Nat}(hi:i<l.length):
  ∃b o cap cs f,(env n).v= .slice (some ⟨b,o,none⟩) l.length cap∧b∈(env n).fp∧w.rangeAt b (o+i*kk t) cs∧rd t w cs (l.getD i (aA t)) f∧f.Sublist (env n).fp:=by
 obtain⟨oa,cap,hv,_,_,h3⟩:=RO.sl (g.obj n _ hl)
 rcases h3 with⟨rfl,_⟩| ⟨b,o,aO,rfl,hb,eK,he⟩
 ·simp at hi
 ·have hx:l[i]? =some (l.getD i (aA t)):=by rw[List.getD_eq_getElem?_getD,List.getElem?_eq_getElem hi];rfl
  obtain⟨f,hf⟩:=eU he.1 hx
  obtain⟨cs,hr,hE⟩:=he.2 _ _ f hx hf
  exact⟨b,o,cap,cs,f,hv,by rw[eK];simp,hr,hE,by rw[eK];exact(List.sublist_flatten_of_mem (List.mem_of_getElem? hf)).trans (List.sublist_cons_self _ _)⟩
theorem Cf{hp:Hp}{n:Nat}{t0:Tag}{l0:List (T t0)}(hl:look hp n=some (.arr t0 l0)){p:Option (Nat×Nat)}{v:V}{u:Value}{f:List Nat}(h:RI w v u f)(hnd:f.Nodup)(hf: ∀b,b∈f→b∈(env n).fp)
  (gr: ∀i off,p=some (i,off)→ ∃b o len cap,i<l0.length∧sr (dec t0 (l0.getD i (aA t0))) off=some v∧(env n).v= .slice (some ⟨b,o,none⟩) len cap∧b∈(env n).fp∧w.cell? ⟨b,o+i*kk t0+off,none⟩=some u):RA w hp env (UP n p v) u:=by
 cases v with
 |sl t l=>
  refine⟨⟨t0,l0,hl⟩,⟨f,h,hnd,hf⟩,fun i off Sq=> ?_⟩
  obtain⟨b,o,len,cap,h1,h2,h3,h4,h5⟩:=gr i off Sq
  exact⟨t0,l0,b,o,len,cap,hl,h1,h2,h3,h4,h5⟩
 |lit x=>exact⟨h.1,h.2.1⟩
 |_=>trivial
theorem Hg{hp:Hp}{n:Nat}{t0:Tag}{l0:List (T t0)}(hl:look hp n=some (.arr t0 l0)){i:Nat}(hi:i<l0.length){b o len cap:Nat}(hv:(env n).v= .slice (some ⟨b,o,none⟩) len cap)(hb:b∈(env n).fp):
  ∀{c:List V} {us:List Value} {f:List Nat} {k:Nat},bG w c us f→f.Nodup→(∀x,x∈f→x∈(env n).fp)→(∀j v,c[j]? =some v→sr (dec t0 (l0.getD i (aA t0))) (k+j)=some v)→w.rangeAt b (o+i*kk t0+k) us→bg (RA w hp env) (Sf n i k c) us
 | [],[],_,_,_,_,_,_,_=>trivial
 |v::r,u::us,_,k,⟨f1,f2,h1,h2,rfl⟩,hnd,hf,hc,hr=>by
  obtain⟨hn1,hn2,_⟩:=List.nodup_append.1 hnd
  refine⟨Cf hl h1 hn1 (fun x hx=>hf x (List.mem_append_left _ hx)) ?_,Hg hl hi hv hb h2 hn2 (fun x hx=>hf x (List.mem_append_right _ hx)) ?_ ?_⟩
  ·rintro i' off' Sq
   simp only[oI,pI]at Sq
   obtain⟨rfl,rfl⟩:=Sq
   exact⟨b,o,len,cap,hi,hc 0 v rfl,hv,hb,by have:=hr 0 u rfl;simpa using this⟩
  ·intro j v' hj
   have:=hc (j+1) v' (by simpa using hj)
   rwa [show k+(j+1)=k+1+j by omega]at this
  ·intro j v' hj
   have:=hr (j+1) v' (by simpa using hj)
   rwa [show o+i*kk t0+k+(j+1)=o+i*kk t0+(k+1)+j by omega]at this
 | [],_::_,_,_,h,_,_,_,_=>h.elim
 |_::_,[],_,_,h,_,_,_,_=>h.elim
theorem Hh{hp:Hp}{n:Nat}{t0:Tag}{l0:List (T t0)}(hl:look hp n=some (.arr t0 l0)):
  ∀{c:List V} {us:List Value} {f:List Nat},bG w c us f→f.Nodup→(∀x,x∈f→x∈(env n).fp)→bg (RA w hp env) (Sg n c) us
 | [],[],_,_,_,_=>trivial
 |v::r,u::us,_,⟨f1,f2,h1,h2,rfl⟩,hnd,hf=>
  ⟨Cf hl h1 (List.nodup_append.1 hnd).1 (fun x hx=>hf x (List.mem_append_left _ hx)) (by simp),Hh hl h2 (List.nodup_append.1 hnd).2.1 (fun x hx=>hf x (List.mem_append_right _ hx))⟩
 | [],_::_,_,h,_,_=>h.elim
 |_::_,[],_,h,_,_=>h.elim
theorem pU: ∀{l:List V} {i:Nat},sr l i=l[i]?
 | [],_=>by simp[sr]
 |_::_,0=>rfl
 |_::r,i+1=>by rw[sr,pU (l:=r)];simp
theorem bG.sub{w:World}{c d:List V}{cs:List Value}{f:List Nat}{off k:Nat}(h:bG w c cs f)(hs:sub c off k=some d): ∃f',bG w d ((cs.drop off).take k) f'∧f'.Sublist f∧d=(c.drop off).take k∧((cs.drop off).take k).length=k:=by
 have drop: ∀(n:Nat) {c:List V} {cs:List Value} {f:List Nat},bG w c cs f→ ∃f',bG w (c.drop n) (cs.drop n) f'∧f'.Sublist f:=by
  intro n
  induction n with
  |zero=>intro c cs f h;exact⟨f,by simpa using h,List.Sublist.refl _⟩
  |succ n ih=>
   intro c cs f h
   cases c with
   |nil=>cases cs with
    |nil=>exact⟨f,by simpa using h,List.Sublist.refl _⟩
    |cons _ _=>exact h.elim
   |cons v r=>cases cs with
    |nil=>exact h.elim
    |cons u us=>
     obtain⟨f1,f2,_,h2,rfl⟩:=h
     obtain⟨f',k1,k2⟩:=ih h2
     exact⟨f',by simpa using k1,k2.trans (List.sublist_append_right _ _)⟩
 have take: ∀(n:Nat) {c:List V} {cs:List Value} {f:List Nat},bG w c cs f→ ∃f',bG w (c.take n) (cs.take n) f'∧f'.Sublist f:=by
  intro n
  induction n with
  |zero=>intro c cs f h;exact⟨[],by simp[bG],List.nil_sublist _⟩
  |succ n ih=>
   intro c cs f h
   cases c with
   |nil=>cases cs with
    |nil=>exact⟨f,by simpa using h,List.Sublist.refl _⟩
    |cons _ _=>exact h.elim
   |cons v r=>cases cs with
    |nil=>exact h.elim
    |cons u us=>
     obtain⟨f1,f2,h1,h2,rfl⟩:=h
     obtain⟨f',k1,k2⟩:=ih h2
     exact⟨f1++f',⟨f1,f',h1,k1,rfl⟩,List.Sublist.append (List.Sublist.refl _) k2⟩
 unfold G.sub at hs
 split at hs
 ·rename_i hb
  have hb:=Nat.le_of_ble_eq_true hb
  simp only[oI]at hs
  obtain⟨f1,h1,h2⟩:=drop off h
  obtain⟨f2,h3,h4⟩:=take k h1
  refine⟨f2,by rw[←hs];exact h3,h4.trans h2,hs.symm,?_⟩
  have:=h.len
  rw[List.length_take,List.length_drop];omega
 ·cases hs
theorem OP{n:Nat}{p:Option (Nat×Nat)}{t:Tag}{l:List (T t)}{u:Value}{k:Int}(h:RA w st.hp env (.vw n p t l) u)(h0:0≤k)(h1:k<l.length):
  ∃b off len cap,u= .slice (some ⟨b,off,none⟩) len cap∧k<len∧RA w st.hp env (.wK n (Si p k.toNat) t (l.getD k.toNat (aA t)) 0) (.pointer (some ⟨b,off+k.toNat*kk t,none⟩)):=by
 have Oc:RV w st.hp env n p t l u:=h
 obtain⟨hA,⟨fp,⟨oa,cap,rfl,hc,hm,h3⟩,hnd,hd⟩,_⟩:=h
 have hn:k.toNat<l.length:=by omega
 rcases h3 with⟨rfl,_⟩| ⟨b,off,aO,rfl,hb,rfl,he⟩
 ·simp at hn
 ·have hx:l[k.toNat]? =some (l.getD k.toNat (aA t)):=by rw[List.getD_eq_getElem?_getD,List.getElem?_eq_getElem hn];rfl
  obtain⟨f,hf⟩:=eU he.1 hx
  obtain⟨cs,hr,hE⟩:=he.2 _ _ f hx hf
  refine⟨b,off,l.length,cap,rfl,h1,hA,b,off+k.toNat*kk t,cs,f,rfl,hd b (by simp),hr,hE,((List.sublist_flatten_of_mem (List.mem_of_getElem? hf)).trans (List.sublist_cons_self _ _)).nodup hnd,fun c hc=>hd c (List.mem_cons_of_mem _ (bL hf hc)),fun i o2 j hp=> ?_⟩
  cases p with
  |none=>cases hp
  |some ab=>
   obtain⟨a1,b1⟩:=ab
   simp only[Si,oI,pI]at hp
   obtain⟨rfl,rfl,rfl⟩:=hp
   exact⟨l,_,b,off,l.length,cap,Oc,hn,rfl,rfl,rfl⟩
theorem Cg{t:Nat}{x:Operand}{lo hi:Option Operand}(ho:o.op= .slice t x lo hi none)(hu:P.underlying t=some .string){s:ByteArray}(hv:a.eval x= .string s){n1 n2:Int}
  (h1:(lo=none∧n1=0)∨ ∃y k,lo=some y∧a.eval y= .int k n1)(h2:(hi=none∧n2=s.size)∨ ∃y k,hi=some y∧a.eval y= .int k n2)(q0:0≤n1)(q1:n1≤n2)(q2:n2≤(s.size:Int)):
  o.wp P a w (sJ ty st a w env o.dst (.one (.a (.lit (.string (s.extract n1.toNat n2.toNat))))) []) Q:=by
 have hn2:0≤n2:=by omega
 have KW:max n2 0=n2:=by omega
 have hrun:(Instr.sliceAt t (.string s) (lo.map a.eval) (hi.map a.eval) none).run P w= .ok (.string (s.extract n1.toNat n2.toNat)) w:=by
  rcases h1 with⟨rfl,rfl⟩| ⟨y1,k1,rfl,e1⟩<;>rcases h2 with⟨rfl,rfl⟩| ⟨y2,k2,rfl,e2⟩
  all_goals simp[Instr.sliceAt,Instr.slice,Instr.sliceBounds,Instr.sliceBound,asIntOf,run_underlying hu, *]
 refine cw (u:= .string (s.extract n1.toNat n2.toNat)) ?_ ⟨rfl,rfl⟩
 unfold execOp
 simp only[ho,hv,Option.map_none,Sem.run_bind,hrun,Result.andThen_ok,Sem.run_pure]
theorem IM(g:Good ty zb st a.tmps w env){v:V}{u:Value}(hr:eC w st.hp env (.a v) u){l:List UInt8}(hl:bytesOf st v=some l){s e t:Nat}(hs:P.underlying s=some (.slice e))(he:P.underlying e=some (.int .u8))(ht:P.underlying t=some .string):
  (convert s t u).run P w= .ok (.string (lE l)) w:=by
 have key: ∀{b off len cap:Nat},len=l.length→(∀i x,l[i]? =some x→w.cell? ⟨b,off+i,none⟩=some (.int .u8 x.toNat))→(convert s t (.slice (some ⟨b,off,none⟩) len cap)).run P w= .ok (.string (lE l)) w:=by
  intro b off len cap hlen hc
  rw[run_convert_bytes_arg w s e hs he b off len cap (l.map fun n=>(n.toNat:Int)) (by simp[hlen]) (fun i hi=> ?_) t ht,IL]
  have hi2:i<l.length:=by omega
  rw[hc i _ (List.getElem?_eq_getElem hi2),List.getD_eq_getElem?_getD,List.getElem?_map,List.getElem?_eq_getElem hi2]
  rfl
 have nil: ∀{c:Nat},(convert s t (.slice none 0 c)).run P w= .ok (.string (lE [])) w:=by
  intro c
  rw[run_convert_bytes_nil w s e hs he 0 c t ht];rfl
 have sl: ∀{fp:List Nat},Sl 1 GW w u l fp→(convert s t u).run P w= .ok (.string (lE l)) w:=by
  rintro fp ⟨oa,cap,rfl,_,_,h3⟩
  rcases h3 with⟨rfl,_,_⟩| ⟨b,off,aO,rfl,_,_,hE⟩
  ·cases oa with
   |none=>exact nil
   |some ad=>
    rw[run_convert_bytes_string w s t e _ _ _ hs he ht]
    exact wP ad cap
  ·refine key rfl fun i x hx=> ?_
   obtain⟨f,hf⟩:=eU hE.1 hx
   obtain⟨cs,q1,rfl,_⟩:=hE.2 i x f hx hf
   have:=q1 0 _ rfl
   simpa using this
 unfold bytesOf at hl
 split at hl
 ·simp only[oI]at hl
  subst hl
  obtain⟨fp,h,_⟩:=hr
  exact sl h
 ·rename_i n
  split at hl
  ·rename_i l' hlk
   simp only[oI]at hl
   subst hl
   obtain⟨_,hu⟩:=hr
   have hb:Sl 1 GW w (env n).v l' (env n).fp:=RO.sl (g.obj n _ hlk)
   rw[←show u=(env n).v from hu]at hb
   exact sl hb
  ·cases hl
 ·simp only[oI]at hl
  subst hl
  obtain⟨_,⟨fp,h,_⟩,_⟩:=hr
  exact sl h
 ·simp only[oI]at hl
  subst hl
  have hu:=(show eC w st.hp env (.a (.lit B7)) u from hr).lit
  rw[hu]
  exact nil
 ·cases hl
theorem gN{p:List (Nat×Bool)}(hop: ∀{x v},ew st p x=some v→eC w st.hp env v (a.eval x)){z n:Int}{b:Option Operand}(h:B8 st p z b=some n):(b=none∧n=z)∨ ∃x k,b=some x∧a.eval x= .int k n:=by
 cases b with
 |none=>simp only[B8,oI]at h;exact Or.inl ⟨rfl,h.symm⟩
 |some x=>
  simp only[B8]at h
  split at h
  ·rename_i k i hx
   simp only[oI]at h
   subst h
   exact Or.inr ⟨x,k,rfl,(hop hx).lit⟩
  ·cases h
theorem Ba{m:Nat}{t:Tag}{l:List (T t)}{w':World}{u:Value}{fp:List Nat}(hr:(execOp a.eval o).run P w= .ok (.value u) w')(hb:Below w.heap.size w w')(hB:fZ (kk t) (rd t) w.heap.size (ty t) w' u l fp):
  o.wp P a w (sJ ty st a w env o.dst (.one (.a (.own m))) [(m, .arr t l)]) Q:=by
 unfold Oper.wp
 rw[hr]
 obtain⟨env',hN,hl⟩:=ir.list (ty:=ty) (hp:=st.hp) (env:=env) (os:= [(m, .arr t l)]) (ce:= [⟨u,fp⟩]) hb (by simp[eW,look]) ⟨⟨fun _ _=>RO.DH (fZ.mono hB (Nat.zero_le _)),(fZ.own hB).ge⟩,trivial⟩ (by simpa using(fZ.own hB).nodup)
 have h2:env' m=⟨u,fp⟩:=hl.1.2
 exact⟨u,env',rfl,hN,⟨t,l,look_eq⟩,by rw[h2]⟩
theorem lX{α:Type}{k:Nat}{E:ER α}(G:eB k E)(hk:0<k){w:World}{u:Value}{l:List α}{fp:List Nat}(h:Sl k E w u l fp):
  ∃(news:List Value) (fx:List (List Nat)),Src w u l.length news∧fx.length=l.length∧news.length=l.length*k∧(∀i x f,l[i]? =some x→fx[i]? =some f→E w ((news.drop (i*k)).take k) x f)∧fx.flatten.Sublist fp∧ ∀b r,fp=b::r→fx.flatten=r:=by
 obtain⟨oa,cap,rfl,hc,hm,h3⟩:=h
 rcases h3 with⟨rfl,rfl,hno⟩| ⟨b,off,aO,rfl,hb,rfl,he⟩
 ·refine⟨[],[],?_,rfl,by simp,by simp,by simp,fun b r h=>by cases h⟩
  cases oa with
  |none=>exact Or.inl ⟨by simp[hno],rfl,rfl⟩
  |some a=>exact Or.inr ⟨a,cap,rfl,by simp⟩
 ·have hcell: ∀j,j<l.length*k→ ∃v,w.cell? ⟨b,off+j,none⟩=some v:=by
   intro j hj
   have hi:j/k<l.length:=Nat.div_lt_of_lt_mul (by rw[Nat.mul_comm];omega)
   obtain⟨f,hf⟩:=eU he.1 (List.getElem?_eq_getElem hi)
   obtain⟨cs,hr,hE⟩:=he.2 _ _ f (List.getElem?_eq_getElem hi) hf
   have hl:=G.len hE
   have hml:=Nat.mod_lt j hk
   have:=hr (j % k) cs[j % k] (List.getElem?_eq_getElem (by omega))
   refine⟨cs[j % k]'(by omega),?_⟩
   rw[←this]
   congr 2
   have:=Nat.div_add_mod j k
   have:=Nat.mul_comm k (j/k)
   omega
  refine⟨(List.range (l.length*k)).map fun j=>(w.cell? ⟨b,off+j,none⟩).getD undef,aO,Or.inr ⟨_,cap,rfl,?_⟩,he.1,by simp,?_,List.sublist_cons_self _ _,fun b r h=>by cases h;rfl⟩
  ·intro j u hu
   have hj:j<l.length*k:=by have:=(List.getElem?_eq_some_iff.1 hu).1;simpa using this
   obtain⟨v,hv⟩:=hcell j hj
   simp[hj,hv]at hu
   rw[Addr.add_mid,hv,hu]
  ·intro i x f hx hf
   obtain⟨cs,hr,hE⟩:=he.2 i x f hx hf
   have hl:=G.len hE
   have hi:i<l.length:=(List.getElem?_eq_some_iff.1 hx).1
   have h5:i*k+k≤l.length*k:=by
    have:=Nat.mul_le_mul_right k (show i+1≤l.length by omega)
    rw[Nat.add_mul]at this;omega
   have:(((List.range (l.length*k)).map fun j=>(w.cell? ⟨b,off+j,none⟩).getD undef).drop (i*k)).take k=cs:=by
    apply List.ext_getElem?
    intro j
    by_cases hj:j<k
    ·rw[List.getElem?_take,if_pos hj,List.getElem?_drop]
     have h6:=hr j cs[j] (List.getElem?_eq_getElem (by omega))
     rw[List.getElem?_map,List.getElem?_range (by omega)]
     simp[←Nat.add_assoc,h6,show j<cs.length by omega]
    ·rw[List.getElem?_take,if_neg hj,List.getElem?_eq_none (by omega)]
   rw[this];exact hE
theorem OQ{α:Type}{k:Nat}{E:ER α}(G:eB k E)(hk:0<k){w:World}{l:List α}{news:List Value}{fx:List (List Nat)}(hf:fx.length=l.length)(hl:news.length=l.length*k)
  (hE: ∀i x f,l[i]? =some x→fx[i]? =some f→E w ((news.drop (i*k)).take k) x f): ∀u,u∈news→u.oneCell'=true:=mI G hf hl hk hE
theorem OR{P:Program}{w:World}{t ty' e:TypeId}{z:Value}{k bytes:Nat}(ht:P.underlying t=some (.slice e))(Kg:(P.info? e).map (fun i=>(i.zero,i.size,i.bytes))=some (some z,k,bytes))(hzs:z.cells.size=k)(hk:0<k)
  {n:Nat}{oa:Option Addr}{olds:List Value}(Xr:Src w (.slice oa n n) n olds)(hlo:olds.length=n*k)
  {m:Nat}{y:Value}{news:List Value}(ZS:Src w y m news)(hl:news.length=m*k)(h1: ∀u,u∈news→u.oneCell'=true)(b1:n+m≤maxLen)(b2:(n+m)*bytes≤140737488355328):
  ∃v' w',(Builtin.append_ #[t,t] ty' #[.slice oa n n,y]).run P w= .ok v' w'∧((m=0∧v'= .slice oa n n∧w'=w)∨(w'.ownsRow w.heap.size e k v' (n+m) (olds++news)∧w.grownBy w' none)):=by
 obtain⟨i,hi,hz,hsize,hby⟩:=info_parts Kg
 rcases ZS with⟨rfl,rfl,rfl⟩| ⟨a,c,rfl,hnews⟩
 ·refine⟨.slice oa n n,w,?_,Or.inl ⟨rfl,rfl,rfl⟩⟩
  cases oa with
  |none=>simp[Builtin.append_,run_underlying ht,sizeOf,typeInfo,hi,Builtin.lenOf,Builtin.firstCells,storeCells]
  |some b=>simp[Builtin.append_,run_underlying ht,sizeOf,typeInfo,hi,Builtin.lenOf,Builtin.firstCells,storeCells]
 ·by_cases hm:m=0
  ·subst hm
   have hn0:news= []:=List.eq_nil_of_length_eq_zero (by omega)
   subst hn0
   refine⟨.slice oa n n,w,?_,Or.inl ⟨rfl,rfl,rfl⟩⟩
   have Y0:=run_firstCells_some (P:=P) w i.size 0 a 0 c [] (by simp) (by simp)
   cases oa with
   |none=>simp[Builtin.append_,run_underlying ht,sizeOf,typeInfo,hi,Builtin.lenOf,Y0]
   |some b=>simp[Builtin.append_,run_underlying ht,sizeOf,typeInfo,hi,Builtin.lenOf,Y0,storeCells]
  ·rcases Xr with⟨hx,rfl,rfl⟩| ⟨b,cb,hx,holds⟩
   ·simp only[Value.slice.injEq]at hx
    obtain⟨rfl,_⟩:=hx
    obtain⟨v',w',hrun,r1,r2,_⟩:=run_append_own (P:=P) w w.heap.size t ty' e i z k bytes ht hi hz hsize hby hzs hk (.slice none 0 0) 0 [] (World.ownsRow_nil w _ e k) a m c news hl hnews h1 b1 b2 (Nat.le_refl _)
    exact⟨v',w',hrun,Or.inr ⟨r1,r2⟩⟩
   ·simp only[Value.slice.injEq]at hx
    obtain⟨rfl,_,rfl⟩:=hx
    obtain⟨v',w',hrun,r1,r2⟩:=run_append_arg_grows (P:=P) w t ty' e i z k bytes ht hi hz hsize hby hzs hk b n n olds hlo holds a m c news hl hnews (by omega) b1 b2
    exact⟨v',w',hrun,Or.inr ⟨r1,r2⟩⟩
theorem Sr{α:Type}{k:Nat}{E:ER α}{w:World}{oa:Option Addr}{cap:Nat}{l:List α}{fp:List Nat}(h:Sl k E w (.slice oa l.length cap) l fp){j q:Nat}(hj:j≤l.length)(hq:q=0):
  ∃eR,Sl k E w (.slice (if j=0 then oa else oa.map (·.add q)) j j) (l.take j) eR∧ ∀b,b∈eR→b∈fp:=by
 subst hq
 obtain⟨Kf,cap',hu,hc,hm,h3⟩:=h
 simp only[Value.slice.injEq,true_and]at hu
 obtain⟨rfl,rfl⟩:=hu
 have hlen:(l.take j).length=j:=by rw[List.length_take];omega
 by_cases h0:j=0
 ·subst h0
  refine⟨[],⟨oa,0,by simp,by simp,Nat.zero_le _,Or.inl ⟨by simp,rfl,rfl⟩⟩,by simp⟩
 ·rcases h3 with⟨rfl,_⟩| ⟨b,off,aO,rfl,hb,rfl,he⟩
  ·simp at hj;omega
  ·rw[if_neg h0]
   refine⟨b::(aO.take j).flatten,⟨_,j,by rw[hlen],by omega,by omega,Or.inr ⟨b,off,aO.take j,by simp[Addr.add_mid],hb.mono (Nat.add_le_add_left (Nat.mul_le_mul_right _ (by omega)) _),rfl,?_,fun i x f hx hf=> ?_⟩⟩,fun c hc=> ?_⟩
   ·have:=he.1;simp[this]
   ·rw[List.getElem?_take]at hx hf
    split at hx
    ·rename_i hij
     rw[if_pos hij]at hf
     exact he.2 i x f hx hf
    ·cases hx
   ·rcases List.mem_cons.1 hc with rfl|hc
    ·simp
    ·exact List.mem_cons_of_mem _ ((kQ (List.take_sublist j aO)).subset hc)
theorem Ss{α:Type}{k:Nat}{E:ER α}{w:World}{lo e:Nat}{v:Value}{l:List α}{xs:List Value}{aO:List (List Nat)}(h:w.ownsRow lo e k v l.length xs)(hf:aO.length=l.length)(he: ∀i x f,l[i]? =some x→aO[i]? =some f→E w ((xs.drop (i*k)).take k) x f):
  Sl k E w v l (v.ownBlock.toList++aO.flatten):=by
 have hlt:=h.lt
 have hcells: ∀g,v.ownBlock=some g→ ∀j u,xs[j]? =some u→w.cell? ((⟨g,0,none⟩:Addr).add j)=some u:=fun g hg=>h.cells (g:=g) hg
 rcases h.2 with⟨rfl,h0⟩| ⟨g,cap,cur,rfl,N8,hg,hnc,hcm,hcs,Ds⟩
 ·have hl:l= []:=List.eq_nil_of_length_eq_zero h0
  subst hl
  have:aO= []:=List.eq_nil_of_length_eq_zero (by simpa using hf)
  subst this
  exact⟨none,0,rfl,Nat.le_refl _,Nat.zero_le _,Or.inl ⟨rfl,rfl,rfl⟩⟩
 ·refine⟨some ⟨g,0,none⟩,cap,rfl,hnc,hcm,Or.inr ⟨g,0,aO,rfl,⟨cur,e,(0,0),hg,by omega⟩,rfl,BV hf (fun j u hu=> ?_) he⟩⟩
  have:=hcells g rfl j u hu
  rwa [Addr.add_mid,Nat.zero_add]at this
theorem DO{w:World}{hp:Hp}{env:Env}: ∀{l:List V} {us:List Value},plain l=true→bg (RA w hp env) l us→bG w l us []:=by
 intro l
 induction l with
 |nil=>intro us _ h;cases us with
  |nil=>rfl
  |cons _ _=>exact h.elim
 |cons v r ih=>
  intro us kP h
  cases us with
  |nil=>exact h.elim
  |cons u us=>
   unfold plain at kP
   split at kP
   ·rename_i heq;cases heq
   ·cases kP
   ·rename_i heq
    simp only[List.cons.injEq]at heq
    obtain⟨rfl,rfl⟩:=heq
    exact⟨[],[],⟨h.1.1,h.1.2,rfl⟩,ih kP h.2,rfl⟩
   ·cases kP
theorem Hi(g:Good ty zb st a.tmps w env): ∀{l c:List V} {n:Nat} {us:List Value},bg (RA w st.hp env) l us→rq st.hp l=some (c,n)→ ∃t l' fp,look st.hp n=some (.arr t l')∧bG w c us fp∧fp.Nodup∧ ∀b,b∈fp→b∈(env n).fp
 | [],_,_,_,_,h=>by simp[rq]at h
 |v::r,c,n,us,hr,h=>by
  cases us with
  |nil=>exact hr.elim
  |cons u us=>
   unfold rq at h
   split at h
   ·rename_i m r' he
    simp only[List.cons.injEq]at he
    obtain⟨rfl,rfl⟩:=he
    split at h
    ·rename_i t l hl kP
     simp only[oI,pI]at h
     obtain⟨rfl,rfl⟩:=h
     obtain⟨_,rfl⟩:=hr.1
     exact⟨t,l,(env m).fp,hl,⟨_,[],RO.sl (g.obj m _ hl),DO kP hr.2,by simp⟩,(RO.own (g.obj m _ hl)).nodup,fun _ hb=>hb⟩
    ·cases h
   ·rename_i m pp t l r' he
    simp only[List.cons.injEq]at he
    obtain⟨rfl,rfl⟩:=he
    split at h
    ·rename_i t0 l0 hl kP
     simp only[oI,pI]at h
     obtain⟨rfl,rfl⟩:=h
     obtain⟨_,⟨fp,h1,h2,h3⟩,_⟩:=hr.1
     exact⟨t0,l0,fp,hl,⟨fp,[],h1,DO kP hr.2,by simp⟩,h2,h3⟩
    ·cases h
   ·cases h
   ·rename_i x r' _ he
    simp only[List.cons.injEq]at he
    obtain⟨rfl,rfl⟩:=he
    split at h
    ·rename_i c' n' h'
     simp only[oI,pI]at h
     obtain⟨rfl,rfl⟩:=h
     obtain⟨t,l',fp,h1,h2,h3,h4⟩:=Hi g hr.2 h'
     exact⟨t,l',fp,h1,⟨[],_,⟨hr.1.1,hr.1.2,rfl⟩,h2,by simp⟩,h3,h4⟩
    ·cases h
   ·cases h
theorem FH(g:Good ty zb st a.tmps w env){s:S1}{u:Value}(hr:eC w st.hp env s u){c:List V}{n:Nat}(h:rq st.hp (cellsOf s)=some (c,n)):bg (RA w st.hp env) (cellsOf s) u.cells.toList:=by
 cases s with
 |agg l=>obtain⟨cs,rfl,hl⟩:=hr;exact hl
 |a v=>
  have hv:v≠ .any:=by rintro rfl;simp[cellsOf,rq]at h
  have:=gC g (show RA w st.hp env v u from hr) hv
  rw[this]
  exact⟨hr,trivial⟩
theorem Bb(g:Good ty zb st a.tmps w env){p:List (Nat×Bool)}(hp:holds a.tmps p){t:Tag}: ∀{ps:List (Nat×Operand)} {i:Nat} {vc:List Prop} {xs:List (T t)},lF st p t i ps=some (vc,xs)→(∀q,q∈vc→q)→
  (ps.map fun p=>(p.1,a.eval p.2))=sL i (ps.map fun p=>a.eval p.2)∧xs.length=ps.length∧ ∀(i:Nat) (x:T t),xs[i]? =some x→ ∃p:Nat×Operand,ps[i]? =some p∧rd t w (a.eval p.2).cells.toList x []
 | [],i,vc,xs,h,_=>by
   simp only[lF,oI,pI]at h
   obtain⟨rfl,rfl⟩:=h
   exact⟨rfl,rfl,by simp⟩
 | (j,x)::r,i,vc,xs,h,hv=>by
   simp only[lF]at h
   split at h
   ·rename_i s hij hx
    have hij:=Nat.eq_of_beq_eq_true hij
    subst hij
    split at h
    ·rename_i nL y vcs ys kP he hb
     simp only[oI,pI]at h
     obtain⟨rfl,rfl⟩:=h
     obtain⟨q1,q2,q3⟩:=Bb g hp hb (fun q hq=>hv q (List.mem_append_right _ hq))
     have hc: ∃us,(a.eval x).cells.toList=us∧bG w (cellsOf s) us []:=by
      have hs:=dh g hp hx
      have key: ∀{l:List V} {us:List Value},plain l=true→bg (RA w st.hp env) l us→bG w l us []:=by
       intro l
       induction l with
       |nil=>intro us _ h;cases us with
        |nil=>rfl
        |cons _ _=>exact h.elim
       |cons v r ih=>
        intro us kP h
        cases us with
        |nil=>exact h.elim
        |cons u us=>
         unfold plain at kP
         split at kP
         ·rename_i heq;cases heq
         ·cases kP
         ·rename_i heq
          simp only[List.cons.injEq]at heq
          obtain⟨rfl,rfl⟩:=heq
          exact⟨[],[],⟨h.1.1,h.1.2,rfl⟩,ih kP h.2,rfl⟩
         ·cases kP
      cases s with
      |agg l=>
       obtain⟨cs,hu,hl⟩:=hs
       exact⟨cs,by rw[hu];rfl,key kP hl⟩
      |a v=>
       have hne:v≠ .any:=by rintro rfl;cases kP
       exact⟨[a.eval x],by rw[gC g hs hne],key kP ⟨hs,trivial⟩⟩
     obtain⟨us,KX,Ft⟩:=hc
     refine⟨by simp[sL,q1],by simp[q2],fun i' x' hx'=> ?_⟩
     cases i' with
     |zero=>
      simp at hx'
      subst hx'
      exact⟨(i,x),rfl,by rw[KX];exact oq t he (fun q hq=>hv q (List.mem_append_left _ hq)) Ft⟩
     |succ n=>
      obtain⟨p,h1,h2⟩:=q3 n x' (by simpa using hx')
      exact⟨p,by simpa using h1,h2⟩
    ·cases h
   ·cases h
theorem OS(g:Good ty zb st a.tmps w env){p:List (Nat×Bool)}(hp:holds a.tmps p){x:Operand}{k:IntKind}{i:Int}(h:II st p x=some (k,i)):a.eval x= .int k i:=by
 unfold II at h
 split at h
 ·rename_i k' i' hx
  simp only[oI,pI]at h
  obtain⟨rfl,rfl⟩:=h
  exact(dh g hp hx).lit
 ·cases h
theorem yy(g:Good ty zb st a.tmps w env){p:List (Nat×Bool)}(hp:holds a.tmps p): ∀{xs:List Operand} {ys:List (IntKind×Int)},sH st p xs=some ys→xs.map a.eval=ys.map fun y=> .int y.1 y.2
 | [],ys,h=>by simp only[sH,oI]at h;subst h;rfl
 |x::r,ys,h=>by
  simp only[sH]at h
  split at h
  ·rename_i y ys' h1 h2
   simp only[oI]at h
   subst h
   rw[List.map_cons,List.map_cons,yy g hp h2,OS g hp h1]
  ·cases h
theorem yz{F:Int→Int→Int}{f:Value→Value→Sem Value}(hf: ∀(k:IntKind) (x y:Int),f (.int k x) (.int k y)=pure (.int k (F x y))){k:IntKind}: ∀{ys:List (IntKind×Int)} {x z:Int},A4 F k x ys=some z→(List.foldlM f (.int k x) (ys.map fun y=> .int y.1 y.2)).run P w= .ok (.int k z) w
 | [],x,z,h=>by simp only[A4,oI]at h;subst h;rfl
 | (k',y)::r,x,z,h=>by
   simp only[A4]at h
   split at h
   ·rename_i hk _
    subst hk
    rw[List.map_cons,List.foldlM_cons,hf]
    simp only[pure_bind]
    exact yz hf h
   ·cases h
theorem DP(g:Good ty zb st a.tmps w env){p:List (Nat×Bool)}(hp:holds a.tmps p){n:Nat}{fo:List Nat}{pl:Nat→Option (Nat×Nat)}(kP: ∀j o k,kJ fo j=some o→Ri n fo j=some k→pl j=some (o,k)):
  ∀{ps:List (Nat×Operand)} {c c':List V} {cs:List Value},nv st p n fo ps c=some c'→bg (RA w st.hp env) c cs→
   ∃cs',Instr.fill pl (Array.mk cs) (ps.map fun q=>(q.1,a.eval q.2))=some (Array.mk cs')∧bg (RA w st.hp env) c' cs'
 | [],c,c',cs,h,hc=>by
   simp only[nv,oI]at h
   subst h
   exact⟨cs,rfl,hc⟩
 | (j,x)::r,c,c',cs,h,hc=>by
   simp only[nv]at h
   split at h
   ·rename_i o' k s h1 h2 hx
    split at h
    ·rename_i c1 hna hs
     simp only[Bool.and_eq_true]at hna
     have hk:=Nat.eq_of_beq_eq_true hna.2
     have At:=ru g hp hx
     have hcs: ∃us,(a.eval x).cells=Array.mk us∧bg (RA w st.hp env) (cellsOf s) us:=by
      cases s with
      |agg l=>obtain⟨us,hu,hl⟩:=At;exact⟨us,by rw[hu];rfl,hl⟩
      |a v=>
       have hne:v≠ .any:=by rintro rfl;simp[cellsOf,ou]at hna
       exact⟨[a.eval x],gC g At hne,At,trivial⟩
     obtain⟨us,KX,FI⟩:=hcs
     obtain⟨q1,q2⟩:=Ce hc FI hs
     obtain⟨cs',h3,h4⟩:=DP g hp kP h q2
     refine⟨cs',?_,h4⟩
     rw[List.map_cons,Instr.fill,kP j o' k h1 h2]
     simp only[KX]
     have hl:=FI.len
     rw[if_neg (by simp;omega)]
     have KR:((Array.mk us).zipIdx.foldl (fun cs (x:Value×Nat)=>cs.setIfInBounds (o'+x.2) x.1) (Array.mk cs))=splice (Array.mk cs) o' us:=by
      rw[←Array.foldl_toList,Array.toList_zipIdx,mR,Nat.add_zero]
     show Instr.fill _ ((Array.mk us).zipIdx.foldl (fun cs (x:Value×Nat)=>cs.setIfInBounds (o'+x.2) x.1) (Array.mk cs)) _=_
     rw[KR,kO us cs o' q1]
     exact h3
    ·cases h
   ·cases h
theorem sM{w:World}{t:Nat}{d:Nat}(hu:P.underlying t=some .bool){x y:Bool}:(Op.equalIn (d+1) t (.bool x) (.bool y)).run P w= .ok (x==y) w:=by
 simp[Op.equalIn,run_underlying hu]
theorem KY{x:Operand}{op:Op}{out:Out}(dL:o.op=op)(hm:op= .move x∨op= .assign x)(g:Good ty zb st a.tmps w env)(h:KD st x=some out):o.wp P a w (sJ ty st a w env o.dst out.v out.o) Q:=by
 unfold KD at h
 split at h
 ·rename_i t
  split at h
  ·rename_i l hl
   simp only[oI]at h
   subst h
   have hr:=g.slot t _ hl
   rcases hm with rfl|rfl
   ·exact ym (by unfold execOp;simp only[dL,Sem.run_pure];rfl) hr
   ·exact ym (by unfold execOp;simp only[dL,Sem.run_pure];rfl) hr
  ·cases h
 ·cases h
theorem IN{n:Nat}(hr:(execOp a.eval o).run P w= .ok (.value (.map (some w.heap.size))) (w.alloc (.map #[] 0))):
  o.wp P a w (sJ ty st a w env o.dst (.one (.a (.nK n))) [(n, .dY .int [] .mp)]) Q:=by
 unfold Oper.wp
 rw[hr]
 have hm: ∀gr env',RO ty (w.alloc (.map #[] 0)) gr env' n (.dY .int [] .mp) ⟨.map (some w.heap.size),[w.heap.size]⟩:=fun _ _=>⟨w.heap.size,[],rfl,rfl,#[],0,(Go.MapKept.heap_alloc w _).1,rfl⟩
 obtain⟨env',h1,h2⟩:=ir.list (ty:=ty) (hp:=st.hp) (env:=env) (os:= [(n, .dY .int [] .mp)]) (ce:= [⟨.map (some w.heap.size),[w.heap.size]⟩]) ((Below.refl _ _).alloc (Nat.le_refl _) _) rfl ⟨⟨hm,by simp⟩,trivial⟩ (by simp)
 exact⟨_,env',rfl,h1,⟨.int,[], .mp,by simp[look]⟩,by rw[h2.1.2]⟩
theorem DQ{Γ:Nat→TK}(C: ∀t,b7 P t (Γ t)){cr:List (Nat×CR)}{p:List (Nat×Bool)}{d m:Nat}{out:Out}(h:quiet Γ (A5 P ty) (Sound ty P) cr st p d m o.op=some out)
  (g:Good ty zb st a.tmps w env)(hp:holds a.tmps p)(hA:A3 w)(hv: ∀q,q∈out.vc→q)(hf:fresh st.hp out.o=true)(hn:eW out.o=true):
  o.wp P a w (sJ ty st a w env o.dst out.v out.o) Q:=by
 have hop: ∀{q x v},holds a.tmps q→ew st q x=some v→eC w st.hp env v (a.eval x):=fun hq hx=>dh g hq hx
 generalize dL:o.op=op at h
 cases op with
 |move x=>
  simp only[quiet]at h
  split at h
  ·rename_i v hx
   simp only[cS,oI]at h
   subst h
   exact cw (by unfold execOp;simp only[dL,Sem.run_pure]) (ru g hp hx)
  ·exact KY dL (Or.inl rfl) g h
 |assign x=>
  simp only[quiet]at h
  split at h
  ·rename_i v hx
   simp only[cS,oI]at h
   subst h
   exact cw (by unfold execOp;simp only[dL,Sem.run_pure]) (ru g hp hx)
  ·exact KY dL (Or.inr rfl) g h
 |pick c x y=>
  cases c with
  |tmp c=>
   simp only[quiet]at h
   split at h
   ·rename_i t u v h1 h2 h3
    simp only[cS,oI]at h
    subst h
    have hc:=(hop hp h1).lit
    have AS:a.tmps[c]? =some (.bool t):=FG hc
    refine cw (u:= .bool (if t then u else v)) ?_ ⟨rfl,rfl⟩
    unfold execOp
    cases t with
    |true=>
     have hx:=(hop (q:=(c,true)::p) (by intro e he;rcases List.mem_cons.1 he with rfl|he;exact AS;exact hp e he) h2).lit
     simp[dL,hc,hx,asBool]
    |false=>
     have hx:=(hop (q:=(c,false)::p) (by intro e he;rcases List.mem_cons.1 he with rfl|he;exact AS;exact hp e he) h3).lit
     simp[dL,hc,hx,asBool]
   ·cases h
  |_=>simp[quiet]at h
 |box e x=>
  simp only[quiet]at h
  split at h
  ·rename_i l hx
   simp only[oI]at h
   subst h
   obtain⟨cs,hu,hl⟩:=hop hp hx
   exact uz (cs:=cs) (e:=e) (by unfold execOp;simp[dL,Instr.box,newVar,newRow,hu,Value.cells]) g hf hl
  ·cases h
  ·rename_i v hne hx
   simp only[oI]at h
   subst h
   have hr:=hop hp hx
   have hc:=gC g (show RA w st.hp env v (a.eval x)from hr) (fun e=>hne e)
   exact uz (cs:= [a.eval x]) (e:=e) (by unfold execOp;simp[dL,Instr.box,newVar,newRow,hc]) g hf ⟨hr,trivial⟩
  ·cases h
 |alloc t=>
  simp only[quiet]at h
  split at h
  ·rename_i z tg fo hk
   simp only[oI]at h
   subst h
   have hC:=C t
   rw[hk]at hC
   obtain⟨fs,hu,hi,h1,_⟩:=hC
   refine uz (cs:=z) (e:=t) ?_ g hf (yw h1)
   unfold execOp
   cases hq:P.info? t with
   |none=>simp[hq]at hi
   |some i=>
    simp[hq]at hi
    simp[dL,Instr.alloc,zeroValue,typeInfo,hq,hi.2,newVar,newRow,Value.cells]
  ·cases h
 |load t x=>
  simp only[quiet]at h
  split at h
  ·rename_i n off hx
   obtain⟨_,b,hb,hu⟩:=hop hp hx
   split at h
   ·rename_i c hl
    obtain⟨b',cs,e,vX,hh,hc⟩:=g.obj n _ hl
    have Su:b=b':=by
     rw[vX]at hb
     simpa using hb.symm
    subst Su
    have sN:w.rangeAt b 0 cs:=by simpa using Kv hh
    split at h
    ·rename_i z tg fo hk
     split at h
     ·rename_i l hs
      simp only[cS,oI]at h
      subst h
      have hC:=C t
      rw[hk]at hC
      obtain⟨k1,k2⟩:=KN hc hs
      exact wp_load_row dL hC hu (by have:=iS (k:=z.length) (j:=off) sN;rwa [Nat.zero_add]at this) k2 k1
     ·cases h
    ·cases h
    ·rename_i k1 k2
     split at h
     ·rename_i v hs
      simp only[cS,oI]at h
      subst h
      obtain⟨u,q1,q2⟩:=hc.at (Cd hs)
      refine kN dL (C t) ?_ ?_ hu (by have:=iT sN q1;rwa [Nat.zero_add]at this) (RA.KB q2)
      ·intro z tg fo hz;exact k1 z tg fo hz
      ·exact k2
     ·cases h
   ·cases h
  ·rename_i gt y off hx
   obtain⟨b,o',cs,fp,hu,_,sN,hE,_,hd⟩:=hop hp hx
   have hc:=KO hE hd
   split at h
   ·rename_i z tg fo hk
    split at h
    ·rename_i l hs
     simp only[cS,oI]at h
     subst h
     have hC:=C t
     rw[hk]at hC
     obtain⟨k1,k2⟩:=KN hc hs
     exact wp_load_row dL hC hu (iS sN) k2 k1
    ·cases h
   ·cases h
   ·rename_i k1 k2
    split at h
    ·rename_i v hs
     simp only[cS,oI]at h
     subst h
     obtain⟨u,q1,q2⟩:=hc.at (Cd hs)
     refine kN dL (C t) ?_ ?_ hu (iT sN q1) q2
     ·intro z tg fo hz;exact k1 z tg fo hz
     ·exact k2
    ·cases h
  ·rename_i n gt y off hx
   obtain⟨⟨tA,lA,hl⟩,b,o',cs,fp,hu,hb,sN,hE,hd⟩:=hop hp hx
   have hR:=reads gt hE
   split at h
   ·rename_i z tg fo hk
    split at h
    ·rename_i l hs
     simp only[cS,oI]at h
     subst h
     have hC:=C t
     rw[hk]at hC
     obtain⟨f',r1,r2,r3,r4⟩:=bG.sub hR hs
     exact wp_load_row dL hC hu (iS sN) r4 (Hh hl r1 (r2.nodup hd.1) (fun x hx=>hd.2.1 x (r2.subset hx)))
    ·cases h
   ·cases h
   ·rename_i k1 k2
    split at h
    ·rename_i v hs
     simp only[cS,oI]at h
     subst h
     obtain⟨u,f',q1,q2,q3⟩:=bG.at hR hs
     refine kN dL (C t) ?_ ?_ hu (iT sN q1) (Cf hl q2 (q3.nodup hd.1) (fun x hx=>hd.2.1 x (q3.subset hx)) (by simp))
     ·intro z tg fo hz;exact k1 z tg fo hz
     ·exact k2
    ·cases h
  ·rename_i n i off hx
   obtain⟨tA,lA,Xs,b,o',len,cap,uC,hu⟩:=hop hp hx
   split at h
   ·rename_i gt l hl
    rw[hl]at Xs
    simp only[oI,Obj.arr.injEq]at Xs
    obtain⟨rfl,_⟩:=Xs
    split at h
    ·rename_i z tg fo hk
     split at h
     ·rename_i c hs
      simp only[oI]at h
      subst h
      have hi:i<l.length:=hv _ (List.mem_singleton.2 rfl)
      obtain⟨b2,o2,UT,cs,f,IP,hb,sN,hE,hd⟩:=yx g hl hi
      rw[IP]at uC
      simp only[Value.slice.injEq,oI,Addr.mk.injEq,and_true]at uC
      obtain⟨⟨rfl,rfl⟩,rfl,rfl⟩:=uC
      have hC:=C t
      rw[hk]at hC
      obtain⟨f',r1,r2,r3,r4⟩:=bG.sub (reads gt hE) hs
      refine wp_load_row dL hC hu (iS sN) r4 (Hg hl hi IP hb r1 ((r2.trans hd).nodup (RO.own (g.obj _ _ hl)).nodup) (fun x hx=>hd.subset (r2.subset hx)) (fun j v hj=> ?_) (iS sN))
      rw[r3,List.getElem?_take]at hj
      split at hj
      ·rw[List.getElem?_drop]at hj;rw[pU];exact hj
      ·cases hj
     ·cases h
    ·cases h
    ·rename_i k1 k2
     split at h
     ·rename_i v hs
      simp only[oI]at h
      subst h
      have hi:i<l.length:=hv _ (List.mem_singleton.2 rfl)
      obtain⟨b2,o2,UT,cs,f,IP,hb,sN,hE,hd⟩:=yx g hl hi
      rw[IP]at uC
      simp only[Value.slice.injEq,oI,Addr.mk.injEq,and_true]at uC
      obtain⟨⟨rfl,rfl⟩,rfl,rfl⟩:=uC
      obtain⟨u,f',q1,q2,q3⟩:=bG.at (reads gt hE) hs
      refine kN dL (C t) ?_ ?_ hu (iT sN q1) (Cf hl q2 ((q3.trans hd).nodup (RO.own (g.obj _ _ hl)).nodup) (fun x hx=>hd.subset (q3.subset hx)) ?_)
      ·intro z tg fo hz;exact k1 z tg fo hz
      ·exact k2
      ·rintro i' off' Sq
       simp only[oI,pI]at Sq
       obtain⟨rfl,rfl⟩:=Sq
       exact⟨b2,o2,_,UT,hi,hs,IP,hb,iT sN q1⟩
     ·cases h
   ·cases h
  ·cases h
 |binOp op t x y t'=>
  simp only[quiet]at h
  split at h
  ·rename_i k m k' m' h1 h2
   split at h
   ·rename_i vc v hb
    simp only[oI]at h
    subst h
    have hx:=(hop hp h1).lit
    have hy:=(hop hp h2).lit
    obtain⟨q1,q2⟩:=ON (P:=P) (w:=w) hb hv (t:=t) (X:=x) (Y:=y)
    refine cw (u:=v) ?_ ⟨rfl,q2⟩
    unfold execOp
    simp only[dL,hx,hy]
    rw[Sem.run_bind,q1]
    rfl
   ·cases h
  ·rename_i m m' h1 h2
   split at h
   ·rename_i vc v hb
    simp only[oI]at h
    subst h
    have hx:=(hop hp h1).lit
    have hy:=(hop hp h2).lit
    obtain⟨q1,q2⟩:=OO (P:=P) (w:=w) hb hv (t:=t) (X:=x) (Y:=y)
    refine cw (u:=v) ?_ ⟨rfl,q2⟩
    unfold execOp
    simp only[dL,hx,hy]
    rw[Sem.run_bind,q1]
    rfl
   ·cases h
  ·rename_i m m' h1 h2
   have hx:=(hop hp h1).lit
   have hy:=(hop hp h2).lit
   have hC:=C t
   split at h
   ·rename_i hk
    rw[hk]at hC
    simp only[cS,oI]at h
    subst h
    refine cw (u:= .bool (m==m')) ?_ ⟨rfl,rfl⟩
    unfold execOp
    simp only[dL,hx,hy]
    have he:(Op.equal t (.bool m) (.bool m')).run P w= .ok (m==m') w:=sM hC
    simp[eqGuard,binOp,he]
   ·rename_i hk
    rw[hk]at hC
    simp only[cS,oI]at h
    subst h
    refine cw (u:= .bool (m !=m')) ?_ ⟨rfl,rfl⟩
    unfold execOp
    simp only[dL,hx,hy]
    have he:(Op.equal t (.bool m) (.bool m')).run P w= .ok (m==m') w:=sM hC
    simp[eqGuard,binOp,he]
    cases m<;>cases m'<;>rfl
   ·cases h
  ·cases h
 |unOp op t x=>
  cases op with
  |not=>
   simp only[quiet]at h
   split at h
   ·rename_i b hx
    simp only[cS,oI]at h
    subst h
    have hx:=(hop hp hx).lit
    refine cw (u:= .bool (!b)) ?_ ⟨rfl,rfl⟩
    unfold execOp
    simp[dL,hx,Op.unary]
   ·cases h
  |neg=>
   simp only[quiet]at h
   split at h
   ·rename_i k n hx
    simp only[cS,oI]at h
    subst h
    have hx:=(hop hp hx).lit
    refine cw (u:= .int k (k.wrap (0-n))) ?_ ⟨rfl,rfl⟩
    unfold execOp
    simp[dL,hx,Op.unary,Op.intArith]
   ·cases h
  |_=>simp[quiet]at h
 |convert s t x=>
  simp only[quiet]at h
  split at h
  ·rename_i k n k1 k2 hx hk1 hk2
   simp only[cS,oI]at h
   subst h
   have hx:=(hop hp hx).lit
   have c1:=C s
   have c2:=C t
   rw[hk1]at c1
   rw[hk2]at c2
   refine cw (u:= .int k2 (k2.wrap n)) ?_ ⟨rfl,rfl⟩
   unfold execOp
   simp[dL,hx,convert,run_underlying (show P.underlying s=_ from c1),run_underlying (show P.underlying t=_ from c2),Conv.intToInt]
  ·rename_i v g' e hx hk1 hk2
   split at h
   ·rename_i l KZ hl
    simp only[cS,oI]at h
    subst h
    have c1:=C s
    have c2:=C t
    have c3:=C e
    rw[hk1]at c1
    rw[hk2]at c2
    rw[KZ]at c3
    have:=IM g (hop hp hx) hl c1.1 c3 c2
    refine cw (u:= .string (lE l)) ?_ ⟨rfl,rfl⟩
    unfold execOp
    simp only[dL,Sem.run_bind,this,Result.andThen_ok,Sem.run_pure]
   ·cases h
  ·cases h
 |slice t x lo hi mx=>
  cases mx with
  |some mx=>
   cases lo with
   |some _=>simp[quiet]at h
   |none=>
    cases hi with
    |none=>simp[quiet]at h
    |some hi=>
     simp only[quiet]at h
     split at h
     case h_2=>cases h
     rename_i gt e hk
     have hC:=C t
     rw[hk]at hC
     split at h
     case h_2=>cases h
     rename_i n n1 n2 hx h1 h2
     split at h
     case h_2=>cases h
     rename_i t' l hl
     split at h
     case h_2=>cases h
     rename_i hkk
     have hkk:=Nat.eq_of_beq_eq_true hkk
     simp only[oI]at h
     subst h
     obtain⟨q0,q1,q2⟩:=hv _ (List.mem_singleton.2 rfl)
     obtain⟨hA,hu⟩:=hop hp hx
     have hs:=RO.sl (g.obj n _ hl)
     rw[←show a.eval x=(env n).v from hu]at hs
     obtain⟨oa,cap,uC,hc,hm,h3⟩:=id hs
     obtain⟨y1,k1,e1,e2⟩: ∃y k,some hi=some y∧a.eval y= .int k n1:=by
      rcases gN (hop hp) h1 with⟨h,_⟩|h
      ·cases h
      ·exact h
     obtain⟨y2,k2,e3,e4⟩: ∃y k,some mx=some y∧a.eval y= .int k n2:=by
      rcases gN (hop hp) h2 with⟨h,_⟩|h
      ·cases h
      ·exact h
     simp only[oI]at e1 e3
     subst e1;subst e3
     subst q1
     rw[uC]at hs
     obtain⟨eR,r2,r3⟩:=Sr hs (j:=n1.toNat) (q:=0*kk gt) (by omega) (by simp)
     have hrun:(execOp a.eval o).run P w= .ok (.value (.slice (if n1.toNat=0 then oa else oa.map (·.add (0*kk gt))) n1.toNat n1.toNat)) w:=by
      obtain⟨hun,hsz⟩:=hC
      cases hq:P.info? e with
      |none=>simp[hq]at hsz
      |some inf=>
       have hsz':inf.size=kk gt:=by simpa[hq]using hsz
       have c1:n1≤(cap:Int):=by omega
       have c2: ¬max n1 0<n1:=by omega
       unfold execOp
       simp[dL,uC,e2,e4,c2,Instr.sliceAt,Instr.slice,Instr.sliceBounds,Instr.sliceBound,asIntOf,run_underlying hun,sizeOf,typeInfo,hq,hsz',q0,c1]
     have hlt:(l.take n1.toNat).length=n1.toNat:=by rw[List.length_take];omega
     exact cw hrun ⟨hA,⟨eR,r2,fun b hb=>Or.inl (r3 b hb)⟩,fun _=>⟨_,by rw[hlt]⟩⟩
  |none=>
   simp only[quiet]at h
   split at h
   ·rename_i gt e hk
    have hC:=C t
    rw[hk]at hC
    split at h
    ·split at h
     ·rename_i n p' t' l n1 hx h1
      simp only[oI]at h
      subst h
      have hlo:n1=(l.length:Int):=hv _ (List.mem_singleton.2 rfl)
      obtain⟨hA,⟨fp,⟨oa,cap,hu,hc,hm,h3⟩,hnd,hd⟩,_⟩:=hop hp hx
      have hz:oa=none→cap=0:=by
       intro ho
       rcases h3 with⟨_,_,h4⟩| ⟨b,off,aO,h4,_⟩
       ·exact h4
       ·rw[ho]at h4;cases h4
      obtain⟨Kf,r1,r2⟩:=DN (P:=P) (w:=w) dL hC hu hc (gN (hop hp) h1) hlo
      refine cw r1 ⟨Kf,cap-l.length,rfl,Nat.zero_le _,by omega,fun ho=> ?_⟩
      rw[hz (r2 ho)];omega
     ·rename_i k n1 hx h1
      simp only[oI]at h
      subst h
      have hlo:n1=(k:Int):=hv _ (List.mem_singleton.2 rfl)
      obtain⟨oa,cap,hu,hc,hm,hz⟩:=hop hp hx
      obtain⟨Kf,r1,r2⟩:=DN (P:=P) (w:=w) dL hC hu hc (gN (hop hp) h1) hlo
      refine cw r1 ⟨Kf,cap-k,rfl,Nat.zero_le _,by omega,fun ho=> ?_⟩
      rw[hz (r2 ho)];omega
     ·cases h
    split at h
    ·rename_i t' l n1 hx h1
     split at h
     ·rename_i n2 h2
      split at h
      ·rename_i hkk
       have hkk:=Nat.eq_of_beq_eq_true hkk
       simp only[oI]at h
       subst h
       obtain⟨q0,q1,q2⟩:=hv _ (List.mem_singleton.2 rfl)
       obtain⟨fp,hs,hd⟩:=hop hp hx
       obtain⟨u',eR,r1,r2,r3⟩:=uB dL hC hkk hs (gN (hop hp) h1) (gN (hop hp) h2) q0 q1 q2
       exact cw r1 ⟨eR,r2,fun b hb=>hd b (r3.subset hb)⟩
      ·cases h
     ·cases h
    ·rename_i n p' t' l n1 hx h1
     split at h
     ·rename_i n2 h2
      split at h
      ·rename_i hkk
       have hkk:=Nat.eq_of_beq_eq_true hkk
       simp only[oI]at h
       subst h
       obtain⟨q0,q1,q2⟩:=hv _ (List.mem_singleton.2 rfl)
       obtain⟨hA,⟨fp,hs,hnd,hd⟩,_⟩:=hop hp hx
       obtain⟨u',eR,r1,r2,r3⟩:=uB dL hC hkk hs (gN (hop hp) h1) (gN (hop hp) h2) q0 q1 q2
       exact cw r1 ⟨hA,⟨eR,r2,r3.nodup hnd,fun b hb=>hd b (r3.subset hb)⟩,by simp⟩
      ·cases h
     ·cases h
    ·rename_i n n1 hx h1
     split at h
     ·rename_i t' l hl
      split at h
      ·rename_i n2 h2
       split at h
       ·rename_i hkk
        have hkk:=Nat.eq_of_beq_eq_true hkk
        simp only[oI]at h
        subst h
        obtain⟨q0,q1,q2⟩:=hv _ (List.mem_singleton.2 rfl)
        obtain⟨hA,hu⟩:=hop hp hx
        have hs:=RO.sl (g.obj n _ hl)
        rw[←show a.eval x=(env n).v from hu]at hs
        obtain⟨u',eR,r1,r2,r3⟩:=uB dL hC hkk hs (gN (hop hp) h1) (gN (hop hp) h2) q0 q1 q2
        exact cw r1 ⟨hA,⟨eR,r2,r3.nodup (RO.own (g.obj n _ hl)).nodup,fun b hb=>r3.subset hb⟩,by simp⟩
       ·cases h
      ·cases h
     ·cases h
    ·rename_i oa len cap n1 hx h1
     split at h
     ·rename_i n2 h2
      simp only[oI]at h
      subst h
      obtain⟨q0,q1,q2,q3⟩:=hv _ (List.mem_singleton.2 rfl)
      obtain⟨hu,_⟩:=hop hp hx
      exact cw (Hf dL hC hu (gN (hop hp) h1) (gN (hop hp) h2) q0 q1 q2 q3) ⟨rfl,rfl⟩
     ·cases h
    ·cases h
   ·rename_i hk
    have hC:=C t
    rw[hk]at hC
    split at h
    ·rename_i s n1 hx h1
     split at h
     ·rename_i n2 h2
      simp only[oI]at h
      subst h
      obtain⟨q0,q1,q2⟩:=hv _ (List.mem_singleton.2 rfl)
      exact Cg dL hC (hop hp hx).lit (gN (hop hp) h1) (gN (hop hp) h2) q0 q1 q2
     ·cases h
    ·cases h
   ·cases h
 |makeFunc fn first captured=>
  cases fn with
  |func f=>
   simp only[quiet]at h
   split at h
   ·rename_i x hf hc
    split at h
    ·rename_i n hx
     simp only[cS,oI]at h
     subst h
     obtain⟨hA,b,hb,hu⟩:=hop hp hx
     have e1:first= #[]:=by cases first;simp_all
     have e2:captured= #[x]:=by cases captured;simp_all
     refine cw (u:= .func (.func f) #[] #[.pointer (some ⟨b,0,none⟩)]) ?_ ⟨hA,b,hb,rfl⟩
     unfold execOp
     simp[dL,Instr.makeFunc,e1,e2,hu]
    ·cases h
   ·cases h
  |_=>simp[quiet]at h
 |fieldAddr t x f=>
  simp only[quiet]at h
  split at h
  ·rename_i z tg fo hk
   have hC:=C t
   rw[hk]at hC
   split at h
   ·rename_i k hf'
    split at h
    ·rename_i n off hx
     simp only[cS,oI]at h
     subst h
     obtain⟨hc,b,hb,hu⟩:=hop hp hx
     exact jv dL hC hf' hu ⟨hc,b,hb,rfl⟩
    ·rename_i gt y off hx
     simp only[cS,oI]at h
     subst h
     obtain⟨b,o',cs,fp,hu,k1⟩:=hop hp hx
     exact jv dL hC hf' hu ⟨b,o',cs,fp,by rw[Nat.add_assoc],k1⟩
    ·rename_i n i off hx
     simp only[cS,oI]at h
     subst h
     obtain⟨t',l,hl,b,o',len,cap,hb,hu⟩:=hop hp hx
     exact jv dL hC hf' hu ⟨t',l,hl,b,o',len,cap,hb,by rw[Nat.add_assoc]⟩
    ·rename_i n gt y off hx
     simp only[cS,oI]at h
     subst h
     obtain⟨hA,b,o',cs,fp,hu,k1,k2,k3,ZT,k4,k5⟩:=hop hp hx
     refine jv dL hC hf' hu ⟨hA,b,o',cs,fp,by rw[Nat.add_assoc],k1,k2,k3,ZT,k4,fun i o2 j hq=> ?_⟩
     obtain⟨l,u0,b0,lG,len,cap,j1,j2,j3,j4,j5⟩:=k5 i o2 j hq
     rw[hu]at j5
     simp only[Value.pointer.injEq,oI,Addr.mk.injEq,and_true]at j5
     obtain⟨rfl,j5⟩:=j5
     exact⟨l,u0,b,lG,len,cap,j1,j2,j3,j4,by rw[j5,Nat.add_assoc]⟩
    ·cases h
   ·cases h
  ·cases h
 |indexAddr t x i=>
  simp only[quiet]at h
  split at h
  ·rename_i gt e hk
   have hC:=C t
   rw[hk]at hC
   split at h
   ·rename_i t' l ik n hx hi
    split at h
    ·rename_i hkk
     have hkk:=Nat.eq_of_beq_eq_true hkk
     simp only[oI]at h
     subst h
     obtain⟨h0,h1⟩:=hv _ (List.mem_singleton.2 rfl)
     have hx:=hop hp hx
     have hi:=(hop hp hi).lit
     obtain⟨b,off,len,cap,hu,hlt,hr⟩:=OM hx h0 h1
     exact mQ dL hC hu hi h0 hlt (by rw[hkk];exact hr)
    ·cases h
   ·rename_i m ik n hx hi
    split at h
    ·rename_i t' l hl
     split at h
     ·rename_i hkk
      have hkk:=Nat.eq_of_beq_eq_true hkk
      simp only[oI]at h
      subst h
      obtain⟨h0,h1⟩:=hv _ (List.mem_singleton.2 rfl)
      obtain⟨_,hu⟩:=hop hp hx
      have hi:=(hop hp hi).lit
      obtain⟨b,o',cap,cs,f,hs,_⟩:=yx g hl (i:=n.toNat) (by omega)
      exact mQ dL hC (hu.trans hs) hi h0 h1 ⟨t',l,hl,b,o',_,cap,hs,by rw[hkk];simp⟩
     ·cases h
    ·cases h
   ·rename_i m p' t' l ik n hx hi
    split at h
    ·rename_i hkk
     have hkk:=Nat.eq_of_beq_eq_true hkk
     simp only[oI]at h
     subst h
     obtain⟨h0,h1⟩:=hv _ (List.mem_singleton.2 rfl)
     have hx:=hop hp hx
     have hi:=(hop hp hi).lit
     obtain⟨b,off,len,cap,hu,hlt,hr⟩:=OP hx h0 h1
     exact mQ dL hC hu hi h0 hlt (by rw[hkk];exact hr)
    ·cases h
   ·cases h
  ·cases h
 |lookup t x y b=>
  cases b with
  |true=>simp[quiet]at h
  |false=>
   simp only[quiet]at h
   split at h
   ·rename_i hk
    have hC:=C t
    rw[hk]at hC
    obtain⟨kt,et,ht,Xt,hz,_⟩:=hC
    split at h
    ·rename_i n k hx hy
     split at h
     ·rename_i tg l0 hl
      split at h
      ·rename_i l hc
       simp only[cS,oI]at h
       subst h
       obtain⟨_,hu⟩:=hop hp hx
       have hy:=(hop hp hy).lit
       obtain⟨r,lx,h1,h2,h3⟩:=g.obj n _ hl
       rw[hc]at h1
       simp only[oI]at h1
       subst h1
       have K0:a.eval x= .map (some r):=by rw[hu,h2]
       refine cw (u:= .int .i64 (Dy l k)) ?_ ⟨rfl,rfl⟩
       unfold execOp
       simp only[dL,K0,hy,Sem.run_bind,Sem.run_pure,yh ht Xt (hz w) h3,Result.andThen_ok]
      ·cases h
     ·cases h
    ·cases h
   ·cases h
 |index t x i=>
  simp only[quiet]at h
  split at h
  ·rename_i hk
   have hC:=C t
   rw[hk]at hC
   split at h
   ·rename_i s k n hx hy
    simp only[oI]at h
    subst h
    have hx:=(hop hp hx).lit
    have hy:=(hop hp hy).lit
    obtain⟨h0,h1⟩:0≤n∧n<(s.size:Int):=hv _ (List.mem_singleton.2 rfl)
    have hlt:n.toNat<s.size:=by omega
    have hgd:s.data.toList.getD n.toNat 0=s[n.toNat]:=by
     have h2:n.toNat<s.data.toList.length:=by rw[Array.length_toList];exact hlt
     rw[List.getD_eq_getElem?_getD,List.getElem?_eq_getElem h2]
     simp[ByteArray.getElem_eq_getElem_data]
    refine cw (u:= .int .u8 ((s.data.toList.getD n.toNat 0).toNat:Int)) ?_ ⟨rfl,rfl⟩
    unfold execOp
    simp only[dL,hx,hy,Sem.run_bind,Sem.run_pure,run_index_string (P:=P) (w:=w) t s k n hC,dif_pos (And.intro h0 h1),Result.andThen_ok,hgd]
   ·cases h
  ·cases h
 |makeMap t r=>
  cases r with
  |some _=>simp[quiet]at h
  |none=>
   simp only[quiet]at h
   split at h
   ·simp only[oI]at h
    subst h
    exact IN (by unfold execOp;simp[dL,Instr.makeMap])
   ·cases h
 |makeSlice t x y=>
  simp only[quiet]at h
  split at h
  ·rename_i gt e hk
   have hC:=C t
   rw[hk]at hC
   split at h
   ·rename_i k1 n1 k2 n2 hx hy
    simp only[oI]at h
    subst h
    have hE:A5 P ty gt e:=hv _ (by simp)
    have hab:n1=n2:=hv _ (by simp)
    have h0:0≤n1:=hv _ (by simp)
    obtain⟨h1,h2⟩:n1.toNat*dB gt≤140737488355328∧n1.toNat≤maxLen:=hv _ (by simp)
    subst hab
    obtain⟨rfl,oB⟩:=hE
    obtain⟨w',u,fp,r1,r2,r3⟩:=KU (P:=P) (w:=w) (a:=a) dL hC.1 oB (hop hp hx).lit (hop hp hy).lit h0 h1 h2
    exact Ba r1 r2 r3
   ·cases h
  ·cases h
 |buildSlice t len parts=>
  simp only[quiet]at h
  split at h
  ·rename_i gt e hk
   have hC:=C t
   rw[hk]at hC
   split at h
   ·split at h
    case h_2=>cases h
    rename_i x hlen hps
    split at h
    case h_2=>cases h
    rename_i s hx
    split at h
    case h_2=>cases h
    rename_i c n hc
    split at h
    case h_2=>cases h
    rename_i vc y he hbig
    simp only[oI]at h
    subst h
    have hE:A5 P ty gt e:=hv _ (by simp)
    obtain⟨rfl,oB⟩:=hE
    have hs:=hop hp hx
    obtain⟨tA,lA,UU,hl,Ft,hnd,hsub⟩:=Hi g (FH g hs hc) hc
    have hrd:=oq gt he (fun q hq=>hv q (by simp[hq])) Ft
    have hlen:=Nat.eq_of_beq_eq_true hlen
    subst hlen
    have Y1:=RO.own (g.obj n _ hl)
    have hO:Own _ w UU:=⟨hnd,fun b hb=>Y1.ge b (hsub b hb),fun b hb=>Y1.kind b (hsub b hb)⟩
    have hfl:([UU]:List (List Nat)).flatten=UU:=by simp
    obtain⟨w',r1,r2,r3⟩:=uA (P:=P) (w:=w) (a:=a) dL hC.1 oB (by rw[Nat.one_mul];exact Nat.le_of_ble_eq_true hbig) (by rw[hps];rfl) (Nat.zero_le _) (xs:= [y]) (aO:= [UU]) (by rw[hps];rfl) (by rw[hps];rfl) rfl
     (fun i x' f hx' hf=>by
      cases i with
      |zero=>simp at hx' hf;subst hx';subst hf;exact⟨(0,x),by rw[hps];rfl,hrd⟩
      |succ i=>simp at hx') (by rw[hfl];exact hO)
    rw[hfl]at r3
    unfold Oper.wp
    rw[r1]
    refine⟨_,env,rfl,ir.none r2,⟨tA,lA,hl⟩,w.heap.size,UU,fZ.sl r3,fun ho=> ?_,hnd,hsub⟩
    have:=(g.ow ho).2
    omega
   split at h
   ·rename_i vc xs hlen hbig hb
    simp only[oI]at h
    subst h
    have hE:A5 P ty gt e:=hv _ (by simp)
    obtain⟨rfl,oB⟩:=hE
    obtain⟨q1,q2,q3⟩:=Bb g hp hb (fun q hq=>hv q (by simp[hq]))
    have hfl:(List.replicate xs.length ([]:List Nat)).flatten= []:=by simp
    obtain⟨w',r1,r2,r3⟩:=uA (P:=P) (w:=w) (a:=a) dL hC.1 oB (Nat.le_of_ble_eq_true hbig) (Nat.eq_of_beq_eq_true hlen) (Nat.le_refl _) (xs:=xs) (aO:=List.replicate xs.length []) q1 q2 (by simp)
     (fun i x f hx hf=>by
      obtain⟨p,h1,h2⟩:=q3 i x hx
      rw[List.getElem?_replicate]at hf
      split at hf
      ·simp only[oI]at hf;subst hf;exact⟨p,h1,h2⟩
      ·cases hf) (by rw[hfl];exact Own.nil _ _)
    exact Ba r1 r2 r3
   ·cases h
  ·cases h
 |build t parts=>
  simp only[quiet]at h
  split at h
  ·rename_i z tg fo hk
   have hC:=C t
   rw[hk]at hC
   obtain⟨fs,hu,hi,h1,_,places,AB,kP⟩:=hC
   split at h
   ·rename_i c hb
    simp only[cS,oI]at h
    subst h
    cases hq:P.info? t with
    |none=>simp[hq]at hi
    |some inf=>
     simp[hq]at hi
     obtain⟨cs',h3,h4⟩:=DP (st:=st) (zb:=zb) g hp (pl:=fun j=>places[j]?) kP hb (yw h1)
     refine cw (u:= .agg (Array.mk cs')) ?_ ⟨cs',rfl,h4⟩
     have hrun:=run_build (P:=P) w t (parts.map fun(q:Nat×Operand)=>(q.1,a.eval q.2)) (Array.mk cs') (by
      unfold Program.built
      rw[hq,hu]
      simp only[hi.2,AB]
      rw[Array.toList_map]
      simpa[Value.cells]using h3)
     unfold execOp
     simp only[dL,Sem.run_bind,hrun,Result.andThen_ok,Sem.run_pure]
   ·cases h
  ·cases h
 |nilCheck x=>
  simp only[quiet]at h
  split at h
  ·rename_i n off hx
   simp only[cS,oI]at h
   subst h
   obtain⟨hA,b,hb,hu⟩:=hop hp hx
   refine cw (u:=a.eval x) ?_ ⟨hA,b,hb,hu⟩
   unfold execOp
   simp[dL,hu]
  ·rename_i n i off hx
   simp only[cS,oI]at h
   subst h
   obtain⟨t,l,hl,b,o',len,cap,hb,hu⟩:=hop hp hx
   refine cw (u:=a.eval x) ?_ ⟨t,l,hl,b,o',len,cap,hb,hu⟩
   unfold execOp
   simp[dL,hu]
  ·cases h
 |extract x i=>
  cases x with
  |tmp t=>
   simp only[quiet]at h
   split at h
   ·rename_i l hl
    split at h
    ·rename_i x hx
     simp only[cS,oI]at h
     subst h
     obtain⟨us,hu,lH⟩:=g.slot t _ hl
     obtain⟨u,k1,k2⟩:=lH.at hx
     refine cw ?_ k2
     unfold execOp
     have Uz:a.eval (.tmp t)= .tuple us.toArray:=hu
     simp[dL,Uz,Instr.extract,k1]
    ·cases h
   ·cases h
  |_=>simp[quiet]at h
 |call c=>
  obtain⟨callee,xs,ts⟩:=c
  cases callee with
  |value x=>
   cases x with
   |func f=>
    simp only[quiet]at h
    split at h
    ·rename_i as c h1 h2
     simp only[oI]at h
     obtain⟨own,rs⟩:=c
     have OT:out.vc= [Sound ty P f as rs]:=by
      rw[←h]
      unfold outs
      dsimp only
      (repeat' split)<;>rfl
     exact G9 dL rfl (hv _ (by rw[OT];simp)) hA g (Cc g hp h1) h hn
    ·cases h
   |tmp x=>
    simp only[quiet]at h
    split at h
    ·rename_i v hx
     split at h
     ·rename_i f hfn
      split at h
      ·rename_i as c h1 h2
       simp only[oI]at h
       obtain⟨own,rs⟩:=c
       have OT:out.vc= [Sound ty P f as rs]:=by
        rw[←h]
        unfold outs
        dsimp only
        (repeat' split)<;>rfl
       exact G9 dL (He (hop hp hx) hfn) (hv _ (by rw[OT];simp)) hA g (Cc g hp h1) h hn
      ·cases h
     ·cases h
    ·cases h
   |_=>simp[quiet]at h
  |builtin b=>
   cases b with
   |append=>
    simp only[quiet]at h
    split at h
    case h_2=>cases h
    rename_i x y t1 t2 hkey hxl htl
    obtain rfl:xs= #[x,y]:=by cases xs;simp_all
    obtain rfl:ts= #[t1,t2]:=by cases ts;simp_all
    split at h
    case h_2=>cases h
    rename_i gt e Xu hk
    have Xu:=Nat.eq_of_beq_eq_true Xu
    subst Xu
    split at h
    case h_2=>cases h
    rename_i n t l n2 pq t' l' hx hy
    split at h
    case h_2=>cases h
    rename_i la lb hnn hca hcb
    have hnn:=Nat.eq_of_beq_eq_true hnn
    subst hnn
    simp only[oI]at h
    subst h
    obtain⟨ea,rfl⟩:=ct hca
    subst ea
    obtain⟨eb,rfl⟩:=ct hcb
    subst eb
    have hE:A5 P ty t' e:=hv _ (by simp)
    obtain⟨b1,b2⟩:(l.length+l'.length)*dB t'≤140737488355328∧l.length+l'.length≤maxLen:=hv _ (by simp)
    obtain⟨rfl,oB⟩:=hE
    have hC:=C t1
    rw[hk]at hC
    obtain⟨Y2,⟨fp,hs,hsub⟩,hcap⟩:=hop hp hx
    obtain⟨hA2,⟨DG,Fu,hnd,UW⟩,_⟩:=hop hp hy
    obtain⟨oa,hu⟩:=hcap rfl
    obtain⟨olds,fx,n1,n2,n3,n4,n5,_⟩:=lX (cF t') (eu t') hs
    obtain⟨news,fy,m1,m2,m3,m4,m5,_⟩:=lX (cF t') (eu t') Fu
    rw[hu]at n1
    obtain⟨v',w',hrun,hres⟩:=OR (ty':=o.type) hC.1 oB (ij t') (eu t') n1 n3 m1 m3 (OQ (cF t') (eu t') m2 m3 m4) b2 b1
    have key:Below w.heap.size w w'∧RA w' st.hp env (.mix n false t' (l++l')) v':=by
     rcases hres with⟨h0,rfl,rfl⟩| ⟨hrow,K1⟩
     ·have e0:l'= []:=List.eq_nil_of_length_eq_zero h0
      subst e0
      refine⟨Below.refl _ _,Y2,⟨fp,?_,hsub⟩,fun hh=>by cases hh⟩
      rw[List.append_nil, ←hu];exact hs
     ·have Ca:Below w.heap.size w w':=⟨K1.os,K1.tape,K1.output,K1.size,fun b hb=>K1.block b hb (fun h=>by cases h)⟩
      have hkk:=eu t'
      refine⟨Ca,Y2,⟨_,Ss (l:=l++l') (aO:=fx++fy) (by rw[List.length_append];exact hrow) (by rw[List.length_append,List.length_append,n2,m2]) (fun i x f hx hf=> ?_),fun b hb=> ?_⟩,fun hh=>by cases hh⟩
      ·refine(cF t').below ?_ Ca
       by_cases hi:i<l.length
       ·rw[List.getElem?_append_left hi]at hx
        rw[List.getElem?_append_left (by omega)]at hf
        have h1:i*kk t'+kk t'≤olds.length:=by
         have:=Nat.mul_le_mul_right (kk t') (show i+1≤l.length by omega)
         rw[Nat.add_mul]at this;omega
        rw[List.drop_append_of_le_length (by omega),List.take_append_of_le_length (by rw[List.length_drop];omega)]
        exact n4 i x f hx hf
       ·rw[List.getElem?_append_right (by omega)]at hx
        rw[List.getElem?_append_right (by omega),n2]at hf
        have h1:i*kk t'=olds.length+(i-l.length)*kk t':=by
         rw[n3, ←Nat.add_mul];congr 1;omega
        rw[h1,List.drop_append]
        have h2:olds.drop (olds.length+(i-l.length)*kk t')= []:=List.drop_eq_nil_of_le (by omega)
        rw[h2,List.nil_append,Nat.add_sub_cancel_left]
        exact m4 _ x f hx hf
      ·rcases List.mem_append.1 hb with hb|hb
       ·refine Or.inr fun ho=> ?_
        have h1:=(g.ow ho).2
        have h2:=(hrow.lt b (by simpa using hb)).1
        omega
       ·rw[List.flatten_append]at hb
        rcases List.mem_append.1 hb with hb|hb
        ·exact hsub b (n5.subset hb)
        ·exact Or.inl (UW b (m5.subset hb))
    unfold Oper.wp execOp
    simp only[dL,resolve,invoke,builtin,Sem.run_bind,Sem.run_pure,Result.andThen_ok,List.map_toArray,List.map_cons,List.map_nil,hu,hrun]
    exact⟨v',env,rfl,ir.none key.1,key.2⟩
   |max=>
    simp only[quiet]at h
    split at h
    ·rename_i k x r hxs
     split at h
     ·rename_i y hy
      simp only[cS,oI]at h
      subst h
      have he:=yy g hp hxs
      refine cw (u:= .int k y) ?_ ⟨rfl,rfl⟩
      have hf:=yz (P:=P) (w:=w) (f:=Builtin.max2) (F:=UQ) (fun k x y=>rfl) hy
      unfold execOp
      simp[dL,resolve,invoke,builtin,Builtin.max_,he,hf]
     ·cases h
    ·cases h
   |min=>
    simp only[quiet]at h
    split at h
    ·rename_i k x r hxs
     split at h
     ·rename_i y hy
      simp only[cS,oI]at h
      subst h
      have he:=yy g hp hxs
      refine cw (u:= .int k y) ?_ ⟨rfl,rfl⟩
      have hf:=yz (P:=P) (w:=w) (f:=Builtin.min2) (F:=Sh) (fun k x y=>rfl) hy
      unfold execOp
      simp[dL,resolve,invoke,builtin,Builtin.min_,he,hf]
     ·cases h
    ·cases h
   |len=>
    simp only[quiet]at h
    split at h
    ·rename_i x t hxl htl
     obtain rfl:xs= #[x]:=by cases xs;simp_all
     obtain rfl:ts= #[t]:=by cases ts;simp_all
     split at h
     ·rename_i v hx
      split at h
      ·rename_i n hn'
       simp only[cS,oI]at h
       subst h
       have hr:=hop hp hx
       have hC:=C t
       cases v with
       |sl t' l=>
        simp only[lenOf]at hn'
        split at hn'
        ·rename_i g' e' hk
         simp only[oI]at hn'
         subst hn'
         rw[hk]at hC
         obtain⟨fp,⟨oa,cap,hu,_⟩,_⟩:=hr
         exact yp rfl dL hC.1 hu (Or.inl ⟨_,oa,cap,l.length,rfl,rfl,rfl⟩)
        ·cases hn'
       |own m=>
        simp only[lenOf]at hn'
        split at hn'
        ·rename_i g' e' hk
         rw[hk]at hC
         split at hn'
         ·rename_i t' l hl
          simp only[oI]at hn'
          subst hn'
          obtain⟨_,hu⟩:=hr
          obtain⟨oa,cap,hs,_⟩:=RO.sl (g.obj m _ hl)
          exact yp rfl dL hC.1 (hu.trans hs) (Or.inl ⟨_,oa,cap,l.length,rfl,rfl,rfl⟩)
         ·cases hn'
        ·cases hn'
       |vw m p' t' l=>
        simp only[lenOf]at hn'
        split at hn'
        ·rename_i g' e' hk
         simp only[oI]at hn'
         subst hn'
         rw[hk]at hC
         obtain⟨_,⟨fp,⟨oa,cap,hu,_⟩,_⟩,_⟩:=hr
         exact yp rfl dL hC.1 hu (Or.inl ⟨_,oa,cap,l.length,rfl,rfl,rfl⟩)
        ·cases hn'
       |lit v=>
        have hu:=(show eC w st.hp env (.a (.lit v)) _ from hr).lit
        simp only[lenOf]at hn'
        split at hn'
        ·rename_i heq;cases heq
        ·rename_i heq;cases heq
        ·rename_i heq;cases heq
        ·rename_i heq
         simp only[V.lit.injEq]at heq
         subst heq
         split at hn'
         ·rename_i g' e' hk
          simp only[oI]at hn'
          subst hn'
          rw[hk]at hC
          exact yp rfl dL hC.1 hu (Or.inl ⟨_,none,0,0,rfl,rfl,rfl⟩)
         ·cases hn'
        ·rename_i s heq
         simp only[V.lit.injEq]at heq
         subst heq
         split at hn'
         ·rename_i hk
          simp only[oI]at hn'
          subst hn'
          rw[hk]at hC
          exact yp rfl dL hC hu (Or.inr ⟨_,rfl,rfl,rfl⟩)
         ·cases hn'
        ·cases hn'
       |_=>simp[lenOf]at hn'
      ·cases h
     ·cases h
    ·cases h
   |_=>simp[quiet]at h
  |invoke _ _=>simp[quiet]at h
 |_=>simp[quiet]at h
end
end
section
variable{ty:Tag→Nat}
theorem lY{α:Type}{f:Nat×α→α}: ∀{l:List (Nat×α)} {s:Nat},look (l.map fun e=>(e.1,f e)) s=(look l s).map fun x=>f (s,x)
 | [],_=>rfl
 | (j,x)::r,s=>by
   by_cases h:s=j
   ·subst h;rw[List.map_cons,look_eq,look_eq];rfl
   ·rw[List.map_cons,aK h,aK h];exact lY
theorem Bc{tmps:Array Value}{d:Nat}{u:Value}{p:List (Nat×Bool)}(h:(p.any fun e=>Nat.beq e.1 d)=false):holds (tmps.setIfInBounds d u) p↔holds tmps p:=by
 have hne: ∀e,e∈p→d≠e.1:=by
  rintro e he rfl
  rw[List.any_eq_false]at h
  exact h e he (by simp)
 constructor
 ·intro hh e he
  have:=hh e he
  rwa [Array.getElem?_setIfInBounds_ne (hne e he)]at this
 ·intro hh e he
  rw[Array.getElem?_setIfInBounds_ne (hne e he)]
  exact hh e he
theorem lT.put{w:World}{hp:Hp}{env:Env}{tmps:Array Value}{d:Nat}{u y:Value}{x:SV}(hm:x.mentions d=false)(h:lT w hp env tmps x y):lT w hp env (tmps.setIfInBounds d u) x y:=by
 cases x with
 |one x=>exact h
 |qR l=>exact h
 |cond p x=>exact⟨fun hh=>h.1 ((Bc hm).1 hh),fun hh=>h.2 fun k=>hh ((Bc hm).2 k)⟩
theorem Good.UX{zb:bP}{st:St}{tmps:Array Value}{w:World}{env:Env}(g:Good ty zb st tmps w env){d:Nat}(hd:d<tmps.size){v:SV}{u:Value}(hv:lT w st.hp env tmps v u)(hm:v.mentions d=false)(f:SV→SV)(hf: ∀s y,look st.sl s=some y→f y= .one (.a .any)∨(f y=y∧y.mentions d=false)):
  Good ty zb ⟨st.n,(d,v)::st.sl.map fun e=>(e.1,f e.2),st.hp⟩ (tmps.setIfInBounds d u) w env:=by
 refine⟨g.obj,g.fU,fun s x hl=> ?_,g.dom,g.pins⟩
 by_cases hs:s=d
 ·subst hs
  have hl:look ((s,v)::_) s=some x:=hl
  rw[look_eq]at hl
  simp only[oI]at hl
  subst hl
  have:(tmps.setIfInBounds s u).getD s undef=u:=by
   rw[Array.getD_eq_getD_getElem?,Array.getElem?_setIfInBounds_self_of_lt hd];rfl
  rw[this]
  exact hv.put hm
 ·have hl:look ((d,v)::_) s=some x:=hl
  rw[aK hs,lY (α:=SV) (f:=fun e:Nat×SV=>f e.2)]at hl
  cases hq:look st.sl s with
  |none=>rw[hq]at hl;cases hl
  |some y=>
   rw[hq]at hl
   simp only[Option.map_some,oI]at hl
   subst hl
   have hgd:(tmps.setIfInBounds d u).getD s undef=tmps.getD s undef:=by
    rw[Array.getD_eq_getD_getElem?,Array.getD_eq_getD_getElem?,Array.getElem?_setIfInBounds_ne (Ne.symm hs)]
   rw[hgd]
   show lT w st.hp env _ (f y) _
   rcases hf s y hq with h| ⟨h,hm'⟩
   ·rw[h];trivial
   ·rw[h];exact(g.slot s y hq).put hm'
theorem Good.put{zb:bP}{st:St}{tmps:Array Value}{w:World}{env:Env}(g:Good ty zb st tmps w env){d:Nat}(hd:d<tmps.size){v:SV}{u:Value}(hv:lT w st.hp env tmps v u)(hm:v.mentions d=false):
  Good ty zb (st.put (some d) v) (tmps.setIfInBounds d u) w env:=by
 unfold St.put
 dsimp only
 split
 ·rename_i hno
  have:=g.UX hd hv hm id (fun s y hl=>Or.inr ⟨rfl,by
   rw[List.any_eq_false]at hno
   simpa using hno _ (dg hl)⟩)
  simpa using this
 ·refine g.UX hd hv hm (SV.KC d) fun s y hl=> ?_
  unfold SV.KC
  split
  ·exact Or.inl rfl
  ·rename_i hm';exact Or.inr ⟨rfl,hm'⟩
theorem sO{zb:bP}{st:St}{a:Act}{w:World}{env:Env}(g:Good ty zb st a.tmps w env){dst:Option Nat}(hd: ∀d,dst=some d→d<a.tmps.size){v:SV}{u:Value}(hv:lT w st.hp env a.tmps v u)(hm: ∀d,dst=some d→v.mentions d=false):
  Good ty zb (st.put dst v) (a.put dst u).tmps w env:=by
 cases dst with
 |none=>exact g
 |some d=>exact g.put (hd d rfl) hv (hm d rfl)
theorem iU(a:Act)(dst:Option Nat)(u:Value):(a.put dst u).tmps.size=a.tmps.size:=by
 cases dst<;>simp[Act.put]
theorem yA(st:St)(d:Option Nat)(v:SV):(st.put d v).n=st.n:=by
 unfold St.put
 split
 ·split<;>rfl
 ·rfl
theorem put_defers(a:Act)(dst:Option Nat)(u:Value):(a.put dst u).defers=a.defers:=by
 cases dst<;>rfl
theorem jS{ops:Array Oper}{o:Oper}{j:Nat}{x:Bool}(hg:o.guard=some (j,x)){q:Oper}(hj:ops[j]? =some q){d:Nat}(hd:q.dst=some d)(tmps:Array Value):
  Region.wanted o (yielded ops tmps)=true↔tmps[d]? =some (.bool x):=by
 simp only[Region.wanted,hg,yielded,hj,Option.bind_some,hd]
 constructor
 ·intro h
  have h:=eq_of_beq h
  split at h
  ·rename_i b hb
   simp at h
   rw[hb,h]
  ·cases h
 ·intro h
  rw[h];simp
theorem pV{zb:bP}{st:St}{tmps:Array Value}{w:World}{env:Env}(g:Good ty zb st tmps w env){d:Nat}{p:List (Nat×Bool)}{b x:Bool}(hl:look st.sl d=some (.cond p (.a (.lit (.bool b)))))(h:tmps[d]? =some (.bool x)):holds tmps p∧b=x:=by
 have hs:=g.slot d _ hl
 rw[Array.getD_eq_getD_getElem?,h]at hs
 by_cases hh:holds tmps p
 ·have:=(hs.1 hh).lit
  simp at this
  exact⟨hh,this.symm⟩
 ·have:=hs.2 hh
  simp[undef]at this
theorem K2{zb:bP}{st:St}{tmps:Array Value}{w:World}{env:Env}(g:Good ty zb st tmps w env){d:Nat}{b x:Bool}(hl:look st.sl d=some (.one (.a (.lit (.bool b)))))(h:tmps[d]? =some (.bool x)):b=x:=by
 have hs:=g.slot d _ hl
 rw[Array.getD_eq_getD_getElem?,h]at hs
 have:=(show eC w st.hp env (.a (.lit (.bool b))) (.bool x)from hs).lit
 simp at this
 exact this.symm
theorem xm{zb:bP}{st:St}{tmps:Array Value}{w:World}{env:Env}(g:Good ty zb st tmps w env): ∀{p:List (Nat×Bool)},holds tmps p→ ∀q,q∈hyps st p→q
 | [],_,q,hq=>by simp[hyps]at hq
 | (d,x)::r,h,q,hq=>by
   have h0:tmps[d]? =some (.bool x):=h (d,x) (by simp)
   have hr:holds tmps r:=fun e he=>h e (by simp[he])
   simp only[hyps]at hq
   split at hq
   ·rename_i b hl
    rcases List.mem_cons.1 hq with rfl|hq
    ·exact K2 g hl h0
    ·exact xm g hr q hq
   ·rename_i p' b hl
    rcases List.mem_cons.1 hq with rfl|hq
    ·exact(pV g hl h0).2
    ·exact xm g hr q hq
   ·exact xm g hr q hq
theorem Hj: ∀{hs:List Prop} {q:Prop},ey hs q→(∀h,h∈hs→h)→q
 | [],_,h,_=>h
 |h'::r,q,h,hh=>Hj (hs:=r) (h (hh h' (by simp))) fun x hx=>hh x (by simp[hx])
section
variable{P:Program}{zb:bP}{st st':St}{a:Act}{w:World}{Q:Exit→Act→World→Prop}{o:Oper}
def kK(P:Program)(ops:Array Oper)(o:Oper)(a:Act)(w:World)(K:Act→World→Prop)(Q:Exit→Act→World→Prop):Prop:=
 if Region.wanted o (yielded ops a.tmps)then o.wp P a w K Q∨(o.asks P a w∧LetsOut Q)else K (a.put o.dst undef) w
theorem jT{ops:Array Oper}(hg:o.guard=none){K:Act→World→Prop}(h:o.wp P a w K Q):kK P ops o a w K Q:=by
 unfold kK
 rw[if_pos (by simp[Region.wanted,hg])]
 exact .inl h
theorem FJ(iv:Inv ty zb st a w)(h:qS st o.dst=true): ∀d,o.dst=some d→d<a.tmps.size:=by
 intro d hd
 rw[hd]at h
 rw[iv.size]
 exact Nat.le_of_ble_eq_true h
theorem yB{Γ:Nat→TK}(C: ∀t,b7 P t (Γ t)){cK:List (Nat×Nat)}{cr:List (Nat×CR)}{ops:List Oper}{vc:List Prop}{v2:SV}{os:Hp}(h:iR Γ (A5 P ty) (Sound ty P) cK cr ops st o=some (vc,v2,os))(iv:Inv ty zb st a w)(hv: ∀q,q∈vc→q):
  kK P ops.toArray o a w (fun a' w'=>Inv ty zb (St.put ⟨st.n,st.sl,os++st.hp⟩ o.dst v2) a' w') Q:=by
 obtain⟨env,g⟩:=iv.good
 have Sv:=iv.kept.size
 simp only[iR]at h
 split at h
 ·rename_i m hd _ eo
  have Ch:=FJ iv hd
  have hg:o.guard=none:=by
   cases hg:o.guard with
   |none=>rfl
   |some e=>
    obtain⟨j,x⟩:=e
    exfalso
    simp only[dX,hg]at eo
    repeat' split at eo
    all_goals simp at eo
  split at h
  ·rename_i v1 v os hq
   split at h
   ·rename_i hf hn
    simp only[oI,pI]at h
    obtain⟨rfl,rfl,rfl⟩:=h
    refine jT hg (Oper.wp_mono ?_ (DQ (Q:=Q) C hq g (fun e he=>by simp at he) (iv.wN.now iv.kept) hv hf hn))
    rintro a' w' ⟨u,env',rfl,hN,hr⟩
    have g':=g.grow Sv hf hN
    have hnm: ∀d,o.dst=some d→v.mentions d=false:=by
     intro d _
     cases v with
     |one x=>rfl
     |qR l=>rfl
     |cond p x=>
      exfalso
      have: ∀(op:Op) (d m:Nat) (out:Out) (p:List (Nat×Bool)) (x:S1),quiet Γ (A5 P ty) (Sound ty P) cr st [] d m op=some out→out.v≠ .cond p x:=by
       intro op d m out p x hh
       unfold quiet KD at hh
       repeat' split at hh
       all_goals first
        | (cases hh;done)
        | (simp only[cS,oI]at hh;subst hh;intro e;cases e;done)
        | (simp only[oI]at hh;subst hh;unfold outs;(repeat' split)<;>(intro e;cases e))
      exact this _ _ _ _ p x hq rfl
    refine⟨by rw[iU,yA];exact iv.size,by rw[put_defers];exact iv.defers,iv.kept.trans (iq hN.below Sv),iv.wN,env',sO g' Ch hr hnm⟩
   ·cases h
  ·cases h
 ·rename_i m e p hd _ eo
  have Ch:=FJ iv hd
  split at h
  ·rename_i hne
   split at h
   ·rename_i v1 v hq
    simp only[oI,pI]at h
    obtain⟨rfl,rfl,rfl⟩:=h
    have hmn: ∀d,o.dst=some d→(SV.cond (e::p) v).mentions d=false:=by
     intro d Xv
     show((e::p).any fun e=>Nat.beq e.1 d)=false
     rw[List.any_eq_false]at hne ⊢
     intro x hx hb
     have:=Nat.eq_of_beq_eq_true hb
     exact hne x hx (by rw[Xv,this];simp)
    have fin: ∀{u:Value} {w':World},Below w.heap.size w w'→ir (ty:=ty) w w' st.hp [] env env→lT w' st.hp env a.tmps (.cond (e::p) v) u→Inv ty zb (st.put o.dst (.cond (e::p) v)) (a.put o.dst u) w':=by
     intro u w' hb hN hr
     have g':=g.grow (os:= []) Sv rfl hN
     exact⟨by rw[iU,yA];exact iv.size,by rw[put_defers];exact iv.defers,iv.kept.trans (iq hb Sv),iv.wN,env,sO g' Ch hr hmn⟩
    have key: ∃j x q d,o.guard=some (j,x)∧ops[j]? =some q∧q.dst=some d∧(d,x)∈e::p∧(a.tmps[d]? =some (.bool x)→holds a.tmps (e::p)):=by
     unfold dX at eo
     split at eo
     ·simp at eo
     ·rename_i j x hg
      split at eo
      ·rename_i q hj
       split at eo
       ·rename_i d Fv
        split at eo
        ·rename_i b hl
         simp only[oI]at eo
         refine⟨j,x,q,d,hg,hj,Fv,by rw[←eo];simp,fun hh=> ?_⟩
         rw[←eo]
         intro y hy
         simp at hy
         subst hy
         exact hh
        ·rename_i p' b hl
         simp only[oI]at eo
         refine⟨j,x,q,d,hg,hj,Fv,by rw[←eo];simp,fun hh=> ?_⟩
         rw[←eo]
         intro y hy
         rcases List.mem_cons.1 hy with rfl|hy
         ·exact hh
         ·exact(pV g hl hh).1 y hy
        ·cases eo
       ·cases eo
      ·cases eo
    obtain⟨j,x,q,d,hg,hj,Fv,hmem,UY⟩:=key
    have hw:=jS (ops:=ops.toArray) hg (by simpa using hj) Fv a.tmps
    unfold kK
    by_cases hb:a.tmps[d]? =some (.bool x)
    ·rw[if_pos (hw.2 hb)]
     have hp:=UY hb
     left
     refine Oper.wp_mono ?_ (DQ (Q:=Q) C hq g hp (iv.wN.now iv.kept) (fun z hz=> ?_) rfl rfl)
     ·rintro a' w' ⟨u,env',rfl,hN,hr⟩
      have he:env'=env:=funext fun n=>hN.old n rfl
      subst he
      exact fin hN.below hN ⟨fun _=>hr,fun hh=>absurd (fun y hy=>hp y hy) hh⟩
     ·exact Hj (hv _ (List.mem_map.2 ⟨z,hz,rfl⟩)) (xm g hp)
    ·rw[if_neg (fun hh=>hb (hw.1 hh))]
     exact fin (Below.refl _ _) (ir.none (Below.refl _ _)) ⟨fun hh=>absurd (hh (d,x) hmem) hb,fun _=>rfl⟩
   ·cases h
  ·cases h
 ·cases h
theorem K3{Γ:Nat→TK}(C: ∀t,b7 P t (Γ t)){cK:List (Nat×Nat)}{cr:List (Nat×CR)}{ops:List Oper}{vc:List Prop}(h:KE Γ (A5 P ty) (Sound ty P) cK cr ops st o=some (vc,st'))(iv:Inv ty zb st a w)(hv: ∀q,q∈vc→q):
  kK P ops.toArray o a w (fun a' w'=>Inv ty zb st' a' w') Q:=by
 unfold KE at h
 split at h
 ·rename_i nL v os hq
  simp only[oI,pI]at h
  obtain⟨rfl,rfl⟩:=h
  exact yB C hq iv hv
 ·cases h
end
end
section
variable{ty:Tag→Nat}
def V.dead:V→V
 | .vw _ _ _ l=> .mJ l.length
 |_=> .any
def V.bf(ks kv:List Nat)(v:V):V:=match v.name with
 |some m=>match ks.any (Nat.beq m)with
  |true=>v.dead
  |false=>match kv with
   | []=>v
   |kv=>match v.view with
    |some _=>match kv.any (Nat.beq m)with|true=>v.dead|false=>v
    |none=>v
 |none=>v
def S1.bf(ks kv:List Nat):S1→S1
 | .a v=> .a (v.bf ks kv)
 | .agg l=> .agg (l.map (V.bf ks kv))
def SV.bf(ks kv:List Nat):SV→SV
 | .one x=> .one (x.bf ks kv)
 | .qR l=> .qR (l.map (S1.bf ks kv))
 | .cond p x=> .cond p (x.bf ks kv)
def mO.bf(ks kv:List Nat):mO→mO
 | .of n=>match ks.any (Nat.beq n)||kv.any (Nat.beq n)with|true=> .gone|false=> .of n
 | .qB (some (n,i,o))=>match ks.any (Nat.beq n)||kv.any (Nat.beq n)with|true=> .qB none|false=> .qB (some (n,i,o))
 |s=>s
def Obj.bf(ks kv:List Nat):Obj→Obj
 | .box c=> .box (c.map (V.bf ks kv))
 | .arr t l=> .arr t l
 | .dY t l s=> .dY t l (s.bf ks kv)
def bE(ks kv:List Nat)(hp:Hp):Hp:=(hp.filter fun e=> !ks.any (Nat.beq e.1)).map fun e=>(e.1,e.2.bf ks kv)
def pinned(ks:List Nat):Bool:=ks.any soft
theorem V.FK{ks kv:List Nat}{v:V}:(v.bf ks kv).ox (fun n=>n∉ks) (fun n=>n∉ks∧n∉kv):=by
 have hx: ∀{l:List Nat} {m:Nat},(l.any (Nat.beq m))=false→m∉l:=by
  intro l m h hm
  rw[List.any_eq_false]at h
  exact h m hm (by simp)
 have Rl: ∀x:V,x.dead.ox (fun n=>n∉ks) (fun n=>n∉ks∧n∉kv):=by
  intro x
  cases x<;>exact⟨fun _ h=>by simp[V.dead,V.name]at h,fun _ h=>by simp[V.dead,V.view]at h⟩
 unfold V.bf
 split
 ·rename_i m hm
  split
  ·exact Rl v
  ·rename_i hk
   have hk:=hx hk
   have hn: ∀n,v.name=some n→n∉ks:=by
    intro n h;rw[hm]at h;simp only[oI]at h;subst h;exact hk
   split
   ·exact⟨hn,fun n h=>⟨hn n (V.lW h),by simp⟩⟩
   ·split
    ·split
     ·exact Rl v
     ·rename_i hv
      have hv:=hx hv
      refine⟨hn,fun n h=>⟨hn n (V.lW h),?_⟩⟩
      have:=V.lW h
      rw[hm]at this;simp only[oI]at this;subst this;exact hv
    ·rename_i Xw
     exact⟨hn,fun n h=>by rw[Xw]at h;cases h⟩
 ·rename_i hm
  refine⟨fun n h=> ?_,fun n h=> ?_⟩
  ·rw[hm]at h;cases h
  ·have:=V.lW h;rw[hm]at this;cases this
theorem RA.dead{w:World}{hp:Hp}{env:Env}{v:V}{u:Value}(h:RA w hp env v u):RA w hp env v.dead u:=by
 cases v with
 |vw n p t l=>
  obtain⟨_,⟨fp,⟨oa,cap,rfl,hc,hm,h3⟩,_⟩,_⟩:=h
  refine⟨oa,cap,rfl,hc,hm,fun ho=> ?_⟩
  rcases h3 with⟨_,_,h4⟩| ⟨b,off,aO,h4,_⟩
  ·exact h4
  ·rw[ho]at h4;cases h4
 |_=>trivial
theorem RA.bf{w:World}{hp:Hp}{env:Env}{ks kv:List Nat}{v:V}{u:Value}(h:RA w hp env v u):RA w hp env (v.bf ks kv) u:=by
 unfold V.bf
 repeat' split
 all_goals first
  |exact h
  |exact h.dead
  |trivial
abbrev qC(ks kv:List Nat)(w:World)(hp:Hp)(env:Env)(w':World)(gr:Hp)(env':Env):Prop:=Step (fun n=>n∉ks) (fun n=>n∉ks∧n∉kv) w hp env w' gr env'
section
variable{ks kv:List Nat}{w w':World}{hp gr:Hp}{env env':Env}
theorem BE.fA(s:qC ks kv w hp env w' gr env'){r:mO}{t:Tag}{x:T t}{u:Value}(h:BE w hp env r t x u):BE w' gr env' (r.bf ks kv) t x u:=by
 cases r with
 |gone=>trivial
 |mp=>trivial
 |As u=>trivial
 |qB p=>
  have: ∃q,mO.bf ks kv (.qB p)= .qB q:=by
   unfold mO.bf
   split
   ·rename_i e;cases e
   ·split
    ·exact⟨_,rfl⟩
    ·exact⟨_,rfl⟩
   ·exact⟨_,rfl⟩
  obtain⟨q,hq⟩:=this
  rw[hq];trivial
 |kI=>exact BE.step s (r:= .kI) (fun n hn=>by cases hn) h
 |of n=>
  unfold mO.bf
  dsimp only
  split
  ·trivial
  ·rename_i hk
   rw[Bool.or_eq_false_iff,List.any_eq_false,List.any_eq_false]at hk
   refine BE.step s (r:= .of n) (fun m hm=> ?_) h
   simp only[mO.name,oI]at hm
   subst hm
   exact⟨fun hm=>hk.1 n hm (by simp),fun hm=>hk.2 n hm (by simp)⟩
theorem RA.fA(s:qC ks kv w hp env w' gr env'){v:V}{u:Value}(h:RA w hp env v u):RA w' gr env' (v.bf ks kv) u:=
 RA.step s V.FK h.bf
theorem bg.map{α β γ:Type}{R:α→β→Prop}{R':γ→β→Prop}{f:α→γ}: ∀{as:List α} {bs:List β},(∀a b,R a b→R' (f a) b)→bg R as bs→bg R' (as.map f) bs
 | [],[],_,_=>trivial
 |a::as,b::bs,h,⟨h1,h2⟩=>⟨h a b h1,bg.map h h2⟩
 | [],_::_,_,h=>h.elim
 |_::_,[],_,h=>h.elim
theorem eC.fA(s:qC ks kv w hp env w' gr env'){x:S1}{u:Value}(h:eC w hp env x u):eC w' gr env' (x.bf ks kv) u:=by
 cases x with
 |a v=>exact RA.fA s h
 |agg l=>obtain⟨cs,hu,hl⟩:=h;exact⟨cs,hu,hl.map fun a b hr=>RA.fA s hr⟩
theorem lT.fA(s:qC ks kv w hp env w' gr env'){tmps:Array Value}{x:SV}{u:Value}(h:lT w hp env tmps x u):lT w' gr env' tmps (x.bf ks kv) u:=by
 cases x with
 |one x=>exact eC.fA s h
 |qR l=>obtain⟨us,hu,hl⟩:=h;exact⟨us,hu,hl.map fun a b hr=>eC.fA s hr⟩
 |cond p x=>exact⟨fun hh=>eC.fA s (h.1 hh),h.2⟩
theorem Good.fA{zb:bP}{st:St}{tmps:Array Value}(g:Good ty zb st tmps w env)(s:qC ks kv w st.hp env w' gr env')
  (ho: ∀n o,look gr n=some o→RO ty w' gr env' n o (env' n))(hd: ∀n m o o',n≠m→look gr n=some o→look gr m=some o'→ ∀b,b∈(env' n).fp→b∉(env' m).fp)
  (hm: ∀n o,look gr n=some o→ ∀b,b∈(env' n).fp→b∈zb.L∨zb.w.heap.size≤b)(hp: ∀n,fu n=true→(env' n).v=(zb.pv n).v∧ ∀b,b∈(env' n).fp→b∈(zb.pv n).fp):
  Good ty zb ⟨st.n,st.sl.map fun e=>(e.1,e.2.bf ks kv),gr⟩ tmps w' env':=by
 refine⟨ho,hd,fun t v hl=> ?_,hm,hp⟩
 have hl:look (st.sl.map fun e=>(e.1,e.2.bf ks kv)) t=some v:=hl
 rw[lY (α:=SV) (f:=fun e:Nat×SV=>e.2.bf ks kv)]at hl
 cases hq:look st.sl t with
 |none=>rw[hq]at hl;cases hl
 |some y=>
  rw[hq]at hl
  simp only[Option.map_some,oI]at hl
  subst hl
  exact lT.fA s (g.slot t y hq)
end
theorem aY{ks kv:List Nat}{hp:Hp}{n:Nat}:look (bE ks kv hp) n=if n∈ks then none else(look hp n).map (Obj.bf ks kv):=by
 unfold bE
 rw[lY (α:=Obj) (f:=fun e:Nat×Obj=>e.2.bf ks kv)]
 have:look (hp.filter fun e=> !ks.any (Nat.beq e.1)) n=if n∈ks then none else look hp n:=by
  induction hp with
  |nil=>simp[look]
  |cons e r ih=>
   obtain⟨j,x⟩:=e
   by_cases hj:j∈ks
   ·have:(ks.any (Nat.beq j))=true:=List.any_eq_true.2 ⟨j,hj,by simp⟩
    rw[List.filter_cons_of_neg (by simp[this]),ih]
    by_cases hn:n∈ks
    ·simp[hn]
    ·have:n≠j:=by rintro rfl;exact hn hj
     rw[aK this]
   ·have:(ks.any (Nat.beq j))=false:=List.any_eq_false.2 fun y hy hb=>hj (by have:=Nat.eq_of_beq_eq_true hb;rw[this];exact hy)
    rw[List.filter_cons_of_pos (by simp[this])]
    by_cases hn:n=j
    ·subst hn;rw[look_eq,look_eq,if_neg hj]
    ·rw[aK hn,aK hn,ih]
 rw[this]
 split<;>rfl
theorem lZ: ∀{l:List V},ou l=true→ ∀v,v∈l→v≠ .any
 |x::r,h,v,hv=>by
  cases x with
  |any=>simp[ou]at h
  |_=>
   rcases List.mem_cons.1 hv with rfl|hv
   ·exact fun e=>by cases e
   ·exact lZ (l:=r) (by simpa[ou]using h) v hv
def yC(Γ:Nat→TK)(st:St):Op→Option St
 | .store t x y=>match ew st [] x,Fq st [] y with
   |some (.a (.ptr n off)),some v=>match look st.hp n with
    |some (.box c)=>match Γ t,v with
     | .st z _ _, .agg l=>match Nat.beq l.length z.length&&ou l,Az c off l with
       |true,some c'=>some ⟨st.n,st.sl,(n, .box c')::st.hp⟩
       |_,_=>none
     | .st _ _ _, .a _=>none
     | .other,_=>none
     |_, .a .any=>none
     |_, .a v=>match Az c off [v]with
      |some c'=>some ⟨st.n,st.sl,(n, .box c')::st.hp⟩
      |none=>none
     |_,_=>none
    |_=>none
   |_,_=>none
 | .mapUpdate t m x y=>match Γ t with
   | .mp=>match ew st [] m,ew st [] x,ew st [] y with
     |some (.a (.nK n)),some (.a (.lit (.int .i64 k))),some (.a (.lit (.int .i64 v)))=>match look st.hp n with
      |some (.dY tg l .mp)=>match eL .int tg l with
       |some l=>some ⟨st.n,st.sl,(n, .dY .int (Dz l k v) .mp)::st.hp⟩
       |none=>none
      |_=>none
     |_,_,_=>none
   |_=>none
 |_=>none
section
variable{P:Program}{zb:bP}{st st':St}{a:Act}{w:World}{env:Env}{Q:Exit→Act→World→Prop}{o:Oper}
theorem RA.one(g:Good ty zb st a.tmps w env){v:V}{u:Value}(h:RA w st.hp env v u)(hv:v≠ .any):u.oneCell'=true:=by
 cases v with
 |any=>exact absurd rfl hv
 |lit x=>obtain⟨rfl,h1⟩:=h;exact h1
 |sl t l=>obtain⟨fp,⟨oa,cap,rfl,_⟩,_⟩:=h;rfl
 |own n=>
  obtain⟨⟨t,l,hl⟩,rfl⟩:=h
  obtain⟨oa,cap,h,_⟩:=RO.sl (g.obj n _ hl)
  rw[h];rfl
 |ptr n off=>obtain⟨_,b,_,rfl⟩:=h;rfl
 |vV f n=>obtain⟨_,b,_,rfl⟩:=h;rfl
 |mJ k=>obtain⟨oa,cap,rfl,_⟩:=h;rfl
 |raw x=>obtain⟨rfl,h1⟩:=h;exact h1
 |gL v t l=>obtain⟨_,fp,⟨oa,cap,rfl,_⟩,_⟩:=h;rfl
 |iQ n i off=>obtain⟨t,l,_,b,o,len,cap,_,rfl⟩:=h;rfl
 |ip t x off=>obtain⟨b,o,cs,fp,rfl,_⟩:=h;rfl
 |vw n p t l=>obtain⟨_,⟨fp,⟨oa,cap,rfl,_⟩,_⟩,_⟩:=h;rfl
 |wL n t l=>obtain⟨_,b,fp,⟨oa,cap,rfl,_⟩,_⟩:=h;rfl
 |mix n c t l=>obtain⟨_,⟨fp,⟨oa,cap,rfl,_⟩,_⟩,_⟩:=h;rfl
 |nK n=>
  obtain⟨⟨t,l,s,hl⟩,rfl⟩:=h
  rcases RO.AA (g.obj n _ hl)with⟨_,r,lx,_,h,_⟩| ⟨_,_,hv,_,_,⟨oa,cap,h,_⟩,_⟩| ⟨_,_,_,⟨oa,m,cap,h⟩,_⟩| ⟨_,_,us,hB,_⟩
  ·rw[h];rfl
  ·rw[hv,h];rfl
  ·rw[h];rfl
  ·obtain⟨oa,cap,h,_⟩:=hB.sl
   rw[h];rfl
 |wK n p t x off=>obtain⟨_,b,o,cs,fp,rfl,_⟩:=h;rfl
theorem pW(g:Good ty zb st a.tmps w env): ∀{l:List V} {us:List Value},bg (RA w st.hp env) l us→(∀v,v∈l→v≠ .any)→ ∀u,u∈us→u.oneCell'=true
 |v::l,u::us,⟨h1,h2⟩,hn,x,hx=>by
  rcases List.mem_cons.1 hx with rfl|hx
  ·exact RA.one g h1 (hn v (by simp))
  ·exact pW g h2 (fun y hy=>hn y (by simp[hy])) x hx
 | [],_::_,h,_,_,_=>h.elim
theorem yD(g:Good ty zb st a.tmps w env){n:Nat}{c c':List V}(hl:look st.hp n=some (.box c)){b:Nat}{cs us:List Value}{e:TypeId}{off:Nat}(vX:env n=⟨.pointer (some ⟨b,0,none⟩),[b]⟩)(hh:w.heap[b]? =some (.cells (Array.mk cs) e (0,0)))
  (hlen:off+us.length≤cs.length)(hc:bg (RA w st.hp env) c' (cs.take off++(us++cs.drop (off+us.length)))):
  Good ty zb ⟨st.n,st.sl,(n, .box c')::st.hp⟩ a.tmps (w.setCells b off us) env:=by
 have hk: ∀x,x≠b→(w.setCells b off us).heap[x]? =w.heap[x]? :=fun x hx=>bI b us off w x hx
 have hlk: ∀m o,look ((n,Obj.box c')::st.hp) m=some o→(m=n∧o= .box c')∨(m≠n∧look st.hp m=some o):=by
  intro m o hm
  by_cases hmn:m=n
  ·subst hmn;rw[look_eq]at hm;simp only[oI]at hm;exact Or.inl ⟨rfl,hm.symm⟩
  ·rw[aK hmn]at hm;exact Or.inr ⟨hmn,hm⟩
 have how:Ow st.hp env b:=⟨n,_,hl,by rw[vX];simp⟩
 have s:Step (fun _=>True) (fun _=>True) w st.hp env (w.setCells b off us) ((n, .box c')::st.hp) env:=by
  refine⟨fun x _ hx=>hk x (fun e=>hx (e▸how)),?_,?_,?_⟩
  ·rintro x _ ⟨m,o,h1,h2⟩
   rcases hlk m o h1 with⟨rfl,rfl⟩| ⟨_,h1⟩
   ·exact⟨m,_,hl,h2⟩
   ·exact⟨m,o,h1,h2⟩
  ·intro m o _ h1
   by_cases hmn:m=n
   ·subst hmn
    rw[hl]at h1
    simp only[oI]at h1
    subst h1
    exact⟨_,look_eq,trivial,rfl⟩
   ·exact⟨o,by rw[aK hmn];exact h1,by cases o<;>simp[Obj.like],rfl⟩
  ·intro m t l _ h1
   have hmn:m≠n:=by rintro rfl;rw[hl]at h1;cases h1
   refine⟨by rw[aK hmn];exact h1,rfl,fun x hx=>hk x ?_⟩
   rintro rfl
   exact g.fU m n _ _ hmn h1 hl x hx (by rw[vX];simp)
 refine⟨fun m o hm=> ?_,fun m m' o o' hne h1 h2=> ?_,fun t v hv=>lT.step s (fun v _=>v.cz) (g.slot t v hv),fun m o hm b hb=> ?_,g.pins⟩
 ·rcases hlk m o hm with⟨rfl,rfl⟩| ⟨hmn,hm⟩
  ·refine⟨b,_,e,vX,?_,hc.mono fun v u _ h=>RA.step s v.cz h⟩
   rw[xX hh,kO us cs off hlen]
  ·have hro:=g.obj m o hm
   refine hro.step s (Obj.cz _) fun x hx=>hk x ?_
   rintro rfl
   exact g.fU m n o _ hmn hm hl x hx (by rw[vX];simp)
 ·rcases hlk m o h1 with⟨e1,e2⟩| ⟨_,k1⟩<;>rcases hlk m' o' h2 with⟨e3,e4⟩| ⟨_,k2⟩
  ·exact absurd (e1.trans e3.symm) hne
  ·exact g.fU m m' _ _ hne (e1▸hl) k2
  ·exact g.fU m m' _ _ hne k1 (e3▸hl)
  ·exact g.fU m m' _ _ hne k1 k2
 ·rcases hlk m o hm with⟨e1,_⟩| ⟨_,k1⟩
  ·subst e1;exact g.dom m _ hl b hb
  ·exact g.dom m o k1 b hb
theorem sP{b:Nat}(hb:b∈zb.L∨zb.w.heap.size≤b){c:Array Value}{e:TypeId}(hh:w.heap[b]? =some (.cells c e (0,0)))(off:Nat)(us:List Value):Kept zb w (w.setCells b off us):=by
 have h0:=xN (B:=0) (w:=w) (Below.refl 0 w) (Nat.zero_le b) off us
 refine⟨h0.os,h0.tape,h0.output,h0.size,fun x hx hn=>bI b us off w x ?_,fun x c' e' hx=> ?_⟩
 ·rintro rfl
  rcases hb with h|h
  ·exact hn h
  ·omega
 ·by_cases UZ:x=b
  ·subst UZ
   rw[hh]at hx
   simp only[oI,Go.Obj.cells.injEq,and_true]at hx
   obtain⟨rfl,rfl⟩:=hx
   obtain⟨c2,h1,h2⟩:=cC x e us off w c hh
   exact⟨c2,h1,h2⟩
  ·exact⟨c',by rw[bI b us off w x UZ];exact hx,rfl⟩
theorem jx{t b off:Nat}{v:Value}{us:List Value}(hv:v.cells=us.toArray)(ht:w.there b off us.length)(hi:(P.info? t).map (·.size)=some us.length)(h1: ∀u,u∈us→u.oneCell'=true):
  (storeVar t ⟨b,off,none⟩ v).run P w= .ok () (w.setCells b off us):=by
 have:=run_storeVar_mid (P:=P) w b off t us.toArray (by simpa using ht) (by simpa using hi) (all_oneCell_toArray h1)
 unfold storeVar at this ⊢
 rw[hv]
 exact this
theorem K4(g:Good ty zb st a.tmps w env){n:Nat}{l0 l':List Int}(hl:look st.hp n=some (.dY .int l0 .mp)){r:Nat}(vX:env n=⟨.map (some r),[r]⟩){o0:Go.Obj}(hh:w.heap[r]? =some o0){es:Array MapEntry}{clock:Nat}(he:B6 es.toList l'):
  Good ty zb ⟨st.n,st.sl,(n, .dY .int l' .mp)::st.hp⟩ a.tmps {w with heap:=w.heap.setIfInBounds r (.map es clock)} env:=by
 have hk: ∀x,x≠r→(w.heap.setIfInBounds r (.map es clock))[x]? =w.heap[x]? :=fun x hx=>(Go.MapKept.heap_set hh).2 x hx
 have hlk: ∀m o,look ((n,Obj.dY .int l' .mp)::st.hp) m=some o→(m=n∧o= .dY .int l' .mp)∨(m≠n∧look st.hp m=some o):=by
  intro m o hm
  by_cases hmn:m=n
  ·subst hmn;rw[look_eq]at hm;simp only[oI]at hm;exact Or.inl ⟨rfl,hm.symm⟩
  ·rw[aK hmn]at hm;exact Or.inr ⟨hmn,hm⟩
 have how:Ow st.hp env r:=⟨n,_,hl,by rw[vX];simp⟩
 have s:Step (fun _=>True) (fun _=>True) w st.hp env {w with heap:=w.heap.setIfInBounds r (.map es clock)} ((n, .dY .int l' .mp)::st.hp) env:=by
  refine⟨fun x _ hx=>hk x (fun e=>hx (e▸how)),?_,?_,?_⟩
  ·rintro x _ ⟨m,o,h1,h2⟩
   rcases hlk m o h1 with⟨rfl,rfl⟩| ⟨_,h1⟩
   ·exact⟨m,_,hl,h2⟩
   ·exact⟨m,o,h1,h2⟩
  ·intro m o _ h1
   by_cases hmn:m=n
   ·subst hmn
    rw[hl]at h1
    simp only[oI]at h1
    subst h1
    exact⟨_,look_eq,rfl,rfl⟩
   ·exact⟨o,by rw[aK hmn];exact h1,by cases o<;>simp[Obj.like],rfl⟩
  ·intro m t l _ h1
   have hmn:m≠n:=by rintro rfl;rw[hl]at h1;cases h1
   refine⟨by rw[aK hmn];exact h1,rfl,fun x hx=>hk x ?_⟩
   rintro rfl
   exact g.fU m n _ _ hmn h1 hl x hx (by rw[vX];simp)
 refine⟨fun m o hm=> ?_,fun m m' o o' hne h1 h2=> ?_,fun t v hv=>lT.step s (fun v _=>v.cz) (g.slot t v hv),fun m o hm b hb=> ?_,g.pins⟩
 ·rcases hlk m o hm with⟨rfl,rfl⟩| ⟨hmn,hm⟩
  ·exact⟨r,l',rfl,vX,es,clock,(Go.MapKept.heap_set hh).1,he⟩
  ·have hro:=g.obj m o hm
   refine hro.step s (Obj.cz _) fun x hx=>hk x ?_
   rintro rfl
   exact g.fU m n o _ hmn hm hl x hx (by rw[vX];simp)
 ·rcases hlk m o h1 with⟨e1,e2⟩| ⟨_,k1⟩<;>rcases hlk m' o' h2 with⟨e3,e4⟩| ⟨_,k2⟩
  ·exact absurd (e1.trans e3.symm) hne
  ·exact g.fU m m' _ _ hne (e1▸hl) k2
  ·exact g.fU m m' _ _ hne k1 (e3▸hl)
  ·exact g.fU m m' _ _ hne k1 k2
 ·rcases hlk m o hm with⟨e1,_⟩| ⟨_,k1⟩
  ·subst e1;exact g.dom m _ hl b hb
  ·exact g.dom m o k1 b hb
theorem K5{r:Nat}(hb:r∈zb.L∨zb.w.heap.size≤r){WG es:Array MapEntry}{c0 clock:Nat}(hh:w.heap[r]? =some (.map WG c0)):Kept zb w {w with heap:=w.heap.setIfInBounds r (.map es clock)}:=by
 refine⟨rfl,rfl,rfl,by simp,fun x hx hn=>(Go.MapKept.heap_set hh).2 x ?_,fun x c' e' hx=>⟨c',?_,rfl⟩⟩
 ·rintro rfl
  rcases hb with h|h
  ·exact hn h
  ·omega
 ·rw[(Go.MapKept.heap_set hh).2 x (by rintro rfl;rw[hh]at hx;cases hx)];exact hx
theorem IQ{Γ:Nat→TK}(C: ∀t,b7 P t (Γ t))(Z: ∀t,(∀z tg fo,Γ t≠ .st z tg fo)→Γ t≠ .other→(P.info? t).map (·.size)=some 1)(h:yC Γ st o.op=some st')(g:Good ty zb st a.tmps w env):
  o.wp P a w (fun a' w'=>a'=a.put o.dst undef∧Kept zb w w'∧Good ty zb st' a.tmps w' env∧st'.n=st.n∧st'.sl=st.sl) Q:=by
 have hop: ∀{x v},ew st [] x=some v→eC w st.hp env v (a.eval x):=fun hx=>dh g (fun e he=>by simp at he) hx
 have ZU: ∀{x v},Fq st [] x=some v→eC w st.hp env v (a.eval x):=fun hx=>ru g (fun e he=>by simp at he) hx
 generalize dL:o.op=op at h
 cases op with
 |mapUpdate t m x y=>
  simp only[yC]at h
  split at h
  case h_2=>cases h
  rename_i hk
  have hC:=C t
  rw[hk]at hC
  obtain⟨kt,et,ht,Xt,_,_⟩:=hC
  split at h
  case h_2=>cases h
  rename_i n k v hm hx hy
  split at h
  case h_2=>cases h
  rename_i tg l0 hl
  split at h
  case h_2=>cases h
  rename_i l hc
  simp only[oI]at h
  obtain⟨e1,e2⟩:=ct hc
  subst e1
  subst e2
  obtain⟨_,hu⟩:=hop hm
  have hx:=(hop hx).lit
  have hy:=(hop hy).lit
  obtain⟨r,lx,h1,h2,h3⟩:=g.obj n _ hl
  rw[hc]at h1
  simp only[oI]at h1
  subst h1
  obtain⟨es,clock,q1,q2,WG,c0,q3⟩:=sG (x:=k) (y:=v) ht Xt h3
  have K0:a.eval m= .map (some r):=by rw[hu,h2]
  have hM:=g.dom n _ hl r (by rw[h2];simp)
  subst h
  unfold Oper.wp execOp
  simp only[dL,K0,hx,hy,q1,Sem.run_bind,Sem.run_pure,Result.andThen_ok]
  exact⟨by trivial,K5 hM q3,K4 g hl h2 q3 q2,by trivial,by trivial⟩
 |store t x y=>
  simp only[yC]at h
  split at h
  ·rename_i n off v hx hy
   have hx:=hop hx
   have hy:=ZU hy
   split at h
   ·rename_i c hl
    obtain⟨_,b,hb,hu⟩:=hx
    obtain⟨b',cs,e,vX,hh,hc⟩:=g.obj n _ hl
    have hM:=g.dom n _ hl b' (by rw[vX];simp)
    have Su:b=b':=by rw[vX]at hb;simpa using hb.symm
    subst Su
    have fin: ∀{us:List Value} {c':List V},(a.eval y).cells=us.toArray→(P.info? t).map (·.size)=some us.length→(∀u,u∈us→u.oneCell'=true)→off+us.length≤cs.length→bg (RA w st.hp env) c' (cs.take off++(us++cs.drop (off+us.length)))→st'=⟨st.n,st.sl,(n, .box c')::st.hp⟩→
      o.wp P a w (fun a' w'=>a'=a.put o.dst undef∧Kept zb w w'∧Good ty zb st' a.tmps w' env∧st'.n=st.n∧st'.sl=st.sl) Q:=by
     intro us c' h1 h2 h3 h4 h5 h6
     subst h6
     unfold Oper.wp execOp
     simp only[dL,hu,Instr.storeAt,Instr.sureAddr,Sem.run_bind,Sem.run_pure,Result.andThen_ok,jx h1 (BZ hh off us.length h4) h2 h3]
     exact⟨by trivial,sP hM hh off us,yD g hl vX hh h4 h5,by trivial,by trivial⟩
    split at h
    ·rename_i z tg fo l hk _
     split at h
     ·rename_i c' hlen hs
      simp only[oI]at h
      obtain⟨us,KX,FI⟩:=hy
      obtain⟨k1,k2⟩:=Ce hc FI hs
      have hC:=C t
      rw[hk]at hC
      obtain⟨fs,_,hi,_⟩:=hC
      simp only[Bool.and_eq_true]at hlen
      have l5:=Nat.eq_of_beq_eq_true hlen.1
      refine fin (us:=us) (by rw[KX];rfl) ?_ ?_ k1 k2 h.symm
      ·rw[FI.len,l5]
       cases hq:P.info? t with
       |none=>simp[hq]at hi
       |some i=>simp[hq]at hi;simp[hi.1]
      ·exact pW g FI (lZ hlen.2)
     ·cases h
    ·cases h
    ·cases h
    ·cases h
    ·rename_i v k1 k2 k3 _
     split at h
     ·rename_i c' hs
      simp only[oI]at h
      obtain⟨q1,q2⟩:=Ce (vs:= [v]) (us:= [a.eval y]) hc ⟨hy,trivial⟩ hs
      have hne:v≠ .any:=fun e=>k1 e
      refine fin (us:= [a.eval y]) (gC g hy hne) (Z t (fun z tg fo hz=>k2 z tg fo hz) k3) ?_ q1 q2 h.symm
      intro u Uz
      rw[List.mem_singleton.1 Uz]
      exact RA.one g hy hne
     ·cases h
    ·cases h
   ·cases h
  ·cases h
 |_=>simp[yC]at h
end
end
section
variable{ty:Tag→Nat}
theorem sQ{α:Type}{k:Nat}{E:ER α}(G:eB k E)(hk:0<k){w:World}{u:Value}{l:List α}{fp:List Nat}(h:Sl k E w u l fp):
  ∃(news:List Value) (fx:List (List Nat)),Src w u l.length news∧fx.length=l.length∧news.length=l.length*k∧(∀i x f,l[i]? =some x→fx[i]? =some f→E w ((news.drop (i*k)).take k) x f)∧fx.flatten.Sublist fp:=by
 obtain⟨news,fx,h1,h2,h3,h4,h5,_⟩:=lX G hk h
 exact⟨news,fx,h1,h2,h3,h4,h5⟩
theorem mO.K6{ks kv:List Nat}{r:mO}(h:r.br):(r.bf ks kv).br:=by
 cases r with
 |mp=>exact h.elim
 |As u=>exact h.elim
 |qB p=>exact h.elim
 |gone=>trivial
 |kI=>trivial
 |of n=>unfold mO.bf;dsimp only;split<;>trivial
theorem wM.fA{ks kv:List Nat}{w w':World}{hp gr:Hp}{env env':Env}(s:qC ks kv w hp env w' gr env'){n:Nat}{t:Tag}{l:List (T t)}{p:Option (Nat×Nat×Nat)}{co:CO}(hk: ∀b,b∈co.fp→w'.heap[b]? =w.heap[b]?)(h:wM ty w hp env t l p co):RO ty w' gr env' n (.dY t l ((mO.qB p).bf ks kv)) co:=by
 have hnone:wM ty w' gr env' t l none co:=⟨h.1.agree hk,h.2.1,fun _ _ _ e=>by cases e⟩
 cases p with
 |none=>exact hnone
 |some e=>
  obtain⟨m,i,o⟩:=e
  unfold mO.bf
  dsimp only
  split
  ·exact hnone
  ·rename_i hn
   rw[Bool.or_eq_false_iff,List.any_eq_false,List.any_eq_false]at hn
   refine wM.step s (fun n hm=> ?_) hk h
   simp only[mO.name,oI]at hm
   subst hm
   exact⟨fun hm=>hn.1 _ hm (by simp),fun hm=>hn.2 _ hm (by simp)⟩
theorem RO.fA{ks kv:List Nat}{w w':World}{hp gr:Hp}{env env':Env}(s:qC ks kv w hp env w' gr env'){n:Nat}{o:Obj}{co:CO}
  (hk: ∀b,b∈co.fp→w'.heap[b]? =w.heap[b]?)(h:RO ty w hp env n o co):RO ty w' gr env' n (o.bf ks kv) co:=by
 cases o with
 |box c=>
  obtain⟨b,cs,e,rfl,hh,hc⟩:=h
  exact⟨b,cs,e,rfl,by rw[hk b (by simp)];exact hh,hc.map fun a u hr=>RA.fA s hr⟩
 |arr t l=>exact RO.agree h hk
 |dY t l r=>
  rcases RO.AA h with⟨rfl,h⟩| ⟨u,rfl,h⟩| ⟨p,rfl,h⟩| ⟨hr,h1,us,hB,h2,h3⟩
  ·exact FF.agree h hk
  ·exact DF.step s hk h
  ·exact wM.fA s hk h
  ·exact RO.KH (mO.K6 hr) ⟨h1,us,fZ.agree yj hB hk,h2,fun i x u hx hu=>BE.fA s (h3 i x u hx hu)⟩
def St.gone(st:St)(ks:List Nat)(d:Nat)(t:Tag)(l:List (T t)):St:=
 match ks with
 | []=>⟨st.n,st.sl,(d, .arr t l)::st.hp⟩
 |ks=>⟨st.n,st.sl.map fun e=>(e.1,e.2.bf ks []),(d, .arr t l)::bE ks [] st.hp⟩
theorem V.fN(v:V):v.bf [] []=v:=by
 unfold V.bf;split<;>simp
theorem S1.fN(x:S1):x.bf [] []=x:=by
 cases x with
 |a v=>simp[S1.bf,V.fN]
 |agg l=>simp only[S1.bf,S1.agg.injEq];rw[List.map_congr_left (g:=id) fun v _=>V.fN v,List.map_id]
theorem SV.fN(x:SV):x.bf [] []=x:=by
 cases x with
 |one x=>simp[SV.bf,S1.fN]
 |qR l=>simp only[SV.bf,SV.qR.injEq];rw[List.map_congr_left (g:=id) fun v _=>S1.fN v,List.map_id]
 |cond p x=>simp[SV.bf,S1.fN]
theorem FL(hp:Hp):bE [] [] hp=hp:=by
 unfold bE
 rw[List.filter_eq_self.2 (by simp),List.map_congr_left (g:=id),List.map_id]
 rintro⟨n,o⟩ _
 cases o with
 |box c=>simp only[Obj.bf,id];rw[List.map_congr_left (g:=id) fun v _=>V.fN v,List.map_id]
 |arr t l=>rfl
 |dY t l s=>cases s with
  |qB p=>cases p<;>rfl
  |_=>rfl
theorem St.gone_eq(st:St)(ks:List Nat)(d:Nat)(t:Tag)(l:List (T t)):st.gone ks d t l=⟨st.n,st.sl.map fun e=>(e.1,e.2.bf ks []),(d, .arr t l)::bE ks [] st.hp⟩:=by
 unfold St.gone
 split
 ·rw[FL,List.map_congr_left (g:=id),List.map_id]
  rintro⟨n,x⟩ _
  simp[SV.fN]
 ·rfl
section
variable{P:Program}{zb:bP}{st st':St}{a:Act}{w:World}{env:Env}{Q:Exit→Act→World→Prop}{o:Oper}
theorem jU{ks:List Nat}(h:pinned ks=false){n:Nat}(hn:n∈ks):soft n=false:=by
 unfold pinned at h
 rw[List.any_eq_false]at h
 simpa using h n hn
theorem uD(g:Good ty zb st a.tmps w env)(hB:zb.w.heap.size≤w.heap.size){ks:List Nat}(hpk:pinned ks=false){d:Nat}(U0:fu d=false)(hd:look (bE ks [] st.hp) d=none){v v':Value}{w':World}{ob:Obj}{fp fx eR:List Nat}
  (eK: ∀b,b∈fp++fx→ ∃i o,i∈ks∧look st.hp i=some o∧b∈(env i).fp)(Ci: ∀b,v.ownBlock=some b→b∈fp)
  (ZV: ∀env':Env,env' d=⟨v',eR⟩→qC ks [] w st.hp env w' ((d,ob)::bE ks [] st.hp) env'→RO ty w' ((d,ob)::bE ks [] st.hp) env' d ob ⟨v',eR⟩)(hg:w.grownBy w' v.ownBlock)(hsub: ∀b,b∈eR→b∈fp∨b∈fx∨b=w.heap.size):
  ∃env',Good ty zb ⟨st.n,st.sl.map fun e=>(e.1,e.2.bf ks []),(d,ob)::bE ks [] st.hp⟩ a.tmps w' env'∧(env' d).v=v'∧(∀n,n≠d→env' n=env n)∧(env' d).fp=eR:=by
 refine⟨fun n=>if n=d then⟨v',eR⟩else env n,?_,by simp,fun n hn=>by simp[hn],by simp⟩
 have hlk: ∀m o,look ((d,ob)::bE ks [] st.hp) m=some o→(m=d∧o=ob)∨(m≠d∧m∉ks∧ ∃o',look st.hp m=some o'∧o=o'.bf ks []):=by
  intro m o hm
  by_cases jc:m=d
  ·subst jc;rw[look_eq]at hm;simp only[oI]at hm;exact Or.inl ⟨rfl,hm.symm⟩
  ·rw[aK jc,aY]at hm
   split at hm
   ·cases hm
   ·rename_i hks
    cases hq:look st.hp m with
    |none=>rw[hq]at hm;cases hm
    |some o'=>rw[hq]at hm;simp only[Option.map_some,oI]at hm;exact Or.inr ⟨jc,hks,o',rfl,hm.symm⟩
 have how: ∀b,b∈eR→b<w.heap.size→ ∃i o,i∈ks∧look st.hp i=some o∧b∈(env i).fp:=by
  intro b hb hlt
  rcases hsub b hb with h|h|h
  ·exact eK b (List.mem_append_left _ h)
  ·exact eK b (List.mem_append_right _ h)
  ·omega
 have hnd: ∀m o,m∉ks→look st.hp m=some o→m≠d:=by
  rintro m o hks h1 rfl
  rw[aY,if_neg hks,h1]at hd
  cases hd
 have hst: ∀m o,m∉ks→look st.hp m=some o→ ∀b,b∈(env m).fp→w'.heap[b]? =w.heap[b]? :=by
  intro m o hks h3 b hb
  refine hg.block b ((g.obj m o h3).sy b hb) fun e=> ?_
  obtain⟨i,oi,hi,h5,h6⟩:=eK b (List.mem_append_left _ (Ci b e.symm))
  exact g.fU m i _ _ (fun e=>hks (e▸hi)) h3 h5 b hb h6
 have s:qC ks [] w st.hp env w' ((d,ob)::bE ks [] st.hp) (fun n=>if n=d then⟨v',eR⟩else env n):=by
  refine⟨fun b hb hno=>hg.block b hb fun e=> ?_,?_,?_,?_⟩
  ·obtain⟨i,o',_,h1,h2⟩:=eK b (List.mem_append_left _ (Ci b e.symm))
   exact hno ⟨i,o',h1,h2⟩
  ·rintro b hb ⟨m,o',h1,h2⟩
   rcases hlk m o' h1 with⟨rfl,_⟩| ⟨jc,hks,wQ,h3,rfl⟩
   ·simp at h2
    obtain⟨i,o',_,h3,h4⟩:=how b h2 hb
    exact⟨i,o',h3,h4⟩
   ·simp[jc]at h2
    exact⟨m,wQ,h3,h2⟩
  ·intro m o' hks h1
   have jc:=hnd m o' hks h1
   refine⟨o'.bf ks [],by rw[aK jc,aY,if_neg hks,h1];rfl,by cases o'<;>simp[Obj.like,Obj.bf],by simp[jc]⟩
  ·rintro m t' l' ⟨hks,_⟩ h1
   have jc:=hnd m _ hks h1
   exact⟨by rw[aK jc,aY,if_neg hks,h1];rfl,by simp[jc],hst m _ hks h1⟩
 refine g.fA s (fun m o' hm=> ?_) (fun m m' o1 o2 hne h1 h2 b hb hb'=> ?_) (fun m o' hm b hb=> ?_) (fun m hm=> ?_)
 ·rcases hlk m o' hm with⟨e1,e2⟩| ⟨jc,hks,wQ,h3,rfl⟩
  ·rw[e1,e2]
   simp only[if_true]
   exact ZV _ (by simp) s
  ·simp only[if_neg jc]
   have hro:=g.obj m wQ h3
   exact hro.fA s (hst m wQ hks h3)
 ·rcases hlk m o1 h1 with⟨e1,_⟩| ⟨jc,hks,q1,h3,_⟩<;>rcases hlk m' o2 h2 with⟨e2,_⟩| ⟨Cj,K7,q2,h4,_⟩
  ·exact hne (e1.trans e2.symm)
  ·simp only[if_pos e1]at hb
   simp only[if_neg Cj]at hb'
   have hlt:=(g.obj m' q2 h4).sy b hb'
   obtain⟨i,oi,hi,h5,h6⟩:=how b hb hlt
   exact g.fU m' i _ _ (fun e=>K7 (e▸hi)) h4 h5 b hb' h6
  ·simp only[if_pos e2]at hb'
   simp only[if_neg jc]at hb
   have hlt:=(g.obj m q1 h3).sy b hb
   obtain⟨i,oi,hi,h5,h6⟩:=how b hb' hlt
   exact g.fU m i _ _ (fun e=>hks (e▸hi)) h3 h5 b hb h6
  ·simp only[if_neg jc]at hb
   simp only[if_neg Cj]at hb'
   exact g.fU m m' _ _ hne h3 h4 b hb hb'
 ·rcases hlk m o' hm with⟨e1,_⟩| ⟨jc,hks,q1,h3,_⟩
  ·simp only[if_pos e1]at hb
   by_cases hlt:b<w.heap.size
   ·obtain⟨i,oi,hi,h5,h6⟩:=how b hb hlt
    exact g.dom i oi h5 b h6
   ·exact Or.inr (by omega)
  ·simp only[if_neg jc]at hb
   exact g.dom m q1 h3 b hb
 ·have:m≠d:=by rintro rfl;rw[U0]at hm;cases hm
  simp only[if_neg this]
  exact g.pins m hm
theorem uE(g:Good ty zb st a.tmps w env)(hB:zb.w.heap.size≤w.heap.size){ks:List Nat}(hpk:pinned ks=false){d:Nat}(U0:fu d=false)(hd:look (bE ks [] st.hp) d=none){v v':Value}{w':World}{t:Tag}{l:List (T t)}{fp fx eR:List Nat}
  (eK: ∀b,b∈fp++fx→ ∃i o,i∈ks∧look st.hp i=some o∧b∈(env i).fp)(Ci: ∀b,v.ownBlock=some b→b∈fp)
  (U1:fZ (kk t) (rd t) 0 (ty t) w' v' l eR)(hg:w.grownBy w' v.ownBlock)(hsub: ∀b,b∈eR→b∈fp∨b∈fx∨b=w.heap.size):
  ∃env',Good ty zb ⟨st.n,st.sl.map fun e=>(e.1,e.2.bf ks []),(d, .arr t l)::bE ks [] st.hp⟩ a.tmps w' env'∧(env' d).v=v'∧(∀n,n≠d→env' n=env n)∧(env' d).fp=eR:=
 uD g hB hpk U0 hd eK Ci (fun _ _ _=>RO.DH U1) hg hsub
theorem sR(g:Good ty zb st a.tmps w env)(hB:zb.w.heap.size≤w.heap.size){ks:List Nat}(hpk:pinned ks=false){d:Nat}(U0:fu d=false)(hd:look (bE ks [] st.hp) d=none){v v':Value}{w':World}{t:Tag}{l:List (T t)}{fp fx eR:List Nat}
  (eK: ∀b,b∈fp++fx→ ∃i o,i∈ks∧look st.hp i=some o∧b∈(env i).fp)(Ci: ∀b,v.ownBlock=some b→b∈fp)
  (U1:fZ (kk t) (rd t) 0 (ty t) w' v' l eR)(hg:w.grownBy w' v.ownBlock)(hsub: ∀b,b∈eR→b∈fp∨b∈fx∨b=w.heap.size):
  ∃env',Good ty zb ⟨st.n,st.sl.map fun e=>(e.1,e.2.bf ks []),(d, .arr t l)::bE ks [] st.hp⟩ a.tmps w' env'∧(env' d).v=v':=by
 obtain⟨env',h1,h2,_⟩:=uE g hB hpk U0 hd eK Ci U1 hg hsub
 exact⟨env',h1,h2⟩
end
def Ck(st:St)(t:Tag):S1→Option (List (T t)×List Nat)
 | .a (.own n)=>match look st.hp n with
   |some (.arr t' l)=>match eL t t' l with|some l=>some (l,[n])|none=>none
   |_=>none
 | .a (.lit (.slice none 0 0))=>some ([],[])
 |_=>none
def Cl(st:St)(t:Tag):S1→Option (List (T t)×List Nat)
 | .a (.own n)=>match look st.hp n with
   |some (.arr t' l)=>match eL t t' l with|some l=>some (l,match flat t with|true=> []|false=> [n])|none=>none
   |_=>none
 | .a (.sl t' l)=>match flat t,eL t t' l with
   |true,some l=>some (l,[])
   |false,some l=>match l with| []=>some ([],[])|_=>none
   |_,_=>none
 | .a (.vw n _ t' l)=>match eL t t' l with
   |some l=>some (l,match flat t with|true=> []|false=> [n])
   |none=>none
 | .a (.wL n t' l)=>match eL t t' l with
   |some l=>some (l,[n])
   |none=>none
 | .a (.lit (.slice none 0 0))=>some ([],[])
 | .a (.mJ 0)=>some ([],[])
 |_=>none
def je{α:Type}:List α→List α→List α
 | [],l=>l
 | [x],l=>x::l
 |k,l=>k++l
theorem cO{α:Type}(k l:List α):je k l=k++l:=by
 unfold je;split<;>rfl
def Bd(k m:List Nat):Bool:=k.all fun x=> !m.any fun y=>Nat.beq x y
def FM(P:Program)(ty:Tag→Nat)(Γ:Nat→TK)(st:St)(m0:Nat):Op→Option (List Prop×St×SV)
 | .call ⟨.builtin .append,xs,ts⟩=>match xs.toList,ts.toList with
   | [s,x],[t1,t2]=>match Γ t1,Nat.beq t1 t2 with
     | .sl t e,true=>match Nat.beq e (ty t),ew st [] s,ew st [] x with
       |true,some vs,some vx=>match Ck st t vs,Cl st t vx with
        |some (l,k),some (lx,m)=>match Bd k m&& !pinned (je k m)&& !fu m0,look (bE (je k m) [] st.hp) m0 with
         |true,none=>some ([El P ty t,(l.length+lx.length)*dB t≤140737488355328∧l.length+lx.length≤maxLen],
           st.gone (je k m) m0 t (l++lx), .one (.a (.own m0)))
         |_,_=>none
        |_,_=>none
       |_,_,_=>none
     |_,_=>none
   |_,_=>none
 |_=>none
section
variable{P:Program}{zb:bP}{st:St}{a:Act}{w:World}{env:Env}{Q:Exit→Act→World→Prop}{o:Oper}
theorem Be(g:Good ty zb st a.tmps w env){t:Tag}{x:S1}{u:Value}{l:List (T t)}{k:List Nat}(hr:eC w st.hp env x u)(h:Ck st t x=some (l,k)):
  pinned k=false→ ∃fp,fZ (kk t) (rd t) 0 (ty t) w u l fp∧(∀b,b∈fp→ ∃i o,i∈k∧look st.hp i=some o∧b∈(env i).fp)
  :=by
 intro hpk
 unfold Ck at h
 split at h
 ·rename_i n
  split at h
  ·rename_i t' l' hl
   split at h
   ·rename_i l2 hc
    simp only[oI,pI]at h
    obtain⟨rfl,rfl⟩:=h
    obtain⟨e,rfl⟩:=ct hc
    subst e
    obtain⟨_,rfl⟩:=hr
    exact⟨(env n).fp,RO.N9 (jU hpk (by simp)) (g.obj n _ hl),fun b hb=>⟨n,_,by simp,hl,hb⟩⟩
   ·cases h
  ·cases h
 ·simp only[oI,pI]at h
  obtain⟨rfl,rfl⟩:=h
  have hu:=(show eC w st.hp env (.a (.lit B7)) u from hr).lit
  subst hu
  exact⟨[],fZ.nil _ _ _ _ _,by simp⟩
 ·cases h
theorem yE{t:Tag}(hf:flat t=true){u:Value}{l:List (T t)}{fp:List Nat}(hs:Sl (kk t) (rd t) w u l fp):
  ∃(news:List Value) (fx:List (List Nat)),Src w u l.length news∧fx.length=l.length∧news.length=l.length*kk t∧(∀i x f,l[i]? =some x→fx[i]? =some f→rd t w ((news.drop (i*kk t)).take (kk t)) x f)∧fx.flatten= []:=by
 obtain⟨news,fx,h1,h2,h3,h4,h5⟩:=sQ (cF t) (eu t) hs
 refine⟨news,fx,h1,h2,h3,h4,?_⟩
 rw[List.flatten_eq_nil_iff]
 intro f hf'
 obtain⟨i,hi⟩:=List.getElem?_of_mem hf'
 have hil:i<l.length:=by have:=(List.getElem?_eq_some_iff.1 hi).1;omega
 exact OE t hf (h4 i _ f (List.getElem?_eq_getElem hil) hi)
theorem Bf(g:Good ty zb st a.tmps w env){t:Tag}{x:S1}{u:Value}{l:List (T t)}{k:List Nat}(hr:eC w st.hp env x u)(h:Cl st t x=some (l,k)):
  ∃(news:List Value) (fx:List (List Nat)),Src w u l.length news∧fx.length=l.length∧news.length=l.length*kk t∧(∀i x f,l[i]? =some x→fx[i]? =some f→rd t w ((news.drop (i*kk t)).take (kk t)) x f)∧
   (∀b,b∈fx.flatten→ ∃i o,i∈k∧look st.hp i=some o∧b∈(env i).fp)∧Own 0 w fx.flatten:=by
 unfold Cl at h
 split at h
 ·rename_i n
  split at h
  ·rename_i t' l' hl
   split at h
   ·rename_i l2 hc
    simp only[oI,pI]at h
    obtain⟨rfl,hk⟩:=h
    obtain⟨e,rfl⟩:=ct hc
    subst e
    obtain⟨_,rfl⟩:=hr
    have hb:=RO.sl (g.obj n _ hl)
    split at hk
    ·rename_i hf
     subst hk
     obtain⟨news,fx,h1,h2,h3,h4,h5⟩:=yE hf hb
     exact⟨news,fx,h1,h2,h3,h4,by simp[h5],by rw[h5];exact Own.nil _ _⟩
    ·subst hk
     obtain⟨news,fx,h1,h2,h3,h4,h5⟩:=sQ (cF t') (eu t') hb
     have ho:=RO.own (g.obj n _ hl)
     exact⟨news,fx,h1,h2,h3,h4,fun b hb=>⟨n,_,by simp,hl,h5.subset hb⟩,⟨h5.nodup ho.nodup,fun b hb=>ho.ge b (h5.subset hb),fun b hb=>ho.kind b (h5.subset hb)⟩⟩
   ·cases h
  ·cases h
 ·rename_i t' l'
  split at h
  ·rename_i l2 hf hc
   simp only[oI,pI]at h
   obtain⟨rfl,rfl⟩:=h
   obtain⟨e,rfl⟩:=ct hc
   subst e
   obtain⟨fp,hs,_⟩:=hr
   obtain⟨news,fx,h1,h2,h3,h4,h5⟩:=yE hf hs
   exact⟨news,fx,h1,h2,h3,h4,by simp[h5],by rw[h5];exact Own.nil _ _⟩
  ·rename_i l2 hf hc
   split at h
   ·simp only[oI,pI]at h
    obtain⟨rfl,rfl⟩:=h
    obtain⟨e,he⟩:=ct hc
    subst e
    obtain rfl:l'= []:=he.symm
    obtain⟨fp,hs,_⟩:=hr
    obtain⟨news,fx,h1,h2,h3,h4,h5⟩:=sQ (cF t') (eu t') hs
    have xK:fx= []:=List.eq_nil_of_length_eq_zero h2
    subst xK
    exact⟨news,[],h1,rfl,h3,by simp,by simp,Own.nil _ _⟩
   ·cases h
  ·cases h
 ·rename_i n _ t' l'
  split at h
  ·rename_i l2 hc
   simp only[oI,pI]at h
   obtain⟨rfl,hk⟩:=h
   obtain⟨e,rfl⟩:=ct hc
   subst e
   obtain⟨⟨tA,lA,hl⟩,⟨fp,hs,hnd,hsub⟩,_⟩:=hr
   split at hk
   ·rename_i hf
    subst hk
    obtain⟨news,fx,h1,h2,h3,h4,h5⟩:=yE hf hs
    exact⟨news,fx,h1,h2,h3,h4,by simp[h5],by rw[h5];exact Own.nil _ _⟩
   ·subst hk
    obtain⟨news,fx,h1,h2,h3,h4,h5⟩:=sQ (cF t') (eu t') hs
    have ho:=RO.own (g.obj n _ hl)
    exact⟨news,fx,h1,h2,h3,h4,fun b hb=>⟨n,_,by simp,hl,hsub b (h5.subset hb)⟩,⟨h5.nodup hnd,fun b _=>Nat.zero_le _,fun b hb=>ho.kind b (hsub b (h5.subset hb))⟩⟩
  ·cases h
 ·rename_i n t' l'
  split at h
  ·rename_i l2 hc
   simp only[oI,pI]at h
   obtain⟨rfl,rfl⟩:=h
   obtain⟨e,rfl⟩:=ct hc
   subst e
   obtain⟨⟨tA,lA,hl⟩,b,fp,hs,hb,hnd,hsub⟩:=hr
   obtain⟨news,fx,h1,h2,h3,h4,_,h5⟩:=lX (cF t') (eu t') hs
   have h5:=h5 b fp rfl
   have ho:=RO.own (g.obj n _ hl)
   exact⟨news,fx,h1,h2,h3,h4,fun c hc=>⟨n,_,by simp,hl,hsub c (by rw[←h5];exact hc)⟩,⟨by rw[h5];exact hnd,fun c _=>Nat.zero_le _,fun c hc=>ho.kind c (hsub c (by rw[←h5];exact hc))⟩⟩
  ·cases h
 ·simp only[oI,pI]at h
  obtain⟨rfl,rfl⟩:=h
  have hu:=(show eC w st.hp env (.a (.lit B7)) u from hr).lit
  subst hu
  exact⟨[],[],Or.inl ⟨rfl,rfl,rfl⟩,rfl,by simp,by simp,by simp,Own.nil _ _⟩
 ·simp only[oI,pI]at h
  obtain⟨rfl,rfl⟩:=h
  obtain⟨oa,cap,rfl,_,_,hz⟩:=hr
  refine⟨[],[],?_,rfl,by simp,by simp,by simp,Own.nil _ _⟩
  cases oa with
  |none=>exact Or.inl ⟨by simp[hz rfl],rfl,rfl⟩
  |some a=>exact Or.inr ⟨a,cap,rfl,by simp⟩
 ·cases h
theorem OU{Γ:Nat→TK}(C: ∀t,b7 P t (Γ t)){m0:Nat}{vc:List Prop}{st':St}{v:SV}(h:FM P ty Γ st m0 o.op=some (vc,st',v))(g:Good ty zb st a.tmps w env)(hB:zb.w.heap.size≤w.heap.size)(hv: ∀q,q∈vc→q):
  o.wp P a w (fun a' w'=> ∃u env',a'=a.put o.dst u∧Kept zb w w'∧Good ty zb st' a.tmps w' env'∧st'.n=st.n∧lT w' st'.hp env' a.tmps v u) Q:=by
 have hop: ∀{x v},ew st [] x=some v→eC w st.hp env v (a.eval x):=fun hx=>dh g (fun e he=>by simp at he) hx
 generalize dL:o.op=op at h
 cases op with
 |call c=>
  obtain⟨callee,xs,ts⟩:=c
  cases callee with
  |builtin b=>
   cases b with
   |append=>
    simp only[FM]at h
    split at h
    ·rename_i s x t1 t2 hxl htl
     obtain rfl:xs= #[s,x]:=by cases xs;simp_all
     obtain rfl:ts= #[t1,t2]:=by cases ts;simp_all
     split at h
     ·rename_i t e hk ry
      have ry:=Nat.eq_of_beq_eq_true ry
      subst ry
      split at h
      ·rename_i vs vx he hs hx
       have he:=Nat.eq_of_beq_eq_true he
       split at h
       ·rename_i l k lx m hds U2
        split at h
        ·rename_i hno hlk
         simp only[Bool.and_eq_true,Bool.not_eq_true']at hno
         obtain⟨⟨hno,hpk⟩,AB⟩:=hno
         rw[cO]at hpk
         have Sw:pinned k=false:=by
          unfold pinned at hpk ⊢
          rw[List.any_append,Bool.or_eq_false_iff]at hpk
          exact hpk.1
         simp only[oI,pI,cO]at h
         rw[cO]at hlk
         obtain⟨rfl,h2,rfl⟩:=h
         rw[St.gone_eq]at h2
         subst h2
         have oB:El P ty t:=hv _ (by simp)
         obtain⟨bz,bW⟩:(l.length+lx.length)*dB t≤140737488355328∧l.length+lx.length≤maxLen:=hv _ (by simp)
         obtain⟨fp,hD,jf⟩:=Be g (hop hs) hds Sw
         obtain⟨news,fx,n1,n2,n3,n4,n5,n6⟩:=Bf g (hop hx) U2
         have hC:=C t1
         rw[hk]at hC
         have OB:Own 0 w (fp++fx.flatten):=by
          have ho:=hD.own
          refine⟨List.nodup_append.2 ⟨ho.nodup,n6.nodup,?_⟩,fun b hb=> ?_,fun b hb=> ?_⟩
          ·rintro b hb c hc rfl
           obtain⟨i,oi,hi,h1,h2⟩:=jf b hb
           obtain⟨j,oj,hj,h3,h4⟩:=n5 b hc
           have hij:i≠j:=by
            rintro rfl
            simp only[Bd,List.all_eq_true,Bool.not_eq_true',List.any_eq_false]at hno
            exact hno i hi i hj (by simp)
           exact g.fU i j _ _ hij h1 h3 b h2 h4
          ·rcases List.mem_append.1 hb with hb|hb
           ·exact ho.ge b hb
           ·exact n6.ge b hb
          ·rcases List.mem_append.1 hb with hb|hb
           ·exact ho.kind b hb
           ·exact n6.kind b hb
         refine BW s x t1 dL (cF t) (eu t) 0 (ty t) (dN t) (dB t) (by rw[←he];exact hC.1) oB (ij t) _ l fp rfl hD _ rfl lx news fx n1 n2 n3 n4 OB bW bz (Nat.zero_le _) ?_
         intro v' w' eR k1 k2 k3 k4 k5 _
         obtain⟨env',hg',AD⟩:=sR (ty:=ty) g hB (ks:=k++m) hpk AB hlk (v:=a.eval s) (fp:=fp) (fx:=fx.flatten)
          (by
           intro b hb
           rcases List.mem_append.1 hb with hb|hb
           ·obtain⟨i,oi,hi,h1⟩:=jf b hb;exact⟨i,oi,List.mem_append_left _ hi,h1⟩
           ·obtain⟨i,oi,hi,h1⟩:=n5 b hb;exact⟨i,oi,List.mem_append_right _ hi,h1⟩)
          (by
           intro b hb
           obtain⟨xs,aO,_,_,_,eK,_⟩:=hD
           rw[eK,hb];simp)
          k1 k2 k4
         refine⟨v',env',rfl,⟨k2.os,k2.tape,k2.output,k2.size,fun b hb hn=>k2.block b (by omega) fun e=> ?_,k5⟩,hg',rfl,⟨t,_,look_eq⟩,AD.symm⟩
         have J4:b∈fp:=by
          obtain⟨xs,aO,_,_,_,eK,_⟩:=hD
          rw[eK, ←e];simp
         obtain⟨i,oi,hi,h1,h2⟩:=jf b J4
         rcases g.dom i oi h1 b h2 with h|h
         ·exact hn h
         ·omega
        ·cases h
       ·cases h
      ·cases h
     ·cases h
    ·cases h
   |_=>simp[FM]at h
  |_=>simp[FM]at h
 |_=>simp[FM]at h
end
end
section
variable{ty:Tag→Nat}
def takes(st:St):List V→Option (List V×List Nat)
 | []=>some ([],[])
 | .lit v::r=>match takes st r with|some (c,k)=>some (.lit v::c,k)|none=>none
 | .own n::r=>match look st.hp n,takes st r with
   |some (.arr t l),some (c,k)=>some (.sl t l::c,n::k)
   |_,_=>none
 |_=>none
def gu(st:St):List V→Option (List V×List Nat)
 | []=>some ([],[])
 | .lit v::r=>match gu st r with|some (c,k)=>some (.lit v::c,k)|none=>none
 | .own n::r=>match look st.hp n,gu st r with
   |some (.arr t l),some (c,k)=>some (.sl t l::c,n::k)
   |_,_=>none
 | .vw n _ t l::r=>match look st.hp n,gu st r with
   |some (.arr _ _),some (c,k)=>some (.sl t l::c,n::k)
   |_,_=>none
 |_=>none
def sS(st:St)(g:Tag):Nat→List (Nat×Operand)→Option (List Prop×List (T g)×List Nat)
 |_,[]=>some ([],[],[])
 |i,(j,x)::r=>match Nat.beq i j,ew st [] x with
  |true,some s=>match gu st (cellsOf s)with
   |some (c,k)=>match enc g c,sS st g (i+1) r with
    |some (vc,y),some (vcs,ys,ks)=>some (vc++vcs,y::ys,k++ks)
    |_,_=>none
   |none=>none
  |_,_=>none
def mS:List Nat→Bool
 | []=>true
 |n::r=> !(r.any fun m=>Nat.beq n m)&&mS r
def yF(P:Program)(ty:Tag→Nat)(Γ:Nat→TK)(st:St)(m0:Nat):Op→Option (List Prop×St×SV)
 | .buildSlice t len parts=>match Γ t with
   | .sl g e=>match Nat.beq e (ty g),Nat.beq parts.toList.length len,Nat.ble (len*kk g) 16777216,sS st g 0 parts.toList with
     |true,true,true,some (vc,xs,ks)=>match mS ks&& !pinned ks&& !fu m0,look (bE ks [] st.hp) m0 with
      |true,none=>some (El P ty g::vc,st.gone ks m0 g xs, .one (.a (.own m0)))
      |_,_=>none
     |_,_,_,_=>none
   |_=>none
 |_=>none
theorem iw: ∀{l:List Nat},mS l=true→l.Nodup
 | [],_=>List.nodup_nil
 |n::r,h=>by
  simp only[mS,Bool.and_eq_true,Bool.not_eq_true',List.any_eq_false]at h
  exact List.nodup_cons.2 ⟨fun hm=>h.1 n hm (by simp),iw h.2⟩
section
variable{P:Program}{zb:bP}{st:St}{a:Act}{w:World}{env:Env}{Q:Exit→Act→World→Prop}{o:Oper}
theorem sU(g:Good ty zb st a.tmps w env): ∀{l c:List V} {k:List Nat} {us:List Value},bg (RA w st.hp env) l us→takes st l=some (c,k)→k.Nodup→
  ∃fp,bG w c us fp∧Own 0 w fp∧ ∀b,b∈fp→ ∃i o,i∈k∧look st.hp i=some o∧b∈(env i).fp
 | [],c,k,us,hr,h,_=>by
   simp only[takes,oI,pI]at h
   obtain⟨rfl,rfl⟩:=h
   cases us with
   |nil=>exact⟨[],rfl,Own.nil _ _,by simp⟩
   |cons _ _=>exact hr.elim
 |v::r,c,k,us,hr,h,hnd=>by
  cases us with
  |nil=>exact hr.elim
  |cons u us=>
   cases v with
   |lit x=>
    simp only[takes]at h
    split at h
    ·rename_i c' k' h'
     simp only[oI,pI]at h
     obtain⟨rfl,rfl⟩:=h
     obtain⟨fp,h1,h2,h3⟩:=sU g hr.2 h' hnd
     obtain⟨e1,e2⟩:=hr.1
     exact⟨fp,⟨[],fp,⟨e1,e2,rfl⟩,h1,rfl⟩,h2,h3⟩
    ·cases h
   |own n=>
    simp only[takes]at h
    split at h
    ·rename_i t l c' k' hl h'
     simp only[oI,pI]at h
     obtain⟨rfl,rfl⟩:=h
     obtain⟨hn1,hn2⟩:=List.nodup_cons.1 hnd
     obtain⟨fp,h1,h2,h3⟩:=sU g hr.2 h' hn2
     obtain⟨_,rfl⟩:=hr.1
     have hb:=RO.sl (g.obj n _ hl)
     have ho:=RO.own (g.obj n _ hl)
     refine⟨(env n).fp++fp,⟨_,_,hb,h1,rfl⟩,⟨List.nodup_append.2 ⟨ho.nodup,h2.nodup,?_⟩,fun b hb=> ?_,fun b hb=> ?_⟩,fun b hb=> ?_⟩
     ·rintro b hb x hx rfl
      obtain⟨i,o,hi,h4,h5⟩:=h3 b hx
      exact g.fU n i _ _ (fun e=>hn1 (e▸hi)) hl h4 b hb h5
     ·rcases List.mem_append.1 hb with hb|hb
      ·exact ho.ge b hb
      ·exact h2.ge b hb
     ·rcases List.mem_append.1 hb with hb|hb
      ·exact ho.kind b hb
      ·exact h2.kind b hb
     ·rcases List.mem_append.1 hb with hb|hb
      ·exact⟨n,_,by simp,hl,hb⟩
      ·obtain⟨i,o,hi,h4,h5⟩:=h3 b hb
       exact⟨i,o,List.mem_cons_of_mem _ hi,h4,h5⟩
    ·cases h
   |_=>simp[takes]at h
theorem iy(g:Good ty zb st a.tmps w env){s:S1}{u:Value}(hr:eC w st.hp env s u)(hn:ou (cellsOf s)=true):bg (RA w st.hp env) (cellsOf s) u.cells.toList:=by
 cases s with
 |a v=>
  have:=gC g (show RA w st.hp env v u from hr) (lZ hn v (by simp[cellsOf]))
  rw[this]
  exact⟨hr,trivial⟩
 |agg l=>
  obtain⟨cs,rfl,hl⟩:=hr
  exact hl
theorem eM{st:St}: ∀{l c:List V} {k:List Nat},takes st l=some (c,k)→ou l=true
 | [],_,_,_=>rfl
 |v::r,c,k,h=>by
  cases v with
  |lit x=>
   simp only[takes]at h
   split at h
   ·rename_i h';exact eM (l:=r) h'
   ·cases h
  |own n=>
   simp only[takes]at h
   split at h
   ·rename_i h';exact eM (l:=r) h'
   ·cases h
  |_=>simp[takes]at h
theorem pX(g:Good ty zb st a.tmps w env): ∀{l c:List V} {k:List Nat} {us:List Value},bg (RA w st.hp env) l us→gu st l=some (c,k)→k.Nodup→
  ∃fp,bG w c us fp∧Own 0 w fp∧ ∀b,b∈fp→ ∃i o,i∈k∧look st.hp i=some o∧b∈(env i).fp
 | [],c,k,us,hr,h,_=>by
   simp only[gu,oI,pI]at h
   obtain⟨rfl,rfl⟩:=h
   cases us with
   |nil=>exact⟨[],rfl,Own.nil _ _,by simp⟩
   |cons _ _=>exact hr.elim
 |v::r,c,k,us,hr,h,hnd=>by
  cases us with
  |nil=>exact hr.elim
  |cons u us=>
   cases v with
   |lit x=>
    simp only[gu]at h
    split at h
    ·rename_i c' k' h'
     simp only[oI,pI]at h
     obtain⟨rfl,rfl⟩:=h
     obtain⟨fp,h1,h2,h3⟩:=pX g hr.2 h' hnd
     obtain⟨e1,e2⟩:=hr.1
     exact⟨fp,⟨[],fp,⟨e1,e2,rfl⟩,h1,rfl⟩,h2,h3⟩
    ·cases h
   |own n=>
    simp only[gu]at h
    split at h
    ·rename_i t l c' k' hl h'
     simp only[oI,pI]at h
     obtain⟨rfl,rfl⟩:=h
     obtain⟨hn1,hn2⟩:=List.nodup_cons.1 hnd
     obtain⟨fp,h1,h2,h3⟩:=pX g hr.2 h' hn2
     obtain⟨_,rfl⟩:=hr.1
     have hb:=RO.sl (g.obj n _ hl)
     have ho:=RO.own (g.obj n _ hl)
     refine⟨(env n).fp++fp,⟨_,_,hb,h1,rfl⟩,⟨List.nodup_append.2 ⟨ho.nodup,h2.nodup,?_⟩,fun b hb=> ?_,fun b hb=> ?_⟩,fun b hb=> ?_⟩
     ·rintro b hb x hx rfl
      obtain⟨i,o,hi,h4,h5⟩:=h3 b hx
      exact g.fU n i _ _ (fun e=>hn1 (e▸hi)) hl h4 b hb h5
     ·rcases List.mem_append.1 hb with hb|hb
      ·exact ho.ge b hb
      ·exact h2.ge b hb
     ·rcases List.mem_append.1 hb with hb|hb
      ·exact ho.kind b hb
      ·exact h2.kind b hb
     ·rcases List.mem_append.1 hb with hb|hb
      ·exact⟨n,_,by simp,hl,hb⟩
      ·obtain⟨i,o,hi,h4,h5⟩:=h3 b hb
       exact⟨i,o,List.mem_cons_of_mem _ hi,h4,h5⟩
    ·cases h
   |vw n p t l=>
    simp only[gu]at h
    split at h
    ·rename_i t0 l0 c' k' hl h'
     simp only[oI,pI]at h
     obtain⟨rfl,rfl⟩:=h
     obtain⟨hn1,hn2⟩:=List.nodup_cons.1 hnd
     obtain⟨fp,h1,h2,h3⟩:=pX g hr.2 h' hn2
     obtain⟨_,⟨fv,hs,Xw,hsub⟩,_⟩:=hr.1
     have ho:=RO.own (g.obj n _ hl)
     refine⟨fv++fp,⟨_,_,hs,h1,rfl⟩,⟨List.nodup_append.2 ⟨Xw,h2.nodup,?_⟩,fun b hb=> ?_,fun b hb=> ?_⟩,fun b hb=> ?_⟩
     ·rintro b hb x hx rfl
      obtain⟨i,o,hi,h4,h5⟩:=h3 b hx
      exact g.fU n i _ _ (fun e=>hn1 (e▸hi)) hl h4 b (hsub b hb) h5
     ·rcases List.mem_append.1 hb with hb|hb
      ·exact ho.ge b (hsub b hb)
      ·exact h2.ge b hb
     ·rcases List.mem_append.1 hb with hb|hb
      ·exact ho.kind b (hsub b hb)
      ·exact h2.kind b hb
     ·rcases List.mem_append.1 hb with hb|hb
      ·exact⟨n,_,by simp,hl,hsub b hb⟩
      ·obtain⟨i,o,hi,h4,h5⟩:=h3 b hb
       exact⟨i,o,List.mem_cons_of_mem _ hi,h4,h5⟩
    ·cases h
   |_=>simp[gu]at h
theorem jy{st:St}: ∀{l c:List V} {k:List Nat},gu st l=some (c,k)→ou l=true
 | [],_,_,_=>rfl
 |v::r,c,k,h=>by
  cases v with
  |lit x=>
   simp only[gu]at h
   split at h
   ·rename_i h';exact jy (l:=r) h'
   ·cases h
  |own n=>
   simp only[gu]at h
   split at h
   ·rename_i h';exact jy (l:=r) h'
   ·cases h
  |vw n p t l=>
   simp only[gu]at h
   split at h
   ·rename_i h';exact jy (l:=r) h'
   ·cases h
  |_=>simp[gu]at h
theorem yG(g:Good ty zb st a.tmps w env){t:Tag}: ∀{ps:List (Nat×Operand)} {i:Nat} {vc:List Prop} {xs:List (T t)} {ks:List Nat},sS st t i ps=some (vc,xs,ks)→ks.Nodup→(∀q,q∈vc→q)→
  (ps.map fun p=>(p.1,a.eval p.2))=sL i (ps.map fun p=>a.eval p.2)∧xs.length=ps.length∧ ∃aO:List (List Nat),aO.length=xs.length∧
   (∀(i:Nat) (x:T t) (f:List Nat),xs[i]? =some x→aO[i]? =some f→ ∃p:Nat×Operand,ps[i]? =some p∧rd t w (a.eval p.2).cells.toList x f)∧Own 0 w aO.flatten∧ ∀b,b∈aO.flatten→ ∃i o,i∈ks∧look st.hp i=some o∧b∈(env i).fp
 | [],i,vc,xs,ks,h,_,_=>by
   simp only[sS,oI,pI]at h
   obtain⟨rfl,rfl,rfl⟩:=h
   exact⟨rfl,rfl,[],rfl,by simp,Own.nil _ _,by simp⟩
 | (j,x)::r,i,vc,xs,ks,h,hnd,hv=>by
   simp only[sS]at h
   split at h
   ·rename_i s hij hx
    have hij:=Nat.eq_of_beq_eq_true hij
    subst hij
    split at h
    ·rename_i c k hc
     split at h
     ·rename_i nL y vcs ys ZW he hb
      simp only[oI,pI]at h
      obtain⟨rfl,rfl,rfl⟩:=h
      obtain⟨hn1,hn2,Sn⟩:=List.nodup_append.1 hnd
      obtain⟨q1,q2,aO,q3,q4,q5,q6⟩:=yG g hb hn2 (fun q hq=>hv q (List.mem_append_right _ hq))
      obtain⟨fp,r1,r2,r3⟩:=pX g (iy g (dh g (fun e he=>by simp at he) hx) (jy hc)) hc hn1
      have hE:=oq t he (fun q hq=>hv q (List.mem_append_left _ hq)) r1
      refine⟨by simp[sL,q1],by simp[q2],fp::aO,by simp[q3],?_,⟨?_,?_,?_⟩,?_⟩
      ·intro i' x' f hx' hf
       cases i' with
       |zero=>simp at hx' hf;subst hx';subst hf;exact⟨(i,x),rfl,hE⟩
       |succ n=>simp at hx' hf;obtain⟨p,h1,h2⟩:=q4 n x' f hx' hf;exact⟨p,by simpa using h1,h2⟩
      ·rw[List.flatten_cons]
       refine List.nodup_append.2 ⟨r2.nodup,q5.nodup,?_⟩
       rintro b hb z hz rfl
       obtain⟨n,o1,h1,h2,h3⟩:=r3 b hb
       obtain⟨m,o2,h4,h5,h6⟩:=q6 b hz
       exact g.fU n m _ _ (fun e=>Sn n h1 m h4 e) h2 h5 b h3 h6
      ·intro b hb
       rw[List.flatten_cons]at hb
       rcases List.mem_append.1 hb with hb|hb
       ·exact r2.ge b hb
       ·exact q5.ge b hb
      ·intro b hb
       rw[List.flatten_cons]at hb
       rcases List.mem_append.1 hb with hb|hb
       ·exact r2.kind b hb
       ·exact q5.kind b hb
      ·intro b hb
       rw[List.flatten_cons]at hb
       rcases List.mem_append.1 hb with hb|hb
       ·obtain⟨n,o1,h1,h2,h3⟩:=r3 b hb;exact⟨n,o1,List.mem_append_left _ h1,h2,h3⟩
       ·obtain⟨n,o1,h1,h2,h3⟩:=q6 b hb;exact⟨n,o1,List.mem_append_right _ h1,h2,h3⟩
     ·cases h
    ·cases h
   ·cases h
theorem IS{Γ:Nat→TK}(C: ∀t,b7 P t (Γ t)){m0:Nat}{vc:List Prop}{st':St}{v:SV}(h:yF P ty Γ st m0 o.op=some (vc,st',v))(g:Good ty zb st a.tmps w env)(hB:zb.w.heap.size≤w.heap.size)(hv: ∀q,q∈vc→q):
  o.wp P a w (fun a' w'=> ∃u env',a'=a.put o.dst u∧Kept zb w w'∧Good ty zb st' a.tmps w' env'∧st'.n=st.n∧lT w' st'.hp env' a.tmps v u) Q:=by
 generalize dL:o.op=op at h
 cases op with
 |buildSlice t len parts=>
  simp only[yF]at h
  split at h
  ·rename_i gt e hk
   split at h
   ·rename_i nL xs ks he hlen hbig hb
    have he:=Nat.eq_of_beq_eq_true he
    split at h
    ·rename_i hnd hlk
     simp only[Bool.and_eq_true,Bool.not_eq_true']at hnd
     obtain⟨⟨hnd,hpk⟩,AB⟩:=hnd
     simp only[oI,pI]at h
     obtain⟨rfl,h2,rfl⟩:=h
     rw[St.gone_eq]at h2
     subst h2
     have oB:El P ty gt:=hv _ (by simp)
     obtain⟨q1,q2,aO,q3,q4,q5,q6⟩:=yG g hb (iw hnd) (fun q hq=>hv q (by simp[hq]))
     have hC:=C t
     rw[hk,he]at hC
     obtain⟨w',r1,r2,r3⟩:=uA (P:=P) (w:=w) (a:=a) dL hC.1 oB (Nat.le_of_ble_eq_true hbig) (Nat.eq_of_beq_eq_true hlen) (Nat.zero_le _) q1 q2 q3 q4 q5
     obtain⟨env',hg',AD⟩:=sR (ty:=ty) g hB (ks:=ks) hpk AB hlk (v:=B7) (fp:= []) (fx:=aO.flatten) (by simpa using q6) (by intro b hb;cases hb) r3
      ⟨r2.os,r2.tape,r2.output,r2.size,fun b hb _=>r2.block b hb⟩ (by
       intro b hb
       rcases List.mem_cons.1 hb with h|h
       ·exact Or.inr (Or.inr h)
       ·exact Or.inr (Or.inl h))
     unfold Oper.wp
     rw[r1]
     exact⟨_,env',rfl,iq r2 hB,hg',rfl,⟨gt,_,look_eq⟩,AD.symm⟩
    ·cases h
   ·cases h
  ·cases h
 |_=>simp[yF]at h
end
end
section
variable{ty:Tag→Nat}
theorem kR{w:World}{b o:Nat}{x y:List Value}(hx:w.rangeAt b o x)(hy:w.rangeAt b (o+x.length) y):w.rangeAt b o (x++y):=by
 intro j v hv
 by_cases hj:j<x.length
 ·rw[List.getElem?_append_left hj]at hv;exact hx j v hv
 ·rw[List.getElem?_append_right (by omega)]at hv
  have:=hy _ v hv
  rwa [show o+x.length+(j-x.length)=o+j by omega]at this
theorem sV{w:World}{b o n:Nat}{cs:List Value}(h:w.rangeAt b o cs):w.rangeAt b o (cs.take n):=by
 intro j v hv
 rw[List.getElem?_take]at hv
 split at hv
 ·exact h j v hv
 ·cases hv
theorem sW{w:World}{b o n:Nat}{cs:List Value}(h:w.rangeAt b o cs):w.rangeAt b (o+n) (cs.drop n):=by
 intro j v hv
 rw[List.getElem?_drop]at hv
 have:=h _ v hv
 rwa [show o+n+j=o+(n+j)by omega]
theorem oC{w:World}{b o off:Nat}{cs us:List Value}(h:w.rangeAt b o cs)(hl:off+us.length≤cs.length)(ht:w.there b (o+off) us.length):
  (w.setCells b (o+off) us).rangeAt b o (cs.take off++(us++cs.drop (off+us.length))):=by
 have l1:(cs.take off).length=off:=by rw[List.length_take];omega
 refine kR (World.rangeAt_setCells_apart (sV h) _ _ _ (Or.inr (Or.inl (by rw[l1];exact Nat.le_refl _)))) ?_
 rw[l1]
 refine kR (World.rangeAt_setCells_same w b _ us ht) ?_
 rw[Nat.add_assoc]
 exact World.rangeAt_setCells_apart (sW h) _ _ _ (Or.inr (Or.inr (by omega)))
theorem bG.Sx{w:World}{x y z:List V}{us vs ts:List Value}{f g h:List Nat}(a:bG w x us f)(b:bG w y vs g)(c:bG w z ts h):bG w (x++(y++z)) (us++(vs++ts)) (f++(g++h)):=bG.app a (bG.app b c)
theorem bG.split{w:World}: ∀(n:Nat) {c:List V} {cs:List Value} {f:List Nat},bG w c cs f→ ∃f1 f2,f=f1++f2∧bG w (c.take n) (cs.take n) f1∧bG w (c.drop n) (cs.drop n) f2
 |0,c,cs,f,h=>⟨[],f,rfl,by simp[bG],by simpa using h⟩
 |n+1,[],[],f,h=>⟨[],f,rfl,by simp[bG],by simpa using h⟩
 |n+1,v::r,u::us,f,⟨f1,f2,h1,h2,e⟩=>by
  obtain⟨g1,g2,k1,k2,k3⟩:=bG.split n h2
  exact⟨f1++g1,g2,by rw[e,k1,List.append_assoc],⟨f1,g1,h1,k2,rfl⟩,by simpa using k3⟩
 |_+1,[],_::_,_,h=>h.elim
 |_+1,_::_,[],_,h=>h.elim
theorem bG.Az{w:World}{c d vs:List V}{cs us:List Value}{f g:List Nat}{off:Nat}(h:bG w c cs f)(hv:bG w vs us g)(hs:G.Az c off vs=some d):
  ∃f1 f2 f3,f=f1++(f2++f3)∧bG w d (cs.take off++(us++cs.drop (off+us.length))) (f1++(g++f3))∧off+us.length≤cs.length:=by
 unfold G.Az at hs
 split at hs
 ·rename_i hb
  have hb:=Nat.le_of_ble_eq_true hb
  simp only[oI]at hs
  subst hs
  obtain⟨f1,f',e1,k1,k2⟩:=bG.split off h
  obtain⟨f2,f3,e2,_,k4⟩:=bG.split us.length k2
  have h1:=h.len
  have h2:=hv.len
  refine⟨f1,f2,f3,by rw[e1,e2],?_,by omega⟩
  have:=bG.Sx k1 hv k4
  rw[List.drop_drop,List.drop_drop]at this
  rw[←h2]
  exact this
 ·cases hs
theorem oD{aO:List (List Nat)}{i:Nat}{f':List Nat}{b:Nat}(h:b∈(aO.set i f').flatten):b∈f'∨ ∃j f,j≠i∧aO[j]? =some f∧b∈f:=by
 obtain⟨f,hf,hb⟩:=List.mem_flatten.1 h
 obtain⟨j,hj⟩:=List.getElem?_of_mem hf
 by_cases hji:j=i
 ·subst hji
  have hlt:=(List.getElem?_eq_some_iff.1 hj).1
  rw[List.length_set]at hlt
  rw[List.getElem?_set_self hlt]at hj
  simp only[oI]at hj
  subst hj
  exact Or.inl hb
 ·rw[List.getElem?_set_ne (Ne.symm hji)]at hj
  exact Or.inr ⟨j,f,hji,hj,hb⟩
theorem lI{aO:List (List Nat)}{i:Nat}{f':List Nat}(h:aO.flatten.Nodup)(hf:f'.Nodup)(hd: ∀j f,j≠i→aO[j]? =some f→ ∀b,b∈f→b∉f'):(aO.set i f').flatten.Nodup:=by
 have h1:=List.pairwise_flatten.1 h
 refine List.pairwise_flatten.2 ⟨fun l hl=> ?_,?_⟩
 ·obtain⟨j,hj⟩:=List.getElem?_of_mem hl
  by_cases hji:j=i
  ·subst hji
   have hlt:=(List.getElem?_eq_some_iff.1 hj).1
   rw[List.length_set]at hlt
   rw[List.getElem?_set_self hlt]at hj
   simp only[oI]at hj
   subst hj
   exact hf
  ·rw[List.getElem?_set_ne (Ne.symm hji)]at hj
   exact h1.1 _ (List.mem_of_getElem? hj)
 ·have h2:=List.pairwise_iff_getElem.1 h1.2
  rw[List.pairwise_iff_getElem]
  intro p q hp hq hpq x hx y hy e
  subst e
  rw[List.length_set]at hp hq
  rw[List.getElem_set]at hx hy
  split at hx<;>split at hy
  ·omega
  ·rename_i e1 e2
   subst e1
   exact hd q _ (by omega) (List.getElem?_eq_getElem hq) x hy hx
  ·rename_i e1 e2
   subst e2
   exact hd p _ (by omega) (List.getElem?_eq_getElem hp) x hx hy
  ·exact h2 p q hp hq hpq x hx x hy rfl
theorem uF{α:Type}{k:Nat}{E:ER α}(G:eB k E){w w':World}{b off:Nat}{l:List α}{aO:List (List Nat)}(h:jQ k E w b off l aO){i:Nat}{x':α}{f':List Nat}{cs':List Value}
  (hr:w'.rangeAt b (off+i*k) cs')(hE:E w' cs' x' f')(ho: ∀j cs,j≠i→cs.length=k→w.rangeAt b (off+j*k) cs→w'.rangeAt b (off+j*k) cs)(ha: ∀j f,j≠i→aO[j]? =some f→Agree w w' f):
  jQ k E w' b off (l.set i x') (aO.set i f'):=by
 refine⟨by rw[List.length_set,List.length_set];exact h.1,fun j y fy hy jt=> ?_⟩
 by_cases hj:i=j
 ·subst hj
  have hi:=(List.getElem?_eq_some_iff.1 hy).1
  rw[List.length_set]at hi
  have hi2:=(List.getElem?_eq_some_iff.1 jt).1
  rw[List.length_set]at hi2
  rw[List.getElem?_set_self hi]at hy
  rw[List.getElem?_set_self hi2]at jt
  simp only[oI]at hy jt
  subst hy;subst jt
  exact⟨cs',hr,hE⟩
 ·rw[List.getElem?_set_ne hj]at hy jt
  obtain⟨cy,Xx,GY⟩:=h.2 j y fy hy jt
  exact⟨cy,ho j cy (Ne.symm hj) (G.len GY) Xx,G.agree GY (ha j fy (Ne.symm hj) jt)⟩
theorem Sy{α:Type}{k:Nat}{E:ER α}(G:eB k E){e:Nat}{w w':World}{v:Value}{l l':List α}{fp eR:List Nat}(h:fZ k E 0 e w v l fp)(hs:Shape w w')(h':Sl k E w' v l' eR)(ho:Own 0 w' eR)(hsub: ∀b,b∈eR→b∈fp):
  ∃DG,fZ k E 0 e w' v l' DG∧ ∀b,b∈DG→b∈fp:=by
 rcases h.parts with⟨rfl,rfl,rfl⟩| ⟨g,o,n,c,aO,rfl,hn,hnm,wS,Bg,rfl⟩
 ·obtain⟨oa,cap,hv,_,_,h3⟩:=h'
  simp only[Value.slice.injEq]at hv
  obtain⟨rfl,hl,rfl⟩:=hv
  have:l'= []:=List.eq_nil_of_length_eq_zero hl.symm
  subst this
  exact⟨[],fZ.nil _ _ _ _ _,by simp⟩
 ·obtain⟨oa,cap,hv,hc,hm,h3⟩:=h'
  simp only[Value.slice.injEq]at hv
  obtain⟨rfl,hl,rfl⟩:=hv
  obtain⟨c',hs1,Fu⟩:=hs g c e wS
  rcases h3 with⟨rfl,rfl,_⟩| ⟨b,off,gO,hb,Xy,rfl,hE⟩
  ·rw[hl]
   refine⟨[g],gD G (l:= []) (aO:= []) hs1 (by rw[Fu];exact Bg) (Nat.zero_le _) hm ⟨rfl,by simp⟩ ⟨by simp,by simp,fun b hb=> ?_⟩,by simp⟩
   simp only[List.flatten_nil,List.mem_singleton]at hb
   exact⟨_,_,by rw[hb];exact hs1⟩
  ·simp only[oI,Addr.mk.injEq,and_true]at hb
   obtain⟨rfl,rfl⟩:=hb
   rw[hl]
   exact⟨_,gD G hs1 (by rw[Fu];exact Bg) hc hm hE ho,hsub⟩
def fits:TK→S1→Bool
 | .st z _ _, .agg c=>Nat.beq c.length z.length
 | .st _ _ _,_=>false
 | .other,_=>false
 |_, .a _=>true
 |_,_=>false
theorem DR{k:TK}{c:List V}(h:fits k (.agg c)=true): ∃z tg fo,k= .st z tg fo∧Nat.beq c.length z.length=true:=by
 cases k with
 |st z tg fo=>exact⟨z,tg,fo,rfl,h⟩
 |_=>cases h
theorem sX{k:TK}{v:V}(h:fits k (.a v)=true):(∀z tg fo,k≠ .st z tg fo)∧k≠ .other:=by
 cases k with
 |st z tg fo=>cases h
 |other=>cases h
 |_=>exact⟨fun _ _ _ e=>(by cases e),fun e=>(by cases e)⟩
def St.FN(st:St)(ms:List Nat)(n:Nat)(t:Tag)(l:List (T t)):St:=⟨st.n,st.sl.map fun e=>(e.1,e.2.bf ms [n]),(n, .arr t l)::bE ms [n] st.hp⟩
def DS(n:Nat)(ms:List Nat):Bool:=mS (n::ms)&& !pinned ms&&(match ms with| []=>true|_=> !fu n)
def OV(Γ:Nat→TK)(st:St):Op→Option (List Prop×St)
 | .store t x y=>match ew st [] x,ew st [] y with
   |some (.a (.iQ n i off)),some v=>match look st.hp n with
    |some (.arr g l)=>match fits (Γ t) v,takes st (cellsOf v)with
     |true,some (c,ms)=>match Az (dec g (l.getD i (aA g))) off c with
      |some d=>match enc g d,DS n ms with
       |some (vc,y'),true=>some ((i<l.length)::vc,st.FN ms n g (l.set i y'))
       |_,_=>none
      |none=>none
     |_,_=>none
    |_=>none
   |_,_=>none
 |_=>none
section
variable{P:Program}{zb:bP}{st st':St}{a:Act}{w:World}{env:Env}{Q:Exit→Act→World→Prop}{o:Oper}
theorem vY(g:Good ty zb st a.tmps w env){n:Nat}{t:Tag}{l l':List (T t)}(hl:look st.hp n=some (.arr t l)){ms:List Nat}(hok:DS n ms=true){w':World}{eR fx:List Nat}
  (xK: ∀b,b∈fx→ ∃i o,i∈ms∧look st.hp i=some o∧b∈(env i).fp)(hsub: ∀b,b∈eR→b∈(env n).fp∨b∈fx)(AE:fu n=true→ ∀b,b∈eR→b∈(env n).fp)
  (hk: ∀b,b∉(env n).fp→b∉fx→b<w.heap.size→w'.heap[b]? =w.heap[b]?)(Xz:hJ ty w' n t l' ⟨(env n).v,eR⟩):
  ∃env',Good ty zb (st.FN ms n t l') a.tmps w' env'∧(env' n).v=(env n).v:=by
 simp only[DS,Bool.and_eq_true,Bool.not_eq_true']at hok
 obtain⟨⟨hnd,hpk⟩,Sz⟩:=hok
 have hnd:=iw hnd
 have hnm:n∉ms:=(List.nodup_cons.1 hnd).1
 refine⟨fun m=>if m=n then⟨(env n).v,eR⟩else env m,?_,by simp⟩
 have hlk: ∀m o,look ((n,Obj.arr t l')::bE ms [n] st.hp) m=some o→(m=n∧o= .arr t l')∨(m≠n∧m∉ms∧ ∃o',look st.hp m=some o'∧o=o'.bf ms [n]):=by
  intro m o hm
  by_cases jc:m=n
  ·subst jc;rw[look_eq]at hm;simp only[oI]at hm;exact Or.inl ⟨rfl,hm.symm⟩
  ·rw[aK jc,aY]at hm
   split at hm
   ·cases hm
   ·rename_i hks
    cases hq:look st.hp m with
    |none=>rw[hq]at hm;cases hm
    |some o'=>rw[hq]at hm;simp only[Option.map_some,oI]at hm;exact Or.inr ⟨jc,hks,o',rfl,hm.symm⟩
 have how: ∀b,b∈eR→ ∃i o,(i=n∨i∈ms)∧look st.hp i=some o∧b∈(env i).fp:=by
  intro b hb
  rcases hsub b hb with h|h
  ·exact⟨n,_,Or.inl rfl,hl,h⟩
  ·obtain⟨i,o,h1,h2,h3⟩:=xK b h;exact⟨i,o,Or.inr h1,h2,h3⟩
 have hst: ∀m o,m≠n→m∉ms→look st.hp m=some o→ ∀b,b∈(env m).fp→w'.heap[b]? =w.heap[b]? :=by
  intro m o hmn hks h3 b hb
  refine hk b (fun h=>g.fU m n _ _ hmn h3 hl b hb h) (fun h=> ?_) ((g.obj m o h3).sy b hb)
  obtain⟨i,oi,hi,h5,h6⟩:=xK b h
  exact g.fU m i _ _ (fun e=>hks (e▸hi)) h3 h5 b hb h6
 have s:qC ms [n] w st.hp env w' ((n, .arr t l')::bE ms [n] st.hp) (fun m=>if m=n then⟨(env n).v,eR⟩else env m):=by
  refine⟨fun b hb hno=>hk b (fun h=>hno ⟨n,_,hl,h⟩) (fun h=> ?_) hb,?_,?_,?_⟩
  ·obtain⟨i,oi,hi,h5,h6⟩:=xK b h
   exact hno ⟨i,oi,h5,h6⟩
  ·rintro b hb ⟨m,o',h1,h2⟩
   rcases hlk m o' h1 with⟨rfl,rfl⟩| ⟨jc,hks,wQ,h3,rfl⟩
   ·simp at h2
    obtain⟨i,o',_,h3,h4⟩:=how b h2
    exact⟨i,o',h3,h4⟩
   ·simp[jc]at h2
    exact⟨m,wQ,h3,h2⟩
  ·intro m o' hks h1
   by_cases hmn:m=n
   ·subst hmn
    rw[hl]at h1
    simp only[oI]at h1
    subst h1
    exact⟨_,look_eq,rfl,by simp⟩
   ·exact⟨o'.bf ms [n],by rw[aK hmn,aY,if_neg hks,h1];rfl,by cases o'<;>simp[Obj.like,Obj.bf],by simp[hmn]⟩
  ·rintro m t' l2 ⟨hks,hmn⟩ h1
   have hmn:m≠n:=by simpa using hmn
   exact⟨by rw[aK hmn,aY,if_neg hks,h1];rfl,by simp[hmn],hst m _ hmn hks h1⟩
 refine g.fA s (fun m o' hm=> ?_) (fun m m' o1 o2 hne h1 h2 b hb hb'=> ?_) (fun m o' hm b hb=> ?_) (fun m hm=> ?_)
 ·rcases hlk m o' hm with⟨rfl,rfl⟩| ⟨jc,hks,wQ,h3,rfl⟩
  ·simp only[if_true];exact Xz
  ·simp only[if_neg jc]
   exact(g.obj m wQ h3).fA s (hst m wQ jc hks h3)
 ·rcases hlk m o1 h1 with⟨e1,_⟩| ⟨jc,hks,q1,h3,_⟩<;>rcases hlk m' o2 h2 with⟨e2,_⟩| ⟨Cj,K7,q2,h4,_⟩
  ·exact hne (e1.trans e2.symm)
  ·simp only[if_pos e1]at hb
   simp only[if_neg Cj]at hb'
   obtain⟨i,oi,hi,h5,h6⟩:=how b hb
   refine g.fU m' i _ _ (fun e=> ?_) h4 h5 b hb' h6
   rcases hi with hi|hi
   ·exact Cj (e.trans hi)
   ·exact K7 (e▸hi)
  ·simp only[if_pos e2]at hb'
   simp only[if_neg jc]at hb
   obtain⟨i,oi,hi,h5,h6⟩:=how b hb'
   refine g.fU m i _ _ (fun e=> ?_) h3 h5 b hb h6
   rcases hi with hi|hi
   ·exact jc (e.trans hi)
   ·exact hks (e▸hi)
  ·simp only[if_neg jc]at hb
   simp only[if_neg Cj]at hb'
   exact g.fU m m' _ _ hne h3 h4 b hb hb'
 ·rcases hlk m o' hm with⟨e1,_⟩| ⟨jc,hks,q1,h3,_⟩
  ·simp only[if_pos e1]at hb
   obtain⟨i,oi,_,h5,h6⟩:=how b hb
   exact g.dom i oi h5 b h6
  ·simp only[if_neg jc]at hb
   exact g.dom m q1 h3 b hb
 ·by_cases hmn:m=n
  ·subst hmn
   simp only[if_true]
   exact⟨(g.pins m hm).1,fun b hb=>(g.pins m hm).2 b (AE hm b hb)⟩
  ·simp only[if_neg hmn]
   exact g.pins m hm
theorem OW{Γ:Nat→TK}(C: ∀t,b7 P t (Γ t))(Z: ∀t,(∀z tg fo,Γ t≠ .st z tg fo)→Γ t≠ .other→(P.info? t).map (·.size)=some 1){vc:List Prop}(h:OV Γ st o.op=some (vc,st'))(g:Good ty zb st a.tmps w env)(hv: ∀q,q∈vc→q):
  o.wp P a w (fun a' w'=> ∃env',a'=a.put o.dst undef∧Kept zb w w'∧Good ty zb st' a.tmps w' env'∧st'.n=st.n) Q:=by
 have hop: ∀{x v},ew st [] x=some v→eC w st.hp env v (a.eval x):=fun hx=>dh g (fun e he=>by simp at he) hx
 generalize dL:o.op=op at h
 cases op with
 |store t x y=>
  simp only[OV]at h
  split at h
  ·rename_i n i off v hx hy
   have hx:=hop hx
   have hy:=hop hy
   split at h
   ·rename_i gt l hl
    split at h
    ·rename_i c ms hfit J5
     split at h
     ·rename_i d hs
      split at h
      ·rename_i nL y' he hok
       simp only[oI,pI]at h
       obtain⟨rfl,rfl⟩:=h
       have hi:i<l.length:=hv _ (by simp)
       have U3:=hok
       simp only[DS,Bool.and_eq_true,Bool.not_eq_true']at U3
       obtain⟨⟨hnd,hpk⟩,Sz⟩:=U3
       have hnd:=iw hnd
       have hnm:n∉ms:=(List.nodup_cons.1 hnd).1
       obtain⟨t1,l1,hl1,b2,o2,SA,OX,uC,hu⟩:=hx
       rw[hl]at hl1
       simp only[oI,Obj.arr.injEq]at hl1
       obtain⟨rfl,_⟩:=hl1
       have hro:=g.obj n _ hl
       obtain⟨oa,cap,uo,wS,Bg,h3⟩:=RO.sl hro
       have hown:=RO.own hro
       rcases h3 with⟨rfl,_⟩| ⟨b,o1,aO,FO,bW,eK,hE⟩
       ·simp at hi
       rw[uo,FO]at uC
       simp only[Value.slice.injEq,oI,Addr.mk.injEq,and_true]at uC
       obtain⟨⟨rfl,rfl⟩,rfl,rfl⟩:=uC
       have La:l[i]? =some (l.getD i (aA gt)):=by rw[List.getD_eq_getElem?_getD,List.getElem?_eq_getElem hi];rfl
       obtain⟨f,hf⟩:=eU hE.1 La
       obtain⟨cs,sN,Od⟩:=hE.2 _ _ f La hf
       have hlen:=(cF gt).len Od
       rw[eK]at hown
       have lJ:=List.nodup_cons.1 hown.nodup
       obtain⟨fx,Ft,U4,xK⟩:=sU g (iy g hy (eM J5)) J5 (List.nodup_cons.1 hnd).2
       obtain⟨f1,f2,f3,Ob,hrd,hlo⟩:=bG.Az (reads gt Od) Ft hs
       have SB:=oq gt he (fun q hq=>hv q (by simp[hq])) hrd
       have hsz:(P.info? t).map (·.size)=some (a.eval y).cells.toList.length∧ ∀u,u∈(a.eval y).cells.toList→u.oneCell'=true:=by
        refine⟨?_,pW g (iy g hy (eM J5)) (lZ (eM J5))⟩
        cases v with
        |agg c'=>
         have hk: ∃z tg fo,Γ t= .st z tg fo∧Nat.beq c'.length z.length=true:=by
          exact DR hfit
         obtain⟨z,tg,fo,hk,hfit⟩:=hk
         have hC:=C t
         rw[hk]at hC
         obtain⟨fs,_,hi2,_⟩:=hC
         obtain⟨us,KX,FI⟩:=hy
         have:=Nat.eq_of_beq_eq_true hfit
         have OY:=FI.len
         rw[KX]
         cases hq:P.info? t with
         |none=>simp[hq]at hi2
         |some inf=>simp[hq]at hi2;simp[hi2.1,Value.cells,OY,this]
        |a v'=>
         have hk:(∀z tg fo,Γ t≠ .st z tg fo)∧Γ t≠ .other:=by
          exact sX hfit
         have hne:v'≠ .any:=by rintro rfl;simp[cellsOf,takes]at J5
         have:=gC g (show RA w st.hp env v' (a.eval y)from hy) hne
         rw[this]
         exact Z t hk.1 hk.2
       obtain⟨cb,eb,mT⟩:=hown.kind b (by simp)
       have GX:w.there b (o1+i*kk gt+off) (a.eval y).cells.toList.length:=by
        refine BZ mT _ _ ?_
        have um:o1+i*kk gt+cs.length≤cb.size:=by
         have hk0:=eu gt
         have:=sN (cs.length-1) _ (List.getElem?_eq_getElem (by omega))
         rw[xW mT]at this
         have:=(Array.getElem?_eq_some_iff.1 this).1
         omega
        omega
       have hkeep: ∀x,x≠b→(w.setCells b (o1+i*kk gt+off) (a.eval y).cells.toList).heap[x]? =w.heap[x]? :=fun x hx=>bI b _ _ w x hx
       have wT: ∀x,x∈fx→x≠b:=by
        rintro x hx rfl
        obtain⟨m,om,hm,h5,h6⟩:=xK x hx
        exact g.fU n m _ _ (fun e=>hnm (e▸hm)) hl h5 x (by rw[eK];simp) h6
       have J4: ∀x,x∈aO.flatten→x≠b:=fun x hx e=>lJ.1 (e▸hx)
       have qT: ∀x,x∈f1++(fx++f3)→x∈f∨x∈fx:=by
        intro x hx
        rw[Ob]
        rcases List.mem_append.1 hx with hx|hx
        ·exact Or.inl (List.mem_append_left _ hx)
        ·rcases List.mem_append.1 hx with hx|hx
         ·exact Or.inr hx
         ·exact Or.inl (List.mem_append_right _ (List.mem_append_right _ hx))
       have Sj: ∀x,x∈f1++(fx++f3)→x≠b:=by
        intro x hx
        rcases qT x hx with h|h
        ·exact J4 x (bL hf h)
        ·exact wT x h
       have Iw:Agree w (w.setCells b (o1+i*kk gt+off) (a.eval y).cells.toList) (f1++(fx++f3)):=fun x hx=>hkeep x (Sj x hx)
       have Cm:=uF (cF gt) (w':=w.setCells b (o1+i*kk gt+off) (a.eval y).cells.toList) hE (i:=i) (x':=y') (f':=f1++(fx++f3))
        (oC sN hlo GX) ((cF gt).agree SB Iw)
        (fun j cs' hj um hr=>World.rangeAt_setCells_apart hr _ _ _ (Or.inr (by
         rw[um]
         rcases Nat.lt_or_ge j i with h1|h1
         ·left
          have:=Nat.mul_le_mul_right (kk gt) (show j+1≤i by omega)
          rw[Nat.add_mul]at this;omega
         ·right
          have:=Nat.mul_le_mul_right (kk gt) (show i+1≤j by omega)
          rw[Nat.add_mul]at this;omega)))
        (fun j f' _ hf' x hx=>hkeep x (J4 x (bL hf' hx)))
       have Lb:(f1++(fx++f3)).Nodup:=by
        have h1:=(List.pairwise_flatten.1 lJ.2).1 f (List.mem_of_getElem? hf)
        rw[Ob]at h1
        obtain⟨h2,h3,h4⟩:=List.nodup_append.1 h1
        obtain⟨_,h6,_⟩:=List.nodup_append.1 h3
        have hap: ∀x,x∈fx→x∉f:=by
         intro x hx ZX
         obtain⟨m,om,hm,h5,h7⟩:=xK x hx
         exact g.fU n m _ _ (fun e=>hnm (e▸hm)) hl h5 x (by rw[eK];exact List.mem_cons_of_mem _ (bL hf ZX)) h7
        rw[Ob]at hap
        refine List.nodup_append.2 ⟨h2,List.nodup_append.2 ⟨U4.nodup,h6,?_⟩,?_⟩
        ·rintro x hx z hz rfl
         exact hap x hx (by simp[hz])
        ·rintro x hx z hz rfl
         rcases List.mem_append.1 hz with hz|hz
         ·exact hap x hz (by simp[hx])
         ·exact h4 x hx x (by simp[hz]) rfl
       have hmem: ∀x,x∈(aO.set i (f1++(fx++f3))).flatten→x∈aO.flatten∨x∈fx:=by
        intro x hx
        rcases oD hx with h| ⟨j,f',_,hj,h⟩
        ·rcases qT x h with h|h
         ·exact Or.inl (bL hf h)
         ·exact Or.inr h
        ·exact Or.inl (bL hj h)
       have Oe:Own 0 (w.setCells b (o1+i*kk gt+off) (a.eval y).cells.toList) (b::(aO.set i (f1++(fx++f3))).flatten):=by
        refine⟨List.nodup_cons.2 ⟨fun hm=> ?_,lI lJ.2 Lb fun j f' hj hf' x hx hx'=> ?_⟩,fun _ _=>Nat.zero_le _,fun x hx=> ?_⟩
        ·rcases hmem b hm with h|h
         ·exact lJ.1 h
         ·exact wT b h rfl
        ·rcases qT x hx' with h|h
         ·exact pY lJ.2 hf' hf hj x hx h
         ·obtain⟨m,om,hm,h5,h7⟩:=xK x h
          exact g.fU n m _ _ (fun e=>hnm (e▸hm)) hl h5 x (by rw[eK];exact List.mem_cons_of_mem _ (bL hf' hx)) h7
        ·rcases List.mem_cons.1 hx with rfl|hx
         ·obtain⟨c',q1,_⟩:=cC x eb (a.eval y).cells.toList (o1+i*kk gt+off) w cb mT
          exact⟨_,_,q1⟩
         ·rcases hmem x hx with h|h
          ·rw[hkeep x (J4 x h)];exact hown.kind x (List.mem_cons_of_mem _ h)
          ·rw[hkeep x (wT x h)];exact U4.kind x h
       have Lc:Sl (kk gt) (rd gt) (w.setCells b (o1+i*kk gt+off) (a.eval y).cells.toList) (env n).v (l.set i y') (b::(aO.set i (f1++(fx++f3))).flatten):=by
        refine⟨some ⟨b,o1,none⟩,cap,by rw[uo,FO,List.length_set],by rw[List.length_set];exact wS,Bg,Or.inr ⟨b,o1,_,rfl,?_,rfl,Cm⟩⟩
        exact bW.set mT _ _
       have hM:=g.dom n _ hl b (by rw[eK];simp)
       have Ld:=sP hM mT (o1+i*kk gt+off) (a.eval y).cells.toList
       have hrun:(storeVar t ⟨b,o1+i*kk gt+off,none⟩ (a.eval y)).run P w= .ok () (w.setCells b (o1+i*kk gt+off) (a.eval y).cells.toList):=jx (by simp) GX hsz.1 hsz.2
       have SC: ∃eR,(∀x,x∈eR→x∈(env n).fp∨x∈fx)∧(fu n=true→ ∀x,x∈eR→x∈(env n).fp)∧hJ ty (w.setCells b (o1+i*kk gt+off) (a.eval y).cells.toList) n gt (l.set i y') ⟨(env n).v,eR⟩:=by
        have hall: ∀x,x∈b::(aO.set i (f1++(fx++f3))).flatten→x∈(env n).fp∨x∈fx:=by
         intro x hx
         rw[eK]
         rcases List.mem_cons.1 hx with rfl|hx
         ·exact Or.inl (by simp)
         ·rcases hmem x hx with h|h
          ·exact Or.inl (List.mem_cons_of_mem _ h)
          ·exact Or.inr h
        cases hp:soft n with
        |true=>
         refine⟨_,hall,fun ZY x hx=> ?_,by unfold hJ;rw[hp];exact⟨Lc,Oe⟩⟩
         rcases hall x hx with h|h
         ·exact h
         ·obtain⟨m,om,hm,_⟩:=xK x h
          cases ms with
          |nil=>simp at hm
          |cons _ _=>rw[ZY]at Sz;simp at Sz
        |false=>
         have hB:=RO.N9 hp hro
         have XA:fZ (kk gt) (rd gt) 0 (ty gt) (w.setCells b (o1+i*kk gt+off) (a.eval y).cells.toList) (env n).v (l.set i y') (b::(aO.set i (f1++(fx++f3))).flatten):=by
          rcases hB.parts with⟨h1,rfl,_⟩| ⟨g0,o0,n0,cc,SD,h1,hn0,IT,q1,q2,_⟩
          ·simp at hi
          ·rw[uo,FO]at h1
           simp only[Value.slice.injEq,oI,Addr.mk.injEq,and_true,true_and]at h1
           obtain⟨⟨rfl,rfl⟩,rfl⟩:=h1
           obtain⟨ZZ,q3,q4⟩:=cC b (ty gt) (a.eval y).cells.toList (o1+i*kk gt+off) w cc q1
           rw[uo,FO, ←List.length_set (as:=l) (i:=i) (a:=y')]
           exact gD (cF gt) q3 (by rw[q4];exact q2) (by rw[List.length_set];exact wS) Bg Cm Oe
         refine⟨_,hall,?_,?_⟩
         ·intro h;rw[KK hp]at h;cases h
         ·unfold hJ;rw[hp];exact XA
       obtain⟨eR,k1,k2,k3⟩:=SC
       obtain⟨env',hg',AD⟩:=vY g hl hok (w':=w.setCells b (o1+i*kk gt+off) (a.eval y).cells.toList) xK k1 k2 (fun x hx _ _=>hkeep x (fun e=>hx (by rw[e,eK];simp))) k3
       unfold Oper.wp execOp
       simp only[dL,hu,Instr.storeAt,Instr.sureAddr,Sem.run_bind,Sem.run_pure,Result.andThen_ok,hrun]
       exact⟨env',rfl,Ld,hg',rfl⟩
      ·cases h
     ·cases h
    ·cases h
   ·cases h
  ·cases h
 |_=>simp[OV]at h
end
end
section
variable{ty:Tag→Nat}
def RF(w:World):List V→List Value→List (List Nat)→Prop
 | [],[],aO=>aO= []
 |v::vs,u::us,aO=> ∃f g,RI w v u f∧RF w vs us g∧aO=f::g
 |_,_,_=>False
def l6(w:World):List S1→List Value→List (List Nat)→Prop
 | [],[],aO=>aO= []
 | .a v::as,u::us,aO=> ∃f g,RI w v u f∧l6 w as us g∧aO=f::g
 | .agg l::as,u::us,aO=> ∃cs f g,u= .agg cs.toArray∧RF w l cs f∧l6 w as us g∧aO=f++g
 |_,_,_=>False
def qD:List (List Nat)→List (List Nat)→Prop
 | [],[]=>True
 |f::r,g::s=>(∀b,b∈f→b∈g)∧qD r s
 |_,_=>False
def uG(P:Program)(f:FuncId)(as as':List S1)(v:Value):Prop:=
 (∀(args:Array Value) (w:World),(callFunc f args).run P w= .ok (.enter f args) w)∧
 ∀w us aO,A3 w→(∀b,Dx b→b∉aO.flatten)→l6 w as us aO→Own 0 w aO.flatten→Calls P f us.toArray w fun e w'=> ∃gO,e= .returned v∧Kept ⟨w,aO.flatten,fun _=>⟨v,[]⟩⟩ w w'∧l6 w' as' us gO∧Own 0 w' gO.flatten∧qD gO aO
def St.upd(st:St)(os:Hp):St:=⟨st.n,st.sl.map fun e=>(e.1,e.2.bf [] (os.map Prod.fst)),os++bE [] (os.map Prod.fst) st.hp⟩
theorem IU{os:Hp}{n:Nat}:n∈os.map Prod.fst↔look os n≠none:=by
 induction os with
 |nil=>simp[look]
 |cons e r ih=>
  obtain⟨j,x⟩:=e
  by_cases h:n=j
  ·subst h;simp[look_eq]
  ·rw[aK h, ←ih];simp[h]
section
variable{P:Program}{zb:bP}{st st':St}{a:Act}{w:World}{env:Env}{Q:Exit→Act→World→Prop}{o:Oper}
theorem DT(g:Good ty zb st a.tmps w env){os:Hp}(hos: ∀n o,look os n=some o→ ∃t l l',look st.hp n=some (.arr t l)∧o= .arr t l'){w':World}{SE:Nat→List Nat}
  (hsub: ∀n o,look os n=some o→ ∀b,b∈SE n→b∈(env n).fp)(hk: ∀b,b<w.heap.size→(∀n o,look os n=some o→b∉(env n).fp)→w'.heap[b]? =w.heap[b]?)
  (hro: ∀n t l',look os n=some (.arr t l')→hJ ty w' n t l' ⟨(env n).v,SE n⟩):
  ∃env',Good ty zb (st.upd os) a.tmps w' env'∧ ∀n,(env' n).v=(env n).v:=by
 refine⟨fun m=>match look os m with|some _=>⟨(env m).v,SE m⟩|none=>env m,?_,fun n=>by dsimp only;split<;>rfl⟩
 have hlk: ∀m o,look (os++bE [] (os.map Prod.fst) st.hp) m=some o→(look os m=some o)∨(look os m=none∧ ∃o',look st.hp m=some o'∧o=o'.bf [] (os.map Prod.fst)):=by
  intro m o hm
  cases hq:look os m with
  |some x=>rw[bt hq]at hm;exact Or.inl hm
  |none=>
   rw[aN hq,aY,if_neg (by simp)]at hm
   cases Fw:look st.hp m with
   |none=>rw[Fw]at hm;cases hm
   |some o'=>rw[Fw]at hm;simp only[Option.map_some,oI]at hm;exact Or.inr ⟨rfl,o',rfl,hm.symm⟩
 have hst: ∀m o,look os m=none→look st.hp m=some o→ ∀b,b∈(env m).fp→w'.heap[b]? =w.heap[b]? :=by
  intro m o hm h3 b hb
  refine hk b ((g.obj m o h3).sy b hb) fun n o' hn h=> ?_
  obtain⟨t,l,l',h4,_⟩:=hos n o' hn
  exact g.fU m n _ _ (fun e=>by rw[e,hn]at hm;cases hm) h3 h4 b hb h
 have eK: ∀m o,look (os++bE [] (os.map Prod.fst) st.hp) m=some o→ ∀b,b∈(match look os m with|some _=>(⟨(env m).v,SE m⟩:CO)|none=>env m).fp→b∈(env m).fp∧ ∃o',look st.hp m=some o':=by
  intro m o hm b hb
  rcases hlk m o hm with h| ⟨h,o',h2,_⟩
  ·rw[h]at hb
   obtain⟨t,l,l',h4,_⟩:=hos m o h
   exact⟨hsub m o h b hb,_,h4⟩
  ·rw[h]at hb
   exact⟨hb,o',h2⟩
 have s:qC [] (os.map Prod.fst) w st.hp env w' (os++bE [] (os.map Prod.fst) st.hp) (fun m=>match look os m with|some _=>⟨(env m).v,SE m⟩|none=>env m):=by
  refine⟨fun b hb hno=>hk b hb fun n o hn h=> ?_,?_,?_,?_⟩
  ·obtain⟨t,l,l',h4,_⟩:=hos n o hn
   exact hno ⟨n,_,h4,h⟩
  ·rintro b hb ⟨m,o',h1,h2⟩
   obtain⟨h3,o2,h4⟩:=eK m o' h1 b h2
   exact⟨m,o2,h4,h3⟩
  ·intro m o' _ h1
   cases hq:look os m with
   |some x=>
    obtain⟨t,l,l',h4,rfl⟩:=hos m x hq
    rw[h4]at h1
    simp only[oI]at h1
    subst h1
    exact⟨_,bt hq,rfl,rfl⟩
   |none=>
    exact⟨o'.bf [] (os.map Prod.fst),by rw[aN hq,aY,if_neg (by simp),h1];rfl,by cases o'<;>simp[Obj.like,Obj.bf],rfl⟩
  ·rintro m t' l2 ⟨_,hmn⟩ h1
   have hq:look os m=none:=by
    cases hq:look os m with
    |none=>rfl
    |some x=>exact absurd (IU.2 (by rw[hq];simp)) hmn
   exact⟨by rw[aN hq,aY,if_neg (by simp),h1];rfl,by simp[hq],hst m _ hq h1⟩
 refine g.fA s (fun m o' hm=> ?_) (fun m m' o1 o2 hne h1 h2 b hb hb'=> ?_) (fun m o' hm b hb=> ?_) (fun m hm=> ?_)
 ·rcases hlk m o' hm with h| ⟨h,wQ,h3,rfl⟩
  ·obtain⟨t,l,l',h4,rfl⟩:=hos m o' h
   simp only[h]
   exact hro m t l' h
  ·simp only[h]
   exact(g.obj m wQ h3).fA s (hst m wQ h h3)
 ·obtain⟨h3,q1,h4⟩:=eK m o1 h1 b hb
  obtain⟨h5,q2,h6⟩:=eK m' o2 h2 b hb'
  exact g.fU m m' _ _ hne h4 h6 b h3 h5
 ·obtain⟨h3,q1,h4⟩:=eK m o' hm b hb
  exact g.dom m q1 h4 b h3
 ·refine⟨?_,fun b hb=> ?_⟩
  ·have:=(g.pins m hm).1
   split<;>exact this
  ·cases hq:look os m with
   |none=>simp only[hq]at hb;exact(g.pins m hm).2 b hb
   |some x=>simp only[hq]at hb;exact(g.pins m hm).2 b (hsub m x hq b hb)
theorem yH{n:Nat}{t:Tag}{l l':List (T t)}{co:CO}{eR:List Nat}{w':World}{hp:Hp}(h:RO ty w hp env n (.arr t l) co)(hs:Shape w w')(h':Sl (kk t) (rd t) w' co.v l' eR)(ho:Own 0 w' eR)(hsub: ∀b,b∈eR→b∈co.fp):
  ∃DG,hJ ty w' n t l' ⟨co.v,DG⟩∧ ∀b,b∈DG→b∈co.fp:=by
 unfold hJ
 cases hp:soft n with
 |true=>exact⟨eR,⟨h',ho⟩,hsub⟩
 |false=>exact Sy (cF t) (RO.N9 hp h) hs h' ho hsub
end
def IV(st:St)(tg:Option Tag):V→Option V
 | .own n=>match look st.hp n with|some (.arr t l)=>some (.sl t l)|_=>none
 | .lit (.slice none 0 0)=>match tg with|some t=>some (.sl t [])|none=>none
 | .lit (.slice _ _ _)=>none
 | .lit v=>some (.lit v)
 |_=>none
def DU(st:St):List (Option Tag)→List V→Option (List V)
 |_,[]=>some []
 |tg,v::r=>match IV st (match tg with|t::_=>t| []=>none) v,DU st (match tg with|_::ts=>ts| []=> []) r with
  |some x,some y=>some (x::y)
  |_,_=>none
def Le(st:St)(k:TK):S1→Option S1
 | .a v=>match IV st (match k with| .sl t _=>some t|_=>none) v with|some x=>some (.a x)|none=>none
 | .agg l=>match DU st (match k with| .st _ tg _=>tg|_=> []) l with|some x=>some (.agg x)|none=>none
def oF(Γ:Nat→TK)(st:St):List Operand→List Nat→Option (List S1×List S1)
 | [],_=>some ([],[])
 |x::r,t=>match ew st [] x with
  |some v=>match Le st (match t with|t::_=>Γ t| []=> .other) v,oF Γ st r (match t with|_::ts=>ts| []=> [])with
   |some y,some (vs,ys)=>some (v::vs,y::ys)
   |_,_=>none
  |none=>none
def back(st:St):List V→List V→Option Hp
 | [],[]=>some []
 | .own n::r, .sl t' l'::s=>match look st.hp n,back st r s with
   |some (.arr t _),some os=>match eL t t' l' with|some l'=>some ((n, .arr t l')::os)|none=>none
   |_,_=>none
 | .lit _::r,_::s=>back st r s
 |_,_=>none
def WK(P:Program)(ty:Tag→Nat)(Γ:Nat→TK)(cr:List (Nat×CR))(st:St)(d:Option Nat):Op→Option (List Prop×St×SV)
 | .call ⟨.value (.func f),xs,ts⟩=>match oF Γ st xs.toList ts.toList,look cr (d.getD 0+100000)with
   |some (vs,as),some ⟨_, .a (.lit v)::as'⟩=>match back st (vs.flatMap cellsOf) (as'.flatMap cellsOf),v.oneCell' with
    |some os,true=>match eW os with
     |true=>some ([uG P f as as' v],st.upd os, .one (.a (.lit v)))
     |false=>none
    |_,_=>none
   |_,_=>none
 |_=>none
def sY(st:St):List Operand→Option (List S1)
 | []=>some []
 |x::r=>match ew st [] x,sY st r with
  |some (.a (.lit (.slice _ _ _))),_=>none
  |some (.a (.lit v)),some ys=>some (.a (.lit v)::ys)
  |_,_=>none
def WL(P:Program)(ty:Tag→Nat)(cr:List (Nat×CR))(st:St)(d:Option Nat):Op→Option (List Prop×St×SV)
 | .call ⟨.value (.func f),xs,_⟩=>match xs.toList with
   |x::r=>match ew st [] x,sY st r,look cr (d.getD 0+200000)with
    |some (.a (.vw n (some (i,off)) t l)),some ls,some ⟨_, .a (.lit v):: .a (.sl t' l')::ls'⟩=>match look st.hp n,eL t t' l',v.oneCell' with
     |some (.arr g l0),some l',true=>match Az (dec g (l0.getD i (aA g))) off [.sl t l']with
      |some c=>match enc g c with
       |some (vc,x')=>some (uG P f (.a (.sl t l)::ls) (.a (.sl t l')::ls') v::vc,st.upd [(n, .arr g (l0.set i x'))], .one (.a (.lit v)))
       |none=>none
      |none=>none
     |_,_,_=>none
    |_,_,_=>none
   | []=>none
 |_=>none
section
variable{P:Program}{zb:bP}{st st':St}{a:Act}{w:World}{env:Env}{Q:Exit→Act→World→Prop}{o:Oper}
theorem RI.cells{v:V}{u:Value}{f:List Nat}(h:RI w v u f):u.cells= #[u]:=by
 cases v with
 |lit x=>obtain⟨rfl,h1,_⟩:=h;cases u<;>simp_all [Value.cells,Value.oneCell']
 |sl t l=>obtain⟨oa,cap,rfl,_⟩:=h;rfl
 |_=>exact h.elim
theorem RF.app{w:World}: ∀{x y:List V} {us vs:List Value} {f g:List (List Nat)},RF w x us f→RF w y vs g→RF w (x++y) (us++vs) (f++g)
 | [],_,[],_,_,_,h,k=>by rw[show _=_ from h];exact k
 |_::_,_,_::_,_,_,_,⟨f1,f2,h1,h2,e⟩,k=>⟨f1,f2++_,h1,RF.app h2 k,by rw[e,List.cons_append]⟩
 | [],_,_::_,_,_,_,h,_=>h.elim
 |_::_,_,[],_,_,_,h,_=>h.elim
theorem rz{w:World}: ∀{as:List S1} {us:List Value} {aO:List (List Nat)},l6 w as us aO→RF w (as.flatMap cellsOf) (us.flatMap fun u=>u.cells.toList) aO
 | [],[],_,h=>h
 | .a v::as,u::us,_,⟨f,g,h1,h2,e⟩=>by
   have:=RF.app (x:= [v]) (us:= [u]) (f:= [f]) ⟨f,[],h1,rfl,rfl⟩ (rz h2)
   rw[List.flatMap_cons,List.flatMap_cons,RI.cells h1,e]
   exact this
 | .agg l::as,u::us,_,⟨cs,f,g,hu,h1,h2,e⟩=>by
   rw[List.flatMap_cons,List.flatMap_cons,hu,e]
   exact RF.app h1 (rz h2)
 | [],_::_,_,h=>h.elim
 | .a _::_,[],_,h=>h.elim
 | .agg _::_,[],_,h=>h.elim
def Cn(env:Env):V→List Nat
 | .own n=>(env n).fp
 |_=> []
theorem Hl(g:Good ty zb st a.tmps w env){tg:Option Tag}{v x:V}{u:Value}(hr:RA w st.hp env v u)(h:IV st tg v=some x):RI w x u (Cn env v):=by
 cases v with
 |own n=>
  simp only[IV]at h
  split at h
  ·rename_i t l hl
   simp only[oI]at h
   subst h
   obtain⟨_,rfl⟩:=hr
   exact RO.sl (g.obj n _ hl)
  ·cases h
 |lit v=>
  obtain⟨rfl,h1⟩:=hr
  simp only[IV]at h
  split at h
  ·rename_i heq;cases heq
  ·rename_i heq
   simp only[V.lit.injEq]at heq
   subst heq
   split at h
   ·simp only[oI]at h
    subst h
    exact⟨none,0,rfl,Nat.le_refl _,Nat.zero_le _,Or.inl ⟨rfl,rfl,rfl⟩⟩
   ·cases h
  ·cases h
  ·rename_i heq
   simp only[V.lit.injEq]at heq
   subst heq
   simp only[oI]at h
   subst h
   exact⟨rfl,h1,rfl⟩
  ·cases h
 |_=>simp[IV]at h
theorem DV(g:Good ty zb st a.tmps w env): ∀{vs:List V} {tg:List (Option Tag)} {xs:List V} {us:List Value},bg (RA w st.hp env) vs us→DU st tg vs=some xs→RF w xs us (vs.map (Cn env))
 | [],tg,xs,us,hr,h=>by
   simp only[DU,oI]at h
   subst h
   cases us with
   |nil=>rfl
   |cons _ _=>exact hr.elim
 |v::r,tg,xs,us,hr,h=>by
  cases us with
  |nil=>exact hr.elim
  |cons u us=>
   simp only[DU]at h
   split at h
   ·rename_i x y h1 h2
    simp only[oI]at h
    subst h
    exact⟨_,_,Hl g hr.1 h1,DV g hr.2 h2,rfl⟩
   ·cases h
theorem vZ{Γ:Nat→TK}(g:Good ty zb st a.tmps w env): ∀{xs:List Operand} {ts:List Nat} {vs as:List S1},oF Γ st xs ts=some (vs,as)→
  l6 w as (xs.map a.eval) ((vs.flatMap cellsOf).map (Cn env))∧bg (RA w st.hp env) (vs.flatMap cellsOf) ((xs.map a.eval).flatMap fun u=>u.cells.toList)
 | [],ts,vs,as,h=>by
   simp only[oF,oI,pI]at h
   obtain⟨rfl,rfl⟩:=h
   exact⟨rfl,trivial⟩
 |x::r,ts,vs,as,h=>by
  simp only[oF]at h
  split at h
  ·rename_i v hx
   split at h
   ·rename_i y vs' ys h1 h2
    simp only[oI,pI]at h
    obtain⟨rfl,rfl⟩:=h
    have At:=dh g (fun e he=>by simp at he) hx
    obtain⟨k1,k2⟩:=vZ g h2
    cases v with
    |a v=>
     simp only[Le]at h1
     split at h1
     ·rename_i x' hl
      simp only[oI]at h1
      subst h1
      have Ft:=Hl g At hl
      refine⟨⟨_,_,Ft,k1,rfl⟩,?_⟩
      rw[List.map_cons,List.flatMap_cons,List.flatMap_cons,RI.cells Ft]
      exact⟨At,k2⟩
     ·cases h1
    |agg l=>
     simp only[Le]at h1
     split at h1
     ·rename_i x' hl
      simp only[oI]at h1
      subst h1
      obtain⟨cs,hu,lH⟩:=At
      refine⟨⟨cs,_,_,hu,DV g lH hl,k1,by rw[List.flatMap_cons,List.map_append];rfl⟩,?_⟩
      rw[List.map_cons,List.flatMap_cons,List.flatMap_cons,hu]
      exact bg.app lH k2
     ·cases h1
   ·cases h
  ·cases h
theorem Co(g:Good ty zb st a.tmps w env){w':World}: ∀{vs as:List V} {us:List Value} {aO:List (List Nat)} {os:Hp},back st vs as=some os→bg (RA w st.hp env) vs us→RF w' as us aO→qD aO (vs.map (Cn env))→Own 0 w' aO.flatten→eW os=true→
  (∀b,b∈(vs.map (Cn env)).flatten→ ∃n o,look os n=some o∧b∈(env n).fp)∧
  (∀n o,look os n=some o→(∃t l l' eR,look st.hp n=some (.arr t l)∧o= .arr t l'∧Sl (kk t) (rd t) w' (env n).v l' eR∧Own 0 w' eR∧ ∀b,b∈eR→b∈(env n).fp)∧ ∀b,b∈(env n).fp→b∈(vs.map (Cn env)).flatten)∧
  ((vs.map (Cn env)).flatten.Nodup)
 | [],[],us,aO,os,h,_,_,_,_,_=>by
   simp only[back,oI]at h
   subst h
   exact⟨by simp,by simp[look],by simp⟩
 | .own n::r, .sl t' l'::s,us,aO,os,h,hr,hf,hsub,hown,hnd=>by
   cases us with
   |nil=>exact hr.elim
   |cons u us=>
    obtain⟨f,fr,h1,h2,rfl⟩:=hf
    simp only[back]at h
    split at h
    ·rename_i t l os' hl hb
     split at h
     ·rename_i l2 hc
      simp only[oI]at h
      subst h
      obtain⟨e,rfl⟩:=ct hc
      subst e
      simp only[eW,Bool.and_eq_true]at hnd
      rw[List.flatten_cons]at hown
      obtain⟨hn1,hn2,Sn⟩:=List.nodup_append.1 hown.nodup
      have o1:Own 0 w' f:=⟨hn1,fun _ _=>Nat.zero_le _,fun b hb=>hown.kind b (List.mem_append_left _ hb)⟩
      have o2:Own 0 w' fr.flatten:=⟨hn2,fun _ _=>Nat.zero_le _,fun b hb=>hown.kind b (List.mem_append_right _ hb)⟩
      obtain⟨q1,q2,q3⟩:=Co g hb hr.2 h2 hsub.2 o2 hnd.2
      have hu:u=(env n).v:=hr.1.2
      have hno:look os' n=none:=by
       cases hq:look os' n with
       |none=>rfl
       |some x=>simp[hq]at hnd
      refine⟨fun b hb=> ?_,fun m o hm=> ?_,?_⟩
      ·rw[List.map_cons,List.flatten_cons]at hb
       rcases List.mem_append.1 hb with hb|hb
       ·exact⟨n,_,look_eq,hb⟩
       ·obtain⟨m,o,h3,h4⟩:=q1 b hb
        have hmn:m≠n:=by rintro rfl;rw[hno]at h3;cases h3
        exact⟨m,o,by rw[aK hmn];exact h3,h4⟩
      ·by_cases hmn:m=n
       ·subst hmn
        rw[look_eq]at hm
        simp only[oI]at hm
        exact⟨⟨t',l,l',f,hl,hm.symm,by rw[←hu];exact h1,o1,hsub.1⟩,fun b hb=>by rw[List.map_cons,List.flatten_cons];exact List.mem_append_left _ hb⟩
       ·rw[aK hmn]at hm
        obtain⟨h3,h4⟩:=q2 m o hm
        exact⟨h3,fun b hb=>by rw[List.map_cons,List.flatten_cons];exact List.mem_append_right _ (h4 b hb)⟩
      ·rw[List.map_cons,List.flatten_cons]
       refine List.nodup_append.2 ⟨(RO.own (g.obj n _ hl)).nodup,q3,?_⟩
       rintro b hb c hc rfl
       obtain⟨m,o,h3,h4⟩:=q1 b hc
       have hmn:n≠m:=by rintro rfl;rw[hno]at h3;cases h3
       obtain⟨⟨t2,l2,_,_,h5,_⟩,_⟩:=q2 m o h3
       exact g.fU n m _ _ hmn hl h5 b hb h4
     ·cases h
    ·cases h
 | .lit x::r,y::s,us,aO,os,h,hr,hf,hsub,hown,hnd=>by
   cases us with
   |nil=>exact hr.elim
   |cons u us=>
    obtain⟨f,fr,h1,h2,rfl⟩:=hf
    simp only[back]at h
    rw[List.flatten_cons]at hown
    obtain⟨_,hn2,_⟩:=List.nodup_append.1 hown.nodup
    obtain⟨q1,q2,q3⟩:=Co g h hr.2 h2 hsub.2 ⟨hn2,fun _ _=>Nat.zero_le _,fun b hb=>hown.kind b (List.mem_append_right _ hb)⟩ hnd
    exact⟨q1,q2,q3⟩
 | .own _::_, .lit _::_,_,_,_,h,_,_,_,_,_=>by simp[back]at h
 | .own _::_, .any::_,_,_,_,h,_,_,_,_,_=>by simp[back]at h
 | .own _::_, .own _::_,_,_,_,h,_,_,_,_,_=>by simp[back]at h
 | .own _::_, .ptr _ _::_,_,_,_,h,_,_,_,_,_=>by simp[back]at h
 | .own _::_, .iQ _ _ _::_,_,_,_,h,_,_,_,_,_=>by simp[back]at h
 | .own _::_, .ip _ _ _::_,_,_,_,h,_,_,_,_,_=>by simp[back]at h
 | .own _::_, .vw _ _ _ _::_,_,_,_,h,_,_,_,_,_=>by simp[back]at h
 | .own _::_, .wK _ _ _ _ _::_,_,_,_,h,_,_,_,_,_=>by simp[back]at h
 | .own _::_, .wL _ _ _::_,_,_,_,h,_,_,_,_,_=>by simp[back]at h
 | .own _::_, .mix _ _ _ _::_,_,_,_,h,_,_,_,_,_=>by simp[back]at h
 | .own _::_, .nK _::_,_,_,_,h,_,_,_,_,_=>by simp[back]at h
 | .own _::_, .vV _ _::_,_,_,_,h,_,_,_,_,_=>by simp[back]at h
 | .own _::_, .mJ _::_,_,_,_,h,_,_,_,_,_=>by simp[back]at h
 | .own _::_, .raw _::_,_,_,_,h,_,_,_,_,_=>by simp[back]at h
 | .own _::_, .gL _ _ _::_,_,_,_,h,_,_,_,_,_=>by simp[back]at h
 | .own _::_,[],_,_,_,h,_,_,_,_,_=>by simp[back]at h
 | .lit _::_,[],_,_,_,h,_,_,_,_,_=>by simp[back]at h
 | [],_::_,_,_,_,h,_,_,_,_,_=>by simp[back]at h
 | .any::_,_,_,_,_,h,_,_,_,_,_=>by simp[back]at h
 | .sl _ _::_,_,_,_,_,h,_,_,_,_,_=>by simp[back]at h
 | .ptr _ _::_,_,_,_,_,h,_,_,_,_,_=>by simp[back]at h
 | .iQ _ _ _::_,_,_,_,_,h,_,_,_,_,_=>by simp[back]at h
 | .ip _ _ _::_,_,_,_,_,h,_,_,_,_,_=>by simp[back]at h
 | .vw _ _ _ _::_,_,_,_,_,h,_,_,_,_,_=>by simp[back]at h
 | .wK _ _ _ _ _::_,_,_,_,_,h,_,_,_,_,_=>by simp[back]at h
 | .wL _ _ _::_,_,_,_,_,h,_,_,_,_,_=>by simp[back]at h
 | .mix _ _ _ _::_,_,_,_,_,h,_,_,_,_,_=>by simp[back]at h
 | .nK _::_,_,_,_,_,h,_,_,_,_,_=>by simp[back]at h
 | .vV _ _::_,_,_,_,_,h,_,_,_,_,_=>by simp[back]at h
 | .mJ _::_,_,_,_,_,h,_,_,_,_,_=>by simp[back]at h
 | .raw _::_,_,_,_,_,h,_,_,_,_,_=>by simp[back]at h
 | .gL _ _ _::_,_,_,_,_,h,_,_,_,_,_=>by simp[back]at h
theorem yI(g:Good ty zb st a.tmps w env): ∀{vs as:List V} {os:Hp},back st vs as=some os→eW os=true→
  Own 0 w (vs.map (Cn env)).flatten∧(∀b,b∈(vs.map (Cn env)).flatten→ ∃n o o',look os n=some o∧look st.hp n=some o'∧b∈(env n).fp)
 | [],[],os,h,_=>⟨Own.nil _ _,by simp⟩
 | .own n::r, .sl t' l'::s,os,h,hnd=>by
   simp only[back]at h
   split at h
   ·rename_i t l os' hl hb
    split at h
    ·rename_i l2 hc
     simp only[oI]at h
     subst h
     simp only[eW,Bool.and_eq_true]at hnd
     obtain⟨q1,q2⟩:=yI g hb hnd.2
     have hno:look os' n=none:=by
      cases hq:look os' n with
      |none=>rfl
      |some x=>simp[hq]at hnd
     have ho:=RO.own (g.obj n _ hl)
     rw[List.map_cons,List.flatten_cons]
     refine⟨⟨List.nodup_append.2 ⟨ho.nodup,q1.nodup,?_⟩,fun _ _=>Nat.zero_le _,fun b hb=> ?_⟩,fun b hb=> ?_⟩
     ·rintro b hb c AS rfl
      obtain⟨m,o,o',h3,h5,h4⟩:=q2 b AS
      have hmn:n≠m:=by rintro rfl;rw[hno]at h3;cases h3
      exact g.fU n m _ _ hmn hl h5 b hb h4
     ·rcases List.mem_append.1 hb with hb|hb
      ·exact ho.kind b hb
      ·exact q1.kind b hb
     ·rcases List.mem_append.1 hb with hb|hb
      ·exact⟨n,_,_,look_eq,hl,hb⟩
      ·obtain⟨m,o,o',h3,h5,h4⟩:=q2 b hb
       have hmn:m≠n:=by rintro rfl;rw[hno]at h3;cases h3
       exact⟨m,o,o',by rw[aK hmn];exact h3,h5,h4⟩
    ·cases h
   ·cases h
 | .lit x::r,y::s,os,h,hnd=>by
   simp only[back]at h
   have q:=yI g h hnd
   exact q
 | .own _::_, .lit _::_,_,h,_=>by simp[back]at h
 | .own _::_, .any::_,_,h,_=>by simp[back]at h
 | .own _::_, .own _::_,_,h,_=>by simp[back]at h
 | .own _::_, .ptr _ _::_,_,h,_=>by simp[back]at h
 | .own _::_, .iQ _ _ _::_,_,h,_=>by simp[back]at h
 | .own _::_, .ip _ _ _::_,_,h,_=>by simp[back]at h
 | .own _::_, .vw _ _ _ _::_,_,h,_=>by simp[back]at h
 | .own _::_, .wK _ _ _ _ _::_,_,h,_=>by simp[back]at h
 | .own _::_, .wL _ _ _::_,_,h,_=>by simp[back]at h
 | .own _::_, .mix _ _ _ _::_,_,h,_=>by simp[back]at h
 | .own _::_, .nK _::_,_,h,_=>by simp[back]at h
 | .own _::_, .vV _ _::_,_,h,_=>by simp[back]at h
 | .own _::_, .mJ _::_,_,h,_=>by simp[back]at h
 | .own _::_, .raw _::_,_,h,_=>by simp[back]at h
 | .own _::_, .gL _ _ _::_,_,h,_=>by simp[back]at h
 | .own _::_,[],_,h,_=>by simp[back]at h
 | .lit _::_,[],_,h,_=>by simp[back]at h
 | [],_::_,_,h,_=>by simp[back]at h
 | .any::_,_,_,h,_=>by simp[back]at h
 | .sl _ _::_,_,_,h,_=>by simp[back]at h
 | .ptr _ _::_,_,_,h,_=>by simp[back]at h
 | .iQ _ _ _::_,_,_,h,_=>by simp[back]at h
 | .ip _ _ _::_,_,_,h,_=>by simp[back]at h
 | .vw _ _ _ _::_,_,_,h,_=>by simp[back]at h
 | .wK _ _ _ _ _::_,_,_,h,_=>by simp[back]at h
 | .wL _ _ _::_,_,_,h,_=>by simp[back]at h
 | .mix _ _ _ _::_,_,_,h,_=>by simp[back]at h
 | .nK _::_,_,_,h,_=>by simp[back]at h
 | .vV _ _::_,_,_,h,_=>by simp[back]at h
 | .mJ _::_,_,_,h,_=>by simp[back]at h
 | .raw _::_,_,_,h,_=>by simp[back]at h
 | .gL _ _ _::_,_,_,h,_=>by simp[back]at h
theorem Kept.SF{L:List Nat}{pv:Nat→CO}{w':World}(h:Kept ⟨w,L,pv⟩ w w')(hB:zb.w.heap.size≤w.heap.size)(hL: ∀b,b∈L→b∈zb.L∨zb.w.heap.size≤b):Kept zb w w':=
 ⟨h.os,h.tape,h.output,h.size,fun b hb hn=>h.block b (Nat.lt_of_lt_of_le hb hB) fun hm=>(hL b hm).elim hn fun h=>by omega,h.shape⟩
theorem Bh{f:FuncId}{xs:Array Operand}{ts:Array TypeId}(ho:o.op= .call ⟨.value (.func f),xs,ts⟩)(hS: ∀(args:Array Value) (w:World),(callFunc f args).run P w= .ok (.enter f args) w):
  (execOp a.eval o).run P w= .ok (.enter f (xs.toList.map a.eval).toArray) w:=by
 have hx:xs.map a.eval=(xs.toList.map a.eval).toArray:=by rw[←List.map_toArray]
 rw[←hx]
 have h0:a.eval (.func f)= .func (.func f) #[] #[]:=rfl
 unfold execOp
 simp[ho,resolve,invoke,Deferred.ofValue,h0,hS]
theorem SG{Γ:Nat→TK}{cr:List (Nat×CR)}{vc:List Prop}{v:SV}{d:Option Nat}(h:WK P ty Γ cr st d o.op=some (vc,st',v))(g:Good ty zb st a.tmps w env)(hB:zb.w.heap.size≤w.heap.size)(hA:B9 zb)(hN:A3 w)(hv: ∀q,q∈vc→q):
  o.wp P a w (fun a' w'=> ∃u env',a'=a.put o.dst u∧Kept zb w w'∧Good ty zb st' a.tmps w' env'∧st'.n=st.n∧lT w' st'.hp env' a.tmps v u) Q:=by
 generalize dL:o.op=op at h
 unfold WK at h
 split at h
 ·rename_i f xs ts
  split at h
  ·rename_i vs as own v0 as' hl Z0
   split at h
   ·rename_i os hb h1
    split at h
    ·rename_i hnd
     simp only[oI,pI]at h
     obtain⟨rfl,rfl,rfl⟩:=h
     obtain⟨U5,U6⟩:uG P f as as' v0:=hv _ (by simp)
     obtain⟨q1,q2⟩:=vZ g hl
     obtain⟨q3,q4⟩:=yI g hb hnd
     unfold Oper.wp
     rw[Bh dL U5]
     simp only[Oper.upon]
     refine(U6 w _ _ hN (fun b h0 hb=>by obtain⟨n,o,o',_,hl',Rm⟩:=q4 b hb;exact hA.free (g.dom n o' hl' b Rm) h0) q1 q3).mono ?_
     rintro e w' ⟨gO,rfl,hk,ha,hown,hsub⟩
     obtain⟨r1,r2,_⟩:=Co g hb q2 (rz ha) hsub hown hnd
     have eK: ∀n, ∃DG, ∀t l',look os n=some (.arr t l')→hJ ty w' n t l' ⟨(env n).v,DG⟩∧ ∀b,b∈DG→b∈(env n).fp:=by
      intro n
      cases hq:look os n with
      |none=>exact⟨[],fun _ _ h=>by cases h⟩
      |some o'=>
       obtain⟨⟨t,l,l',eR,h3,rfl,h5,h6,h7⟩,_⟩:=r2 n o' hq
       obtain⟨DG,k1,k2⟩:=yH (hp:=st.hp) (g.obj n _ h3) hk.shape h5 h6 h7
       refine⟨DG,fun t2 l2 h=> ?_⟩
       simp only[oI,Obj.arr.injEq]at h
       obtain⟨rfl,h⟩:=h
       cases h
       exact⟨k1,k2⟩
     obtain⟨env',hg',AD⟩:=DT g (os:=os) (w':=w') (SE:=fun n=>Classical.choose (eK n))
      (fun n o' hn=>by
       obtain⟨⟨t,l,l',eR,h3,h4,_⟩,_⟩:=r2 n o' hn
       exact⟨t,l,l',h3,h4⟩)
      (fun n o' hn b hb'=>by
       obtain⟨⟨t,l,l',eR,h3,rfl,_⟩,_⟩:=r2 n o' hn
       exact(Classical.choose_spec (eK n) t l' hn).2 b hb')
      (fun b hlt hno=>hk.block b hlt fun hm=>by
       obtain⟨n,o',h3,h4⟩:=r1 b hm
       exact hno n o' h3 h4)
      (fun n t l' hn=>(Classical.choose_spec (eK n) t l' hn).1)
     refine⟨v0,env',rfl,hk.SF hB fun b hm=> ?_,hg',rfl,rfl,h1⟩
     obtain⟨n,o1,o2,h3,h4,h5⟩:=q4 b hm
     exact g.dom n o2 h4 b h5
    ·cases h
   ·cases h
  ·cases h
 ·cases h
theorem yJ(g:Good ty zb st a.tmps w env): ∀{xs:List Operand} {as:List S1},sY st xs=some as→l6 w as (xs.map a.eval) (as.map fun _=> [])
 | [],as,h=>by
   simp only[sY,oI]at h
   subst h;rfl
 |x::r,as,h=>by
  simp only[sY]at h
  split at h
  ·cases h
  ·rename_i v ys hne hx h2
   simp only[oI]at h
   subst h
   obtain⟨h3,h4⟩:=dh g (fun e he=>by simp at he) hx
   exact⟨[],_,⟨h3,h4,rfl⟩,yJ g h2,rfl⟩
  ·cases h
theorem yK{n i off:Nat}{t:Tag}{l l2:List (T t)}{u0:Value}{gt:Tag}{l0:List (T gt)}{c:List V}{x':T gt}{nL:List Prop}{pv:Nat→CO}(g:Good ty zb st a.tmps w env)(hB:zb.w.heap.size≤w.heap.size)
  (Oc:RV w st.hp env n (some (i,off)) t l u0)(hl:look st.hp n=some (.arr gt l0))(hs:Az (dec gt (l0.getD i (aA gt))) off [.sl t l2]=some c)(he:enc gt c=some (nL,x'))(hv: ∀q,q∈nL→q):
  ∃fv,RI w (.sl t l) u0 fv∧(∀y,y∈fv→y∈zb.L∨zb.w.heap.size≤y)∧Own 0 w fv∧ ∀w' wU,Kept ⟨w,fv,pv⟩ w w'→RI w' (.sl t l2) u0 wU→Own 0 w' wU→(∀y,y∈wU→y∈fv)→ ∃env',Kept zb w w'∧Good ty zb (st.upd [(n, .arr gt (l0.set i x'))]) a.tmps w' env':=by
 obtain⟨_,_,Lf⟩:=Oc
 obtain⟨t1,l1,b2,o2,SA,OX,hl1,hi,FP,IW,AF,hcell⟩:=Lf i off rfl
 rw[hl]at hl1
 simp only[oI,Obj.arr.injEq]at hl1
 obtain⟨rfl,hl1⟩:=hl1
 cases hl1
 have hro:=g.obj n _ hl
 obtain⟨oa,cap,uo,wS,Bg,h3⟩:=RO.sl hro
 have hown:=RO.own hro
 rcases h3 with⟨rfl,_⟩| ⟨b,o1,aO,FO,bW,eK,hE⟩
 ·simp at hi
 rw[uo,FO]at IW
 simp only[Value.slice.injEq,oI,Addr.mk.injEq,and_true]at IW
 obtain⟨⟨rfl,rfl⟩,rfl,rfl⟩:=IW
 have La:l0[i]? =some (l0.getD i (aA gt)):=by rw[List.getD_eq_getElem?_getD,List.getElem?_eq_getElem hi];rfl
 obtain⟨fe,hf⟩:=eU hE.1 La
 obtain⟨cs,sN,Od⟩:=hE.2 _ _ fe La hf
 rw[eK]at hown
 have lJ:=List.nodup_cons.1 hown.nodup
 have hR:=reads gt Od
 obtain⟨f1,f',SH,k1,k2⟩:=bG.split off hR
 have Ch: ∃r',(dec gt (l0.getD i (aA gt))).drop off= .sl t l::r':=by
  rw[pU]at FP
  have hlt:=(List.getElem?_eq_some_iff.1 FP).1
  rw[List.drop_eq_getElem_cons hlt]
  have:=(List.getElem?_eq_some_iff.1 FP).2
  rw[this]
  exact⟨_,rfl⟩
 obtain⟨r',Ch⟩:=Ch
 rw[Ch]at k2
 have yL: ∃u us,cs.drop off=u::us:=by
  cases hq:cs.drop off with
  |nil=>rw[hq]at k2;exact k2.elim
  |cons u us=>exact⟨u,us,rfl⟩
 obtain⟨u,us,yL⟩:=yL
 rw[yL]at k2
 obtain⟨fv,f3,Ft,Lg,hf'⟩:=k2
 have WM:cs[off]? =some u:=by
  have:=congrArg (fun l=>l[0]?) yL
  simpa using this
 have U7:u0=u:=by
  have:=sN off u WM
  rw[hcell]at this
  simpa using this
 rw[U7]at hcell ⊢
 have Bi: ∀y,y∈fv→y∈fe:=fun y hy=>by rw[SH,hf'];simp[hy]
 have U8:=(List.pairwise_flatten.1 lJ.2).1 fe (List.mem_of_getElem? hf)
 rw[SH,hf']at U8
 obtain⟨n1,n2,n3⟩:=List.nodup_append.1 U8
 obtain⟨n4,n5,n6⟩:=List.nodup_append.1 n2
 have Lh:Own 0 w fv:=⟨n4,fun _ _=>Nat.zero_le _,fun y hy=>hown.kind y (List.mem_cons_of_mem _ (bL hf (Bi y hy)))⟩
 refine⟨fv,Ft,fun y hy=>g.dom n _ hl y (by rw[eK];exact List.mem_cons_of_mem _ (bL hf (Bi y hy))),Lh,?_⟩
 intro w' wU hk SI FQ FR
 have m1:=FQ.nodup
 have hkeep: ∀y,y<w.heap.size→y∉fv→w'.heap[y]? =w.heap[y]? :=fun y hy hn=>hk.block y hy hn
 have J4: ∀y,y∈aO.flatten→y≠b:=fun y hy e=>lJ.1 (e▸hy)
 have IX: ∀y,y∈aO.flatten→y<w.heap.size:=fun y hy=>hown.lt y (List.mem_cons_of_mem _ hy)
 have hkb:w'.heap[b]? =w.heap[b]? :=hkeep b bW.lt fun hm=>lJ.1 (bL hf (Bi b hm))
 have WN: ∀{o:Nat} {cs:List Value},w.rangeAt b o cs→w'.rangeAt b o cs:=by
  intro o cs hr j v hv
  rw[World.cell?_of_block (w:=w) (a:=⟨b,_,none⟩) hkb];exact hr j v hv
 have XB:Agree w w' f1:=fun y hy=>hkeep y (IX y (bL hf (by rw[SH];simp[hy]))) fun hm=>n3 y hy y (by simp[hm]) rfl
 have XC:Agree w w' f3:=fun y hy=>hkeep y (IX y (bL hf (by rw[SH,hf'];simp[hy]))) fun hm=>n6 y hm y hy rfl
 have Li: ∀{c:List V} {us:List Value} {f:List Nat},bG w c us f→Agree w w' f→bG w' c us f:=by
  intro c
  induction c with
  |nil=>intro us f h _;cases us with
   |nil=>exact h
   |cons _ _=>exact h.elim
  |cons v r ih=>
   intro us f h ha
   cases us with
   |nil=>exact h.elim
   |cons u us=>
    obtain⟨f1,f2,h1,h2,rfl⟩:=h
    refine⟨f1,f2,?_,ih h2 (ha.sub fun y hy=>List.mem_append_right _ hy),rfl⟩
    cases v with
    |lit x=>exact h1
    |sl t l=>exact Sl.agree (cF t) h1 (ha.sub fun y hy=>List.mem_append_left _ hy)
    |_=>exact h1.elim
 have AS:c=(dec gt (l0.getD i (aA gt))).take off++([.sl t l2]++r'):=by
  unfold Az at hs
  split at hs
  ·simp only[oI]at hs
   rw[←hs]
   congr 2
   have:(dec gt (l0.getD i (aA gt))).drop (off+ [V.sl t l2].length)=((dec gt (l0.getD i (aA gt))).drop off).drop 1:=by rw[List.drop_drop];rfl
   rw[this,Ch];rfl
  ·cases hs
 have XD:cs=cs.take off++([u]++us):=by
  have:=(List.take_append_drop off cs).symm
  rw[yL]at this
  exact this
 have hrd:bG w' c cs (f1++(wU++f3)):=by
  rw[AS,XD]
  refine bG.Sx (Li k1 XB) (y:= [.sl t l2]) (vs:= [u]) ?_ (Li Lg XC)
  exact⟨wU,[],SI,rfl,by simp⟩
 have SB:=oq gt he (fun q hq=>hv q hq) hrd
 have qT: ∀y,y∈f1++(wU++f3)→y∈fe:=by
  intro y hy
  rw[SH,hf']
  simp only[List.mem_append]at hy ⊢
  rcases hy with hy|hy|hy
  ·exact Or.inl hy
  ·exact Or.inr (Or.inl (FR y hy))
  ·exact Or.inr (Or.inr hy)
 have Cm:=uF (cF gt) (w':=w') hE (i:=i) (x':=x') (f':=f1++(wU++f3)) (WN sN) SB (fun j cs' _ _ hr=>WN hr)
  (fun j f' hj hf' y hy=>hkeep y (IX y (bL hf' hy)) fun hm=>pY lJ.2 hf' hf hj y hy (Bi y hm))
 have hmem: ∀y,y∈(aO.set i (f1++(wU++f3))).flatten→y∈aO.flatten:=by
  intro y hy
  rcases oD hy with h| ⟨j,f',_,hj,h⟩
  ·exact bL hf (qT y h)
  ·exact bL hj h
 have Oe:Own 0 w' (b::(aO.set i (f1++(wU++f3))).flatten):=by
  refine⟨List.nodup_cons.2 ⟨fun hm=>lJ.1 (hmem b hm),lI lJ.2 ?_ fun j f' hj hf' y hy hy'=>pY lJ.2 hf' hf hj y hy (qT y hy')⟩,fun _ _=>Nat.zero_le _,fun y hy=> ?_⟩
  ·refine List.nodup_append.2 ⟨n1,List.nodup_append.2 ⟨m1,n5,fun y hy z hz e=>n6 y (FR y hy) z hz e⟩,fun y hy z hz e=> ?_⟩
   rcases List.mem_append.1 hz with hz|hz
   ·exact n3 y hy z (by simp[FR z hz]) e
   ·exact n3 y hy z (by simp[hz]) e
  ·obtain⟨cb,eb,mT⟩:=hown.kind y (by
    rcases List.mem_cons.1 hy with rfl|hy
    ·simp
    ·exact List.mem_cons_of_mem _ (hmem y hy))
   obtain⟨cb',h5,_⟩:=hk.shape y cb eb mT
   exact⟨_,_,h5⟩
 have Lc:Sl (kk gt) (rd gt) w' (env n).v (l0.set i x') (b::(aO.set i (f1++(wU++f3))).flatten):=by
  refine⟨some ⟨b,o1,none⟩,cap,by rw[uo,FO,List.length_set],by rw[List.length_set];exact wS,Bg,Or.inr ⟨b,o1,_,rfl,bW.agree hkb,rfl,Cm⟩⟩
 obtain⟨DG,w1,w2⟩:=yH (hp:=st.hp) hro hk.shape Lc Oe (fun y hy=>by
  rw[eK]
  rcases List.mem_cons.1 hy with rfl|hy
  ·simp
  ·exact List.mem_cons_of_mem _ (hmem y hy))
 have hlk: ∀m o',look [(n,Obj.arr gt (l0.set i x'))] m=some o'→m=n∧o'= .arr gt (l0.set i x'):=by
  intro m o' hm
  by_cases hmn:m=n
  ·subst hmn;rw[look_eq]at hm;simp only[oI]at hm;exact⟨rfl,hm.symm⟩
  ·rw[aK hmn]at hm;cases hm
 obtain⟨env',hg',AD⟩:=DT g (os:= [(n, .arr gt (l0.set i x'))]) (w':=w') (SE:=fun _=>DG)
  (fun m o' hm=>by obtain⟨rfl,rfl⟩:=hlk m o' hm;exact⟨_,_,_,hl,rfl⟩)
  (fun m o' hm y hy=>by obtain⟨rfl,_⟩:=hlk m o' hm;exact w2 y hy)
  (fun y hlt hno=>hkeep y hlt fun hm=>hno n _ look_eq (by rw[eK];exact List.mem_cons_of_mem _ (bL hf (Bi y hm))))
  (fun m t2 l3 hm=>by
   obtain⟨rfl,h5⟩:=hlk m _ hm
   simp only[Obj.arr.injEq]at h5
   obtain⟨rfl,h5⟩:=h5
   cases h5
   exact w1)
 refine⟨env',hk.SF hB fun y hm=> ?_,hg'⟩
 exact g.dom n _ hl y (by rw[eK];exact List.mem_cons_of_mem _ (bL hf (Bi y hm)))
theorem SJ{Γ:Nat→TK}{cr:List (Nat×CR)}{vc:List Prop}{v:SV}{d:Option Nat}(h:WL P ty cr st d o.op=some (vc,st',v))(g:Good ty zb st a.tmps w env)(hB:zb.w.heap.size≤w.heap.size)(hA:B9 zb)(hN:A3 w)(hv: ∀q,q∈vc→q):
  o.wp P a w (fun a' w'=> ∃u env',a'=a.put o.dst u∧Kept zb w w'∧Good ty zb st' a.tmps w' env'∧st'.n=st.n∧lT w' st'.hp env' a.tmps v u) Q:=by
 generalize dL:o.op=op at h
 unfold WL at h
 split at h
 ·rename_i f xs ts
  split at h
  ·rename_i x r hxs
   split at h
   ·rename_i n i off t l ls own v0 t' l' ls' hx hls Z0
    split at h
    ·rename_i gt l0 l2 hl hc hv0
     split at h
     ·rename_i c hs
      split at h
      ·rename_i nL x' he
       simp only[oI,pI]at h
       obtain⟨rfl,rfl,rfl⟩:=h
       obtain⟨U5,U6⟩:uG P f (.a (.sl t l)::ls) (.a (.sl t l2)::ls') v0:=hv _ (by simp)
       obtain⟨fv,Ft,U9,Lh,Lj⟩:=yK (pv:=fun _=>⟨v0,[]⟩) g hB (dh g (fun e he=>by simp at he) hx) hl hs he (fun q hq=>hv q (by simp[hq]))
       have nx:((fv::ls.map fun _=>([]:List Nat))).flatten=fv:=by
        rw[List.flatten_cons]
        have:(ls.map fun _=>([]:List Nat)).flatten= []:=by simp
        rw[this,List.append_nil]
       unfold Oper.wp
       rw[Bh dL U5]
       simp only[Oper.upon]
       rw[hxs,List.map_cons]
       have hargs:l6 w (.a (.sl t l)::ls) (a.eval x::r.map a.eval) (fv::ls.map fun _=> []):=⟨fv,_,Ft,yJ g hls,rfl⟩
       refine(U6 w _ (fv::ls.map fun _=> []) hN (by rw[nx];exact fun b h0 hb=>hA.free (U9 b hb) h0) hargs (by rw[nx];exact Lh)).mono ?_
       rintro e w' ⟨gO,rfl,hk,⟨wU,fr,SI,_,rfl⟩,yM,hsub⟩
       rw[nx]at hk
       rw[List.flatten_cons]at yM
       obtain⟨m1,_,_⟩:=List.nodup_append.1 yM.nodup
       have FQ:Own 0 w' wU:=⟨m1,fun _ _=>Nat.zero_le _,fun y hy=>yM.kind y (List.mem_append_left _ hy)⟩
       obtain⟨env',hk2,hg'⟩:=Lj w' wU hk SI FQ hsub.1
       exact⟨v0,env',rfl,hk2,hg',rfl,rfl,hv0⟩
      ·cases h
     ·cases h
    ·cases h
   ·cases h
  ·cases h
 ·cases h
def WO(Γ:Nat→TK)(st:St):Op→Option (List Prop×St)
 | .store t x y=>match ew st [] x,ew st [] y with
   |some (.a (.wK n (some (i,o2,j)) tg _ off)),some v=>match look st.hp n with
    |some (.arr g l0)=>match fits (Γ t) v,takes st (cellsOf v),sr (dec g (l0.getD i (aA g))) o2 with
     |true,some (cv,[]),some (.sl t' l')=>match eL tg t' l' with
      |some l=>match Az (dec tg (l.getD j (aA tg))) off cv with
       |some d=>match enc tg d with
        |some (Rn,y')=>match Az (dec g (l0.getD i (aA g))) o2 [.sl tg (l.set j y')]with
         |some c=>match enc g c with
          |some (nL,x')=>some (nL++Rn,st.upd [(n, .arr g (l0.set i x'))])
          |none=>none
         |none=>none
        |none=>none
       |none=>none
      |none=>none
     |_,_,_=>none
    |_=>none
   |_,_=>none
 |_=>none
theorem SK{Γ:Nat→TK}(C: ∀t,b7 P t (Γ t))(Z: ∀t,(∀z tg fo,Γ t≠ .st z tg fo)→Γ t≠ .other→(P.info? t).map (·.size)=some 1){vc:List Prop}(h:WO Γ st o.op=some (vc,st'))(g:Good ty zb st a.tmps w env)(hB:zb.w.heap.size≤w.heap.size)(hv: ∀q,q∈vc→q):
  o.wp P a w (fun a' w'=> ∃env',a'=a.put o.dst undef∧Kept zb w w'∧Good ty zb st' a.tmps w' env'∧st'.n=st.n) Q:=by
 have hop: ∀{x v},ew st [] x=some v→eC w st.hp env v (a.eval x):=fun hx=>dh g (fun e he=>by simp at he) hx
 generalize dL:o.op=op at h
 cases op with
 |store t x y=>
  simp only[WO]at h
  split at h
  case h_2=>cases h
  rename_i n i o2 j tg xx off v hx hy
  have hx:=hop hx
  have hy:=hop hy
  split at h
  case h_2=>cases h
  rename_i gt l0 hl
  split at h
  case h_2=>cases h
  rename_i cv t' l' hfit J5 DW
  split at h
  case h_2=>cases h
  rename_i l hcast
  split at h
  case h_2=>cases h
  rename_i d hs1
  split at h
  case h_2=>cases h
  rename_i Rn y' XE
  split at h
  case h_2=>cases h
  rename_i c Fu
  split at h
  case h_2=>cases h
  rename_i nL x' sZ
  simp only[oI,pI]at h
  obtain⟨rfl,rfl⟩:=h
  obtain⟨_,_,_,_,_,_,_,_,_,_,_,hpos⟩:=hx
  obtain⟨l3,u0,b0,lG,len,cap,Oc,hj,_,Va,hu⟩:=hpos i o2 j rfl
  have OY:l3=l:=by
   obtain⟨_,_,WQ⟩:=Oc
   obtain⟨t1,l1,_,_,_,_,hl1,_,hel,_⟩:=WQ i o2 rfl
   rw[hl]at hl1
   simp only[oI,Obj.arr.injEq]at hl1
   obtain⟨rfl,hl1⟩:=hl1
   cases hl1
   rw[hel]at DW
   simp only[oI,V.sl.injEq]at DW
   obtain⟨rfl,DW⟩:=DW
   cases DW
   obtain⟨e,rfl⟩:=ct hcast
   rfl
  subst OY
  obtain⟨fv,Ft,_,hown,Lj⟩:=yK (pv:=fun _=>⟨u0,[]⟩) g hB Oc hl Fu sZ (fun q hq=>hv q (by simp[hq]))
  obtain⟨oa,OX,uo,wS,Bg,h3⟩:=Ft
  rcases h3 with⟨rfl,_⟩| ⟨b,o1,aO,FO,bW,eK,hE⟩
  ·simp at hj
  rw[Va,FO]at uo
  simp only[Value.slice.injEq,oI,Addr.mk.injEq,and_true]at uo
  obtain⟨⟨rfl,rfl⟩,rfl,rfl⟩:=uo
  have La:l3[j]? =some (l3.getD j (aA tg)):=by rw[List.getD_eq_getElem?_getD,List.getElem?_eq_getElem hj];rfl
  obtain⟨f,hf⟩:=eU hE.1 La
  obtain⟨cs,sN,Od⟩:=hE.2 _ _ f La hf
  have hlen:=(cF tg).len Od
  rw[eK]at hown
  have lJ:=List.nodup_cons.1 hown.nodup
  obtain⟨fx,UA,U4,xK⟩:=sU g (iy g hy (eM J5)) J5 List.nodup_nil
  have XF:fx= []:=by
   cases fx with
   |nil=>rfl
   |cons y r=>obtain⟨m,_,hm,_⟩:=xK y (by simp);simp at hm
  subst XF
  obtain⟨f1,f2,f3,Ob,hrd,hlo⟩:=bG.Az (reads tg Od) UA hs1
  have SB:=oq tg XE (fun q hq=>hv q (by simp[hq])) hrd
  have hsz:(P.info? t).map (·.size)=some (a.eval y).cells.toList.length∧ ∀u,u∈(a.eval y).cells.toList→u.oneCell'=true:=by
   refine⟨?_,pW g (iy g hy (eM J5)) (lZ (eM J5))⟩
   cases v with
   |agg c'=>
    obtain⟨z,tg',fo,hk,hfit⟩:=DR hfit
    have hC:=C t
    rw[hk]at hC
    obtain⟨fs,_,hi2,_⟩:=hC
    obtain⟨us,KX,FI⟩:=hy
    have:=Nat.eq_of_beq_eq_true hfit
    have OY:=FI.len
    rw[KX]
    cases hq:P.info? t with
    |none=>simp[hq]at hi2
    |some inf=>simp[hq]at hi2;simp[hi2.1,Value.cells,OY,this]
   |a v'=>
    have hk:=sX hfit
    have hne:v'≠ .any:=by rintro rfl;simp[cellsOf,takes]at J5
    have:=gC g (show RA w st.hp env v' (a.eval y)from hy) hne
    rw[this]
    exact Z t hk.1 hk.2
  obtain⟨cb,eb,mT⟩:=hown.kind b0 (by simp)
  have GX:w.there b0 (lG+j*kk tg+off) (a.eval y).cells.toList.length:=by
   refine BZ mT _ _ ?_
   have um:lG+j*kk tg+cs.length≤cb.size:=by
    have hk0:=eu tg
    have:=sN (cs.length-1) _ (List.getElem?_eq_getElem (by omega))
    rw[xW mT]at this
    have:=(Array.getElem?_eq_some_iff.1 this).1
    omega
   omega
  have hkeep: ∀x,x≠b0→(w.setCells b0 (lG+j*kk tg+off) (a.eval y).cells.toList).heap[x]? =w.heap[x]? :=fun x hx=>bI b0 _ _ w x hx
  have J4: ∀x,x∈aO.flatten→x≠b0:=fun x hx e=>lJ.1 (e▸hx)
  have qT: ∀x,x∈f1++([]++f3)→x∈f:=by
   intro x hx
   rw[Ob]
   rcases List.mem_append.1 hx with hx|hx
   ·exact List.mem_append_left _ hx
   ·rw[List.nil_append]at hx;exact List.mem_append_right _ (List.mem_append_right _ hx)
  have Iw:Agree w (w.setCells b0 (lG+j*kk tg+off) (a.eval y).cells.toList) (f1++([]++f3)):=fun x hx=>hkeep x (J4 x (bL hf (qT x hx)))
  have Cm:=uF (cF tg) (w':=w.setCells b0 (lG+j*kk tg+off) (a.eval y).cells.toList) hE (i:=j) (x':=y') (f':=f1++([]++f3))
   (oC sN hlo GX) ((cF tg).agree SB Iw)
   (fun j1 cs' K8 um hr=>World.rangeAt_setCells_apart hr _ _ _ (Or.inr (by
    rw[um]
    rcases Nat.lt_or_ge j1 j with h1|h1
    ·left
     have:=Nat.mul_le_mul_right (kk tg) (show j1+1≤j by omega)
     rw[Nat.add_mul]at this;omega
    ·right
     have:=Nat.mul_le_mul_right (kk tg) (show j+1≤j1 by omega)
     rw[Nat.add_mul]at this;omega)))
   (fun j1 f' _ hf' x hx=>hkeep x (J4 x (bL hf' hx)))
  have Lb:(f1++([]++f3)).Nodup:=by
   have h1:=(List.pairwise_flatten.1 lJ.2).1 f (List.mem_of_getElem? hf)
   rw[Ob]at h1
   obtain⟨h2,h3,h4⟩:=List.nodup_append.1 h1
   obtain⟨_,h6,_⟩:=List.nodup_append.1 h3
   rw[List.nil_append]
   exact List.nodup_append.2 ⟨h2,h6,fun x hx z hz=>h4 x hx z (List.mem_append_right _ hz)⟩
  have hmem: ∀x,x∈(aO.set j (f1++([]++f3))).flatten→x∈aO.flatten:=by
   intro x hx
   rcases oD hx with h| ⟨j1,f',_,K8,h⟩
   ·exact bL hf (qT x h)
   ·exact bL K8 h
  have Oe:Own 0 (w.setCells b0 (lG+j*kk tg+off) (a.eval y).cells.toList) (b0::(aO.set j (f1++([]++f3))).flatten):=by
   refine⟨List.nodup_cons.2 ⟨fun hm=>lJ.1 (hmem b0 hm),lI lJ.2 Lb fun j1 f' K8 hf' x hx hx'=>pY lJ.2 hf' hf K8 x hx (qT x hx')⟩,fun _ _=>Nat.zero_le _,fun x hx=> ?_⟩
   rcases List.mem_cons.1 hx with rfl|hx
   ·obtain⟨c',q1,_⟩:=cC x eb (a.eval y).cells.toList (lG+j*kk tg+off) w cb mT
    exact⟨_,_,q1⟩
   ·rw[hkeep x (J4 x (hmem x hx))];exact hown.kind x (List.mem_cons_of_mem _ (hmem x hx))
  have Ld:Kept ⟨w,fv,fun _=>⟨u0,[]⟩⟩ w (w.setCells b0 (lG+j*kk tg+off) (a.eval y).cells.toList):=
   sP (zb:=⟨w,fv,fun _=>⟨u0,[]⟩⟩) (Or.inl (by rw[eK];simp)) mT _ _
  have hrun:(storeVar t ⟨b0,lG+j*kk tg+off,none⟩ (a.eval y)).run P w= .ok () (w.setCells b0 (lG+j*kk tg+off) (a.eval y).cells.toList):=jx (by simp) GX hsz.1 hsz.2
  obtain⟨env',hk2,hg'⟩:=Lj _ (b0::(aO.set j (f1++([]++f3))).flatten) Ld
   ⟨some ⟨b0,lG,none⟩,cap,by rw[Va,List.length_set],by rw[List.length_set];exact wS,Bg,Or.inr ⟨b0,lG,_,rfl,bW.set mT _ _,rfl,Cm⟩⟩ Oe
   (fun y hy=>by
    rw[eK]
    rcases List.mem_cons.1 hy with rfl|hy
    ·simp
    ·exact List.mem_cons_of_mem _ (hmem y hy))
  unfold Oper.wp execOp
  simp only[dL,hu,Instr.storeAt,Instr.sureAddr,Sem.run_bind,Sem.run_pure,Result.andThen_ok,hrun]
  exact⟨env',rfl,hk2,hg',rfl⟩
 |_=>simp[WO]at h
end
end
section
variable{ty:Tag→Nat}
def OZ(st:St):List V→Option (List V×List Nat)
 | []=>some ([],[])
 | .lit (.slice _ _ _)::_=>none
 | .lit v::r=>match OZ st r with|some (c,k)=>some (.lit v::c,k)|none=>none
 | .sl t l::r=>match OZ st r with|some (c,k)=>some (.sl t l::c,k)|none=>none
 | .own n::r=>match look st.hp n,OZ st r with
   |some (.arr t l),some (c,k)=>some (.sl t l::c,n::k)
   |_,_=>none
 |_=>none
def yN(st:St)(g:Tag):Nat→List (Nat×Operand)→Option (List Prop×List (T g)×List Nat)
 |_,[]=>some ([],[],[])
 |i,(j,x)::r=>match Nat.beq i j,ew st [] x with
  |true,some s=>match OZ st (cellsOf s)with
   |some (c,k)=>match enc g c,yN st g (i+1) r with
    |some (vc,y),some (vcs,ys,ks)=>some (vc++vcs,y::ys,k++ks)
    |_,_=>none
   |none=>none
  |_,_=>none
def Vb(P:Program)(ty:Tag→Nat)(Γ:Nat→TK)(st:St):Op→Option (List Prop×St×SV)
 | .buildSlice t len parts=>match Γ t with
   | .sl g e=>match Nat.beq e (ty g),Nat.beq parts.toList.length len,Nat.ble (len*kk g) 16777216,yN st g 0 parts.toList with
     |true,true,true,some (vc,xs,ks)=>match mS ks&& !pinned ks with
      |true=>some (El P ty g::vc,⟨st.n,st.sl.map fun e=>(e.1,e.2.bf ks []),bE ks [] st.hp⟩, .one (.a (.sl g xs)))
      |_=>none
     |_,_,_,_=>none
   |_=>none
 |_=>none
section
variable{P:Program}{zb:bP}{st:St}{a:Act}{w:World}{env:Env}{Q:Exit→Act→World→Prop}{o:Oper}
theorem pZ{st:St}: ∀{l c:List V} {k:List Nat},OZ st l=some (c,k)→ou l=true
 | [],_,_,_=>rfl
 |v::r,c,k,h=>by
  unfold OZ at h
  split at h
  ·rename_i he;cases he
  ·cases h
  ·rename_i x r' _ he
   simp only[List.cons.injEq]at he
   obtain⟨rfl,rfl⟩:=he
   split at h
   ·rename_i h';have h2:=pZ h';exact h2
   ·cases h
  ·rename_i t l r' he
   simp only[List.cons.injEq]at he
   obtain⟨rfl,rfl⟩:=he
   split at h
   ·rename_i h';have h2:=pZ h';exact h2
   ·cases h
  ·rename_i n r' he
   simp only[List.cons.injEq]at he
   obtain⟨rfl,rfl⟩:=he
   split at h
   ·rename_i h';have h2:=pZ h';exact h2
   ·cases h
  ·cases h
theorem Cp(g:Good ty zb st a.tmps w env): ∀{l c:List V} {k:List Nat} {us:List Value},bg (RA w st.hp env) l us→OZ st l=some (c,k)→
  ∃fp,bG w c us fp∧ ∀b,b∈fp→b<w.heap.size∧(¬Ow st.hp env b∨ ∃i o,i∈k∧look st.hp i=some o∧b∈(env i).fp)
 | [],c,k,us,hr,h=>by
   simp only[OZ,oI,pI]at h
   obtain⟨rfl,rfl⟩:=h
   cases us with
   |nil=>exact⟨[],rfl,by simp⟩
   |cons _ _=>exact hr.elim
 |v::r,c,k,us,hr,h=>by
  cases us with
  |nil=>exact hr.elim
  |cons u us=>
   unfold OZ at h
   split at h
   ·rename_i he;cases he
   ·cases h
   ·rename_i x r' _ he
    simp only[List.cons.injEq]at he
    obtain⟨rfl,rfl⟩:=he
    split at h
    ·rename_i c' k' h'
     simp only[oI,pI]at h
     obtain⟨rfl,rfl⟩:=h
     obtain⟨fp,h1,h3⟩:=Cp g hr.2 h'
     obtain⟨e1,e2⟩:=hr.1
     exact⟨fp,⟨[],fp,⟨e1,e2,rfl⟩,h1,rfl⟩,h3⟩
    ·cases h
   ·rename_i t l r' he
    simp only[List.cons.injEq]at he
    obtain⟨rfl,rfl⟩:=he
    split at h
    ·rename_i c' k' h'
     simp only[oI,pI]at h
     obtain⟨rfl,rfl⟩:=h
     obtain⟨fp,h1,h3⟩:=Cp g hr.2 h'
     obtain⟨f0,k1,k2⟩:=hr.1
     refine⟨f0++fp,⟨f0,fp,k1,h1,rfl⟩,fun b hb=> ?_⟩
     rcases List.mem_append.1 hb with hb|hb
     ·exact⟨Sl.lt (cF t) k1 b hb,Or.inl (k2 b hb)⟩
     ·exact h3 b hb
    ·cases h
   ·rename_i n r' he
    simp only[List.cons.injEq]at he
    obtain⟨rfl,rfl⟩:=he
    split at h
    ·rename_i t l c' k' hl h'
     simp only[oI,pI]at h
     obtain⟨rfl,rfl⟩:=h
     obtain⟨fp,h1,h3⟩:=Cp g hr.2 h'
     obtain⟨_,rfl⟩:=hr.1
     have hb:=RO.sl (g.obj n _ hl)
     refine⟨(env n).fp++fp,⟨_,_,hb,h1,rfl⟩,fun b hb=> ?_⟩
     rcases List.mem_append.1 hb with hb|hb
     ·exact⟨(g.obj n _ hl).sy b hb,Or.inr ⟨n,_,by simp,hl,hb⟩⟩
     ·obtain⟨q1,q2⟩:=h3 b hb
      refine⟨q1,q2.imp id ?_⟩
      rintro⟨i,o,hi,h4,h5⟩
      exact⟨i,o,List.mem_cons_of_mem _ hi,h4,h5⟩
    ·cases h
   ·cases h
theorem Bj(g:Good ty zb st a.tmps w env){t:Tag}: ∀{ps:List (Nat×Operand)} {i:Nat} {vc:List Prop} {xs:List (T t)} {ks:List Nat},yN st t i ps=some (vc,xs,ks)→(∀q,q∈vc→q)→
  (ps.map fun p=>(p.1,a.eval p.2))=sL i (ps.map fun p=>a.eval p.2)∧xs.length=ps.length∧ ∃aO:List (List Nat),aO.length=xs.length∧
   (∀(i:Nat) (x:T t) (f:List Nat),xs[i]? =some x→aO[i]? =some f→ ∃p:Nat×Operand,ps[i]? =some p∧rd t w (a.eval p.2).cells.toList x f)∧ ∀b,b∈aO.flatten→b<w.heap.size∧(¬Ow st.hp env b∨ ∃i o,i∈ks∧look st.hp i=some o∧b∈(env i).fp)
 | [],i,vc,xs,ks,h,_=>by
   simp only[yN,oI,pI]at h
   obtain⟨rfl,rfl,rfl⟩:=h
   exact⟨rfl,rfl,[],rfl,by simp,by simp⟩
 | (j,x)::r,i,vc,xs,ks,h,hv=>by
   simp only[yN]at h
   split at h
   ·rename_i s hij hx
    have hij:=Nat.eq_of_beq_eq_true hij
    subst hij
    split at h
    ·rename_i c k hc
     split at h
     ·rename_i nL y vcs ys ZW he hb
      simp only[oI,pI]at h
      obtain⟨rfl,rfl,rfl⟩:=h
      obtain⟨q1,q2,aO,q3,q4,q6⟩:=Bj g hb (fun q hq=>hv q (List.mem_append_right _ hq))
      obtain⟨fp,r1,r3⟩:=Cp g (iy g (dh g (fun e he=>by simp at he) hx) (pZ hc)) hc
      have hE:=oq t he (fun q hq=>hv q (List.mem_append_left _ hq)) r1
      refine⟨by simp[sL,q1],by simp[q2],fp::aO,by simp[q3],?_,?_⟩
      ·intro i' x' f hx' hf
       cases i' with
       |zero=>simp at hx' hf;subst hx';subst hf;exact⟨(i,x),rfl,hE⟩
       |succ n=>simp at hx' hf;obtain⟨p,h1,h2⟩:=q4 n x' f hx' hf;exact⟨p,by simpa using h1,h2⟩
      ·intro b hb
       rw[List.flatten_cons]at hb
       rcases List.mem_append.1 hb with hb|hb
       ·obtain⟨z1,z2⟩:=r3 b hb
        exact⟨z1,z2.imp id fun⟨n,o1,h1,h2,h3⟩=>⟨n,o1,List.mem_append_left _ h1,h2,h3⟩⟩
       ·obtain⟨z1,z2⟩:=q6 b hb
        exact⟨z1,z2.imp id fun⟨n,o1,h1,h2,h3⟩=>⟨n,o1,List.mem_append_right _ h1,h2,h3⟩⟩
     ·cases h
    ·cases h
   ·cases h
theorem run_frozen{t len:Nat}{parts:Array (Nat×Operand)}(ho:o.op= .buildSlice t len parts){g:Tag}(hu:P.underlying t=some (.slice (ty g)))(oB:El P ty g)(hbig:len*kk g≤16777216)(hlen:parts.toList.length=len)
  {xs:List (T g)}{aO:List (List Nat)}(q1:(parts.toList.map fun p=>(p.1,a.eval p.2))=sL 0 (parts.toList.map fun p=>a.eval p.2))(q2:xs.length=parts.toList.length)(q3:aO.length=xs.length)
  (q4: ∀(i:Nat) (x:T g) (f:List Nat),xs[i]? =some x→aO[i]? =some f→ ∃p:Nat×Operand,parts.toList[i]? =some p∧rd g w (a.eval p.2).cells.toList x f):
  ∃w',(execOp a.eval o).run P w= .ok (.value (.slice (some ⟨w.heap.size,0,none⟩) len len)) w'∧Below w.heap.size w w'∧Sl (kk g) (rd g) w' (.slice (some ⟨w.heap.size,0,none⟩) len len) xs (w.heap.size::aO.flatten):=by
 have hkp:=eu g
 have um: ∀v,v∈(parts.toList.map fun p=>a.eval p.2)→v.cells.size=kk g:=by
  intro v hv
  obtain⟨i,hi⟩:=List.getElem?_of_mem hv
  have hil:i<xs.length:=by have:=(List.getElem?_eq_some_iff.1 hi).1;simp at this;rw[q2];simpa using this
  have hfl:i<aO.length:=by omega
  obtain⟨p,h1,h2⟩:=q4 i xs[i] aO[i] (List.getElem?_eq_getElem hil) (List.getElem?_eq_getElem hfl)
  rw[List.getElem?_map,h1]at hi
  simp at hi
  subst hi
  simpa using(cF g).len h2
 cases hq:P.info? (ty g)with
 |none=>simp[El,hq]at oB
 |some inf=>
  simp[El,hq]at oB
  obtain⟨z1,z2,z3⟩:=oB
  let zs:List Value:=(List.range (len*kk g)).map fun j=>(if len*kk g=0 then #[]else(dN g).cells)[j % (if len*kk g=0 then #[]else(dN g).cells).size]!
  have hzl:zs.length=len*kk g:=by simp[zs]
  have hf:=yu (k:=kk g) (parts.toList.map fun p=>a.eval p.2) 0 zs um (by rw[hzl,List.length_map,hlen,Nat.zero_add])
  rw[Nat.zero_mul,List.take_zero,List.nil_append]at hf
  have hrun:(execOp a.eval o).run P w= .ok (.value (.slice (some ⟨w.heap.size,0,none⟩) len len)) (w.alloc (.cells (Array.mk ((parts.toList.map fun p=>a.eval p.2).flatMap fun v=>v.cells.toList)) (ty g) (0,0))):=by
   unfold execOp
   have kP:(parts.map fun(p:Nat×Operand)=>(p.1,a.eval p.2)).toList=sL 0 (parts.toList.map fun p=>a.eval p.2):=by
    rw[Array.toList_map];exact q1
   have hzs:((Array.range (len*kk g)).map fun j=>(if len*kk g=0 then #[]else(dN g).cells)[j % (if len*kk g=0 then #[]else(dN g).cells).size]!)=Array.mk zs:=by
    simp only[zs]
    apply Array.ext'
    simp
   have Xo:(sizeOf (ty g)).run P w= .ok (kk g) w:=by simp[sizeOf,typeInfo,hq,z2]
   simp only[ho,Instr.buildSlice,Sem.run_bind,run_underlying hu,Result.andThen_ok,Xo]
   rw[if_neg (by omega)]
   by_cases hz0:len*kk g=0
   ·simp only[if_pos hz0]at hzs ⊢
    simp only[Sem.run_bind,Sem.run_pure,Result.andThen_ok]
    rw[hzs,kP,hf]
    simp[newRow]
   ·have Xp:(zeroValue (ty g)).run P w= .ok (dN g) w:=by simp[zeroValue,typeInfo,hq,z1]
    simp only[if_neg hz0]at hzs ⊢
    simp only[Sem.run_bind,Xp,Sem.run_pure,Result.andThen_ok]
    rw[hzs,kP,hf]
    simp[newRow]
  have hps:((parts.toList.map fun p=>a.eval p.2).flatMap fun v=>v.cells.toList)=((parts.toList.map fun p=>(a.eval p.2).cells.toList).flatMap id):=by
   simp[List.flatMap_map]
  have KS: ∀v,v∈(parts.toList.map fun p=>(a.eval p.2).cells.toList)→v.length=kk g:=by
   intro v hv
   obtain⟨p,hp,rfl⟩:=List.mem_map.1 hv
   simpa using um _ (List.mem_map.2 ⟨p,hp,rfl⟩)
  have A9:=oA KS
  rw[List.length_map,hlen]at A9
  have hb0:Below w.heap.size w (w.alloc (.cells (Array.mk ((parts.toList.map fun p=>a.eval p.2).flatMap fun v=>v.cells.toList)) (ty g) (0,0))):=(Below.refl _ _).alloc (Nat.le_refl _) _
  have Vc:=lU (w:=w) (o:= .cells (Array.mk ((parts.toList.map fun p=>a.eval p.2).flatMap fun v=>v.cells.toList)) (ty g) (0,0)) (k:=w.heap.size) rfl
  refine⟨_,hrun,hb0,some ⟨w.heap.size,0,none⟩,len,by rw[q2,hlen],by rw[q2,hlen];exact Nat.le_refl _,?_,Or.inr ⟨w.heap.size,0,aO,rfl,⟨_,_,_,Vc,by simp only[List.size_toArray];rw[hps];omega⟩,rfl,q3,?_⟩⟩
  ·unfold maxLen;have:=Nat.le_mul_of_pos_right len hkp;omega
  ·intro i x f hx Ob
   obtain⟨p,h1,h2⟩:=q4 i x f hx Ob
   have hkey:(((parts.toList.map fun p=>a.eval p.2).flatMap fun v=>v.cells.toList).drop (i*kk g)).take (kk g)=(a.eval p.2).cells.toList:=by
    rw[hps];exact oz KS (by rw[List.getElem?_map,h1];rfl)
   refine⟨_,G7 Vc _ _ fun j v hv=> ?_,(cF g).below h2 hb0⟩
   rw[←hkey]at hv
   rw[List.getElem?_take]at hv
   split at hv
   ·rw[List.getElem?_drop]at hv
    rw[Nat.zero_add,List.getElem?_toArray]
    exact hv
   ·cases hv
theorem IY(g:Good ty zb st a.tmps w env){ks:List Nat}{w':World}(hb:Below w.heap.size w w'):Good ty zb ⟨st.n,st.sl.map fun e=>(e.1,e.2.bf ks []),bE ks [] st.hp⟩ a.tmps w' env:=by
 have hlk: ∀m o,look (bE ks [] st.hp) m=some o→m∉ks∧ ∃o',look st.hp m=some o'∧o=o'.bf ks []:=by
  intro m o hm
  rw[aY]at hm
  split at hm
  ·cases hm
  ·rename_i hks
   cases hq:look st.hp m with
   |none=>rw[hq]at hm;cases hm
   |some o'=>rw[hq]at hm;simp only[Option.map_some,oI]at hm;exact⟨hks,o',rfl,hm.symm⟩
 have s:qC ks [] w st.hp env w' (bE ks [] st.hp) env:=by
  refine⟨fun b hlt _=>hb.block b hlt,?_,?_,?_⟩
  ·rintro b hlt ⟨m,o',h1,h2⟩
   obtain⟨_,wQ,h3,rfl⟩:=hlk m o' h1
   exact⟨m,wQ,h3,h2⟩
  ·intro m o' hks h1
   exact⟨o'.bf ks [],by rw[aY,if_neg hks,h1];rfl,by cases o'<;>simp[Obj.like,Obj.bf],rfl⟩
  ·rintro m t' l' ⟨hks,_⟩ h1
   exact⟨by rw[aY,if_neg hks,h1];rfl,rfl,fun b AF=>hb.block b ((g.obj m _ h1).sy b AF)⟩
 refine g.fA s (fun m o' hm=> ?_) (fun m m' o1 o2 hne h1 h2 b AF hb'=> ?_) (fun m o' hm b AF=> ?_) g.pins
 ·obtain⟨hks,wQ,h3,rfl⟩:=hlk m o' hm
  exact(g.obj m wQ h3).fA s fun b AF=>hb.block b ((g.obj m wQ h3).sy b AF)
 ·obtain⟨_,q1,h3,_⟩:=hlk m o1 h1
  obtain⟨_,q2,h4,_⟩:=hlk m' o2 h2
  exact g.fU m m' _ _ hne h3 h4 b AF hb'
 ·obtain⟨_,q1,h3,_⟩:=hlk m o' hm
  exact g.dom m q1 h3 b AF
theorem SL{Γ:Nat→TK}(C: ∀t,b7 P t (Γ t)){vc:List Prop}{st':St}{v:SV}(h:Vb P ty Γ st o.op=some (vc,st',v))(g:Good ty zb st a.tmps w env)(hB:zb.w.heap.size≤w.heap.size)(hv: ∀q,q∈vc→q):
  o.wp P a w (fun a' w'=> ∃u env',a'=a.put o.dst u∧Kept zb w w'∧Good ty zb st' a.tmps w' env'∧st'.n=st.n∧lT w' st'.hp env' a.tmps v u) Q:=by
 generalize dL:o.op=op at h
 cases op with
 |buildSlice t len parts=>
  simp only[Vb]at h
  split at h
  ·rename_i gt e hk
   split at h
   ·rename_i nL xs ks he hlen hbig hb
    have he:=Nat.eq_of_beq_eq_true he
    split at h
    ·rename_i hnd
     simp only[oI,pI]at h
     obtain⟨rfl,rfl,rfl⟩:=h
     have oB:El P ty gt:=hv _ (by simp)
     obtain⟨q1,q2,aO,q3,q4,q6⟩:=Bj g hb (fun q hq=>hv q (by simp[hq]))
     have hC:=C t
     rw[hk,he]at hC
     obtain⟨w',r1,r2,r3⟩:=run_frozen (P:=P) (w:=w) (a:=a) dL hC.1 oB (Nat.le_of_ble_eq_true hbig) (Nat.eq_of_beq_eq_true hlen) q1 q2 q3 q4
     have hg':=IY g (ks:=ks) r2
     unfold Oper.wp
     rw[r1]
     refine⟨_,env,rfl,iq r2 hB,hg',rfl,_,r3,?_⟩
     rintro b AF ⟨m,o',h1,h2⟩
     rw[aY]at h1
     split at h1
     ·cases h1
     ·rename_i hks
      cases hq:look st.hp m with
      |none=>rw[hq]at h1;cases h1
      |some wQ=>
       have hlt:=(g.obj m wQ hq).sy b h2
       rcases List.mem_cons.1 AF with rfl|AF
       ·omega
       ·rcases(q6 b AF).2 with h3| ⟨i,oi,hi,h4,h5⟩
        ·exact h3 ⟨m,wQ,hq,h2⟩
        ·exact g.fU m i _ _ (fun e=>hks (e▸hi)) hq h4 b h2 h5
    ·cases h
   ·cases h
  ·cases h
 |_=>simp[Vb]at h
end
end
section
variable{ty:Tag→Nat}
def inv:List (Nat×Nat)→Nat→Option Nat
 | [],_=>none
 | (n,m)::r,k=>match Nat.beq k m with|true=>some n|false=>inv r k
def V.toF(ρ:List (Nat×Nat)):V→V
 | .lit v=> .lit v
 | .sl t l=> .sl t l
 | .own m=>match inv ρ m with|some n=> .own n|none=> .any
 | .ptr m o=>match inv ρ m with|some n=> .ptr n o|none=> .any
 | .vV f m=>match inv ρ m with|some n=> .vV f n|none=> .any
 | .gL v t l=> .gL v t l
 |_=> .any
def Obj.toF(ρ:List (Nat×Nat)):Obj→Obj
 | .box c=> .box (c.map (V.toF ρ))
 | .arr t l=> .arr t l
 | .dY t l .mp=> .dY t l .mp
 | .dY t l (.As u)=> .dY t l (.As u)
 | .dY t l (.qB _)=> .dY t l (.qB none)
 | .dY t l _=> .dY t l .gone
def s6(st:St)(ρ:List (Nat×Nat)):List (Nat×Nat)→Option Hp
 | []=>some []
 | (n,m)::r=>match look st.hp m, !fu m||fu n, !soft m||soft n,s6 st ρ r with
   |some o,true,true,some h=>some ((n,o.toF ρ)::h)
   |_,_,_,_=>none
def O0(st:St)(ρ:List (Nat×Nat))(tg:Option Tag)(v:V):Option V:=match v.name with
 |some m=>match inv ρ m with
  |some n=>match v with
   | .own _=>some (.own n)
   | .ptr _ o=>some (.ptr n o)
   | .vV f _=>some (.vV f n)
   |_=>none
  |none=>match v with
   | .mix _ _ _ _=>none
   | .nK _=>none
   |v=>kI st tg v
 |none=>kI st tg v
def DX(st:St)(ρ:List (Nat×Nat)):List (Option Tag)→List V→Option (List V)
 |_,[]=>some []
 |tg,v::r=>match O0 st ρ (match tg with|t::_=>t| []=>none) v,DX st ρ (match tg with|_::ts=>ts| []=> []) r with
  |some x,some y=>some (x::y)
  |_,_=>none
def V.Ro:V→Bool
 | .gL _ _ _=>true
 |_=>false
def SM(st:St)(ρ:List (Nat×Nat))(k:TK):S1→Option S1
 | .a v=>match v.Ro with
   |true=>some (.a v)
   |false=>match O0 st ρ (match k with| .sl t _=>some t|_=>none) v with|some x=>some (.a x)|none=>none
 | .agg l=>match DX st ρ (match k with| .st _ tg _=>tg|_=> []) l with|some x=>some (.agg x)|none=>none
def DY(Γ:Nat→TK)(st:St)(ρ:List (Nat×Nat)):List Operand→List Nat→Option (List S1)
 | [],_=>some []
 |x::r,t=>match Fq st [] x with
  |some v=>match SM st ρ (match t with|t::_=>Γ t| []=> .other) v,DY Γ st ρ r (match t with|_::ts=>ts| []=> [])with
   |some y,some ys=>some (y::ys)
   |_,_=>none
  |none=>none
def Cq(st:St)(ρ:List (Nat×Nat))(x:Operand):Option (FuncId×List S1):=match ew st [] x with
 |some (.a (.vV f m))=>match inv ρ m with|some n=>some (f,[.a (.ptr n 0)])|none=>none
 |some v=>match OH v with|some f=>some (f,[])|none=>none
 |none=>none
def SN:List V→Option (List (Nat×Nat))
 | []=>some []
 | .ptr n m::r=>match SN r with|some l=>some ((n,m)::l)|none=>none
 |_=>none
def Vd:List V→Option (List Nat)
 | []=>some []
 | .own n::r=>match Vd r with|some l=>some (n::l)|none=>none
 |_=>none
def Ll:List Nat→List S1→Option Hp
 | [],[]=>some []
 |n::ns, .a (.sl t l)::r=>match Ll ns r with|some h=>some ((n, .arr t l)::h)|none=>none
 |n::ns, .agg c::r=>match Ll ns r with|some h=>some ((n, .box c)::h)|none=>none
 |_,_=>none
def WR:List V→Option V
 | []=>none
 | .gL v t l::_=>some (.gL v t l)
 |_::r=>WR r
def Ve(st:St):List Operand→Option V
 | []=>none
 |x::r=>match Fq st [] x with
  |some (.a v)=>match v.Ro with|true=>some v|false=>Ve st r
  |_=>Ve st r
def Vf(st:St):List (Nat×Nat)→Option V
 | []=>none
 | (_,m)::r=>match look st.hp m with
   |some (.box c)=>match WR c with|some v=>some v|none=>Vf st r
   |_=>Vf st r
def O1(st:St)(xs:List Operand)(ρ:List (Nat×Nat)):Option V:=match Ve st xs with|some v=>some v|none=>Vf st ρ
def DZ(kn:Option V):V→List Prop
 | .gL v _ _=>match kn with
   |some (.gL u _ _)=> [v=u]
   |_=> [False]
 |_=> []
def Lm(kn:Option V):List V→List Prop
 | []=> []
 |v::r=>je (DZ kn v) (Lm kn r)
def FT(kn:Option V):Hp→List Prop
 | []=> []
 | (_, .box c)::r=>je (Lm kn c) (FT kn r)
 |_::r=>FT kn r
def V.toA(kn:Option V)(ρ:List (Nat×Nat)):V→Option V
 | .gL _ _ _=>kn
 | .any=>some .any
 | .lit v=>some (.lit v)
 | .own n=>match look ρ n with|some m=>some (.own m)|none=>none
 | .ptr n o=>match look ρ n with|some m=>some (.ptr m o)|none=>none
 |_=>none
def toAs(kn:Option V)(ρ:List (Nat×Nat)):List V→Option (List V)
 | []=>some []
 |v::r=>match v.toA kn ρ,toAs kn ρ r with|some x,some y=>some (x::y)|_,_=>none
def S1.toA(ρ:List (Nat×Nat)):S1→Option S1
 | .a v=>match v.toA none ρ with|some x=>some (.a x)|none=>none
 | .agg l=>match toAs none ρ l with|some x=>some (.agg x)|none=>none
def O2(ρ:List (Nat×Nat)):List S1→Option (List S1)
 | []=>some []
 |v::r=>match v.toA ρ,O2 ρ r with|some x,some y=>some (x::y)|_,_=>none
def Obj.toA(kn:Option V)(ρ:List (Nat×Nat)):Obj→Option Obj
 | .box c=>match toAs kn ρ c with|some x=>some (.box x)|none=>none
 | .arr t l=>some (.arr t l)
 | .dY _ _ _=>none
def yO(kn:Option V)(ρ:List (Nat×Nat)):Hp→Option (List (Nat×Nat×Obj))
 | []=>some []
 | (n,o)::r=>match look ρ n,o.toA kn ρ,yO kn ρ r with
   |some m,some o',some h=>match !fu m||fu n, !soft n||soft m with|true,true=>some ((n,m,o')::h)|_,_=>none
   |_,_,_=>none
def yP:Option Obj→Bool
 |some (.box _)=>true
 |_=>false
def D0(ty:Tag→Nat)(w:World)(hp:Hp)(env:Env):Prop:=(∀n o,look hp n=some o→RO ty w hp env n o (env n))∧ ∀n m o o',n≠m→look hp n=some o→look hp m=some o'→ ∀b,b∈(env n).fp→b∉(env m).fp
def s7(hp:Hp)(env:Env):List Nat:=hp.flatMap fun e=>(env e.1).fp
def Vg(w:World)(hp:Hp)(env:Env)(rs:List S1)(u:Value):Prop:=match rs with
 | [r]=>eC w hp env r u
 |rs=> ∃us,u= .tuple us.toArray∧bg (eC w hp env) rs us
def iz(ty:Tag→Nat)(P:Program)(f:FuncId)(fk:Hp)(as:List S1)(dM:Hp)(rs:List S1):Prop:=
 (∀(args:Array Value) (w:World),(callFunc f args).run P w= .ok (.enter f args) w)∧
 ∀w env us,A3 w→(∀b,Dx b→b∉s7 fk env)→D0 ty w fk env→bg (eC w fk env) as us→Calls P f us.toArray w fun e w'=> ∃env' u,e= .returned u∧Kept ⟨w,s7 fk env,env⟩ w w'∧D0 ty w' dM env'∧
  (∀n o,look dM n=some o→ ∀b,b∈(env' n).fp→b∈s7 fk env∨w.heap.size≤b)∧(∀n,fu n=true→(env' n).v=(env n).v∧ ∀b,b∈(env' n).fp→b∈(env n).fp)∧Vg w' dM env' rs u
def bQ{ty:Tag→Nat}{P:Program}{f:FuncId}{xs rs:List S1}(_:Sound ty P f xs rs):List S1:=rs
def iA{ty:Tag→Nat}{P:Program}{f:FuncId}{fk:Hp}{xs:List S1}{dM:Hp}{rs:List S1}(_:iz ty P f fk xs dM rs):List S1:=rs
def Z1:Obj→S1
 | .box c=> .agg c
 | .arr t l=> .a (.sl t l)
 | .dY _ _ _=> .agg []
def iB{ty:Tag→Nat}{P:Program}{f:FuncId}{fk:Hp}{xs:List S1}{dM:Hp}{rs:List S1}(_:iz ty P f fk xs dM rs):List S1:= .agg (dM.map fun e=> .own e.1)::dM.map fun e=>Z1 e.2
def xp(B:List (Nat×Nat×Obj)):Hp:=B.map fun e=>(e.2.1,e.2.2)
def AG:List (Nat×Nat×Obj)→Nat→Option Nat
 | [],_=>none
 | (n,m,_)::r,k=>match Nat.beq k m with|true=>some n|false=>AG r k
def yQ(kv ks:List Nat)(hp:Hp):Hp:=(hp.filter fun e=> !kv.any (Nat.beq e.1)).map fun e=>(e.1,e.2.bf ks kv)
def Cr(hp:Hp):Hp→Bool
 | []=>true
 | (m,_)::r=>(match look hp m with|none=>true|some _=>false)&&Cr hp r
def Ln(P:Program)(ty:Tag→Nat)(Γ:Nat→TK)(cr:List (Nat×CR))(st:St)(d:Option Nat):Op→Option (List Prop×St×SV)
 | .call ⟨.value x,xs,ts⟩=>match look cr (d.getD 99999+700000),look cr (d.getD 99999+800000)with
   |some ⟨_, .agg a:: .agg b:: .agg c::os⟩,some ⟨_,rs⟩=>match SN a,SN b,Vd c with
    |some ρ0,some ρ1,some ns=>match Ll ns os,s6 st ρ0 ρ0,Cq st ρ0 x,DY Γ st ρ0 xs.toList ts.toList with
     |some dM,some fk,some (f,ex),some as=>match yO (O1 st xs.toList ρ0) (ρ0++ρ1) dM,O2 (ρ0++ρ1) rs with
      |some B,some XG=>match mS ((ρ0++ρ1).map Prod.fst)&&mS (ρ0.map Prod.snd)&&eW dM&&eW (xp B)&&Cr (yQ (ρ0.map Prod.snd) ((ρ0.filter fun e=> !fu e.1).map Prod.snd) st.hp) (xp B)&&ρ0.all (fun e=> !fu e.1|| (yP (look fk e.1)&&yP (look dM e.1)))&&ρ1.all (fun e=> !fu e.2)with
       |true=>some (iz ty P f fk (je as ex) dM rs::FT (O1 st xs.toList ρ0) dM,⟨st.n,st.sl.map fun e=>(e.1,e.2.bf ((ρ0.filter fun e=> !fu e.1).map Prod.snd) (ρ0.map Prod.snd)),xp B++yQ (ρ0.map Prod.snd) ((ρ0.filter fun e=> !fu e.1).map Prod.snd) st.hp⟩,match XG with| [r]=> .one r|l=> .qR l)
       |false=>none
      |_,_=>none
     |_,_,_,_=>none
    |_,_,_=>none
   |_,_=>none
 |_=>none
theorem jz: ∀{ρ:List (Nat×Nat)} {m n:Nat},inv ρ m=some n→(n,m)∈ρ
 | (a,b)::r,m,n,h=>by
   simp only[inv]at h
   split at h
   ·rename_i hb
    have:=Nat.eq_of_beq_eq_true hb
    simp only[oI]at h
    subst h;subst this;simp
   ·exact List.mem_cons_of_mem _ (jz h)
theorem D1: ∀{ρ:List (Nat×Nat)} {m:Nat},inv ρ m=none→m∉ρ.map Prod.snd
 | [],_,_=>by simp
 | (a,b)::r,m,h=>by
   simp only[inv]at h
   split at h
   ·cases h
   ·rename_i hb
    have hne:m≠b:=fun e=>by rw[e,Nat.beq_refl]at hb;cases hb
    have:=D1 h
    simp only[List.map_cons,List.mem_cons,not_or]
    exact⟨hne,this⟩
theorem dJ{α:Type}: ∀{l:List (Nat×α)} {n:Nat} {x:α},(l.map Prod.fst).Nodup→(n,x)∈l→look l n=some x
 | (j,y)::r,n,x,hnd,h=>by
   obtain⟨h1,h2⟩:=List.nodup_cons.1 hnd
   rcases List.mem_cons.1 h with h'|h'
   ·simp only[pI]at h'
    obtain⟨rfl,rfl⟩:=h'
    exact look_eq
   ·have hne:n≠j:=fun e=>h1 (List.mem_map.2 ⟨(n,x),h',e⟩)
    rw[aK hne];exact dJ h2 h'
theorem p7: ∀{l:Hp},eW l=true→(l.map Prod.fst).Nodup
 | [],_=>List.nodup_nil
 | (n,x)::r,h=>by
   simp only[eW,Bool.and_eq_true]at h
   refine List.nodup_cons.2 ⟨fun hm=> ?_,p7 h.2⟩
   obtain⟨e,he,rfl⟩:=List.mem_map.1 hm
   have:=dJ (p7 h.2) (show(e.1,e.2)∈r from he)
   rw[this]at h;simp at h
theorem jJ: ∀{B:List (Nat×Nat×Obj)} {m:Nat} {o:Obj},look (xp B) m=some o→ ∃n,(n,m,o)∈B∧AG B m=some n
 | (n,k,x)::r,m,o,h=>by
   have h:look ((k,x)::xp r) m=some o:=h
   by_cases hm:m=k
   ·subst hm
    rw[look_eq]at h
    simp only[oI]at h
    subst h
    exact⟨n,by simp,by simp[AG]⟩
   ·rw[aK hm]at h
    obtain⟨n',h1,h2⟩:=jJ h
    refine⟨n',List.mem_cons_of_mem _ h1,?_⟩
    simp only[AG]
    cases hb:Nat.beq m k with
    |true=>exact absurd (Nat.eq_of_beq_eq_true hb) hm
    |false=>exact h2
theorem Bk: ∀{B:List (Nat×Nat×Obj)} {m:Nat},look (xp B) m=none→AG B m=none
 | [],_,_=>rfl
 | (n,k,x)::r,m,h=>by
   have h:look ((k,x)::xp r) m=none:=h
   have hm:m≠k:=by rintro rfl;rw[look_eq]at h;cases h
   rw[aK hm]at h
   simp only[AG]
   cases hb:Nat.beq m k with
   |true=>exact absurd (Nat.eq_of_beq_eq_true hb) hm
   |false=>exact Bk h
theorem iC{kn:Option V}{ρ:List (Nat×Nat)}: ∀{hp:Hp} {B:List (Nat×Nat×Obj)},yO kn ρ hp=some B→ ∀n m o',(n,m,o')∈B→ ∃o,(n,o)∈hp∧look ρ n=some m∧o.toA kn ρ=some o'∧(fu m=true→fu n=true)∧(soft n=true→soft m=true)
 | [],B,h,n,m,o',hm=>by
   simp only[yO,oI]at h
   subst h;cases hm
 | (k,x)::r,B,h,n,m,o',hm=>by
   simp only[yO]at h
   split at h
   ·rename_i m1 o1 h1 e1 e2 e3
    split at h
    ·rename_i hp hs
     simp only[oI]at h
     subst h
     rcases List.mem_cons.1 hm with h|h
     ·simp only[pI]at h
      obtain⟨rfl,rfl,rfl⟩:=h
      refine⟨x,by simp,e1,e2,fun hn=> ?_,fun hn=> ?_⟩
      ·rw[hn]at hp;simpa using hp
      ·rw[hn]at hs;simpa using hs
     ·obtain⟨o,q1,q2⟩:=iC e3 n m o' h
      exact⟨o,List.mem_cons_of_mem _ q1,q2⟩
    ·cases h
   ·cases h
theorem Bl{kn:Option V}{ρ:List (Nat×Nat)}: ∀{hp:Hp} {B:List (Nat×Nat×Obj)},yO kn ρ hp=some B→ ∀n o,(n,o)∈hp→ ∃m o',(n,m,o')∈B∧look ρ n=some m∧o.toA kn ρ=some o'
 | [],B,h,n,o,hm=>by cases hm
 | (k,x)::r,B,h,n,o,hm=>by
   simp only[yO]at h
   split at h
   ·rename_i m1 o1 h1 e1 e2 e3
    split at h
    ·simp only[oI]at h
     subst h
     rcases List.mem_cons.1 hm with h|h
     ·simp only[pI]at h
      obtain⟨rfl,rfl⟩:=h
      exact⟨m1,o1,by simp,e1,e2⟩
     ·obtain⟨m,o',q1,q2⟩:=Bl e3 n o h
      exact⟨m,o',List.mem_cons_of_mem _ q1,q2⟩
    ·cases h
   ·cases h
theorem Bm{st:St}{ρ:List (Nat×Nat)}: ∀{r:List (Nat×Nat)} {hp:Hp},s6 st ρ r=some hp→(∀n o,(n,o)∈hp→ ∃m x,(n,m)∈r∧look st.hp m=some x∧o=x.toF ρ∧(fu m=true→fu n=true)∧(soft m=true→soft n=true))∧ ∀n m,(n,m)∈r→ ∃x,look st.hp m=some x∧(n,x.toF ρ)∈hp
 | [],hp,h=>by
   simp only[s6,oI]at h
   subst h
   exact⟨(fun n o hm=>nomatch hm),(fun n m hm=>nomatch hm)⟩
 | (k,j)::r,hp,h=>by
   simp only[s6]at h
   split at h
   ·rename_i x h' e1 e2 e3 e4
    simp only[oI]at h
    subst h
    obtain⟨q1,q2⟩:=Bm e4
    refine⟨fun n o hm=> ?_,fun n m hm=> ?_⟩
    ·rcases List.mem_cons.1 hm with h|h
     ·simp only[pI]at h
      obtain⟨rfl,rfl⟩:=h
      exact⟨j,x,by simp,e1,rfl,fun hs=>by rw[hs]at e2;simpa using e2,fun hs=>by rw[hs]at e3;simpa using e3⟩
     ·obtain⟨m,y,p1,p2⟩:=q1 n o h
      exact⟨m,y,List.mem_cons_of_mem _ p1,p2⟩
    ·rcases List.mem_cons.1 hm with h|h
     ·simp only[pI]at h
      obtain⟨rfl,rfl⟩:=h
      exact⟨x,e1,by simp⟩
     ·obtain⟨y,p1,p2⟩:=q2 n m h
      exact⟨y,p1,List.mem_cons_of_mem _ p2⟩
   ·cases h
theorem uH{st:St}{ρ:List (Nat×Nat)}: ∀{r:List (Nat×Nat)} {hp:Hp},s6 st ρ r=some hp→hp.map Prod.fst=r.map Prod.fst
 | [],hp,h=>by simp only[s6,oI]at h;subst h;rfl
 | (k,j)::r,hp,h=>by
   simp only[s6]at h
   split at h
   ·rename_i e4
    simp only[oI]at h
    subst h
    rw[List.map_cons,List.map_cons,uH e4]
   ·cases h
theorem mU{kv ks:List Nat}{hp:Hp}{n:Nat}:look (yQ kv ks hp) n=if n∈kv then none else(look hp n).map (Obj.bf ks kv):=by
 unfold yQ
 rw[lY (α:=Obj) (f:=fun e:Nat×Obj=>e.2.bf ks kv)]
 have:look (hp.filter fun e=> !kv.any (Nat.beq e.1)) n=if n∈kv then none else look hp n:=by
  induction hp with
  |nil=>simp[look]
  |cons e r ih=>
   obtain⟨j,x⟩:=e
   by_cases hj:j∈kv
   ·have:(kv.any (Nat.beq j))=true:=List.any_eq_true.2 ⟨j,hj,by simp⟩
    rw[List.filter_cons_of_neg (by simp[this]),ih]
    by_cases hn:n∈kv
    ·simp[hn]
    ·have:n≠j:=by rintro rfl;exact hn hj
     rw[if_neg hn,if_neg hn,aK this]
   ·have:(kv.any (Nat.beq j))=false:=by
     rw[List.any_eq_false]
     intro y hy hb
     exact hj (by rw[Nat.eq_of_beq_eq_true hb];exact hy)
    rw[List.filter_cons_of_pos (by simp[this])]
    by_cases XH:n=j
    ·subst XH;rw[look_eq,if_neg hj,look_eq]
    ·rw[aK XH,aK XH,ih]
 rw[this]
 split<;>simp
theorem Bn{hp:Hp}: ∀{l:Hp},Cr hp l=true→ ∀m o,look l m=some o→look hp m=none
 | (k,x)::r,h,m,o,hl=>by
   simp only[Cr,Bool.and_eq_true]at h
   by_cases hm:m=k
   ·subst hm
    cases hq:look hp m with
    |none=>rfl
    |some y=>rw[hq]at h;simp at h
   ·rw[aK hm]at hl;exact Bn h.2 m o hl
theorem Lo{w:World}{hp:Hp}{env:Env}: ∀{c:List V} {us:List Value} {x:V},bg (RA w hp env) c us→WR c=some x→ ∃u t l,x= .gL u t l∧RA w hp env x u
 | [],_,_,_,h=>by cases h
 |v::r,us,x,hr,h=>by
  cases us with
  |nil=>exact hr.elim
  |cons u us=>
   cases v with
   |gL v t l=>
    simp only[WR,oI]at h
    subst h
    have h1:=hr.1
    obtain⟨hu,_⟩:=h1
    subst hu
    exact⟨_,t,l,rfl,hr.1⟩
   |_=>exact Lo hr.2 h
theorem FU{zb:bP}{st:St}{a:Act}{w:World}{env:Env}(g:Good ty zb st a.tmps w env): ∀{xs:List Operand} {x:V},Ve st xs=some x→ ∃u t l,x= .gL u t l∧RA w st.hp env x u
 | [],_,h=>by cases h
 |y::r,x,h=>by
  simp only[Ve]at h
  split at h
  ·rename_i v hv
   split at h
   ·rename_i hl
    simp only[oI]at h
    subst h
    have hr:=ru g (fun e he=>by simp at he) hv
    cases v with
    |gL v t l=>
     have h1:RA w st.hp env (.gL v t l) (a.eval y):=hr
     obtain⟨hu,_⟩:=h1
     refine⟨v,t,l,rfl,?_⟩
     have h2:RA w st.hp env (.gL v t l) (a.eval y):=hr
     rw[hu]at h2
     exact h2
    |_=>cases hl
   ·exact FU g h
  ·exact FU g h
theorem FV{zb:bP}{st:St}{tmps:Array Value}{w:World}{env:Env}(g:Good ty zb st tmps w env): ∀{ρ:List (Nat×Nat)} {x:V},Vf st ρ=some x→ ∃u t l,x= .gL u t l∧RA w st.hp env x u
 | [],_,h=>by cases h
 | (n,m)::r,x,h=>by
   simp only[Vf]at h
   split at h
   ·rename_i c hc
    split at h
    ·rename_i v hv
     simp only[oI]at h
     subst h
     obtain⟨b,cs,e,_,_,h3⟩:=g.obj m _ hc
     exact Lo h3 hv
    ·exact FV g h
   ·exact FV g h
theorem SO{zb:bP}{st:St}{a:Act}{w:World}{env:Env}(g:Good ty zb st a.tmps w env){xs:List Operand}{ρ:List (Nat×Nat)}{x:V}(h:O1 st xs ρ=some x): ∃u t l,x= .gL u t l∧RA w st.hp env x u:=by
 unfold O1 at h
 split at h
 ·rename_i v hv
  simp only[oI]at h
  subst h
  exact FU g hv
 ·exact FV g h
theorem D2{kn:Option V}: ∀{c:List V} {v:V},v∈c→ ∀q,q∈DZ kn v→q∈Lm kn c
 |x::r,v,hv,q,hq=>by
  simp only[Lm,cO]
  rcases List.mem_cons.1 hv with rfl|hv
  ·exact List.mem_append_left _ hq
  ·exact List.mem_append_right _ (D2 hv q hq)
theorem D3{kn:Option V}: ∀{hp:Hp} {n:Nat} {c:List V},(n, .box c)∈hp→ ∀q,q∈Lm kn c→q∈FT kn hp
 | (m,o)::r,n,c,h,q,hq=>by
   rcases List.mem_cons.1 h with h|h
   ·simp only[pI]at h
    obtain⟨_,rfl⟩:=h
    simp only[FT,cO]
    exact List.mem_append_left _ hq
   ·have:=D3 h q hq
    cases o with
    |box d=>simp only[FT,cO];exact List.mem_append_right _ this
    |_=>exact this
end
section
variable{ty:Tag→Nat}
def s8(env:Env)(ρ:List (Nat×Nat)):Env:=fun n=>match look ρ n with|some m=>env m|none=>⟨B7,[]⟩
section
variable{P:Program}{zb:bP}{st st':St}{a:Act}{w:World}{env:Env}{Q:Exit→Act→World→Prop}{o:Oper}{ρ:List (Nat×Nat)}{fk:Hp}
structure s9(st:St)(env:Env)(ρ:List (Nat×Nat))(fk:Hp):Prop where
 at_: ∀n m,(n,m)∈ρ→look ρ n=some m
 obj: ∀n m,(n,m)∈ρ→ ∃x,look st.hp m=some x∧look fk n=some (x.toF ρ)
 back: ∀n o,look fk n=some o→ ∃m x,(n,m)∈ρ∧look st.hp m=some x∧o=x.toF ρ∧(fu m=true→fu n=true)∧(soft m=true→soft n=true)
 uniq:(ρ.map Prod.snd).Nodup
theorem s9.of{st:St}{env:Env}{fk:Hp}(h:s6 st ρ ρ=some fk)(h1:(ρ.map Prod.fst).Nodup)(h2:(ρ.map Prod.snd).Nodup):s9 st env ρ fk:=by
 obtain⟨q1,q2⟩:=Bm h
 have hnd:(fk.map Prod.fst).Nodup:=by rw[uH h];exact h1
 refine⟨fun n m hm=>dJ h1 hm,fun n m hm=> ?_,fun n o hl=> ?_,h2⟩
 ·obtain⟨x,p1,p2⟩:=q2 n m hm
  exact⟨x,p1,dJ hnd p2⟩
 ·obtain⟨m,x,p1,p2,p3,p4⟩:=q1 n o (dg hl)
  exact⟨m,x,p1,p2,p3,p4⟩
theorem s9.en(L:s9 st env ρ fk){n m:Nat}(h:(n,m)∈ρ):s8 env ρ n=env m:=by unfold s8;rw[L.at_ n m h]
theorem s9.ow(L:s9 st env ρ fk){b:Nat}(h:Ow fk (s8 env ρ) b): ∃n m x,(n,m)∈ρ∧look st.hp m=some x∧b∈(env m).fp:=by
 obtain⟨n,o,h1,h2⟩:=h
 obtain⟨m,x,p1,p2,_⟩:=L.back n o h1
 rw[L.en p1]at h2
 exact⟨n,m,x,p1,p2,h2⟩
theorem Ho: ∀{ρ:List (Nat×Nat)} {n n' m:Nat},(ρ.map Prod.snd).Nodup→(n,m)∈ρ→(n',m)∈ρ→n=n'
 | (a,b)::r,n,n',m,hnd,h1,h2=>by
   obtain⟨q1,q2⟩:=List.nodup_cons.1 hnd
   rcases List.mem_cons.1 h1 with e1|e1<;>rcases List.mem_cons.1 h2 with e2|e2
   ·rw[pI]at e1 e2;rw[e1.1,e2.1]
   ·rw[pI]at e1;exact absurd (List.mem_map.2 ⟨_,e2,e1.2⟩) q1
   ·rw[pI]at e2;exact absurd (List.mem_map.2 ⟨_,e1,e2.2⟩) q1
   ·exact Ho q2 e1 e2
theorem toF_ok(L:s9 st env ρ fk){v:V}{u:Value}(h:RA w st.hp env v u):RA w fk (s8 env ρ) (v.toF ρ) u:=by
 cases v with
 |lit x=>exact h
 |sl t l=>
  obtain⟨fp,h1,h2⟩:=h
  refine⟨fp,h1,fun b hb ho=>h2 b hb ?_⟩
  obtain⟨n,m,x,_,p2,p3⟩:=L.ow ho
  exact⟨m,x,p2,p3⟩
 |own m=>
  simp only[V.toF]
  split
  ·rename_i n hn
   obtain⟨⟨t,l,hl⟩,hu⟩:=h
   obtain⟨x,p1,p2⟩:=L.obj n m (jz hn)
   rw[hl]at p1
   simp only[oI]at p1
   subst p1
   exact⟨⟨t,l,p2⟩,by rw[L.en (jz hn)];exact hu⟩
  ·trivial
 |ptr m off=>
  simp only[V.toF]
  split
  ·rename_i n hn
   obtain⟨⟨c,hl⟩,hu⟩:=h
   obtain⟨x,p1,p2⟩:=L.obj n m (jz hn)
   rw[hl]at p1
   simp only[oI]at p1
   subst p1
   exact⟨⟨_,p2⟩,by rw[L.en (jz hn)];exact hu⟩
  ·trivial
 |vV f m=>
  simp only[V.toF]
  split
  ·rename_i n hn
   obtain⟨⟨c,hl⟩,hu⟩:=h
   obtain⟨x,p1,p2⟩:=L.obj n m (jz hn)
   rw[hl]at p1
   simp only[oI]at p1
   subst p1
   exact⟨⟨_,p2⟩,by rw[L.en (jz hn)];exact hu⟩
  ·trivial
 |gL v t l=>
  obtain⟨hu,fp,h1,h2⟩:=h
  refine⟨hu,fp,h1,fun b hb ho=>h2 b hb ?_⟩
  obtain⟨n,m,x,_,p2,p3⟩:=L.ow ho
  exact⟨m,x,p2,p3⟩
 |_=>trivial
theorem Hq{w:World}{hp gr:Hp}{env env':Env}{n m:Nat}{t:Tag}{l:List (T t)}{co:CO}(hs:soft m=true→soft n=true)(h:RO ty w hp env m (.arr t l) co):RO ty w gr env' n (.arr t l) co:=by
 cases hm:soft m with
 |false=>exact RO.DH (RO.N9 hm h)
 |true=>exact RO.KI (hs hm) (RO.sl h) (RO.own h)
theorem IZ(g:Good ty zb st a.tmps w env)(L:s9 st env ρ fk):D0 ty w fk (s8 env ρ):=by
 refine⟨fun n o hl=> ?_,fun n n' o o' hne h1 h2 b hb hb'=> ?_⟩
 ·obtain⟨m,x,p1,p2,rfl,_,p4⟩:=L.back n o hl
  rw[L.en p1]
  have hro:=g.obj m x p2
  cases x with
  |arr t l=>exact Hq p4 hro
  |box c=>
   obtain⟨b,cs,e,h1,h2,h3⟩:=hro
   exact⟨b,cs,e,h1,h2,h3.map fun x y hr=>toF_ok L hr⟩
  |dY t l s=>
   rcases RO.AA hro with⟨rfl,h⟩| ⟨u,rfl,h1,h2,fp,h3,h4⟩| ⟨p,rfl,h⟩| ⟨hr,h1,us,hB,h2,_⟩
   ·exact h
   ·refine⟨h1,h2,fp,h3,h4.imp id fun⟨c,e1,e2⟩=>⟨c,e1,fun ho=> ?_⟩⟩
    obtain⟨n',m',x',p1',p2',Z2⟩:=L.ow ho
    exact e2 ⟨m',x',p2',Z2⟩
   ·exact⟨h.1,h.2.1,fun _ _ _ e=>by cases e⟩
   ·have e:(Obj.dY t l s).toF ρ= .dY t l .gone:=by cases s<;>first|rfl|exact hr.elim
    rw[e]
    exact⟨h1,us,hB,h2,fun _ _ _ _ _=>trivial⟩
 ·obtain⟨m,x,p1,p2,_⟩:=L.back n o h1
  obtain⟨m',x',p1',p2',_⟩:=L.back n' o' h2
  rw[L.en p1]at hb
  rw[L.en p1']at hb'
  refine g.fU m m' x x' (fun e=> ?_) p2 p2' b hb hb'
  subst e
  exact hne (Ho L.uniq p1 p1')
theorem Hr(g:Good ty zb st a.tmps w env)(L:s9 st env ρ fk){tg:Option Tag}{v v':V}{u:Value}(h:RA w st.hp env v u)(hf:O0 st ρ tg v=some v'):RA w fk (s8 env ρ) v' u:=by
 have Vh:(∀n c t l,v≠ .mix n c t l)→(∀n,v≠ .nK n)→(∀m,v.name=some m→inv ρ m=none)→kI st tg v=some v'→RA w fk (s8 env ρ) v' u:=by
  intro KW Z3 hno hi
  have Vi: ∀{m:Nat} {x:Obj},v.name=some m→look st.hp m=some x→ ∀b,b∈(env m).fp→ ¬Ow fk (s8 env ρ) b:=by
   intro m x hm hl b hb ho
   obtain⟨n,m',x',p1,p2,p3⟩:=L.ow ho
   have hne:m≠m':=by
    rintro rfl
    exact D1 (hno m hm) (List.mem_map.2 ⟨_,p1,rfl⟩)
   exact g.fU m m' x x' hne hl p2 b hb p3
  cases v with
  |sl t l=>
   simp only[kI,oI]at hi
   subst hi
   exact toF_ok L h
  |own m=>
   simp only[kI]at hi
   split at hi
   ·rename_i t l hl
    simp only[oI]at hi
    subst hi
    obtain⟨_,hu⟩:=h
    refine⟨(env m).fp,?_,Vi rfl hl⟩
    rw[hu];exact RO.sl (g.obj m _ hl)
   ·cases hi
  |vw m p t l=>
   simp only[kI,oI]at hi
   subst hi
   obtain⟨⟨tA,lA,hl⟩,⟨fp,hs,_,hsub⟩,_⟩:=h
   exact⟨fp,hs,fun b hb=>Vi rfl hl b (hsub b hb)⟩
  |lit x=>
   unfold kI at hi
   split at hi
   ·rename_i he;cases he
   ·rename_i he;cases he
   ·rename_i he;cases he
   ·rename_i he;cases he
   ·rename_i he;cases he
   ·rename_i he
    simp only[V.lit.injEq]at he
    subst he
    obtain⟨hu,_⟩:=h
    split at hi
    ·simp only[oI]at hi
     subst hi
     refine⟨[],?_,by simp⟩
     rw[hu]
     exact⟨none,0,rfl,Nat.le_refl _,Nat.zero_le _,Or.inl ⟨rfl,rfl,rfl⟩⟩
    ·cases hi
   ·cases hi
   ·rename_i he
    simp only[V.lit.injEq]at he
    subst he
    simp only[oI]at hi
    subst hi
    exact h
   ·cases hi
  |mix n c t l=>exact absurd rfl (KW n c t l)
  |nK n=>exact absurd rfl (Z3 n)
  |_=>simp[kI]at hi
 unfold O0 at hf
 split at hf
 ·rename_i m hm
  split at hf
  ·rename_i n hn
   have hF:=toF_ok L h
   split at hf
   ·rename_i m'
    simp only[V.name,oI]at hm
    subst hm
    simp only[oI]at hf
    subst hf
    simpa only[V.toF,hn]using hF
   ·rename_i m' off
    simp only[V.name,oI]at hm
    subst hm
    simp only[oI]at hf
    subst hf
    simpa only[V.toF,hn]using hF
   ·rename_i f m'
    simp only[V.name,oI]at hm
    subst hm
    simp only[oI]at hf
    subst hf
    simpa only[V.toF,hn]using hF
   ·cases hf
  ·rename_i hn
   split at hf
   ·cases hf
   ·cases hf
   ·rename_i h1 h2
    exact Vh (fun n c t l e=>h1 n c t l e) (fun n e=>h2 n e) (fun k hk=>by rw[hm]at hk;simp only[oI]at hk;subst hk;exact hn) hf
 ·rename_i hm
  exact Vh (fun n c t l e=>by rw[e]at hm;cases hm) (fun n e=>by rw[e]at hm;cases hm) (fun k hk=>by rw[hm]at hk;cases hk) hf
theorem D4(g:Good ty zb st a.tmps w env)(L:s9 st env ρ fk): ∀{vs vs':List V} {tg:List (Option Tag)} {us:List Value},bg (RA w st.hp env) vs us→DX st ρ tg vs=some vs'→bg (RA w fk (s8 env ρ)) vs' us
 | [],vs',tg,us,h,hf=>by
   simp only[DX,oI]at hf
   subst hf
   cases us with
   |nil=>trivial
   |cons _ _=>exact h.elim
 |v::r,vs',tg,us,h,hf=>by
  cases us with
  |nil=>exact h.elim
  |cons u us=>
   simp only[DX]at hf
   split at hf
   ·rename_i x y h1 h2
    simp only[oI]at hf
    subst hf
    exact⟨Hr g L h.1 h1,D4 g L h.2 h2⟩
   ·cases hf
theorem D5(g:Good ty zb st a.tmps w env)(L:s9 st env ρ fk){Γ:Nat→TK}: ∀{xs:List Operand} {ts:List Nat} {as:List S1},DY Γ st ρ xs ts=some as→bg (eC w fk (s8 env ρ)) as (xs.map a.eval)
 | [],_,as,h=>by
   simp only[DY,oI]at h
   subst h;trivial
 |x::r,ts,as,h=>by
  simp only[DY]at h
  split at h
  ·rename_i v hv
   split at h
   ·rename_i y ys h1 h2
    simp only[oI]at h
    subst h
    have hr:=ru g (fun e he=>by simp at he) hv
    refine⟨?_,D5 g L h2⟩
    cases v with
    |a v=>
     simp only[SM]at h1
     split at h1
     ·rename_i hl
      simp only[oI]at h1
      subst h1
      cases v with
      |gL v t l=>exact toF_ok L (v:= .gL v t l) hr
      |_=>cases hl
     ·split at h1
      ·rename_i z hz
       simp only[oI]at h1
       subst h1
       exact Hr g L hr hz
      ·cases h1
    |agg l=>
     simp only[SM]at h1
     split at h1
     ·rename_i z hz
      simp only[oI]at h1
      subst h1
      obtain⟨cs,hu,hl⟩:=hr
      exact⟨cs,hu,D4 g L hl hz⟩
     ·cases h1
   ·cases h
  ·cases h
theorem bg.append{α β:Type}{R:α→β→Prop}: ∀{as as':List α} {bs bs':List β},bg R as bs→bg R as' bs'→bg R (as++as') (bs++bs'):=bg.app
theorem FW(g:Good ty zb st a.tmps w env)(L:s9 st env ρ fk){x:Operand}{xs:Array Operand}{ts:Array TypeId}(ho:o.op= .call ⟨.value x,xs,ts⟩){f:FuncId}{ex:List S1}(h:Cq st ρ x=some (f,ex))(hS: ∀(args:Array Value) (w:World),(callFunc f args).run P w= .ok (.enter f args) w):
  ∃us,(execOp a.eval o).run P w= .ok (.enter f (xs.toList.map a.eval++us).toArray) w∧bg (eC w fk (s8 env ρ)) ex us:=by
 have hx:xs.map a.eval=(xs.toList.map a.eval).toArray:=by rw[←List.map_toArray]
 unfold Cq at h
 split at h
 ·rename_i f' m hv
  split at h
  ·rename_i n hn
   simp only[oI,pI]at h
   obtain⟨rfl,rfl⟩:=h
   have hr:=dh g (fun e he=>by simp at he) hv
   have hA:RA w st.hp env (.vV f' m) (a.eval x):=hr
   obtain⟨⟨c,hl⟩,b,hb,hu⟩:=hA
   refine⟨[.pointer (some ⟨b,0,none⟩)],?_,?_,trivial⟩
   ·unfold execOp
    simp[ho,resolve,invoke,Deferred.ofValue,hu,hS]
    rw[hx];simp
   ·obtain⟨y,p1,p2⟩:=L.obj n m (jz hn)
    rw[hl]at p1
    simp only[oI]at p1
    subst p1
    exact⟨⟨_,p2⟩,b,by rw[L.en (jz hn)];exact hb,rfl⟩
  ·cases h
 ·rename_i v _ hv
  split at h
  ·rename_i f' hf
   simp only[oI,pI]at h
   obtain⟨rfl,rfl⟩:=h
   have h0:=He (dh g (fun e he=>by simp at he) hv) hf
   refine⟨[],?_,trivial⟩
   unfold execOp
   simp[ho,resolve,invoke,Deferred.ofValue,h0,hS]
   exact hx
  ·cases h
 ·cases h
theorem toA_ok{w:World}{dM I0:Hp}{jV env':Env}{ρ:List (Nat×Nat)}{kn Rp:Option V}(hn: ∀n m,look ρ n=some m→ ∀o,look dM n=some o→(∃o',look I0 m=some o'∧o.toA Rp ρ=some o')∧env' m=jV n)(hK: ∀x,kn=some x→ ∃u t l,x= .gL u t l∧RA w I0 env' x u){v v':V}{u:Value}(hP: ∀q,q∈DZ kn v→q)(h:RA w dM jV v u)(hv:v.toA kn ρ=some v'):RA w I0 env' v' u:=by
 cases v with
 |any=>simp only[V.toA,oI]at hv;subst hv;trivial
 |lit x=>simp only[V.toA,oI]at hv;subst hv;exact h
 |gL v t l=>
  simp only[V.toA]at hv
  obtain⟨u0,t0,l0,rfl,h0⟩:=hK _ hv
  subst hv
  have e:=hP (v=u0) (by simp[DZ])
  obtain⟨hu,_⟩:=h
  rw[hu,e]
  exact h0
 |own n=>
  simp only[V.toA]at hv
  split at hv
  ·rename_i m hm
   simp only[oI]at hv
   subst hv
   obtain⟨⟨t,l,hl⟩,hu⟩:=h
   obtain⟨⟨o',q1,q2⟩,q3⟩:=hn n m hm _ hl
   simp only[Obj.toA,oI]at q2
   subst q2
   exact⟨⟨t,l,q1⟩,by rw[q3];exact hu⟩
  ·cases hv
 |ptr n off=>
  simp only[V.toA]at hv
  split at hv
  ·rename_i m hm
   simp only[oI]at hv
   subst hv
   obtain⟨⟨c,hl⟩,hu⟩:=h
   obtain⟨⟨o',q1,q2⟩,q3⟩:=hn n m hm _ hl
   simp only[Obj.toA]at q2
   split at q2
   ·simp only[oI]at q2
    subst q2
    exact⟨⟨_,q1⟩,by rw[q3];exact hu⟩
   ·cases q2
  ·cases hv
 |_=>simp[V.toA]at hv
theorem toAs_ok{w:World}{dM I0:Hp}{jV env':Env}{ρ:List (Nat×Nat)}{kn Rp:Option V}(hn: ∀n m,look ρ n=some m→ ∀o,look dM n=some o→(∃o',look I0 m=some o'∧o.toA Rp ρ=some o')∧env' m=jV n)(hK: ∀x,kn=some x→ ∃u t l,x= .gL u t l∧RA w I0 env' x u): ∀{vs vs':List V} {us:List Value},(∀v,v∈vs→ ∀q,q∈DZ kn v→q)→bg (RA w dM jV) vs us→toAs kn ρ vs=some vs'→bg (RA w I0 env') vs' us
 | [],vs',us,_,h,hv=>by
   simp only[toAs,oI]at hv
   subst hv
   cases us with
   |nil=>trivial
   |cons _ _=>exact h.elim
 |v::r,vs',us,hP,h,hv=>by
  cases us with
  |nil=>exact h.elim
  |cons u us=>
   simp only[toAs]at hv
   split at hv
   ·rename_i x y h1 h2
    simp only[oI]at hv
    subst hv
    exact⟨toA_ok hn hK (hP v (by simp)) h.1 h1,toAs_ok hn hK (fun z hz=>hP z (List.mem_cons_of_mem _ hz)) h.2 h2⟩
   ·cases hv
theorem toA_none{kn:Option V}{ρ:List (Nat×Nat)}{v v':V}(hk:kn=none)(h:v.toA kn ρ=some v'): ∀q,q∈DZ kn v→q:=by
 subst hk
 cases v with
 |gL v t l=>simp[V.toA]at h
 |_=>intro q hq;simp[DZ]at hq
theorem toAs_none{ρ:List (Nat×Nat)}: ∀{vs vs':List V},toAs none ρ vs=some vs'→ ∀v,v∈vs→ ∀q,q∈DZ none v→q
 |x::r,vs',h,v,hv=>by
  simp only[toAs]at h
  split at h
  ·rename_i h1 h2
   rcases List.mem_cons.1 hv with rfl|hv
   ·exact toA_none rfl h1
   ·exact toAs_none h2 v hv
  ·cases h
theorem Lp{w:World}{dM I0:Hp}{jV env':Env}{ρ:List (Nat×Nat)}{Rp:Option V}(hn: ∀n m,look ρ n=some m→ ∀o,look dM n=some o→(∃o',look I0 m=some o'∧o.toA Rp ρ=some o')∧env' m=jV n){v v':S1}{u:Value}(h:eC w dM jV v u)(hv:v.toA ρ=some v'):eC w I0 env' v' u:=by
 cases v with
 |a v=>
  simp only[S1.toA]at hv
  split at hv
  ·rename_i x hx
   simp only[oI]at hv
   subst hv
   exact toA_ok (kn:=none) hn (fun _ h=>by cases h) (toA_none rfl hx) h hx
  ·cases hv
 |agg l=>
  simp only[S1.toA]at hv
  split at hv
  ·rename_i x hx
   simp only[oI]at hv
   subst hv
   obtain⟨cs,hu,hl⟩:=h
   exact⟨cs,hu,toAs_ok (kn:=none) hn (fun _ h=>by cases h) (toAs_none hx) hl hx⟩
  ·cases hv
theorem FX{w:World}{dM I0:Hp}{jV env':Env}{ρ:List (Nat×Nat)}{Rp:Option V}(hn: ∀n m,look ρ n=some m→ ∀o,look dM n=some o→(∃o',look I0 m=some o'∧o.toA Rp ρ=some o')∧env' m=jV n): ∀{vs vs':List S1} {us:List Value},bg (eC w dM jV) vs us→O2 ρ vs=some vs'→bg (eC w I0 env') vs' us
 | [],vs',us,h,hv=>by
   simp only[O2,oI]at hv
   subst hv
   cases us with
   |nil=>trivial
   |cons _ _=>exact h.elim
 |v::r,vs',us,h,hv=>by
  cases us with
  |nil=>exact h.elim
  |cons u us=>
   simp only[O2]at hv
   split at hv
   ·rename_i x y h1 h2
    simp only[oI]at hv
    subst hv
    exact⟨Lp hn h.1 h1,FX hn h.2 h2⟩
   ·cases hv
theorem Hs{ρ:List (Nat×Nat)}: ∀{vs vs':List S1},O2 ρ vs=some vs'→vs'.length=vs.length
 | [],vs',h=>by simp only[O2,oI]at h;subst h;rfl
 |v::r,vs',h=>by
  simp only[O2]at h
  split at h
  ·rename_i x y h1 h2
   simp only[oI]at h
   subst h
   rw[List.length_cons,List.length_cons,Hs h2]
  ·cases h
theorem O3{Γ:Nat→TK}{cr:List (Nat×CR)}{d:Option Nat}{vc:List Prop}{v:SV}(h:Ln P ty Γ cr st d o.op=some (vc,st',v))(g:Good ty zb st a.tmps w env)(hB:zb.w.heap.size≤w.heap.size)(hA:B9 zb)(hN:A3 w)(hv: ∀q,q∈vc→q):
  (∀k,v.mentions k=false)∧o.wp P a w (fun a' w'=> ∃u env',a'=a.put o.dst u∧Kept zb w w'∧Good ty zb st' a.tmps w' env'∧st'.n=st.n∧lT w' st'.hp env' a.tmps v u) Q:=by
 generalize dL:o.op=op at h
 cases op with
 |call c=>
  obtain⟨callee,xs,ts⟩:=c
  cases callee with
  |value x=>
   simp only[Ln]at h
   split at h
   case h_2=>cases h
   rename_i _ ca cb cc os _ rs _ _
   split at h
   case h_2=>cases h
   rename_i ρ0 ρ1 ns _ _ _
   split at h
   case h_2=>cases h
   rename_i dM fk f ex as _ Rq XI hargs
   split at h
   case h_2=>cases h
   rename_i B XG yR At
   split at h
   case h_2=>cases h
   rename_i Vj
   simp only[Bool.and_eq_true]at Vj
   obtain⟨⟨⟨⟨⟨⟨c1,c2⟩,c3⟩,c4⟩,c5⟩,c6⟩,c7⟩:=Vj
   simp only[oI,pI,cO]at h
   obtain⟨rfl,rfl,rfl⟩:=h
   have hS:iz ty P f fk (as++ex) dM rs:=hv _ (List.mem_cons_self ..)
   have XJ: ∀q,q∈FT (O1 st xs.toList ρ0) dM→q:=fun q hq=>hv q (List.mem_cons_of_mem _ hq)
   have Lr:=iw c1
   rw[List.map_append]at Lr
   have Vk:=(List.nodup_append.1 Lr).1
   have L:s9 st env ρ0 fk:=s9.of Rq Vk (iw c2)
   refine⟨fun k=>by split<;>rfl,?_⟩
   have O4: ∀b,b∈s7 fk (s8 env ρ0)→ ∃m x,m∈ρ0.map Prod.snd∧look st.hp m=some x∧b∈(env m).fp:=by
    intro b hb
    obtain⟨e,he,Rm⟩:=List.mem_flatMap.1 hb
    have XK:(fk.map Prod.fst).Nodup:=by rw[uH Rq];exact Vk
    obtain⟨m,x,p1,p2,_⟩:=L.back e.1 e.2 (dJ XK he)
    rw[L.en p1]at Rm
    exact⟨m,x,List.mem_map.2 ⟨_,p1,rfl⟩,p2,Rm⟩
   have XL: ∀b,b∈s7 fk (s8 env ρ0)→b∈zb.L∨zb.w.heap.size≤b:=by
    intro b hb
    obtain⟨m,x,_,p2,p3⟩:=O4 b hb
    exact g.dom m x p2 b p3
   obtain⟨us,hrun,hex⟩:=FW (P:=P) g L dL XI hS.1
   unfold Oper.wp
   rw[hrun]
   simp only[Oper.upon]
   refine(hS.2 w (s8 env ρ0) _ hN (fun b h0 hb=>hA.free (XL b hb) h0) (IZ g L) (bg.app (D5 g L hargs) hex)).mono ?_
   rintro e w' ⟨jV,u,rfl,hK,⟨Z4,Z5⟩,eK,AE,hres⟩
   have Vl: ∀n m,(n,m)∈ρ0→look (ρ0++ρ1) n=some m:=fun n m hm=>dJ (by rw[List.map_append];exact Lr) (List.mem_append_left _ hm)
   have SP:=p7 c3
   have Vm:=p7 c4
   have XM: ∀{n m n':Nat} {o1 o2:Obj},(n,m,o1)∈B→(n',m,o2)∈B→n=n':=by
    intro n m n' o1 o2 h1 h2
    have: ∀{B:List (Nat×Nat×Obj)},((xp B).map Prod.fst).Nodup→(n,m,o1)∈B→(n',m,o2)∈B→n=n':=by
     intro B
     induction B with
     |nil=>intro _ h;cases h
     |cons x r ih=>
      intro hnd h1 h2
      obtain⟨q1,q2⟩:=List.nodup_cons.1 (show((x.2.1)::(xp r).map Prod.fst).Nodup from hnd)
      have hin: ∀{k:Nat} {o:Obj},(k,m,o)∈r→m∈(xp r).map Prod.fst:=fun h=>List.mem_map.2 ⟨(m,_),List.mem_map.2 ⟨_,h,rfl⟩,rfl⟩
      rcases List.mem_cons.1 h1 with e1|e1<;>rcases List.mem_cons.1 h2 with e2|e2
      ·rw[←e1]at e2;simp only[pI]at e2;exact e2.1.symm
      ·rw[←e1]at q1;exact absurd (hin e2) q1
      ·rw[←e2]at q1;exact absurd (hin e1) q1
      ·exact ih q2 e1 e2
    exact this Vm h1 h2
   have Vn: ∀{n m:Nat} {o':Obj},(n,m,o')∈B→look (xp B) m=some o'∧AG B m=some n:=by
    intro n m o' hm
    have h1:look (xp B) m=some o':=dJ Vm (List.mem_map.2 ⟨_,hm,rfl⟩)
    obtain⟨n',h2,h3⟩:=jJ h1
    rw[XM hm h2]
    exact⟨h1,h3⟩
   let env':Env:=fun m=>match AG B m with|some n=>jV n|none=>env m
   have D6: ∀{n m:Nat} {o':Obj},(n,m,o')∈B→env' m=jV n:=by
    intro n m o' hm
    show(match AG B m with|some n=>jV n|none=>env m)=jV n
    rw[(Vn hm).2]
   have Ht: ∀{m:Nat},look (xp B) m=none→env' m=env m:=by
    intro m hm
    show(match AG B m with|some n=>jV n|none=>env m)=env m
    rw[Bk hm]
   have hn: ∀n m,look (ρ0++ρ1) n=some m→ ∀o,look dM n=some o→(∃o',look (xp B) m=some o'∧o.toA (O1 st xs.toList ρ0) (ρ0++ρ1)=some o')∧env' m=jV n:=by
    intro n m hm o hl
    obtain⟨m',o',q1,q2,q3⟩:=Bl yR n o (dg hl)
    rw[hm]at q2
    simp only[oI]at q2
    subst q2
    exact⟨⟨o',(Vn q1).1,q3⟩,D6 q1⟩
   have hfr:=Bn c5
   have hlk: ∀m o,look (xp B++yQ (ρ0.map Prod.snd) ((ρ0.filter fun e=> !fu e.1).map Prod.snd) st.hp) m=some o→(∃n o1,look (xp B) m=some o∧look dM n=some o1∧o1.toA (O1 st xs.toList ρ0) (ρ0++ρ1)=some o∧env' m=jV n∧(fu m=true→fu n=true)∧(soft n=true→soft m=true))∨(look (xp B) m=none∧m∉ρ0.map Prod.snd∧ ∃x,look st.hp m=some x∧o=x.bf ((ρ0.filter fun e=> !fu e.1).map Prod.snd) (ρ0.map Prod.snd)∧env' m=env m):=by
    intro m o hm
    cases hq:look (xp B) m with
    |some o2=>
     rw[bt hq]at hm
     simp only[oI]at hm
     subst hm
     obtain⟨n,h1,_⟩:=jJ hq
     obtain⟨o1,p1,p2,p3,p4,p5⟩:=iC yR n m _ h1
     exact Or.inl ⟨n,o1,rfl,dJ SP p1,p3,D6 h1,p4,p5⟩
    |none=>
     rw[aN hq,mU]at hm
     split at hm
     ·cases hm
     ·rename_i hnk
      cases hx:look st.hp m with
      |none=>rw[hx]at hm;cases hm
      |some x=>
       rw[hx]at hm
       simp only[Option.map_some,oI]at hm
       exact Or.inr ⟨rfl,hnk,x,rfl,hm.symm,Ht hq⟩
   have hold: ∀m x,m∉ρ0.map Prod.snd→look st.hp m=some x→look (xp B) m=none:=by
    intro m x hnk hx
    cases hq:look (xp B) m with
    |none=>rfl
    |some o2=>
     have:=hfr m o2 hq
     rw[mU,if_neg hnk,hx]at this
     cases this
   have hst: ∀m x,m∉ρ0.map Prod.snd→look st.hp m=some x→ ∀b,b∈(env m).fp→w'.heap[b]? =w.heap[b]? :=by
    intro m x hnk hx b hb
    refine hK.block b ((g.obj m x hx).sy b hb) fun hL=> ?_
    obtain⟨m',x',p1,p2,p3⟩:=O4 b hL
    exact g.fU m m' x x' (fun e=>hnk (e▸p1)) hx p2 b hb p3
   have hnew: ∀{m n:Nat} {o1:Obj},look dM n=some o1→ ∀b,b∈(jV n).fp→b<w.heap.size→ ∃m' x',m'∈ρ0.map Prod.snd∧look st.hp m'=some x'∧b∈(env m').fp:=by
    intro m n o1 hl b hb hlt
    rcases eK n o1 hl b hb with h|h
    ·exact O4 b h
    ·omega
   have s:qC ((ρ0.filter fun e=> !fu e.1).map Prod.snd) (ρ0.map Prod.snd) w st.hp env w' (xp B++yQ (ρ0.map Prod.snd) ((ρ0.filter fun e=> !fu e.1).map Prod.snd) st.hp) env':=by
    refine⟨fun b hb hno=>hK.block b hb fun hL=> ?_,?_,?_,?_⟩
    ·obtain⟨m,x,_,p2,p3⟩:=O4 b hL
     exact hno ⟨m,x,p2,p3⟩
    ·rintro b hb ⟨m,o',h1,h2⟩
     rcases hlk m o' h1 with⟨n,o1,_,q2,_,q4,_⟩| ⟨_,_,x,q3,_,q5⟩
     ·rw[q4]at h2
      obtain⟨m',x',_,p2,p3⟩:=hnew (m:=m) q2 b h2 hb
      exact⟨m',x',p2,p3⟩
     ·rw[q5]at h2
      exact⟨m,x,q3,h2⟩
    ·intro m o' hks h1
     by_cases hkv:m∈ρ0.map Prod.snd
     ·obtain⟨e,he,rfl⟩:=List.mem_map.1 hkv
      have Y3:fu e.1=true:=by
       cases hp:fu e.1 with
       |true=>rfl
       |false=>exact absurd (List.mem_map.2 ⟨e,List.mem_filter.2 ⟨he,by simp[hp]⟩,rfl⟩) hks
      have wT:=List.all_eq_true.1 c6 e he
      rw[Y3]at wT
      simp only[Bool.not_true,Bool.false_or,Bool.and_eq_true]at wT
      obtain⟨x,p1,p2⟩:=L.obj e.1 e.2 he
      rw[h1]at p1
      simp only[oI]at p1
      subst p1
      rw[p2]at wT
      cases XN:look dM e.1 with
      |none=>rw[XN]at wT;simp[yP]at wT
      |some o1=>
       rw[XN]at wT
       obtain⟨⟨o2,q1,q2⟩,q3⟩:=hn e.1 e.2 (Vl e.1 e.2 he) o1 XN
       refine⟨o2,bt q1,?_,by rw[q3,(AE e.1 Y3).1,L.en he]⟩
       cases o' with
       |arr t l=>simp[Obj.toF,yP]at wT
       |dY t l s=>cases s<;>simp[Obj.toF,yP]at wT
       |box c=>
        cases o1 with
        |arr t l=>simp[yP]at wT
        |dY t l s=>simp[yP]at wT
        |box c1=>
         simp only[Obj.toA]at q2
         split at q2
         ·simp only[oI]at q2;subst q2;trivial
         ·cases q2
     ·have hno:=hold m o' hkv h1
      refine⟨o'.bf _ _,by rw[aN hno,mU,if_neg hkv,h1];rfl,by cases o'<;>simp[Obj.like,Obj.bf],by rw[Ht hno]⟩
    ·rintro m t' l' ⟨_,hkv⟩ h1
     have hno:=hold m _ hkv h1
     refine⟨by rw[aN hno,mU,if_neg hkv,h1];rfl,Ht hno,hst m _ hkv h1⟩
   have Vo:=g.fA s (fun m o' hm=> ?_) (fun m m' o1 o2 hne h1 h2 b hb hb'=> ?_) (fun m o' hm b hb=> ?_) (fun m hm=> ?_)
   ·refine⟨u,env',rfl,Kept.SF hK hB XL,Vo,by first|trivial|rfl,?_⟩
    have h1: ∀{hp:Hp},(∀m o,look (xp B) m=some o→look hp m=some o)→(∀n m,look (ρ0++ρ1) n=some m→ ∀o,look dM n=some o→(∃o',look hp m=some o'∧o.toA (O1 st xs.toList ρ0) (ρ0++ρ1)=some o')∧env' m=jV n):=by
     intro hp hh n m hm o hl
     obtain⟨⟨o',p1,p2⟩,p3⟩:=hn n m hm o hl
     exact⟨⟨o',hh m o' p1,p2⟩,p3⟩
    have h2:=h1 (hp:=xp B++yQ (ρ0.map Prod.snd) ((ρ0.filter fun e=> !fu e.1).map Prod.snd) st.hp) (fun m o hm=>bt hm)
    have hlen:=Hs At
    match rs,XG,At,hres,hlen with
    | [r],[ra],At,hres,_=>
      simp only[O2]at At
      split at At
      ·rename_i x y e1 e2
       simp only[oI,List.cons.injEq]at e2 At
       obtain⟨rfl,_⟩:=At
       exact Lp h2 hres e1
      ·cases At
    | [],[],At,⟨us',hu,hall⟩,_=>exact⟨us',hu,FX h2 hall At⟩
    |r1::r2::r,x1::x2::xr,At,⟨us',hu,hall⟩,_=>exact⟨us',hu,FX h2 hall At⟩
    | [],_::_,_,_,hl=>cases hl
    | [_],[],_,_,hl=>cases hl
    | [_],_::_::_,_,_,hl=>simp at hl
    |_::_::_,[],_,_,hl=>simp at hl
    |_::_::_,[_],_,_,hl=>simp at hl
   ·rcases hlk m o' hm with⟨n,o1,q1,q2,q3,q4,_,q6⟩| ⟨q1,q2,x,q3,rfl,q5⟩
    ·rw[q4]
     have hro:=Z4 n o1 q2
     cases o1 with
     |arr t l=>
      simp only[Obj.toA,oI]at q3
      subst q3
      exact Hq q6 hro
     |dY t l s=>cases q3
     |box c=>
      simp only[Obj.toA]at q3
      split at q3
      ·rename_i c' AS
       simp only[oI]at q3
       subst q3
       obtain⟨b,cs,e,h1,h2,h3⟩:=hro
       refine⟨b,cs,e,h1,h2,toAs_ok (Rp:=O1 st xs.toList ρ0) (dM:=dM) (jV:=jV) ?_ (fun y hy=> ?_) (fun y hy q hq=>XJ q (D3 (dg q2) q (D2 hy q hq))) h3 AS⟩
       ·intro n m hm o hl
        obtain⟨⟨o',p1,p2⟩,p3⟩:=hn n m hm o hl
        exact⟨⟨o',bt p1,p2⟩,p3⟩
       ·obtain⟨u0,t0,l0,e0,h0⟩:=SO g hy
        subst e0
        exact⟨u0,t0,l0,rfl,RA.fA s h0⟩
      ·cases q3
    ·rw[q5]
     exact(g.obj m x q3).fA s (hst m x q2 q3)
   ·rcases hlk m o1 h1 with⟨n,p1,q1,q2,q3,q4,_⟩| ⟨q1,q2,x,q3,_,q5⟩<;>rcases hlk m' o2 h2 with⟨n',p1',Y4,XO,WS,XP,_⟩| ⟨Y4,XO,x',WS,_,Y5⟩
    ·rw[q4]at hb
     rw[XP]at hb'
     obtain⟨k1,k2,k3⟩:=jJ q1
     obtain⟨Y6,WT,Y7⟩:=jJ Y4
     have e1:=D6 k2
     have e2:=D6 WT
     have XQ:k1≠Y6:=by
      rintro rfl
      obtain⟨_,_,z1,_⟩:=iC yR _ _ _ k2
      obtain⟨_,_,z2,_⟩:=iC yR _ _ _ WT
      rw[z1]at z2
      simp only[oI]at z2
      exact hne z2
     rw[q4]at e1
     rw[XP]at e2
     rw[e1]at hb
     rw[e2]at hb'
     obtain⟨y1,z1,_⟩:=iC yR _ _ _ k2
     obtain⟨y2,z2,_⟩:=iC yR _ _ _ WT
     exact Z5 k1 Y6 y1 y2 XQ (dJ SP z1) (dJ SP z2) b hb hb'
    ·rw[q4]at hb
     rw[Y5]at hb'
     have hlt:=(g.obj m' x' WS).sy b hb'
     obtain⟨k,y,p1,p2,p3⟩:=hnew (m:=m) q2 b hb hlt
     exact g.fU m' k x' y (fun e=>XO (e▸p1)) WS p2 b hb' p3
    ·rw[q5]at hb
     rw[XP]at hb'
     have hlt:=(g.obj m x q3).sy b hb
     obtain⟨k,y,p1,p2,p3⟩:=hnew (m:=m') XO b hb' hlt
     exact g.fU m k x y (fun e=>q2 (e▸p1)) q3 p2 b hb p3
    ·rw[q5]at hb
     rw[Y5]at hb'
     exact g.fU m m' x x' hne q3 WS b hb hb'
   ·rcases hlk m o' hm with⟨n,p1,q1,q2,q3,q4,_⟩| ⟨q1,q2,x,q3,_,q5⟩
    ·rw[q4]at hb
     rcases eK n p1 q2 b hb with h|h
     ·exact XL b h
     ·exact Or.inr (by omega)
    ·rw[q5]at hb
     exact g.dom m x q3 b hb
   ·cases hq:look (xp B) m with
    |none=>rw[Ht hq];exact g.pins m hm
    |some o2=>
     obtain⟨n,h1,_⟩:=jJ hq
     obtain⟨_,_,p2,_,p4,_⟩:=iC yR n m _ h1
     have Sz:=p4 hm
     have hin:(n,m)∈ρ0:=by
      rcases List.mem_append.1 (dg p2)with h|h
      ·exact h
      ·have:=List.all_eq_true.1 c7 _ h
       simp only[hm]at this;cases this
     rw[D6 h1]
     obtain⟨k1,k2⟩:=AE n Sz
     rw[L.en hin]at k1 k2
     obtain⟨j1,j2⟩:=g.pins m hm
     exact⟨k1.trans j1,fun b hb=>j2 b (k2 b hb)⟩
  |_=>simp[Ln]at h
 |_=>simp[Ln]at h
end
end
end Go.Proofs.YtcnomgcfijjkmaaGreat.G
