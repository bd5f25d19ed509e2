/-
  append to a slice whose elements' memory is others'.
-/
import Derived.Laws.OwnMore
import Derived.Test.YtkcegdacbddipaaGreatP6
open Array renaming ext'→DH,foldl_toList→BR,getD_eq_getD_getElem?→aa,getElem?_eq_some_iff→dj,getElem?_setIfInBounds_ne→fL,mk→e9,range→Qs,toList_map→mQ,toList_zipIdx→AN
open Bool renaming and_eq_true→ak,false_or→BQ,not_eq_true'→bq,or_eq_false_iff→gB
open Go.Addr renaming add_mid→eT
open Go.Addr.mk renaming injEq→fA
open Go.Builtin renaming append_→dM,firstCells→ld,lenOf→jF
open Go.Deferred renaming ofValue→qJ
open Go.Instr renaming box→XG,buildSlice→FO,fill→rM,slice→sy,sliceAt→iP,sliceBound→kP,sliceBounds→j7,storeAt→vP,sureAddr→kU
open Go.MapKept renaming heap_alloc→NM,heap_set→mY
open Go.Oper renaming upon→Hq,wp→iE,wp_mono→qm
open Go.Region renaming wanted→gU
open Go.Result renaming andThen_ok→bP
open Go.RowKit.Below renaming refl→iY
open Go.Sem renaming run_bind→cI,run_pure→cQ
open Go.Value renaming cells→eD,oneCell'→eE
open Go.Value.slice renaming injEq→cP
open Go.World renaming rangeAt_setCells_apart→dO
open List renaming all_eq_true→bw,any_append→xT,any_eq_false→bR,any_eq_true→eZ,append_assoc→ct,append_nil→cS,drop_append→mN,drop_drop→mG,drop_eq_getElem_cons→eG,drop_eq_nil_of_le→fY,drop_sublist→uN,drop_zero→eS,eq_nil_of_length_eq_zero→bN,ext_getElem?→uM,filter_cons_of_neg→ey,filter_cons_of_pos→dx,flatMap_cons→dm,flatMap_map→FP,flatten_cons→bQ,flatten_nil→kK,getD_eq_getElem?_getD→an,getElem?_append_left→bT,getElem?_append_right→bU,getElem?_drop→cN,getElem?_eq_getElem→au,getElem?_eq_none→lC,getElem?_eq_some_iff→aI,getElem?_map→dR,getElem?_of_mem→ff,getElem?_range→su,getElem?_replicate→iO,getElem?_set_ne→iI,getElem?_set_self→fm,getElem?_take→cH,length_append→aY,length_cons→b9,length_drop→bW,length_map→bg,length_set→bA,length_take→bV,map_append→eu,map_congr_left→fD,map_cons→cA,map_id→o7,map_toArray→kJ,mem_append→aL,mem_append_left→aN,mem_append_right→aH,mem_cons→bh,mem_cons_of_mem→aK,mem_flatten→mM,mem_map→cq,mem_of_getElem?→dL,mem_singleton→aR,nil_append→eM,nil_sublist→wM,nodup_append→bf,nodup_cons→cu,nodup_nil→uo,pairwise_flatten→hY,pairwise_iff_getElem→mJ,range→bD,replicate→eF,size_toArray→iV,sublist_append_right→mI,sublist_cons_self→oS,sublist_flatten_of_mem→sB,take_append→FN,take_append_drop→lB,take_of_length_le→aB,take_sublist→DJ,take_zero→mH
open List.Sublist renaming append→AO,cons_cons→w9,refl→j6
open List.cons renaming injEq→cC
open Nat renaming add_assoc→fu,add_mul→cJ,add_zero→jE,beq→aU,ble→mO,eq_of_beq_eq_true→ay,le_mul_of_pos_right→vN,le_of_ble_eq_true→bX,le_refl→aZ,lt_or_ge→nu,mul_comm→nk,mul_le_mul_right→bK,mul_one→HS,one_mul→AM,zero_add→dZ,zero_le→aD,zero_mul→E8
open Option renaming map_none→sA,map_some→dI
open Or renaming inl→bI,inr→bn
open Prod renaming fst→iC,snd→fW
namespace Go.Proofs.YtkcegdacbddipaaGreat.G
set_option linter.all false
open Go.RowKit L D
section
variable{ty:Tag→Nat}
theorem tM: ∀(vs:List Value) (cs:List Value) (o:Nat),o+vs.length≤cs.length→splice (e9 cs) o vs=e9 (cs.take o++(vs++cs.drop (o+vs.length)))
 | [],cs,o,h=>by simp[splice,lB]
 |v::r,cs,o,h=>by
  simp only[b9]at h
  have e0:cs.set o v=cs.take o++v::cs.drop (o+1):=by
   rw[List.set_eq_take_append_cons_drop,if_pos (by omega)]
  have hl:(cs.take o).length=o:=by rw[bV];omega
  have t1:(cs.take o++v::cs.drop (o+1)).take (o+1)=cs.take o++ [v]:=by
   rw[FN,hl,show o+1-o=1 by omega,aB (by rw[hl];omega)];rfl
  have t2:(cs.take o++v::cs.drop (o+1)).drop (o+1+r.length)=cs.drop (o+1+r.length):=by
   rw[mN,hl,show o+1+r.length-o=r.length+1 by omega,List.drop_succ_cons,mG,fY (as:=cs.take o) (by rw[hl];omega),eM]
  rw[splice,List.setIfInBounds_toArray,tM r _ _ (by simp;omega),e0,t1,t2,ct,b9,show o+(r.length+1)=o+1+r.length by omega]
  rfl
theorem LD{R:V→Value→Prop}{c c' vs:List V}{cs us:List Value}{off:Nat}(h:cT R c cs)(hv:cT R vs us)(hs:JK c off vs=some c'):off+us.length≤cs.length∧cT R c' (cs.take off++(us++cs.drop (off+us.length))):=by
 unfold JK at hs
 split at hs
 ·rename_i hb
  have hb:=bX hb
  simp only[oI]at hs
  subst hs
  have h1:=h.len
  have h2:=hv.len
  refine⟨by omega,cT.app (h.take off) (cT.app hv ?_)⟩
  rw[h2];exact h.drop _
 ·cases hs
theorem vM(off:Nat): ∀(l:List Value) (n:Nat) (c:Array Value),(l.zipIdx n).foldl (fun cs (p:Value×Nat)=>cs.setIfInBounds (off+p.2) p.1) c=splice c (off+n) l
 | [],_,_=>rfl
 |v::r,n,c=>by rw[List.zipIdx_cons,List.foldl_cons,vM off r (n+1)];rfl
def zW:Nat→List Value→List (Nat×Value)
 |_,[]=> []
 |i,v::r=>(i,v)::zW (i+1) r
theorem Hr{k:Nat}: ∀(ps:List Value) (i:Nat) (cells:List Value),(∀v,v∈ps→v.cells.size=k)→cells.length=(i+ps.length)*k→
  rM (fun i=>some (i*k,k)) (e9 cells) (zW i ps)=some (e9 (cells.take (i*k)++ps.flatMap fun v=>v.cells.toList))
 | [],i,cells,_,h=>by
   rw[zW,rM,aB (by rw[h];simp)];simp
 |v::r,i,cells,hk,h=>by
  have hv:=hk v (by simp)
  have hlen:i*k+k≤cells.length:=by
   rw[h,b9,show i+(r.length+1)=(i+1)+r.length by omega,cJ (i+1),cJ i 1,AM];omega
  rw[zW,rM]
  simp only[hv,ne_eq,not_true_eq_false,decide_false,BQ,iV]
  rw[if_neg (by simp;omega)]
  have Xz:(v.cells.zipIdx.foldl (fun cs (x:Value×Nat)=>cs.setIfInBounds (i*k+x.2) x.1) (e9 cells))=splice (e9 cells) (i*k) v.cells.toList:=by
   rw[←BR,AN,vM,jE]
  have hsz:v.cells.toList.length=k:=by simpa using hv
  have:=tM v.cells.toList cells (i*k) (by omega)
  show rM _ (v.cells.zipIdx.foldl (fun cs (x:Value×Nat)=>cs.setIfInBounds (i*k+x.2) x.1) (e9 cells)) _=_
  rw[Xz,this,Hr r (i+1) _ (fun u hu=>hk u (by simp[hu])) (by
   simp only[aY,bV,bW,hsz]
   rw[h,b9]at*
   have:(i+1+r.length)*k=(i+(r.length+1))*k:=by congr 1;omega
   rw[this]
   omega)]
  have h1:(i+1)*k=i*k+k:=by rw[cJ,AM]
  have t:((cells.take (i*k))++(v.cells.toList++cells.drop (i*k+v.cells.toList.length))).take ((i+1)*k)=cells.take (i*k)++v.cells.toList:=by
   rw[←ct]
   exact List.take_left' (by rw[aY,bV,hsz,h1];omega)
  rw[t,dm,ct]
theorem xR{k:Nat}: ∀{ps:List (List Value)} {i:Nat} {c:List Value},(∀v,v∈ps→v.length=k)→ps[i]? =some c→(((ps.flatMap id).drop (i*k)).take k)=c
 |p::r,0,c,hk,h=>by
  simp at h
  subst h
  have:=hk p (by simp)
  rw[dm,E8,eS,FN]
  simp[←this]
 |p::r,i+1,c,hk,h=>by
  have hp:=hk p (by simp)
  rw[dm,mN,show(id p).length=k from hp,fY (by rw[show(id p).length=k from hp,cJ];omega),eM,show(i+1)*k-k=i*k by rw[cJ];omega]
  exact xR (fun v hv=>hk v (by simp[hv])) (by simpa using h)
theorem xS{k:Nat}: ∀{ps:List (List Value)},(∀v,v∈ps→v.length=k)→(ps.flatMap id).length=ps.length*k
 | [],_=>by simp
 |p::r,hh=>by
  rw[dm,aY,xS fun v hv=>hh v (by simp[hv]),show(id p).length=k from hh p (by simp),b9,cJ];omega
section
variable{P:Program}{a:Act}{w:World}{o:Oper}
theorem zw{t len:Nat}{parts:Array (Nat×Operand)}(ho:o.op= .buildSlice t len parts){g:Tag}(hu:P.underlying t=some (.slice (ty g)))(wL:El P ty g)(hbig:len*kk g≤16777216)(hlen:parts.toList.length=len){lo:Nat}(hlo:lo≤w.heap.size)
  {xs:List (T g)}{cB:List (List Nat)}(q1:(parts.toList.map fun p=>(p.1,a.eval p.2))=zW 0 (parts.toList.map fun p=>a.eval p.2))(q2:xs.length=parts.toList.length)(q3:cB.length=xs.length)
  (q4: ∀(i:Nat) (x:T g) (f:List Nat),xs[i]? =some x→cB[i]? =some f→ ∃p:Nat×Operand,parts.toList[i]? =some p∧rd g w (a.eval p.2).cells.toList x f)(q5:Own lo w cB.flatten):
  ∃w',(execOp a.eval o).run P w= .ok (.value (.slice (some ⟨w.heap.size,0,none⟩) len len)) w'∧Below w.heap.size w w'∧mo (kk g) (rd g) lo (ty g) w' (.slice (some ⟨w.heap.size,0,none⟩) len len) xs (w.heap.size::cB.flatten):=by
 have hkp:=jt g
 have xA: ∀v,v∈(parts.toList.map fun p=>a.eval p.2)→v.cells.size=kk g:=by
  intro v hv
  obtain⟨i,hi⟩:=ff hv
  have hil:i<xs.length:=by have:=(aI.1 hi).1;simp at this;rw[q2];simpa using this
  have hfl:i<cB.length:=by omega
  obtain⟨p,h1,h2⟩:=q4 i xs[i] cB[i] (au hil) (au hfl)
  rw[dR,h1]at hi
  simp at hi
  subst hi
  simpa using(gh g).len h2
 cases hq:P.info? (ty g)with
 |none=>simp[El,hq]at wL
 |some inf=>
  simp[El,hq]at wL
  obtain⟨z1,z2,z3⟩:=wL
  let zs:List Value:=(bD (len*kk g)).map fun j=>(if len*kk g=0 then #[]else(iX g).cells)[j % (if len*kk g=0 then #[]else(iX g).cells).size]!
  have hzl:zs.length=len*kk g:=by simp[zs]
  have hf:=Hr (k:=kk g) (parts.toList.map fun p=>a.eval p.2) 0 zs xA (by rw[hzl,bg,hlen,dZ])
  rw[E8,mH,eM]at hf
  have hrun:(execOp a.eval o).run P w= .ok (.value (.slice (some ⟨w.heap.size,0,none⟩) len len)) (w.alloc (.cells (e9 ((parts.toList.map fun p=>a.eval p.2).flatMap fun v=>v.cells.toList)) (ty g) (0,0))):=by
   unfold execOp
   have sr:(parts.map fun(p:Nat×Operand)=>(p.1,a.eval p.2)).toList=zW 0 (parts.toList.map fun p=>a.eval p.2):=by
    rw[mQ];exact q1
   have hzs:((Qs (len*kk g)).map fun j=>(if len*kk g=0 then #[]else(iX g).cells)[j % (if len*kk g=0 then #[]else(iX g).cells).size]!)=e9 zs:=by
    simp only[zs]
    apply DH
    simp
   have hze:(sizeOf (ty g)).run P w= .ok (kk g) w:=by simp[sizeOf,typeInfo,hq,z2]
   simp only[ho,FO,cI,run_underlying hu,bP,hze]
   rw[if_neg (by omega)]
   by_cases hz0:len*kk g=0
   ·simp only[if_pos hz0]at hzs ⊢
    simp only[cI,cQ,bP]
    rw[hzs,sr,hf]
    simp[newRow]
   ·have hzv:(zeroValue (ty g)).run P w= .ok (iX g) w:=by simp[zeroValue,typeInfo,hq,z1]
    simp only[if_neg hz0]at hzs ⊢
    simp only[cI,hzv,cQ,bP]
    rw[hzs,sr,hf]
    simp[newRow]
  have hps:((parts.toList.map fun p=>a.eval p.2).flatMap fun v=>v.cells.toList)=((parts.toList.map fun p=>(a.eval p.2).cells.toList).flatMap id):=by
   simp[FP]
  have XA: ∀v,v∈(parts.toList.map fun p=>(a.eval p.2).cells.toList)→v.length=kk g:=by
   intro v hv
   obtain⟨p,hp,rfl⟩:=cq.1 hv
   simpa using xA _ (cq.2 ⟨p,hp,rfl⟩)
  have Km:=xS XA
  rw[bg,hlen]at Km
  have hb0:Below w.heap.size w (w.alloc (.cells (e9 ((parts.toList.map fun p=>a.eval p.2).flatMap fun v=>v.cells.toList)) (ty g) (0,0))):=(iY _ _).alloc (aZ _) _
  have alr:=q5.lt
  refine⟨_,hrun,hb0,((parts.toList.map fun p=>a.eval p.2).flatMap fun v=>v.cells.toList),cB,⟨?_,bn ⟨w.heap.size,0,len,e9 ((parts.toList.map fun p=>a.eval p.2).flatMap fun v=>v.cells.toList),?_,hlo,?_,?_,?_,?_,?_⟩⟩,q3,?_,rfl,?_⟩
  ·rw[hps,Km,q2,hlen]
  ·rw[q2,hlen]
  ·exact uH rfl
  ·rw[q2,hlen];exact aZ _
  ·unfold maxLen;have:=vN len hkp;omega
  ·rw[iV,hps,Km];omega
  ·rw[eS,aB];simp only[hps,Km,q2,hlen];exact aZ _
  ·intro i x f hx Sq
   obtain⟨p,h1,h2⟩:=q4 i x f hx Sq
   have hkey:(((parts.toList.map fun p=>a.eval p.2).flatMap fun v=>v.cells.toList).drop (i*kk g)).take (kk g)=(a.eval p.2).cells.toList:=by
    rw[hps];exact xR XA (by rw[dR,h1];rfl)
   rw[hkey]
   exact(gh g).below h2 hb0
  ·refine⟨cu.2 ⟨fun hm=>by have:=alr _ hm;omega,q5.nodup⟩,fun b hb=> ?_,fun b hb=> ?_⟩
   ·rcases bh.1 hb with rfl|hb
    ·exact hlo
    ·exact q5.ge b hb
   ·rcases bh.1 hb with rfl|hb
    ·exact⟨_,_,uH rfl⟩
    ·exact(q5.below hb0).kind b hb
theorem XB(z:Array Value)(n k i:Nat)(hk:z.size=k)(hi:i<n)(hk0:0<k):(((madeCells z (n*k)).toList.drop (i*k)).take k)=z.toList:=by
 apply uM
 intro j
 have h5:i*k+k≤n*k:=by
  have:=bK k (show i+1≤n by omega)
  rw[cJ]at this;omega
 by_cases hj:j<k
 ·rw[cH,if_pos hj,cN]
  simp only[madeCells,mQ,Array.toList_range,dR]
  rw[su (by omega),hk]
  simp only[dI]
  have hm:(i*k+j)% k=j:=by rw[nk,Nat.mul_add_mod];exact Nat.mod_eq_of_lt hj
  rw[hm]
  have:j<z.size:=by omega
  simp[this]
 ·rw[cH,if_neg hj]
  rw[lC (by simp;omega)]
theorem XD{t:Nat}{x y:Operand}(ho:o.op= .makeSlice t x y){g:Tag}(hu:P.underlying t=some (.slice (ty g)))(wL:El P ty g){k1 k2:IntKind}{n:Int}(hx:a.eval x= .int k1 n)(hy:a.eval y= .int k2 n)(h0:0≤n)(hb:n.toNat*gb g≤140737488355328)(hm:n.toNat≤maxLen):
  ∃w' u fp,(execOp a.eval o).run P w= .ok (.value u) w'∧Below w.heap.size w w'∧mo (kk g) (rd g) w.heap.size (ty g) w' u (eF n.toNat (aP g)) fp:=by
 cases hq:P.info? (ty g)with
 |none=>simp[El,hq]at wL
 |some inf=>
  simp[El,hq]at wL
  obtain⟨z1,z2,z3⟩:=wL
  obtain⟨w',hr,hrow,hg⟩:=run_make_full (P:=P) w w.heap.size t (ty g) inf (iX g) (kk g) hu hq z1 z2 k1 k2 n.toNat (by rw[z3,nk];omega) hm (aZ _)
  rw[Int.toNat_of_nonneg h0]at hr
  refine⟨w', .slice (some ⟨w.heap.size,0,none⟩) n.toNat n.toNat,[w.heap.size],?_,⟨hg.os,hg.tape,hg.output,hg.size,fun b hb=>hg.block b hb (by simp)⟩,(madeCells (iX g).cells (n.toNat*kk g)).toList,eF n.toNat [],?_,by simp,?_,?_,?_⟩
  ·unfold execOp
   simp only[ho,hx,hy,cI,hr,bP,cQ]
  ·rw[List.length_replicate];exact k9.of hrow
  ·intro i v f hi hf
   rw[iO]at hi hf
   split at hi
   ·rename_i hlt
    rw[if_pos hlt]at hf
    simp only[oI]at hi hf
    subst hi;subst hf
    rw[XB _ _ _ _ (mW g) hlt (jt g)]
    exact abC g
   ·cases hi
  ·simp[Value.ownBlock]
  ·refine⟨by simp,by simp,fun b hb=> ?_⟩
   rcases hrow.2 with⟨h,_⟩| ⟨g',cap,cur,h,_,hh,_⟩
   ·cases h
   ·simp only[cP,oI,fA,and_true]at h
    rw[aR.1 hb,h.1]
    exact⟨_,_,hh⟩
end
end
section
variable{ty:Tag→Nat}
section
variable{P:Program}{zb:eK}{st:St}{a:Act}{w:World}{env:Env}{Q:Exit→Act→World→Prop}{o:Oper}
theorem Hs{hp:Hp}{env:Env}: ∀{z:List Value},(∀v,v∈z→v.oneCell'=true)→cT (RA w hp env) (z.map V.lit) z
 | [],_=>trivial
 |v::r,h=>⟨⟨rfl,h v (by simp)⟩,Hs fun u hu=>h u (by simp[hu])⟩
theorem nq(g:Good ty zb st a.tmps w env){v:V}{u:Value}(h:RA w st.hp env v u)(hv:v≠ .any):u.cells= #[u]:=by
 cases v with
 |any=>exact absurd rfl hv
 |lit x=>obtain⟨rfl,h1⟩:=h;cases u<;>simp_all [eD,eE]
 |sl t l=>obtain⟨fp,⟨oa,cap,rfl,_⟩,_⟩:=h;rfl
 |own n=>
  obtain⟨⟨t,l,hl⟩,rfl⟩:=h
  obtain⟨oa,cap,h,_⟩:=RO.sl (g.obj n _ hl)
  rw[h];rfl
 |ptr n off=>obtain⟨_,b,_,rfl⟩:=h;rfl
 |Gi f n=>obtain⟨_,b,_,rfl⟩:=h;rfl
 |zU k=>obtain⟨oa,cap,rfl,_⟩:=h;rfl
 |raw x=>obtain⟨rfl,h1⟩:=h;cases u<;>simp_all [eD,eE]
 |wJ v t l=>obtain⟨_,fp,⟨oa,cap,rfl,_⟩,_⟩:=h;rfl
 |rZ n i off=>obtain⟨t,l,_,b,o,len,cap,_,rfl⟩:=h;rfl
 |ip t x off=>obtain⟨b,o,cs,fp,rfl,_⟩:=h;rfl
 |vw n p t l=>obtain⟨_,⟨fp,⟨oa,cap,rfl,_⟩,_⟩,_⟩:=h;rfl
 |Jw n t l=>obtain⟨_,b,fp,⟨oa,cap,rfl,_⟩,_⟩:=h;rfl
 |mix n c t l=>obtain⟨_,⟨fp,⟨oa,cap,rfl,_⟩,_⟩,_⟩:=h;rfl
 |zn n=>
  obtain⟨⟨t,l,s,hl⟩,rfl⟩:=h
  rcases RO.Hf (g.obj n _ hl)with⟨_,r,lx,_,h,_⟩| ⟨_,_,hv,_,_,⟨oa,cap,h,_⟩,_⟩| ⟨_,_,_,⟨oa,m,cap,h⟩,_⟩| ⟨_,_,us,hB,_⟩
  ·rw[h];rfl
  ·rw[hv,h];rfl
  ·rw[h];rfl
  ·obtain⟨oa,cap,h,_⟩:=hB.sl
   rw[h];rfl
 |Jv n p t x off=>obtain⟨_,b,o,cs,fp,rfl,_⟩:=h;rfl
theorem abK{op:BinOp}{k k':IntKind}{x y:Int}{vc:List Prop}{v:Value}(h:abD op k k' x y=some (vc,v))(hv: ∀q,q∈vc→q){t:TypeId}{X Y:Operand}:
  (do eqGuard op t X Y (.int k x) (.int k' y);binOp op t (.int k x) (.int k' y):Sem Value).run P w= .ok v w∧v.oneCell'=true:=by
 have gen:(∀(_: ¬(op= .shl∨op= .shr)),(match decEq k k' with|isTrue _=>bop op k x y|isFalse _=>none)=some (vc,v)→(do eqGuard op t X Y (.int k x) (.int k' y);binOp op t (.int k x) (.int k' y):Sem Value).run P w= .ok v w∧v.oneCell'=true):=by
  intro _ h'
  clear h
  split at h'
  ·rename_i hk _
   subst hk
   exact af4 h' hv
  ·cases h'
 cases op with
 |shl=>
  simp only[abD,oI,pI]at h
  obtain⟨rfl,rfl⟩:=h
  have hy: ¬y<0:=by have:0≤y:=hv _ (aR.2 rfl);omega
  refine⟨?_,rfl⟩
  simp[eqGuard,binOp,Op.shift,hy]
 |shr=>
  simp only[abD,oI,pI]at h
  obtain⟨rfl,rfl⟩:=h
  have hy: ¬y<0:=by have:0≤y:=hv _ (aR.2 rfl);omega
  refine⟨?_,rfl⟩
  simp[eqGuard,binOp,Op.shift,hy]
 |_=>exact gen (by simp) h
theorem abM{op:BinOp}{x y:ByteArray}{vc:List Prop}{v:Value}(h:UG op x y=some (vc,v))(hv: ∀q,q∈vc→q){t:TypeId}{X Y:Operand}:
  (do eqGuard op t X Y (.string x) (.string y);binOp op t (.string x) (.string y):Sem Value).run P w= .ok v w∧v.oneCell'=true:=by
 cases op with
 |add=>
  simp only[UG,oI,pI]at h
  obtain⟨rfl,rfl⟩:=h
  have hy:((x.size+y.size:Nat):Int)≤IntKind.i64.max:=hv _ (aR.2 rfl)
  refine⟨?_,rfl⟩
  have hy': ¬((x.size+y.size:Nat):Int)>IntKind.i64.max:=by omega
  simp only[eqGuard,binOp,Op.stringOp,if_neg hy']
  rfl
 |eql=>
  simp only[UG,oI,pI]at h
  obtain⟨rfl,rfl⟩:=h
  exact⟨by simp[eqGuard,binOp,Op.stringOp],rfl⟩
 |neq=>
  simp only[UG,oI,pI]at h
  obtain⟨rfl,rfl⟩:=h
  exact⟨by simp[eqGuard,binOp,Op.stringOp],rfl⟩
 |_=>simp[UG]at h
theorem Ss{v:S1}{u:Value}{f:FuncId}(hr:ju w st.hp env v u)(h:abE v=some f):u= .func (.func f) #[] #[]:=by
 unfold abE at h
 split at h
 ·simp only[oI]at h
  subst h
  exact hr.lit
 ·cases h
theorem UN(l:List UInt8):strOfNums (l.map fun n=>(n.toNat:Int))=sk l:=by
 unfold strOfNums sk
 congr 2
 rw[List.map_map]
 conv=>rhs;rw[←o7 l]
 apply fD
 intro n _
 simp
theorem FQ(ad:Addr)(cap:Nat):(Conv.bytesToString (.slice (some ad) 0 cap)).run P w= .ok (.string (sk [])) w:=by
 have:=run_bytesToString (P:=P) w ad 0 cap [] (by simp[loadCells,loadCellsFrom])
 exact this
theorem tN{a b:List (List Nat)}(h:a.Sublist b):a.flatten.Sublist b.flatten:=by
 induction h with
 |slnil=>exact j6 _
 |cons x _ ih=>rw[bQ];exact ih.trans (mI _ _)
 |cons_cons x _ ih=>rw[bQ,bQ];exact AO (j6 _) ih
theorem DI{t:Nat}{x:Operand}{lo hi:Option Operand}(ho:o.op= .slice t x lo hi none){g:Tag}{e:Nat}(hk:fK P t (.sl g e)){t':Tag}{l:List (T t')}(hkk:kk g=kk t'){fp:List Nat}(hx:Sl (kk t') (rd t') w (a.eval x) l fp){n1 n2:Int}
  (h1:(lo=none∧n1=0)∨ ∃y k,lo=some y∧a.eval y= .int k n1)(h2:(hi=none∧n2=l.length)∨ ∃y k,hi=some y∧a.eval y= .int k n2)(q0:0≤n1)(q1:n1≤n2)(q2:n2≤(l.length:Int)):
  ∃u' jD,(execOp a.eval o).run P w= .ok (.value u') w∧Sl (kk t') (rd t') w u' ((l.take n2.toNat).drop n1.toNat) jD∧jD.Sublist fp:=by
 obtain⟨hu,hs⟩:=hk
 obtain⟨oa,cap,hv,hc,hm,h3⟩:=hx
 cases hq:P.info? e with
 |none=>simp[hq]at hs
 |some inf=>
  have hsz:inf.size=kk g:=by simpa[hq]using hs
  have hcap:n2≤(cap:Int):=by omega
  have hn2:0≤n2:=by omega
  have Wp:max n2 0=n2:=by omega
  have hlen:((l.take n2.toNat).drop n1.toNat).length=n2.toNat-n1.toNat:=by simp;omega
  have hrun:(iP t (.slice oa l.length cap) (lo.map a.eval) (hi.map a.eval) none).run P w= .ok (.slice (if cap=n1.toNat then oa else oa.map (·.add (n1.toNat*kk g))) (n2.toNat-n1.toNat) (cap-n1.toNat)) w:=by
   rcases h1 with⟨rfl,rfl⟩| ⟨y1,k1,rfl,e1⟩<;>rcases h2 with⟨rfl,rfl⟩| ⟨y2,k2,rfl,e2⟩
   all_goals simp[iP,sy,j7,kP,asIntOf,run_underlying hu,sizeOf,typeInfo,hq,hsz, *]
  have hex:(execOp a.eval o).run P w= .ok (.value (.slice (if cap=n1.toNat then oa else oa.map (·.add (n1.toNat*kk g))) (n2.toNat-n1.toNat) (cap-n1.toNat))) w:=by
   unfold execOp
   simp only[ho,hv,sA,cI,hrun,bP,cQ]
  rcases h3 with⟨rfl,rfl,hn⟩| ⟨b,off,cB,rfl,hb,rfl,hE⟩
  ·have e0:n1=0:=by simp at q2;omega
   have e2:n2=0:=by simp at q2;omega
   subst e0;subst e2
   refine⟨_,[],hex,⟨_,_,rfl,by simp,by omega,bI ⟨by simp,rfl,by simp[hn]⟩⟩,wM _⟩
  ·by_cases hcn:cap=n1.toNat
   ·have e0:(l.take n2.toNat).drop n1.toNat= []:=by
     apply bN;omega
    refine⟨_,[],hex,⟨_,_,by rw[hlen],by rw[hlen];omega,by omega,bI ⟨e0,rfl,by omega⟩⟩,wM _⟩
   ·refine⟨_,b::((cB.take n2.toNat).drop n1.toNat).flatten,hex,⟨_,_,by rw[hlen],by rw[hlen];omega,by omega,bn ⟨b,off+n1.toNat*kk t',(cB.take n2.toNat).drop n1.toNat,?_,hb.mono (by rw[fu, ←cJ,Nat.add_sub_cancel' (by omega)];exact aZ _),rfl,?_,?_⟩⟩,?_⟩
    ·rw[if_neg hcn,hkk];simp[eT]
    ·have:=hE.1;simp[this]
    ·intro i x f hx hf
     rw[cN,cH]at hx hf
     split at hx
     ·rename_i hlt
      rw[if_pos hlt]at hf
      obtain⟨cs,k1,k2⟩:=hE.2 _ x f hx hf
      exact⟨cs,by rw[fu, ←cJ];exact k1,k2⟩
     ·cases hx
    ·exact w9 _ (tN ((uN _ _).trans (DJ _ _)))
theorem Sv{t:Nat}{x:Operand}{lo hi:Option Operand}(ho:o.op= .slice t x lo hi none){g:Tag}{e:Nat}(hk:fK P t (.sl g e)){oa:Option Addr}{n cap:Nat}(hv:a.eval x= .slice oa n cap){n1 n2:Int}
  (h1:(lo=none∧n1=0)∨ ∃y k,lo=some y∧a.eval y= .int k n1)(h2:(hi=none∧n2=(n:Int))∨ ∃y k,hi=some y∧a.eval y= .int k n2)(q0:0≤n1)(q1:n1≤n2)(q2:n2≤(n:Int))(q3:n≤cap):
  (execOp a.eval o).run P w= .ok (.value (Wn oa cap (kk g) n1.toNat n2.toNat)) w:=by
 obtain⟨hu,hs⟩:=hk
 cases hq:P.info? e with
 |none=>simp[hq]at hs
 |some inf=>
  have hsz:inf.size=kk g:=by simpa[hq]using hs
  have hcap:n2≤(cap:Int):=by omega
  have hn2:0≤n2:=by omega
  have Wp:max n2 0=n2:=by omega
  have hrun:(iP t (.slice oa n cap) (lo.map a.eval) (hi.map a.eval) none).run P w= .ok (Wn oa cap (kk g) n1.toNat n2.toNat) w:=by
   rcases h1 with⟨rfl,rfl⟩| ⟨y1,k1,rfl,e1⟩<;>rcases h2 with⟨rfl,rfl⟩| ⟨y2,k2,rfl,e2⟩
   all_goals simp[iP,sy,j7,kP,asIntOf,run_underlying hu,sizeOf,typeInfo,hq,hsz,Wn, *]
  unfold execOp
  simp only[ho,hv,sA,cI,hrun,bP,cQ]
theorem NJ{t:Nat}{x:Operand}{lo:Option Operand}(ho:o.op= .slice t x lo none none){g:Tag}{e:Nat}(hk:fK P t (.sl g e)){oa:Option Addr}{n cap:Nat}(hv:a.eval x= .slice oa n cap)(hc:n≤cap){n1:Int}
  (h1:(lo=none∧n1=0)∨ ∃y k,lo=some y∧a.eval y= .int k n1)(hn:n1=(n:Int)):
  ∃oa',(execOp a.eval o).run P w= .ok (.value (.slice oa' 0 (cap-n))) w∧(oa'=none→oa=none):=by
 obtain⟨hu,hs⟩:=hk
 cases hq:P.info? e with
 |none=>simp[hq]at hs
 |some inf=>
  have hsz:inf.size=kk g:=by simpa[hq]using hs
  subst hn
  have Wp:max (n:Int) 0=n:=by omega
  refine⟨if cap=n then oa else oa.map (·.add (n*kk g)),?_,fun h=> ?_⟩
  ·have hrun:(iP t (.slice oa n cap) (lo.map a.eval) none none).run P w= .ok (.slice (if cap=n then oa else oa.map (·.add (n*kk g))) 0 (cap-n)) w:=by
    have h0:(n:Int)≤(cap:Int):=by omega
    rcases h1 with⟨rfl,e1⟩| ⟨y1,k1,rfl,e1⟩
    ·have:n=0:=by omega
     subst this
     simp[iP,sy,j7,kP,asIntOf,run_underlying hu,sizeOf,typeInfo,hq,hsz]
    ·simp[iP,sy,j7,kP,asIntOf,run_underlying hu,sizeOf,typeInfo,hq,hsz, *]
   unfold execOp
   simp only[ho,hv,sA,cI,hrun,bP,cQ]
  ·split at h
   ·exact h
   ·simpa using h
theorem dQ.at{w:World}: ∀{c:List V} {cs:List Value} {f:List Nat} {i:Nat} {v:V},dQ w c cs f→BJ c i=some v→ ∃u f',cs[i]? =some u∧RI w v u f'∧f'.Sublist f
 |x::r,u::us,_,0,v,⟨f1,f2,h1,_,rfl⟩,h=>by
  simp only[BJ,oI]at h
  subst h
  exact⟨u,f1,rfl,h1,List.sublist_append_left _ _⟩
 |x::r,u::us,_,i+1,v,⟨f1,f2,_,h2,rfl⟩,h=>by
  obtain⟨u',f',k1,k2,k3⟩:=dQ.at h2 (show BJ r i=some v from h)
  exact⟨u',f',by simpa using k1,k2,k3.trans (mI _ _)⟩
 | [],_,_,_,_,_,h=>by simp[BJ]at h
 |_::_,[],_,_,_,h,_=>h.elim
theorem Hu(g:Good ty zb st a.tmps w env){n:Nat}{t:Tag}{l:List (T t)}(hl:look st.hp n=some (.arr t l)){i:Nat}(hi:i<l.length):
  ∃b o cap cs f,(env n).v= .slice (some ⟨b,o,none⟩) l.length cap∧b∈(env n).fp∧w.rangeAt b (o+i*kk t) cs∧rd t w cs (l.getD i (aP t)) f∧f.Sublist (env n).fp:=by
 obtain⟨oa,cap,hv,_,_,h3⟩:=RO.sl (g.obj n _ hl)
 rcases h3 with⟨rfl,_⟩| ⟨b,o,cB,rfl,hb,jr,he⟩
 ·simp at hi
 ·have hx:l[i]? =some (l.getD i (aP t)):=by rw[an,au hi];rfl
  obtain⟨f,hf⟩:=kI he.1 hx
  obtain⟨cs,hr,hE⟩:=he.2 _ _ f hx hf
  exact⟨b,o,cap,cs,f,hv,by rw[jr];simp,hr,hE,by rw[jr];exact(sB (dL hf)).trans (oS _ _)⟩
theorem LF{hp:Hp}{n:Nat}{t0:Tag}{l0:List (T t0)}(hl:look hp n=some (.arr t0 l0)){p:Option (Nat×Nat)}{v:V}{u:Value}{f:List Nat}(h:RI w v u f)(hnd:f.Nodup)(hf: ∀b,b∈f→b∈(env n).fp)
  (kY: ∀i off,p=some (i,off)→ ∃b o len cap,i<l0.length∧BJ (dec t0 (l0.getD i (aP t0))) off=some v∧(env n).v= .slice (some ⟨b,o,none⟩) len cap∧b∈(env n).fp∧w.cell? ⟨b,o+i*kk t0+off,none⟩=some u):RA w hp env (bor n p v) u:=by
 cases v with
 |sl t l=>
  refine⟨⟨t0,l0,hl⟩,⟨f,h,hnd,hf⟩,fun i off hio=> ?_⟩
  obtain⟨b,o,len,cap,h1,h2,h3,h4,h5⟩:=kY i off hio
  exact⟨t0,l0,b,o,len,cap,hl,h1,h2,h3,h4,h5⟩
 |lit x=>exact⟨h.1,h.2.1⟩
 |_=>trivial
theorem Sw{hp:Hp}{n:Nat}{t0:Tag}{l0:List (T t0)}(hl:look hp n=some (.arr t0 l0)){i:Nat}(hi:i<l0.length){b o len cap:Nat}(hv:(env n).v= .slice (some ⟨b,o,none⟩) len cap)(hb:b∈(env n).fp):
  ∀{c:List V} {us:List Value} {f:List Nat} {k:Nat},dQ w c us f→f.Nodup→(∀x,x∈f→x∈(env n).fp)→(∀j v,c[j]? =some v→BJ (dec t0 (l0.getD i (aP t0))) (k+j)=some v)→w.rangeAt b (o+i*kk t0+k) us→cT (RA w hp env) (afZ n i k c) us
 | [],[],_,_,_,_,_,_,_=>trivial
 |v::r,u::us,_,k,⟨f1,f2,h1,h2,rfl⟩,hnd,hf,hc,hr=>by
  obtain⟨hn1,hn2,_⟩:=bf.1 hnd
  refine⟨LF hl h1 hn1 (fun x hx=>hf x (aN _ hx)) ?_,Sw hl hi hv hb h2 hn2 (fun x hx=>hf x (aH _ hx)) ?_ ?_⟩
  ·rintro i' off' hio
   simp only[oI,pI]at hio
   obtain⟨rfl,rfl⟩:=hio
   exact⟨b,o,len,cap,hi,hc 0 v rfl,hv,hb,by have:=hr 0 u rfl;simpa using this⟩
  ·intro j v' hj
   have:=hc (j+1) v' (by simpa using hj)
   rwa [show k+(j+1)=k+1+j by omega]at this
  ·intro j v' hj
   have:=hr (j+1) v' (by simpa using hj)
   rwa [show o+i*kk t0+k+(j+1)=o+i*kk t0+(k+1)+j by omega]at this
 | [],_::_,_,_,h,_,_,_,_=>h.elim
 |_::_,[],_,_,h,_,_,_,_=>h.elim
theorem Sx{hp:Hp}{n:Nat}{t0:Tag}{l0:List (T t0)}(hl:look hp n=some (.arr t0 l0)):
  ∀{c:List V} {us:List Value} {f:List Nat},dQ w c us f→f.Nodup→(∀x,x∈f→x∈(env n).fp)→cT (RA w hp env) (af0 n c) us
 | [],[],_,_,_,_=>trivial
 |v::r,u::us,_,⟨f1,f2,h1,h2,rfl⟩,hnd,hf=>
  ⟨LF hl h1 (bf.1 hnd).1 (fun x hx=>hf x (aN _ hx)) (by simp),Sx hl h2 (bf.1 hnd).2.1 (fun x hx=>hf x (aH _ hx))⟩
 | [],_::_,_,h,_,_=>h.elim
 |_::_,[],_,h,_,_=>h.elim
theorem BS: ∀{l:List V} {i:Nat},BJ l i=l[i]?
 | [],_=>by simp[BJ]
 |_::_,0=>rfl
 |_::r,i+1=>by rw[BJ,BS (l:=r)];simp
theorem dQ.sub{w:World}{c d:List V}{cs:List Value}{f:List Nat}{off k:Nat}(h:dQ w c cs f)(hs:sub c off k=some d): ∃f',dQ w d ((cs.drop off).take k) f'∧f'.Sublist f∧d=(c.drop off).take k∧((cs.drop off).take k).length=k:=by
 have drop: ∀(n:Nat) {c:List V} {cs:List Value} {f:List Nat},dQ w c cs f→ ∃f',dQ w (c.drop n) (cs.drop n) f'∧f'.Sublist f:=by
  intro n
  induction n with
  |zero=>intro c cs f h;exact⟨f,by simpa using h,j6 _⟩
  |succ n ih=>
   intro c cs f h
   cases c with
   |nil=>cases cs with
    |nil=>exact⟨f,by simpa using h,j6 _⟩
    |cons _ _=>exact h.elim
   |cons v r=>cases cs with
    |nil=>exact h.elim
    |cons u us=>
     obtain⟨f1,f2,_,h2,rfl⟩:=h
     obtain⟨f',k1,k2⟩:=ih h2
     exact⟨f',by simpa using k1,k2.trans (mI _ _)⟩
 have take: ∀(n:Nat) {c:List V} {cs:List Value} {f:List Nat},dQ w c cs f→ ∃f',dQ w (c.take n) (cs.take n) f'∧f'.Sublist f:=by
  intro n
  induction n with
  |zero=>intro c cs f h;exact⟨[],by simp[dQ],wM _⟩
  |succ n ih=>
   intro c cs f h
   cases c with
   |nil=>cases cs with
    |nil=>exact⟨f,by simpa using h,j6 _⟩
    |cons _ _=>exact h.elim
   |cons v r=>cases cs with
    |nil=>exact h.elim
    |cons u us=>
     obtain⟨f1,f2,h1,h2,rfl⟩:=h
     obtain⟨f',k1,k2⟩:=ih h2
     exact⟨f1++f',⟨f1,f',h1,k1,rfl⟩,AO (j6 _) k2⟩
 unfold G.sub at hs
 split at hs
 ·rename_i hb
  have hb:=bX hb
  simp only[oI]at hs
  obtain⟨f1,h1,h2⟩:=drop off h
  obtain⟨f2,h3,h4⟩:=take k h1
  refine⟨f2,by rw[←hs];exact h3,h4.trans h2,hs.symm,?_⟩
  have:=h.len
  rw[bV,bW];omega
 ·cases hs
theorem abN{n:Nat}{p:Option (Nat×Nat)}{t:Tag}{l:List (T t)}{u:Value}{k:Int}(h:RA w st.hp env (.vw n p t l) u)(h0:0≤k)(h1:k<l.length):
  ∃b off len cap,u= .slice (some ⟨b,off,none⟩) len cap∧k<len∧RA w st.hp env (.Jv n (af1 p k.toNat) t (l.getD k.toNat (aP t)) 0) (.pointer (some ⟨b,off+k.toNat*kk t,none⟩)):=by
 have hRV:RV w st.hp env n p t l u:=h
 obtain⟨hA,⟨fp,⟨oa,cap,rfl,hc,hm,h3⟩,hnd,hd⟩,_⟩:=h
 have hn:k.toNat<l.length:=by omega
 rcases h3 with⟨rfl,_⟩| ⟨b,off,cB,rfl,hb,rfl,he⟩
 ·simp at hn
 ·have hx:l[k.toNat]? =some (l.getD k.toNat (aP t)):=by rw[an,au hn];rfl
  obtain⟨f,hf⟩:=kI he.1 hx
  obtain⟨cs,hr,hE⟩:=he.2 _ _ f hx hf
  refine⟨b,off,l.length,cap,rfl,h1,hA,b,off+k.toNat*kk t,cs,f,rfl,hd b (by simp),hr,hE,((sB (dL hf)).trans (oS _ _)).nodup hnd,fun c hc=>hd c (aK _ (eo hf hc)),fun i o2 j hp=> ?_⟩
  cases p with
  |none=>cases hp
  |some ab=>
   obtain⟨a1,b1⟩:=ab
   simp only[af1,oI,pI]at hp
   obtain⟨rfl,rfl,rfl⟩:=hp
   exact⟨l,_,b,off,l.length,cap,hRV,hn,rfl,rfl,rfl⟩
theorem LG{t:Nat}{x:Operand}{lo hi:Option Operand}(ho:o.op= .slice t x lo hi none)(hu:P.underlying t=some .string){s:ByteArray}(hv:a.eval x= .string s){n1 n2:Int}
  (h1:(lo=none∧n1=0)∨ ∃y k,lo=some y∧a.eval y= .int k n1)(h2:(hi=none∧n2=s.size)∨ ∃y k,hi=some y∧a.eval y= .int k n2)(q0:0≤n1)(q1:n1≤n2)(q2:n2≤(s.size:Int)):
  o.wp P a w (BO ty st a w env o.dst (.one (.a (.lit (.string (s.extract n1.toNat n2.toNat))))) []) Q:=by
 have hn2:0≤n2:=by omega
 have Wp:max n2 0=n2:=by omega
 have hrun:(iP t (.string s) (lo.map a.eval) (hi.map a.eval) none).run P w= .ok (.string (s.extract n1.toNat n2.toNat)) w:=by
  rcases h1 with⟨rfl,rfl⟩| ⟨y1,k1,rfl,e1⟩<;>rcases h2 with⟨rfl,rfl⟩| ⟨y2,k2,rfl,e2⟩
  all_goals simp[iP,sy,j7,kP,asIntOf,run_underlying hu, *]
 refine fT (u:= .string (s.extract n1.toNat n2.toNat)) ?_ ⟨rfl,rfl⟩
 unfold execOp
 simp only[ho,hv,sA,cI,hrun,bP,cQ]
theorem UO(g:Good ty zb st a.tmps w env){v:V}{u:Value}(hr:ju w st.hp env (.a v) u){l:List UInt8}(hl:bytesOf st v=some l){s e t:Nat}(hs:P.underlying s=some (.slice e))(he:P.underlying e=some (.int .u8))(ht:P.underlying t=some .string):
  (convert s t u).run P w= .ok (.string (sk l)) w:=by
 have key: ∀{b off len cap:Nat},len=l.length→(∀i x,l[i]? =some x→w.cell? ⟨b,off+i,none⟩=some (.int .u8 x.toNat))→(convert s t (.slice (some ⟨b,off,none⟩) len cap)).run P w= .ok (.string (sk l)) w:=by
  intro b off len cap hlen hc
  rw[run_convert_bytes_arg w s e hs he b off len cap (l.map fun n=>(n.toNat:Int)) (by simp[hlen]) (fun i hi=> ?_) t ht,UN]
  have hi2:i<l.length:=by omega
  rw[hc i _ (au hi2),an,dR,au hi2]
  rfl
 have nil: ∀{c:Nat},(convert s t (.slice none 0 c)).run P w= .ok (.string (sk [])) w:=by
  intro c
  rw[run_convert_bytes_nil w s e hs he 0 c t ht];rfl
 have sl: ∀{fp:List Nat},Sl 1 R8 w u l fp→(convert s t u).run P w= .ok (.string (sk l)) w:=by
  rintro fp ⟨oa,cap,rfl,_,_,h3⟩
  rcases h3 with⟨rfl,_,_⟩| ⟨b,off,cB,rfl,_,_,hE⟩
  ·cases oa with
   |none=>exact nil
   |some ad=>
    rw[run_convert_bytes_string w s t e _ _ _ hs he ht]
    exact FQ ad cap
  ·refine key rfl fun i x hx=> ?_
   obtain⟨f,hf⟩:=kI hE.1 hx
   obtain⟨cs,q1,rfl,_⟩:=hE.2 i x f hx hf
   have:=q1 0 _ rfl
   simpa using this
 unfold bytesOf at hl
 split at hl
 ·simp only[oI]at hl
  subst hl
  obtain⟨fp,h,_⟩:=hr
  exact sl h
 ·rename_i n
  split at hl
  ·rename_i l' hlk
   simp only[oI]at hl
   subst hl
   obtain⟨_,hu⟩:=hr
   have hb:Sl 1 R8 w (env n).v l' (env n).fp:=RO.sl (g.obj n _ hlk)
   rw[←show u=(env n).v from hu]at hb
   exact sl hb
  ·cases hl
 ·simp only[oI]at hl
  subst hl
  obtain⟨_,⟨fp,h,_⟩,_⟩:=hr
  exact sl h
 ·simp only[oI]at hl
  subst hl
  have hu:=(show ju w st.hp env (.a (.lit Lu)) u from hr).lit
  rw[hu]
  exact nil
 ·cases hl
theorem nS{p:List (Nat×Bool)}(hop: ∀{x v},jH st p x=some v→ju w st.hp env v (a.eval x)){z n:Int}{b:Option Operand}(h:Lv st p z b=some n):(b=none∧n=z)∨ ∃x k,b=some x∧a.eval x= .int k n:=by
 cases b with
 |none=>simp only[Lv,oI]at h;exact bI ⟨rfl,h.symm⟩
 |some x=>
  simp only[Lv]at h
  split at h
  ·rename_i k i hx
   simp only[oI]at h
   subst h
   exact bn ⟨x,k,rfl,(hop hx).lit⟩
  ·cases h
theorem Ko{m:Nat}{t:Tag}{l:List (T t)}{w':World}{u:Value}{fp:List Nat}(hr:(execOp a.eval o).run P w= .ok (.value u) w')(hb:Below w.heap.size w w')(hB:mo (kk t) (rd t) w.heap.size (ty t) w' u l fp):
  o.wp P a w (BO ty st a w env o.dst (.one (.a (.own m))) [(m, .arr t l)]) Q:=by
 unfold iE
 rw[hr]
 obtain⟨env',hN,hl⟩:=oZ.list (ty:=ty) (hp:=st.hp) (env:=env) (os:= [(m, .arr t l)]) (ce:= [⟨u,fp⟩]) hb (by simp[kX,look]) ⟨⟨fun _ _=>RO.Ki (mo.mono hB (aD _)),(mo.own hB).ge⟩,trivial⟩ (by simpa using(mo.own hB).nodup)
 have h2:env' m=⟨u,fp⟩:=hl.1.2
 exact⟨u,env',rfl,hN,⟨t,l,look_eq⟩,by rw[h2]⟩
theorem uO{α:Type}{k:Nat}{E:ER α}(G:j0 k E)(hk:0<k){w:World}{u:Value}{l:List α}{fp:List Nat}(h:Sl k E w u l fp):
  ∃(news:List Value) (fx:List (List Nat)),Src w u l.length news∧fx.length=l.length∧news.length=l.length*k∧(∀i x f,l[i]? =some x→fx[i]? =some f→E w ((news.drop (i*k)).take k) x f)∧fx.flatten.Sublist fp∧ ∀b r,fp=b::r→fx.flatten=r:=by
 obtain⟨oa,cap,rfl,hc,hm,h3⟩:=h
 rcases h3 with⟨rfl,rfl,hno⟩| ⟨b,off,cB,rfl,hb,rfl,he⟩
 ·refine⟨[],[],?_,rfl,by simp,by simp,by simp,fun b r h=>by cases h⟩
  cases oa with
  |none=>exact bI ⟨by simp[hno],rfl,rfl⟩
  |some a=>exact bn ⟨a,cap,rfl,by simp⟩
 ·have hcell: ∀j,j<l.length*k→ ∃v,w.cell? ⟨b,off+j,none⟩=some v:=by
   intro j hj
   have hi:j/k<l.length:=Nat.div_lt_of_lt_mul (by rw[nk];omega)
   obtain⟨f,hf⟩:=kI he.1 (au hi)
   obtain⟨cs,hr,hE⟩:=he.2 _ _ f (au hi) hf
   have hl:=G.len hE
   have hml:=Nat.mod_lt j hk
   have:=hr (j % k) cs[j % k] (au (by omega))
   refine⟨cs[j % k]'(by omega),?_⟩
   rw[←this]
   congr 2
   have:=Nat.div_add_mod j k
   have:=nk k (j/k)
   omega
  refine⟨(bD (l.length*k)).map fun j=>(w.cell? ⟨b,off+j,none⟩).getD undef,cB,bn ⟨_,cap,rfl,?_⟩,he.1,by simp,?_,oS _ _,fun b r h=>by cases h;rfl⟩
  ·intro j u hu
   have hj:j<l.length*k:=by have:=(aI.1 hu).1;simpa using this
   obtain⟨v,hv⟩:=hcell j hj
   simp[hj,hv]at hu
   rw[eT,hv,hu]
  ·intro i x f hx hf
   obtain⟨cs,hr,hE⟩:=he.2 i x f hx hf
   have hl:=G.len hE
   have hi:i<l.length:=(aI.1 hx).1
   have h5:i*k+k≤l.length*k:=by
    have:=bK k (show i+1≤l.length by omega)
    rw[cJ]at this;omega
   have:(((bD (l.length*k)).map fun j=>(w.cell? ⟨b,off+j,none⟩).getD undef).drop (i*k)).take k=cs:=by
    apply uM
    intro j
    by_cases hj:j<k
    ·rw[cH,if_pos hj,cN]
     have h6:=hr j cs[j] (au (by omega))
     rw[dR,su (by omega)]
     simp[←fu,h6,show j<cs.length by omega]
    ·rw[cH,if_neg hj,lC (by omega)]
   rw[this];exact hE
theorem abO{α:Type}{k:Nat}{E:ER α}(G:j0 k E)(hk:0<k){w:World}{l:List α}{news:List Value}{fx:List (List Nat)}(hf:fx.length=l.length)(hl:news.length=l.length*k)
  (hE: ∀i x f,l[i]? =some x→fx[i]? =some f→E w ((news.drop (i*k)).take k) x f): ∀u,u∈news→u.oneCell'=true:=vE G hf hl hk hE
theorem abP{P:Program}{w:World}{t ty' e:TypeId}{z:Value}{k bytes:Nat}(ht:P.underlying t=some (.slice e))(WW:(P.info? e).map (fun i=>(i.zero,i.size,i.bytes))=some (some z,k,bytes))(hzs:z.cells.size=k)(hk:0<k)
  {n:Nat}{oa:Option Addr}{olds:List Value}(hsx:Src w (.slice oa n n) n olds)(hlo:olds.length=n*k)
  {m:Nat}{y:Value}{news:List Value}(hsy:Src w y m news)(hl:news.length=m*k)(h1: ∀u,u∈news→u.oneCell'=true)(b1:n+m≤maxLen)(b2:(n+m)*bytes≤140737488355328):
  ∃v' w',(dM #[t,t] ty' #[.slice oa n n,y]).run P w= .ok v' w'∧((m=0∧v'= .slice oa n n∧w'=w)∨(w'.ownsRow w.heap.size e k v' (n+m) (olds++news)∧w.grownBy w' none)):=by
 obtain⟨i,hi,hz,hsize,hby⟩:=info_parts WW
 rcases hsy with⟨rfl,rfl,rfl⟩| ⟨a,c,rfl,hnews⟩
 ·refine⟨.slice oa n n,w,?_,bI ⟨rfl,rfl,rfl⟩⟩
  cases oa with
  |none=>simp[dM,run_underlying ht,sizeOf,typeInfo,hi,jF,ld,storeCells]
  |some b=>simp[dM,run_underlying ht,sizeOf,typeInfo,hi,jF,ld,storeCells]
 ·by_cases hm:m=0
  ·subst hm
   have hn0:news= []:=bN (by omega)
   subst hn0
   refine⟨.slice oa n n,w,?_,bI ⟨rfl,rfl,rfl⟩⟩
   have hfc:=run_firstCells_some (P:=P) w i.size 0 a 0 c [] (by simp) (by simp)
   cases oa with
   |none=>simp[dM,run_underlying ht,sizeOf,typeInfo,hi,jF,hfc]
   |some b=>simp[dM,run_underlying ht,sizeOf,typeInfo,hi,jF,hfc,storeCells]
  ·rcases hsx with⟨hx,rfl,rfl⟩| ⟨b,cb,hx,holds⟩
   ·simp only[cP]at hx
    obtain⟨rfl,_⟩:=hx
    obtain⟨v',w',hrun,r1,r2,_⟩:=run_append_own (P:=P) w w.heap.size t ty' e i z k bytes ht hi hz hsize hby hzs hk (.slice none 0 0) 0 [] (World.ownsRow_nil w _ e k) a m c news hl hnews h1 b1 b2 (aZ _)
    exact⟨v',w',hrun,bn ⟨r1,r2⟩⟩
   ·simp only[cP]at hx
    obtain⟨rfl,_,rfl⟩:=hx
    obtain⟨v',w',hrun,r1,r2⟩:=run_append_arg_grows (P:=P) w t ty' e i z k bytes ht hi hz hsize hby hzs hk b n n olds hlo holds a m c news hl hnews (by omega) b1 b2
    exact⟨v',w',hrun,bn ⟨r1,r2⟩⟩
theorem af7{α:Type}{k:Nat}{E:ER α}{w:World}{oa:Option Addr}{cap:Nat}{l:List α}{fp:List Nat}(h:Sl k E w (.slice oa l.length cap) l fp){j q:Nat}(hj:j≤l.length)(hq:q=0):
  ∃jD,Sl k E w (.slice (if j=0 then oa else oa.map (·.add q)) j j) (l.take j) jD∧ ∀b,b∈jD→b∈fp:=by
 subst hq
 obtain⟨oa',cap',hu,hc,hm,h3⟩:=h
 simp only[cP,true_and]at hu
 obtain⟨rfl,rfl⟩:=hu
 have hlen:(l.take j).length=j:=by rw[bV];omega
 by_cases h0:j=0
 ·subst h0
  refine⟨[],⟨oa,0,by simp,by simp,aD _,bI ⟨by simp,rfl,rfl⟩⟩,by simp⟩
 ·rcases h3 with⟨rfl,_⟩| ⟨b,off,cB,rfl,hb,rfl,he⟩
  ·simp at hj;omega
  ·rw[if_neg h0]
   refine⟨b::(cB.take j).flatten,⟨_,j,by rw[hlen],by omega,by omega,bn ⟨b,off,cB.take j,by simp[eT],hb.mono (Nat.add_le_add_left (bK _ (by omega)) _),rfl,?_,fun i x f hx hf=> ?_⟩⟩,fun c hc=> ?_⟩
   ·have:=he.1;simp[this]
   ·rw[cH]at hx hf
    split at hx
    ·rename_i hij
     rw[if_pos hij]at hf
     exact he.2 i x f hx hf
    ·cases hx
   ·rcases bh.1 hc with rfl|hc
    ·simp
    ·exact aK _ ((tN (DJ j cB)).subset hc)
theorem af8{α:Type}{k:Nat}{E:ER α}{w:World}{lo e:Nat}{v:Value}{l:List α}{xs:List Value}{cB:List (List Nat)}(h:w.ownsRow lo e k v l.length xs)(hf:cB.length=l.length)(he: ∀i x f,l[i]? =some x→cB[i]? =some f→E w ((xs.drop (i*k)).take k) x f):
  Sl k E w v l (v.ownBlock.toList++cB.flatten):=by
 have hlt:=h.lt
 have hcells: ∀g,v.ownBlock=some g→ ∀j u,xs[j]? =some u→w.cell? ((⟨g,0,none⟩:Addr).add j)=some u:=fun g hg=>h.cells (g:=g) hg
 rcases h.2 with⟨rfl,h0⟩| ⟨g,cap,cur,rfl,hbg,hg,hnc,hcm,hcs,GM⟩
 ·have hl:l= []:=bN h0
  subst hl
  have:cB= []:=bN (by simpa using hf)
  subst this
  exact⟨none,0,rfl,aZ _,aD _,bI ⟨rfl,rfl,rfl⟩⟩
 ·refine⟨some ⟨g,0,none⟩,cap,rfl,hnc,hcm,bn ⟨g,0,cB,rfl,⟨cur,e,(0,0),hg,by omega⟩,rfl,Le hf (fun j u hu=> ?_) he⟩⟩
  have:=hcells g rfl j u hu
  rwa [eT,dZ]at this
theorem NK{w:World}{hp:Hp}{env:Env}: ∀{l:List V} {us:List Value},plain l=true→cT (RA w hp env) l us→dQ w l us []:=by
 intro l
 induction l with
 |nil=>intro us _ h;cases us with
  |nil=>rfl
  |cons _ _=>exact h.elim
 |cons v r ih=>
  intro us sr h
  cases us with
  |nil=>exact h.elim
  |cons u us=>
   unfold plain at sr
   split at sr
   ·rename_i heq;cases heq
   ·cases sr
   ·rename_i heq
    simp only[cC]at heq
    obtain⟨rfl,rfl⟩:=heq
    exact⟨[],[],⟨h.1.1,h.1.2,rfl⟩,ih sr h.2,rfl⟩
   ·cases sr
theorem Sy(g:Good ty zb st a.tmps w env): ∀{l c:List V} {n:Nat} {us:List Value},cT (RA w st.hp env) l us→AK st.hp l=some (c,n)→ ∃t l' fp,look st.hp n=some (.arr t l')∧dQ w c us fp∧fp.Nodup∧ ∀b,b∈fp→b∈(env n).fp
 | [],_,_,_,_,h=>by simp[AK]at h
 |v::r,c,n,us,hr,h=>by
  cases us with
  |nil=>exact hr.elim
  |cons u us=>
   unfold AK at h
   split at h
   ·rename_i m r' he
    simp only[cC]at he
    obtain⟨rfl,rfl⟩:=he
    split at h
    ·rename_i t l hl sr
     simp only[oI,pI]at h
     obtain⟨rfl,rfl⟩:=h
     obtain⟨_,rfl⟩:=hr.1
     exact⟨t,l,(env m).fp,hl,⟨_,[],RO.sl (g.obj m _ hl),NK sr hr.2,by simp⟩,(RO.own (g.obj m _ hl)).nodup,fun _ hb=>hb⟩
    ·cases h
   ·rename_i m pp t l r' he
    simp only[cC]at he
    obtain⟨rfl,rfl⟩:=he
    split at h
    ·rename_i t0 l0 hl sr
     simp only[oI,pI]at h
     obtain⟨rfl,rfl⟩:=h
     obtain⟨_,⟨fp,h1,h2,h3⟩,_⟩:=hr.1
     exact⟨t0,l0,fp,hl,⟨fp,[],h1,NK sr hr.2,by simp⟩,h2,h3⟩
    ·cases h
   ·cases h
   ·rename_i x r' _ he
    simp only[cC]at he
    obtain⟨rfl,rfl⟩:=he
    split at h
    ·rename_i c' n' h'
     simp only[oI,pI]at h
     obtain⟨rfl,rfl⟩:=h
     obtain⟨t,l',fp,h1,h2,h3,h4⟩:=Sy g hr.2 h'
     exact⟨t,l',fp,h1,⟨[],_,⟨hr.1.1,hr.1.2,rfl⟩,h2,by simp⟩,h3,h4⟩
    ·cases h
   ·cases h
theorem Qw(g:Good ty zb st a.tmps w env){s:S1}{u:Value}(hr:ju w st.hp env s u){c:List V}{n:Nat}(h:AK st.hp (cellsOf s)=some (c,n)):cT (RA w st.hp env) (cellsOf s) u.cells.toList:=by
 cases s with
 |agg l=>obtain⟨cs,rfl,hl⟩:=hr;exact hl
 |a v=>
  have hv:v≠ .any:=by rintro rfl;simp[cellsOf,AK]at h
  have:=nq g (show RA w st.hp env v u from hr) hv
  rw[this]
  exact⟨hr,trivial⟩
theorem Kp(g:Good ty zb st a.tmps w env){p:List (Nat×Bool)}(hp:holds a.tmps p){t:Tag}: ∀{ps:List (Nat×Operand)} {i:Nat} {vc:List Prop} {xs:List (T t)},ur st p t i ps=some (vc,xs)→(∀q,q∈vc→q)→
  (ps.map fun p=>(p.1,a.eval p.2))=zW i (ps.map fun p=>a.eval p.2)∧xs.length=ps.length∧ ∀(i:Nat) (x:T t),xs[i]? =some x→ ∃p:Nat×Operand,ps[i]? =some p∧rd t w (a.eval p.2).cells.toList x []
 | [],i,vc,xs,h,_=>by
   simp only[ur,oI,pI]at h
   obtain⟨rfl,rfl⟩:=h
   exact⟨rfl,rfl,by simp⟩
 | (j,x)::r,i,vc,xs,h,hv=>by
   simp only[ur]at h
   split at h
   ·rename_i s hij hx
    have hij:=ay hij
    subst hij
    split at h
    ·rename_i tG y vcs ys sr he hb
     simp only[oI,pI]at h
     obtain⟨rfl,rfl⟩:=h
     obtain⟨q1,q2,q3⟩:=Kp g hp hb (fun q hq=>hv q (aH _ hq))
     have hc: ∃us,(a.eval x).cells.toList=us∧dQ w (cellsOf s) us []:=by
      have hs:=gG g hp hx
      have key: ∀{l:List V} {us:List Value},plain l=true→cT (RA w st.hp env) l us→dQ w l us []:=by
       intro l
       induction l with
       |nil=>intro us _ h;cases us with
        |nil=>rfl
        |cons _ _=>exact h.elim
       |cons v r ih=>
        intro us sr h
        cases us with
        |nil=>exact h.elim
        |cons u us=>
         unfold plain at sr
         split at sr
         ·rename_i heq;cases heq
         ·cases sr
         ·rename_i heq
          simp only[cC]at heq
          obtain⟨rfl,rfl⟩:=heq
          exact⟨[],[],⟨h.1.1,h.1.2,rfl⟩,ih sr h.2,rfl⟩
         ·cases sr
      cases s with
      |agg l=>
       obtain⟨cs,hu,hl⟩:=hs
       exact⟨cs,by rw[hu];rfl,key sr hl⟩
      |a v=>
       have hne:v≠ .any:=by rintro rfl;cases sr
       exact⟨[a.eval x],by rw[nq g hs hne],key sr ⟨hs,trivial⟩⟩
     obtain⟨us,XE,P8⟩:=hc
     refine⟨by simp[zW,q1],by simp[q2],fun i' x' hx'=> ?_⟩
     cases i' with
     |zero=>
      simp at hx'
      subst hx'
      exact⟨(i,x),rfl,by rw[XE];exact vJ t he (fun q hq=>hv q (aN _ hq)) P8⟩
     |succ n=>
      obtain⟨p,h1,h2⟩:=q3 n x' (by simpa using hx')
      exact⟨p,by simpa using h1,h2⟩
    ·cases h
   ·cases h
theorem abQ(g:Good ty zb st a.tmps w env){p:List (Nat×Bool)}(hp:holds a.tmps p){x:Operand}{k:IntKind}{i:Int}(h:UI st p x=some (k,i)):a.eval x= .int k i:=by
 unfold UI at h
 split at h
 ·rename_i k' i' hx
  simp only[oI,pI]at h
  obtain⟨rfl,rfl⟩:=h
  exact(gG g hp hx).lit
 ·cases h
theorem Hv(g:Good ty zb st a.tmps w env){p:List (Nat×Bool)}(hp:holds a.tmps p): ∀{xs:List Operand} {ys:List (IntKind×Int)},BK st p xs=some ys→xs.map a.eval=ys.map fun y=> .int y.1 y.2
 | [],ys,h=>by simp only[BK,oI]at h;subst h;rfl
 |x::r,ys,h=>by
  simp only[BK]at h
  split at h
  ·rename_i y ys' h1 h2
   simp only[oI]at h
   subst h
   rw[cA,cA,Hv g hp h2,abQ g hp h1]
  ·cases h
theorem Hw{F:Int→Int→Int}{f:Value→Value→Sem Value}(hf: ∀(k:IntKind) (x y:Int),f (.int k x) (.int k y)=pure (.int k (F x y))){k:IntKind}: ∀{ys:List (IntKind×Int)} {x z:Int},Kh F k x ys=some z→(List.foldlM f (.int k x) (ys.map fun y=> .int y.1 y.2)).run P w= .ok (.int k z) w
 | [],x,z,h=>by simp only[Kh,oI]at h;subst h;rfl
 | (k',y)::r,x,z,h=>by
   simp only[Kh]at h
   split at h
   ·rename_i hk _
    subst hk
    rw[cA,List.foldlM_cons,hf]
    simp only[pure_bind]
    exact Hw hf h
   ·cases h
theorem NL(g:Good ty zb st a.tmps w env){p:List (Nat×Bool)}(hp:holds a.tmps p){n:Nat}{fo:List Nat}{pl:Nat→Option (Nat×Nat)}(sr: ∀j o k,tE fo j=some o→fsz n fo j=some k→pl j=some (o,k)):
  ∀{ps:List (Nat×Operand)} {c c':List V} {cs:List Value},wK st p n fo ps c=some c'→cT (RA w st.hp env) c cs→
   ∃cs',rM pl (e9 cs) (ps.map fun q=>(q.1,a.eval q.2))=some (e9 cs')∧cT (RA w st.hp env) c' cs'
 | [],c,c',cs,h,hc=>by
   simp only[wK,oI]at h
   subst h
   exact⟨cs,rfl,hc⟩
 | (j,x)::r,c,c',cs,h,hc=>by
   simp only[wK]at h
   split at h
   ·rename_i o' k s h1 h2 hx
    split at h
    ·rename_i c1 hna hs
     simp only[ak]at hna
     have hk:=ay hna.2
     have E9:=AL g hp hx
     have hcs: ∃us,(a.eval x).cells=e9 us∧cT (RA w st.hp env) (cellsOf s) us:=by
      cases s with
      |agg l=>obtain⟨us,hu,hl⟩:=E9;exact⟨us,by rw[hu];rfl,hl⟩
      |a v=>
       have hne:v≠ .any:=by rintro rfl;simp[cellsOf,xO]at hna
       exact⟨[a.eval x],nq g E9 hne,E9,trivial⟩
     obtain⟨us,XE,P9⟩:=hcs
     obtain⟨q1,q2⟩:=LD hc P9 hs
     obtain⟨cs',h3,h4⟩:=NL g hp sr h q2
     refine⟨cs',?_,h4⟩
     rw[cA,rM,sr j o' k h1 h2]
     simp only[XE]
     have hl:=P9.len
     rw[if_neg (by simp;omega)]
     have Xz:((e9 us).zipIdx.foldl (fun cs (x:Value×Nat)=>cs.setIfInBounds (o'+x.2) x.1) (e9 cs))=splice (e9 cs) o' us:=by
      rw[←BR,AN,vM,jE]
     show rM _ ((e9 us).zipIdx.foldl (fun cs (x:Value×Nat)=>cs.setIfInBounds (o'+x.2) x.1) (e9 cs)) _=_
     rw[Xz,tM us cs o' q1]
     exact h3
    ·cases h
   ·cases h
theorem BT{w:World}{t:Nat}{d:Nat}(hu:P.underlying t=some .bool){x y:Bool}:(Op.equalIn (d+1) t (.bool x) (.bool y)).run P w= .ok (x==y) w:=by
 simp[Op.equalIn,run_underlying hu]
theorem XF{x:Operand}{op:Op}{out:Out}(jf:o.op=op)(hm:op= .move x∨op= .assign x)(g:Good ty zb st a.tmps w env)(h:Xk st x=some out):o.wp P a w (BO ty st a w env o.dst out.v out.o) Q:=by
 unfold Xk at h
 split at h
 ·rename_i t
  split at h
  ·rename_i l hl
   simp only[oI]at h
   subst h
   have hr:=g.slot t _ hl
   rcases hm with rfl|rfl
   ·exact Hi (by unfold execOp;simp only[jf,cQ];rfl) hr
   ·exact Hi (by unfold execOp;simp only[jf,cQ];rfl) hr
  ·cases h
 ·cases h
theorem UP{n:Nat}(hr:(execOp a.eval o).run P w= .ok (.value (.map (some w.heap.size))) (w.alloc (.map #[] 0))):
  o.wp P a w (BO ty st a w env o.dst (.one (.a (.zn n))) [(n, .jG .int [] .mp)]) Q:=by
 unfold iE
 rw[hr]
 have hm: ∀kY env',RO ty (w.alloc (.map #[] 0)) kY env' n (.jG .int [] .mp) ⟨.map (some w.heap.size),[w.heap.size]⟩:=fun _ _=>⟨w.heap.size,[],rfl,rfl,#[],0,(NM w _).1,rfl⟩
 obtain⟨env',h1,h2⟩:=oZ.list (ty:=ty) (hp:=st.hp) (env:=env) (os:= [(n, .jG .int [] .mp)]) (ce:= [⟨.map (some w.heap.size),[w.heap.size]⟩]) ((iY _ _).alloc (aZ _) _) rfl ⟨⟨hm,by simp⟩,trivial⟩ (by simp)
 exact⟨_,env',rfl,h1,⟨.int,[], .mp,by simp[look]⟩,by rw[h2.1.2]⟩
theorem NN{Γ:Nat→TK}(C: ∀t,fK P t (Γ t)){cr:List (Nat×CR)}{p:List (Nat×Bool)}{d m:Nat}{out:Out}(h:quiet Γ (P7 P ty) (Sound ty P) cr st p d m o.op=some out)
  (g:Good ty zb st a.tmps w env)(hp:holds a.tmps p)(hA:Lr w)(hv: ∀q,q∈out.vc→q)(hf:fresh st.hp out.o=true)(hn:kX out.o=true):
  o.wp P a w (BO ty st a w env o.dst out.v out.o) Q:=by
 have hop: ∀{q x v},holds a.tmps q→jH st q x=some v→ju w st.hp env v (a.eval x):=fun hq hx=>gG g hq hx
 generalize jf:o.op=op at h
 cases op with
 |move x=>
  simp only[quiet]at h
  split at h
  ·rename_i v hx
   simp only[gF,oI]at h
   subst h
   exact fT (by unfold execOp;simp only[jf,cQ]) (AL g hp hx)
  ·exact XF jf (bI rfl) g h
 |assign x=>
  simp only[quiet]at h
  split at h
  ·rename_i v hx
   simp only[gF,oI]at h
   subst h
   exact fT (by unfold execOp;simp only[jf,cQ]) (AL g hp hx)
  ·exact XF jf (bn rfl) g h
 |pick c x y=>
  cases c with
  |tmp c=>
   simp only[quiet]at h
   split at h
   ·rename_i t u v h1 h2 h3
    simp only[gF,oI]at h
    subst h
    have hc:=(hop hp h1).lit
    have M9:a.tmps[c]? =some (.bool t):=Qq hc
    refine fT (u:= .bool (if t then u else v)) ?_ ⟨rfl,rfl⟩
    unfold execOp
    cases t with
    |true=>
     have hx:=(hop (q:=(c,true)::p) (by intro e he;rcases bh.1 he with rfl|he;exact M9;exact hp e he) h2).lit
     simp[jf,hc,hx,asBool]
    |false=>
     have hx:=(hop (q:=(c,false)::p) (by intro e he;rcases bh.1 he with rfl|he;exact M9;exact hp e he) h3).lit
     simp[jf,hc,hx,asBool]
   ·cases h
  |_=>simp[quiet]at h
 |box e x=>
  simp only[quiet]at h
  split at h
  ·rename_i l hx
   simp only[oI]at h
   subst h
   obtain⟨cs,hu,hl⟩:=hop hp hx
   exact DG (cs:=cs) (e:=e) (by unfold execOp;simp[jf,XG,newVar,newRow,hu,eD]) g hf hl
  ·cases h
  ·rename_i v hne hx
   simp only[oI]at h
   subst h
   have hr:=hop hp hx
   have hc:=nq g (show RA w st.hp env v (a.eval x)from hr) (fun e=>hne e)
   exact DG (cs:= [a.eval x]) (e:=e) (by unfold execOp;simp[jf,XG,newVar,newRow,hc]) g hf ⟨hr,trivial⟩
  ·cases h
 |alloc t=>
  simp only[quiet]at h
  split at h
  ·rename_i z tg fo hk
   simp only[oI]at h
   subst h
   have hC:=C t
   rw[hk]at hC
   obtain⟨fs,hu,hi,h1,_⟩:=hC
   refine DG (cs:=z) (e:=t) ?_ g hf (Hs h1)
   unfold execOp
   cases hq:P.info? t with
   |none=>simp[hq]at hi
   |some i=>
    simp[hq]at hi
    simp[jf,Instr.alloc,zeroValue,typeInfo,hq,hi.2,newVar,newRow,eD]
  ·cases h
 |load t x=>
  simp only[quiet]at h
  split at h
  ·rename_i n off hx
   obtain⟨_,b,hb,hu⟩:=hop hp hx
   split at h
   ·rename_i c hl
    obtain⟨b',cs,e,BU,hh,hc⟩:=g.obj n _ hl
    have hbb:b=b':=by
     rw[BU]at hb
     simpa using hb.symm
    subst hbb
    have BV:w.rangeAt b 0 cs:=by simpa using Xb hh
    split at h
    ·rename_i z tg fo hk
     split at h
     ·rename_i l hs
      simp only[gF,oI]at h
      subst h
      have hC:=C t
      rw[hk]at hC
      obtain⟨k1,k2⟩:=Xv hc hs
      exact wp_load_row jf hC hu (by have:=qi (k:=z.length) (j:=off) BV;rwa [dZ]at this) k2 k1
     ·cases h
    ·cases h
    ·rename_i k1 k2
     split at h
     ·rename_i v hs
      simp only[gF,oI]at h
      subst h
      obtain⟨u,q1,q2⟩:=hc.at (LA hs)
      refine tL jf (C t) ?_ ?_ hu (by have:=ql BV q1;rwa [dZ]at this) (RA.Xi q2)
      ·intro z tg fo hz;exact k1 z tg fo hz
      ·exact k2
     ·cases h
   ·cases h
  ·rename_i gt y off hx
   obtain⟨b,o',cs,fp,hu,_,BV,hE,_,hd⟩:=hop hp hx
   have hc:=Xw hE hd
   split at h
   ·rename_i z tg fo hk
    split at h
    ·rename_i l hs
     simp only[gF,oI]at h
     subst h
     have hC:=C t
     rw[hk]at hC
     obtain⟨k1,k2⟩:=Xv hc hs
     exact wp_load_row jf hC hu (qi BV) k2 k1
    ·cases h
   ·cases h
   ·rename_i k1 k2
    split at h
    ·rename_i v hs
     simp only[gF,oI]at h
     subst h
     obtain⟨u,q1,q2⟩:=hc.at (LA hs)
     refine tL jf (C t) ?_ ?_ hu (ql BV q1) q2
     ·intro z tg fo hz;exact k1 z tg fo hz
     ·exact k2
    ·cases h
  ·rename_i n gt y off hx
   obtain⟨⟨tA,lA,hl⟩,b,o',cs,fp,hu,hb,BV,hE,hd⟩:=hop hp hx
   have hR:=reads gt hE
   split at h
   ·rename_i z tg fo hk
    split at h
    ·rename_i l hs
     simp only[gF,oI]at h
     subst h
     have hC:=C t
     rw[hk]at hC
     obtain⟨f',r1,r2,r3,r4⟩:=dQ.sub hR hs
     exact wp_load_row jf hC hu (qi BV) r4 (Sx hl r1 (r2.nodup hd.1) (fun x hx=>hd.2.1 x (r2.subset hx)))
    ·cases h
   ·cases h
   ·rename_i k1 k2
    split at h
    ·rename_i v hs
     simp only[gF,oI]at h
     subst h
     obtain⟨u,f',q1,q2,q3⟩:=dQ.at hR hs
     refine tL jf (C t) ?_ ?_ hu (ql BV q1) (LF hl q2 (q3.nodup hd.1) (fun x hx=>hd.2.1 x (q3.subset hx)) (by simp))
     ·intro z tg fo hz;exact k1 z tg fo hz
     ·exact k2
    ·cases h
  ·rename_i n i off hx
   obtain⟨tA,lA,hlA,b,o',len,cap,FR,hu⟩:=hop hp hx
   split at h
   ·rename_i gt l hl
    rw[hl]at hlA
    simp only[oI,Obj.arr.injEq]at hlA
    obtain⟨rfl,_⟩:=hlA
    split at h
    ·rename_i z tg fo hk
     split at h
     ·rename_i c hs
      simp only[oI]at h
      subst h
      have hi:i<l.length:=hv _ (aR.2 rfl)
      obtain⟨b2,o2,aiS,cs,f,UQ,hb,BV,hE,hd⟩:=Hu g hl hi
      rw[UQ]at FR
      simp only[cP,oI,fA,and_true]at FR
      obtain⟨⟨rfl,rfl⟩,rfl,rfl⟩:=FR
      have hC:=C t
      rw[hk]at hC
      obtain⟨f',r1,r2,r3,r4⟩:=dQ.sub (reads gt hE) hs
      refine wp_load_row jf hC hu (qi BV) r4 (Sw hl hi UQ hb r1 ((r2.trans hd).nodup (RO.own (g.obj _ _ hl)).nodup) (fun x hx=>hd.subset (r2.subset hx)) (fun j v hj=> ?_) (qi BV))
      rw[r3,cH]at hj
      split at hj
      ·rw[cN]at hj;rw[BS];exact hj
      ·cases hj
     ·cases h
    ·cases h
    ·rename_i k1 k2
     split at h
     ·rename_i v hs
      simp only[oI]at h
      subst h
      have hi:i<l.length:=hv _ (aR.2 rfl)
      obtain⟨b2,o2,aiS,cs,f,UQ,hb,BV,hE,hd⟩:=Hu g hl hi
      rw[UQ]at FR
      simp only[cP,oI,fA,and_true]at FR
      obtain⟨⟨rfl,rfl⟩,rfl,rfl⟩:=FR
      obtain⟨u,f',q1,q2,q3⟩:=dQ.at (reads gt hE) hs
      refine tL jf (C t) ?_ ?_ hu (ql BV q1) (LF hl q2 ((q3.trans hd).nodup (RO.own (g.obj _ _ hl)).nodup) (fun x hx=>hd.subset (q3.subset hx)) ?_)
      ·intro z tg fo hz;exact k1 z tg fo hz
      ·exact k2
      ·rintro i' off' hio
       simp only[oI,pI]at hio
       obtain⟨rfl,rfl⟩:=hio
       exact⟨b2,o2,_,aiS,hi,hs,UQ,hb,ql BV q1⟩
     ·cases h
   ·cases h
  ·cases h
 |binOp op t x y t'=>
  simp only[quiet]at h
  split at h
  ·rename_i k m k' m' h1 h2
   split at h
   ·rename_i vc v hb
    simp only[oI]at h
    subst h
    have hx:=(hop hp h1).lit
    have hy:=(hop hp h2).lit
    obtain⟨q1,q2⟩:=abK (P:=P) (w:=w) hb hv (t:=t) (X:=x) (Y:=y)
    refine fT (u:=v) ?_ ⟨rfl,q2⟩
    unfold execOp
    simp only[jf,hx,hy]
    rw[cI,q1]
    rfl
   ·cases h
  ·rename_i m m' h1 h2
   split at h
   ·rename_i vc v hb
    simp only[oI]at h
    subst h
    have hx:=(hop hp h1).lit
    have hy:=(hop hp h2).lit
    obtain⟨q1,q2⟩:=abM (P:=P) (w:=w) hb hv (t:=t) (X:=x) (Y:=y)
    refine fT (u:=v) ?_ ⟨rfl,q2⟩
    unfold execOp
    simp only[jf,hx,hy]
    rw[cI,q1]
    rfl
   ·cases h
  ·rename_i m m' h1 h2
   have hx:=(hop hp h1).lit
   have hy:=(hop hp h2).lit
   have hC:=C t
   split at h
   ·rename_i hk
    rw[hk]at hC
    simp only[gF,oI]at h
    subst h
    refine fT (u:= .bool (m==m')) ?_ ⟨rfl,rfl⟩
    unfold execOp
    simp only[jf,hx,hy]
    have he:(Op.equal t (.bool m) (.bool m')).run P w= .ok (m==m') w:=BT hC
    simp[eqGuard,binOp,he]
   ·rename_i hk
    rw[hk]at hC
    simp only[gF,oI]at h
    subst h
    refine fT (u:= .bool (m !=m')) ?_ ⟨rfl,rfl⟩
    unfold execOp
    simp only[jf,hx,hy]
    have he:(Op.equal t (.bool m) (.bool m')).run P w= .ok (m==m') w:=BT hC
    simp[eqGuard,binOp,he]
    cases m<;>cases m'<;>rfl
   ·cases h
  ·cases h
 |unOp op t x=>
  cases op with
  |not=>
   simp only[quiet]at h
   split at h
   ·rename_i b hx
    simp only[gF,oI]at h
    subst h
    have hx:=(hop hp hx).lit
    refine fT (u:= .bool (!b)) ?_ ⟨rfl,rfl⟩
    unfold execOp
    simp[jf,hx,Op.unary]
   ·cases h
  |neg=>
   simp only[quiet]at h
   split at h
   ·rename_i k n hx
    simp only[gF,oI]at h
    subst h
    have hx:=(hop hp hx).lit
    refine fT (u:= .int k (k.wrap (0-n))) ?_ ⟨rfl,rfl⟩
    unfold execOp
    simp[jf,hx,Op.unary,Op.intArith]
   ·cases h
  |_=>simp[quiet]at h
 |convert s t x=>
  simp only[quiet]at h
  split at h
  ·rename_i k n k1 k2 hx hk1 hk2
   simp only[gF,oI]at h
   subst h
   have hx:=(hop hp hx).lit
   have c1:=C s
   have c2:=C t
   rw[hk1]at c1
   rw[hk2]at c2
   refine fT (u:= .int k2 (k2.wrap n)) ?_ ⟨rfl,rfl⟩
   unfold execOp
   simp[jf,hx,convert,run_underlying (show P.underlying s=_ from c1),run_underlying (show P.underlying t=_ from c2),Conv.intToInt]
  ·rename_i v g' e hx hk1 hk2
   split at h
   ·rename_i l Qx hl
    simp only[gF,oI]at h
    subst h
    have c1:=C s
    have c2:=C t
    have c3:=C e
    rw[hk1]at c1
    rw[hk2]at c2
    rw[Qx]at c3
    have:=UO g (hop hp hx) hl c1.1 c3 c2
    refine fT (u:= .string (sk l)) ?_ ⟨rfl,rfl⟩
    unfold execOp
    simp only[jf,cI,this,bP,cQ]
   ·cases h
  ·cases h
 |slice t x lo hi mx=>
  cases mx with
  |some mx=>
   cases lo with
   |some _=>simp[quiet]at h
   |none=>
    cases hi with
    |none=>simp[quiet]at h
    |some hi=>
     simp only[quiet]at h
     split at h
     case h_2=>cases h
     rename_i gt e hk
     have hC:=C t
     rw[hk]at hC
     split at h
     case h_2=>cases h
     rename_i n n1 n2 hx h1 h2
     split at h
     case h_2=>cases h
     rename_i t' l hl
     split at h
     case h_2=>cases h
     rename_i hkk
     have hkk:=ay hkk
     simp only[oI]at h
     subst h
     obtain⟨q0,q1,q2⟩:=hv _ (aR.2 rfl)
     obtain⟨hA,hu⟩:=hop hp hx
     have hs:=RO.sl (g.obj n _ hl)
     rw[←show a.eval x=(env n).v from hu]at hs
     obtain⟨oa,cap,FR,hc,hm,h3⟩:=id hs
     obtain⟨y1,k1,e1,e2⟩: ∃y k,some hi=some y∧a.eval y= .int k n1:=by
      rcases nS (hop hp) h1 with⟨h,_⟩|h
      ·cases h
      ·exact h
     obtain⟨y2,k2,e3,e4⟩: ∃y k,some mx=some y∧a.eval y= .int k n2:=by
      rcases nS (hop hp) h2 with⟨h,_⟩|h
      ·cases h
      ·exact h
     simp only[oI]at e1 e3
     subst e1;subst e3
     subst q1
     rw[FR]at hs
     obtain⟨jD,r2,r3⟩:=af7 hs (j:=n1.toNat) (q:=0*kk gt) (by omega) (by simp)
     have hrun:(execOp a.eval o).run P w= .ok (.value (.slice (if n1.toNat=0 then oa else oa.map (·.add (0*kk gt))) n1.toNat n1.toNat)) w:=by
      obtain⟨hun,hsz⟩:=hC
      cases hq:P.info? e with
      |none=>simp[hq]at hsz
      |some inf=>
       have hsz':inf.size=kk gt:=by simpa[hq]using hsz
       have c1:n1≤(cap:Int):=by omega
       have c2: ¬max n1 0<n1:=by omega
       unfold execOp
       simp[jf,FR,e2,e4,c2,iP,sy,j7,kP,asIntOf,run_underlying hun,sizeOf,typeInfo,hq,hsz',q0,c1]
     have hlt:(l.take n1.toNat).length=n1.toNat:=by rw[bV];omega
     exact fT hrun ⟨hA,⟨jD,r2,fun b hb=>bI (r3 b hb)⟩,fun _=>⟨_,by rw[hlt]⟩⟩
  |none=>
   simp only[quiet]at h
   split at h
   ·rename_i gt e hk
    have hC:=C t
    rw[hk]at hC
    split at h
    ·split at h
     ·rename_i n p' t' l n1 hx h1
      simp only[oI]at h
      subst h
      have hlo:n1=(l.length:Int):=hv _ (aR.2 rfl)
      obtain⟨hA,⟨fp,⟨oa,cap,hu,hc,hm,h3⟩,hnd,hd⟩,_⟩:=hop hp hx
      have hz:oa=none→cap=0:=by
       intro ho
       rcases h3 with⟨_,_,h4⟩| ⟨b,off,cB,h4,_⟩
       ·exact h4
       ·rw[ho]at h4;cases h4
      obtain⟨oa',r1,r2⟩:=NJ (P:=P) (w:=w) jf hC hu hc (nS (hop hp) h1) hlo
      refine fT r1 ⟨oa',cap-l.length,rfl,aD _,by omega,fun ho=> ?_⟩
      rw[hz (r2 ho)];omega
     ·rename_i k n1 hx h1
      simp only[oI]at h
      subst h
      have hlo:n1=(k:Int):=hv _ (aR.2 rfl)
      obtain⟨oa,cap,hu,hc,hm,hz⟩:=hop hp hx
      obtain⟨oa',r1,r2⟩:=NJ (P:=P) (w:=w) jf hC hu hc (nS (hop hp) h1) hlo
      refine fT r1 ⟨oa',cap-k,rfl,aD _,by omega,fun ho=> ?_⟩
      rw[hz (r2 ho)];omega
     ·cases h
    split at h
    ·rename_i t' l n1 hx h1
     split at h
     ·rename_i n2 h2
      split at h
      ·rename_i hkk
       have hkk:=ay hkk
       simp only[oI]at h
       subst h
       obtain⟨q0,q1,q2⟩:=hv _ (aR.2 rfl)
       obtain⟨fp,hs,hd⟩:=hop hp hx
       obtain⟨u',jD,r1,r2,r3⟩:=DI jf hC hkk hs (nS (hop hp) h1) (nS (hop hp) h2) q0 q1 q2
       exact fT r1 ⟨jD,r2,fun b hb=>hd b (r3.subset hb)⟩
      ·cases h
     ·cases h
    ·rename_i n p' t' l n1 hx h1
     split at h
     ·rename_i n2 h2
      split at h
      ·rename_i hkk
       have hkk:=ay hkk
       simp only[oI]at h
       subst h
       obtain⟨q0,q1,q2⟩:=hv _ (aR.2 rfl)
       obtain⟨hA,⟨fp,hs,hnd,hd⟩,_⟩:=hop hp hx
       obtain⟨u',jD,r1,r2,r3⟩:=DI jf hC hkk hs (nS (hop hp) h1) (nS (hop hp) h2) q0 q1 q2
       exact fT r1 ⟨hA,⟨jD,r2,r3.nodup hnd,fun b hb=>hd b (r3.subset hb)⟩,by simp⟩
      ·cases h
     ·cases h
    ·rename_i n n1 hx h1
     split at h
     ·rename_i t' l hl
      split at h
      ·rename_i n2 h2
       split at h
       ·rename_i hkk
        have hkk:=ay hkk
        simp only[oI]at h
        subst h
        obtain⟨q0,q1,q2⟩:=hv _ (aR.2 rfl)
        obtain⟨hA,hu⟩:=hop hp hx
        have hs:=RO.sl (g.obj n _ hl)
        rw[←show a.eval x=(env n).v from hu]at hs
        obtain⟨u',jD,r1,r2,r3⟩:=DI jf hC hkk hs (nS (hop hp) h1) (nS (hop hp) h2) q0 q1 q2
        exact fT r1 ⟨hA,⟨jD,r2,r3.nodup (RO.own (g.obj n _ hl)).nodup,fun b hb=>r3.subset hb⟩,by simp⟩
       ·cases h
      ·cases h
     ·cases h
    ·rename_i oa len cap n1 hx h1
     split at h
     ·rename_i n2 h2
      simp only[oI]at h
      subst h
      obtain⟨q0,q1,q2,q3⟩:=hv _ (aR.2 rfl)
      obtain⟨hu,_⟩:=hop hp hx
      exact fT (Sv jf hC hu (nS (hop hp) h1) (nS (hop hp) h2) q0 q1 q2 q3) ⟨rfl,rfl⟩
     ·cases h
    ·cases h
   ·rename_i hk
    have hC:=C t
    rw[hk]at hC
    split at h
    ·rename_i s n1 hx h1
     split at h
     ·rename_i n2 h2
      simp only[oI]at h
      subst h
      obtain⟨q0,q1,q2⟩:=hv _ (aR.2 rfl)
      exact LG jf hC (hop hp hx).lit (nS (hop hp) h1) (nS (hop hp) h2) q0 q1 q2
     ·cases h
    ·cases h
   ·cases h
 |makeFunc fn first captured=>
  cases fn with
  |func f=>
   simp only[quiet]at h
   split at h
   ·rename_i x hf hc
    split at h
    ·rename_i n hx
     simp only[gF,oI]at h
     subst h
     obtain⟨hA,b,hb,hu⟩:=hop hp hx
     have e1:first= #[]:=by cases first;simp_all
     have e2:captured= #[x]:=by cases captured;simp_all
     refine fT (u:= .func (.func f) #[] #[.pointer (some ⟨b,0,none⟩)]) ?_ ⟨hA,b,hb,rfl⟩
     unfold execOp
     simp[jf,Instr.makeFunc,e1,e2,hu]
    ·cases h
   ·cases h
  |_=>simp[quiet]at h
 |fieldAddr t x f=>
  simp only[quiet]at h
  split at h
  ·rename_i z tg fo hk
   have hC:=C t
   rw[hk]at hC
   split at h
   ·rename_i k hf'
    split at h
    ·rename_i n off hx
     simp only[gF,oI]at h
     subst h
     obtain⟨hc,b,hb,hu⟩:=hop hp hx
     exact rq jf hC hf' hu ⟨hc,b,hb,rfl⟩
    ·rename_i gt y off hx
     simp only[gF,oI]at h
     subst h
     obtain⟨b,o',cs,fp,hu,k1⟩:=hop hp hx
     exact rq jf hC hf' hu ⟨b,o',cs,fp,by rw[fu],k1⟩
    ·rename_i n i off hx
     simp only[gF,oI]at h
     subst h
     obtain⟨t',l,hl,b,o',len,cap,hb,hu⟩:=hop hp hx
     exact rq jf hC hf' hu ⟨t',l,hl,b,o',len,cap,hb,by rw[fu]⟩
    ·rename_i n gt y off hx
     simp only[gF,oI]at h
     subst h
     obtain⟨hA,b,o',cs,fp,hu,k1,k2,k3,knd,k4,k5⟩:=hop hp hx
     refine rq jf hC hf' hu ⟨hA,b,o',cs,fp,by rw[fu],k1,k2,k3,knd,k4,fun i o2 j hq=> ?_⟩
     obtain⟨l,u0,b0,uu,len,cap,j1,j2,j3,j4,j5⟩:=k5 i o2 j hq
     rw[hu]at j5
     simp only[Value.pointer.injEq,oI,fA,and_true]at j5
     obtain⟨rfl,j5⟩:=j5
     exact⟨l,u0,b,uu,len,cap,j1,j2,j3,j4,by rw[j5,fu]⟩
    ·cases h
   ·cases h
  ·cases h
 |indexAddr t x i=>
  simp only[quiet]at h
  split at h
  ·rename_i gt e hk
   have hC:=C t
   rw[hk]at hC
   split at h
   ·rename_i t' l ik n hx hi
    split at h
    ·rename_i hkk
     have hkk:=ay hkk
     simp only[oI]at h
     subst h
     obtain⟨h0,h1⟩:=hv _ (aR.2 rfl)
     have hx:=hop hp hx
     have hi:=(hop hp hi).lit
     obtain⟨b,off,len,cap,hu,hlt,hr⟩:=abJ hx h0 h1
     exact vL jf hC hu hi h0 hlt (by rw[hkk];exact hr)
    ·cases h
   ·rename_i m ik n hx hi
    split at h
    ·rename_i t' l hl
     split at h
     ·rename_i hkk
      have hkk:=ay hkk
      simp only[oI]at h
      subst h
      obtain⟨h0,h1⟩:=hv _ (aR.2 rfl)
      obtain⟨_,hu⟩:=hop hp hx
      have hi:=(hop hp hi).lit
      obtain⟨b,o',cap,cs,f,hs,_⟩:=Hu g hl (i:=n.toNat) (by omega)
      exact vL jf hC (hu.trans hs) hi h0 h1 ⟨t',l,hl,b,o',_,cap,hs,by rw[hkk];simp⟩
     ·cases h
    ·cases h
   ·rename_i m p' t' l ik n hx hi
    split at h
    ·rename_i hkk
     have hkk:=ay hkk
     simp only[oI]at h
     subst h
     obtain⟨h0,h1⟩:=hv _ (aR.2 rfl)
     have hx:=hop hp hx
     have hi:=(hop hp hi).lit
     obtain⟨b,off,len,cap,hu,hlt,hr⟩:=abN hx h0 h1
     exact vL jf hC hu hi h0 hlt (by rw[hkk];exact hr)
    ·cases h
   ·cases h
  ·cases h
 |lookup t x y b=>
  cases b with
  |true=>simp[quiet]at h
  |false=>
   simp only[quiet]at h
   split at h
   ·rename_i hk
    have hC:=C t
    rw[hk]at hC
    obtain⟨kt,et,ht,hkt,hz,_⟩:=hC
    split at h
    ·rename_i n k hx hy
     split at h
     ·rename_i tg l0 hl
      split at h
      ·rename_i l hc
       simp only[gF,oI]at h
       subst h
       obtain⟨_,hu⟩:=hop hp hx
       have hy:=(hop hp hy).lit
       obtain⟨r,lx,h1,h2,h3⟩:=g.obj n _ hl
       rw[hc]at h1
       simp only[oI]at h1
       subst h1
       have Wr:a.eval x= .map (some r):=by rw[hu,h2]
       refine fT (u:= .int .i64 (Ns l k)) ?_ ⟨rfl,rfl⟩
       unfold execOp
       simp only[jf,Wr,hy,cI,cQ,He ht hkt (hz w) h3,bP]
      ·cases h
     ·cases h
    ·cases h
   ·cases h
 |index t x i=>
  simp only[quiet]at h
  split at h
  ·rename_i hk
   have hC:=C t
   rw[hk]at hC
   split at h
   ·rename_i s k n hx hy
    simp only[oI]at h
    subst h
    have hx:=(hop hp hx).lit
    have hy:=(hop hp hy).lit
    obtain⟨h0,h1⟩:0≤n∧n<(s.size:Int):=hv _ (aR.2 rfl)
    have hlt:n.toNat<s.size:=by omega
    have hgd:s.data.toList.getD n.toNat 0=s[n.toNat]:=by
     have h2:n.toNat<s.data.toList.length:=by rw[Array.length_toList];exact hlt
     rw[an,au h2]
     simp[ByteArray.getElem_eq_getElem_data]
    refine fT (u:= .int .u8 ((s.data.toList.getD n.toNat 0).toNat:Int)) ?_ ⟨rfl,rfl⟩
    unfold execOp
    simp only[jf,hx,hy,cI,cQ,run_index_string (P:=P) (w:=w) t s k n hC,dif_pos (And.intro h0 h1),bP,hgd]
   ·cases h
  ·cases h
 |makeMap t r=>
  cases r with
  |some _=>simp[quiet]at h
  |none=>
   simp only[quiet]at h
   split at h
   ·simp only[oI]at h
    subst h
    exact UP (by unfold execOp;simp[jf,Instr.makeMap])
   ·cases h
 |makeSlice t x y=>
  simp only[quiet]at h
  split at h
  ·rename_i gt e hk
   have hC:=C t
   rw[hk]at hC
   split at h
   ·rename_i k1 n1 k2 n2 hx hy
    simp only[oI]at h
    subst h
    have hE:P7 P ty gt e:=hv _ (by simp)
    have hab:n1=n2:=hv _ (by simp)
    have h0:0≤n1:=hv _ (by simp)
    obtain⟨h1,h2⟩:n1.toNat*gb gt≤140737488355328∧n1.toNat≤maxLen:=hv _ (by simp)
    subst hab
    obtain⟨rfl,wL⟩:=hE
    obtain⟨w',u,fp,r1,r2,r3⟩:=XD (P:=P) (w:=w) (a:=a) jf hC.1 wL (hop hp hx).lit (hop hp hy).lit h0 h1 h2
    exact Ko r1 r2 r3
   ·cases h
  ·cases h
 |buildSlice t len parts=>
  simp only[quiet]at h
  split at h
  ·rename_i gt e hk
   have hC:=C t
   rw[hk]at hC
   split at h
   ·split at h
    case h_2=>cases h
    rename_i x hlen hps
    split at h
    case h_2=>cases h
    rename_i s hx
    split at h
    case h_2=>cases h
    rename_i c n hc
    split at h
    case h_2=>cases h
    rename_i vc y he hbig
    simp only[oI]at h
    subst h
    have hE:P7 P ty gt e:=hv _ (by simp)
    obtain⟨rfl,wL⟩:=hE
    have hs:=hop hp hx
    obtain⟨tA,lA,fpE,hl,P8,hnd,hsub⟩:=Sy g (Qw g hs hc) hc
    have hrd:=vJ gt he (fun q hq=>hv q (by simp[hq])) P8
    have hlen:=ay hlen
    subst hlen
    have hO0:=RO.own (g.obj n _ hl)
    have hO:Own _ w fpE:=⟨hnd,fun b hb=>hO0.ge b (hsub b hb),fun b hb=>hO0.kind b (hsub b hb)⟩
    have hfl:([fpE]:List (List Nat)).flatten=fpE:=by simp
    obtain⟨w',r1,r2,r3⟩:=zw (P:=P) (w:=w) (a:=a) jf hC.1 wL (by rw[AM];exact bX hbig) (by rw[hps];rfl) (aD _) (xs:= [y]) (cB:= [fpE]) (by rw[hps];rfl) (by rw[hps];rfl) rfl
     (fun i x' f hx' hf=>by
      cases i with
      |zero=>simp at hx' hf;subst hx';subst hf;exact⟨(0,x),by rw[hps];rfl,hrd⟩
      |succ i=>simp at hx') (by rw[hfl];exact hO)
    rw[hfl]at r3
    unfold iE
    rw[r1]
    refine⟨_,env,rfl,oZ.none r2,⟨tA,lA,hl⟩,w.heap.size,fpE,mo.sl r3,fun ho=> ?_,hnd,hsub⟩
    have:=(g.ow ho).2
    omega
   split at h
   ·rename_i vc xs hlen hbig hb
    simp only[oI]at h
    subst h
    have hE:P7 P ty gt e:=hv _ (by simp)
    obtain⟨rfl,wL⟩:=hE
    obtain⟨q1,q2,q3⟩:=Kp g hp hb (fun q hq=>hv q (by simp[hq]))
    have hfl:(eF xs.length ([]:List Nat)).flatten= []:=by simp
    obtain⟨w',r1,r2,r3⟩:=zw (P:=P) (w:=w) (a:=a) jf hC.1 wL (bX hbig) (ay hlen) (aZ _) (xs:=xs) (cB:=eF xs.length []) q1 q2 (by simp)
     (fun i x f hx hf=>by
      obtain⟨p,h1,h2⟩:=q3 i x hx
      rw[iO]at hf
      split at hf
      ·simp only[oI]at hf;subst hf;exact⟨p,h1,h2⟩
      ·cases hf) (by rw[hfl];exact Own.nil _ _)
    exact Ko r1 r2 r3
   ·cases h
  ·cases h
 |build t parts=>
  simp only[quiet]at h
  split at h
  ·rename_i z tg fo hk
   have hC:=C t
   rw[hk]at hC
   obtain⟨fs,hu,hi,h1,_,places,Hx,sr⟩:=hC
   split at h
   ·rename_i c hb
    simp only[gF,oI]at h
    subst h
    cases hq:P.info? t with
    |none=>simp[hq]at hi
    |some inf=>
     simp[hq]at hi
     obtain⟨cs',h3,h4⟩:=NL (st:=st) (zb:=zb) g hp (pl:=fun j=>places[j]?) sr hb (Hs h1)
     refine fT (u:= .agg (e9 cs')) ?_ ⟨cs',rfl,h4⟩
     have hrun:=run_build (P:=P) w t (parts.map fun(q:Nat×Operand)=>(q.1,a.eval q.2)) (e9 cs') (by
      unfold Program.built
      rw[hq,hu]
      simp only[hi.2,Hx]
      rw[mQ]
      simpa[eD]using h3)
     unfold execOp
     simp only[jf,cI,hrun,bP,cQ]
   ·cases h
  ·cases h
 |nilCheck x=>
  simp only[quiet]at h
  split at h
  ·rename_i n off hx
   simp only[gF,oI]at h
   subst h
   obtain⟨hA,b,hb,hu⟩:=hop hp hx
   refine fT (u:=a.eval x) ?_ ⟨hA,b,hb,hu⟩
   unfold execOp
   simp[jf,hu]
  ·rename_i n i off hx
   simp only[gF,oI]at h
   subst h
   obtain⟨t,l,hl,b,o',len,cap,hb,hu⟩:=hop hp hx
   refine fT (u:=a.eval x) ?_ ⟨t,l,hl,b,o',len,cap,hb,hu⟩
   unfold execOp
   simp[jf,hu]
  ·cases h
 |extract x i=>
  cases x with
  |tmp t=>
   simp only[quiet]at h
   split at h
   ·rename_i l hl
    split at h
    ·rename_i x hx
     simp only[gF,oI]at h
     subst h
     obtain⟨us,hu,ru⟩:=g.slot t _ hl
     obtain⟨u,k1,k2⟩:=ru.at hx
     refine fT ?_ k2
     unfold execOp
     have hu':a.eval (.tmp t)= .tuple us.toArray:=hu
     simp[jf,hu',Instr.extract,k1]
    ·cases h
   ·cases h
  |_=>simp[quiet]at h
 |call c=>
  obtain⟨callee,xs,ts⟩:=c
  cases callee with
  |value x=>
   cases x with
   |func f=>
    simp only[quiet]at h
    split at h
    ·rename_i as c h1 h2
     simp only[oI]at h
     obtain⟨own,rs⟩:=c
     have hvc:out.vc= [Sound ty P f as rs]:=by
      rw[←h]
      unfold outs
      dsimp only
      (repeat' split)<;>rfl
     exact Sp jf rfl (hv _ (by rw[hvc];simp)) hA g (Lz g hp h1) h hn
    ·cases h
   |tmp x=>
    simp only[quiet]at h
    split at h
    ·rename_i v hx
     split at h
     ·rename_i f hfn
      split at h
      ·rename_i as c h1 h2
       simp only[oI]at h
       obtain⟨own,rs⟩:=c
       have hvc:out.vc= [Sound ty P f as rs]:=by
        rw[←h]
        unfold outs
        dsimp only
        (repeat' split)<;>rfl
       exact Sp jf (Ss (hop hp hx) hfn) (hv _ (by rw[hvc];simp)) hA g (Lz g hp h1) h hn
      ·cases h
     ·cases h
    ·cases h
   |_=>simp[quiet]at h
  |builtin b=>
   cases b with
   |append=>
    simp only[quiet]at h
    split at h
    case h_2=>cases h
    rename_i x y t1 t2 hkey hxl htl
    obtain rfl:xs= #[x,y]:=by cases xs;simp_all
    obtain rfl:ts= #[t1,t2]:=by cases ts;simp_all
    split at h
    case h_2=>cases h
    rename_i gt e htt hk
    have htt:=ay htt
    subst htt
    split at h
    case h_2=>cases h
    rename_i n t l n2 pq t' l' hx hy
    split at h
    case h_2=>cases h
    rename_i la lb hnn hca hcb
    have hnn:=ay hnn
    subst hnn
    simp only[oI]at h
    subst h
    obtain⟨ea,rfl⟩:=ga hca
    subst ea
    obtain⟨eb,rfl⟩:=ga hcb
    subst eb
    have hE:P7 P ty t' e:=hv _ (by simp)
    obtain⟨b1,b2⟩:(l.length+l'.length)*gb t'≤140737488355328∧l.length+l'.length≤maxLen:=hv _ (by simp)
    obtain⟨rfl,wL⟩:=hE
    have hC:=C t1
    rw[hk]at hC
    obtain⟨hA1,⟨fp,hs,hsub⟩,hcap⟩:=hop hp hx
    obtain⟨hA2,⟨NA,xB,hnd,aiU⟩,_⟩:=hop hp hy
    obtain⟨oa,hu⟩:=hcap rfl
    obtain⟨olds,fx,n1,n2,n3,n4,n5,_⟩:=uO (gh t') (jt t') hs
    obtain⟨news,fy,m1,m2,m3,m4,m5,_⟩:=uO (gh t') (jt t') xB
    rw[hu]at n1
    obtain⟨v',w',hrun,hres⟩:=abP (ty':=o.type) hC.1 wL (mW t') (jt t') n1 n3 m1 m3 (abO (gh t') (jt t') m2 m3 m4) b2 b1
    have key:Below w.heap.size w w'∧RA w' st.hp env (.mix n false t' (l++l')) v':=by
     rcases hres with⟨h0,rfl,rfl⟩| ⟨hrow,XH⟩
     ·have e0:l'= []:=bN h0
      subst e0
      refine⟨iY _ _,hA1,⟨fp,?_,hsub⟩,fun hh=>by cases hh⟩
      rw[cS, ←hu];exact hs
     ·have Hg:Below w.heap.size w w':=⟨XH.os,XH.tape,XH.output,XH.size,fun b hb=>XH.block b hb (fun h=>by cases h)⟩
      have hkk:=jt t'
      refine⟨Hg,hA1,⟨_,af8 (l:=l++l') (cB:=fx++fy) (by rw[aY];exact hrow) (by rw[aY,aY,n2,m2]) (fun i x f hx hf=> ?_),fun b hb=> ?_⟩,fun hh=>by cases hh⟩
      ·refine(gh t').below ?_ Hg
       by_cases hi:i<l.length
       ·rw[bT hi]at hx
        rw[bT (by omega)]at hf
        have h1:i*kk t'+kk t'≤olds.length:=by
         have:=bK (kk t') (show i+1≤l.length by omega)
         rw[cJ]at this;omega
        rw[List.drop_append_of_le_length (by omega),List.take_append_of_le_length (by rw[bW];omega)]
        exact n4 i x f hx hf
       ·rw[bU (by omega)]at hx
        rw[bU (by omega),n2]at hf
        have h1:i*kk t'=olds.length+(i-l.length)*kk t':=by
         rw[n3, ←cJ];congr 1;omega
        rw[h1,mN]
        have h2:olds.drop (olds.length+(i-l.length)*kk t')= []:=fY (by omega)
        rw[h2,eM,Nat.add_sub_cancel_left]
        exact m4 _ x f hx hf
      ·rcases aL.1 hb with hb|hb
       ·refine bn fun ho=> ?_
        have h1:=(g.ow ho).2
        have h2:=(hrow.lt b (by simpa using hb)).1
        omega
       ·rw[List.flatten_append]at hb
        rcases aL.1 hb with hb|hb
        ·exact hsub b (n5.subset hb)
        ·exact bI (aiU b (m5.subset hb))
    unfold iE execOp
    simp only[jf,resolve,invoke,builtin,cI,cQ,bP,kJ,cA,List.map_nil,hu,hrun]
    exact⟨v',env,rfl,oZ.none key.1,key.2⟩
   |max=>
    simp only[quiet]at h
    split at h
    ·rename_i k x r hxs
     split at h
     ·rename_i y hy
      simp only[gF,oI]at h
      subst h
      have he:=Hv g hp hxs
      refine fT (u:= .int k y) ?_ ⟨rfl,rfl⟩
      have hf:=Hw (P:=P) (w:=w) (f:=Builtin.max2) (F:=UJ) (fun k x y=>rfl) hy
      unfold execOp
      simp[jf,resolve,invoke,builtin,Builtin.max_,he,hf]
     ·cases h
    ·cases h
   |min=>
    simp only[quiet]at h
    split at h
    ·rename_i k x r hxs
     split at h
     ·rename_i y hy
      simp only[gF,oI]at h
      subst h
      have he:=Hv g hp hxs
      refine fT (u:= .int k y) ?_ ⟨rfl,rfl⟩
      have hf:=Hw (P:=P) (w:=w) (f:=Builtin.min2) (F:=JJ) (fun k x y=>rfl) hy
      unfold execOp
      simp[jf,resolve,invoke,builtin,Builtin.min_,he,hf]
     ·cases h
    ·cases h
   |len=>
    simp only[quiet]at h
    split at h
    ·rename_i x t hxl htl
     obtain rfl:xs= #[x]:=by cases xs;simp_all
     obtain rfl:ts= #[t]:=by cases ts;simp_all
     split at h
     ·rename_i v hx
      split at h
      ·rename_i n hn'
       simp only[gF,oI]at h
       subst h
       have hr:=hop hp hx
       have hC:=C t
       cases v with
       |sl t' l=>
        simp only[lenOf]at hn'
        split at hn'
        ·rename_i g' e' hk
         simp only[oI]at hn'
         subst hn'
         rw[hk]at hC
         obtain⟨fp,⟨oa,cap,hu,_⟩,_⟩:=hr
         exact Hj rfl jf hC.1 hu (bI ⟨_,oa,cap,l.length,rfl,rfl,rfl⟩)
        ·cases hn'
       |own m=>
        simp only[lenOf]at hn'
        split at hn'
        ·rename_i g' e' hk
         rw[hk]at hC
         split at hn'
         ·rename_i t' l hl
          simp only[oI]at hn'
          subst hn'
          obtain⟨_,hu⟩:=hr
          obtain⟨oa,cap,hs,_⟩:=RO.sl (g.obj m _ hl)
          exact Hj rfl jf hC.1 (hu.trans hs) (bI ⟨_,oa,cap,l.length,rfl,rfl,rfl⟩)
         ·cases hn'
        ·cases hn'
       |vw m p' t' l=>
        simp only[lenOf]at hn'
        split at hn'
        ·rename_i g' e' hk
         simp only[oI]at hn'
         subst hn'
         rw[hk]at hC
         obtain⟨_,⟨fp,⟨oa,cap,hu,_⟩,_⟩,_⟩:=hr
         exact Hj rfl jf hC.1 hu (bI ⟨_,oa,cap,l.length,rfl,rfl,rfl⟩)
        ·cases hn'
       |lit v=>
        have hu:=(show ju w st.hp env (.a (.lit v)) _ from hr).lit
        simp only[lenOf]at hn'
        split at hn'
        ·rename_i heq;cases heq
        ·rename_i heq;cases heq
        ·rename_i heq;cases heq
        ·rename_i heq
         simp only[V.lit.injEq]at heq
         subst heq
         split at hn'
         ·rename_i g' e' hk
          simp only[oI]at hn'
          subst hn'
          rw[hk]at hC
          exact Hj rfl jf hC.1 hu (bI ⟨_,none,0,0,rfl,rfl,rfl⟩)
         ·cases hn'
        ·rename_i s heq
         simp only[V.lit.injEq]at heq
         subst heq
         split at hn'
         ·rename_i hk
          simp only[oI]at hn'
          subst hn'
          rw[hk]at hC
          exact Hj rfl jf hC hu (bn ⟨_,rfl,rfl,rfl⟩)
         ·cases hn'
        ·cases hn'
       |_=>simp[lenOf]at hn'
      ·cases h
     ·cases h
    ·cases h
   |_=>simp[quiet]at h
  |invoke _ _=>simp[quiet]at h
 |_=>simp[quiet]at h
end
end
section
variable{ty:Tag→Nat}
theorem nT{α:Type}{f:Nat×α→α}: ∀{l:List (Nat×α)} {s:Nat},look (l.map fun e=>(e.1,f e)) s=(look l s).map fun x=>f (s,x)
 | [],_=>rfl
 | (j,x)::r,s=>by
   by_cases h:s=j
   ·subst h;rw[cA,look_eq,look_eq];rfl
   ·rw[cA,cj h,cj h];exact nT
theorem Kq{tmps:Array Value}{d:Nat}{u:Value}{p:List (Nat×Bool)}(h:(p.any fun e=>aU e.1 d)=false):holds (tmps.setIfInBounds d u) p↔holds tmps p:=by
 have hne: ∀e,e∈p→d≠e.1:=by
  rintro e he rfl
  rw[bR]at h
  exact h e he (by simp)
 constructor
 ·intro hh e he
  have:=hh e he
  rwa [fL (hne e he)]at this
 ·intro hh e he
  rw[fL (hne e he)]
  exact hh e he
theorem tF.put{w:World}{hp:Hp}{env:Env}{tmps:Array Value}{d:Nat}{u y:Value}{x:SV}(hm:x.mentions d=false)(h:tF w hp env tmps x y):tF w hp env (tmps.setIfInBounds d u) x y:=by
 cases x with
 |one x=>exact h
 |Au l=>exact h
 |cond p x=>exact⟨fun hh=>h.1 ((Kq hm).1 hh),fun hh=>h.2 fun k=>hh ((Kq hm).2 k)⟩
theorem Good.aiV{zb:eK}{st:St}{tmps:Array Value}{w:World}{env:Env}(g:Good ty zb st tmps w env){d:Nat}(hd:d<tmps.size){v:SV}{u:Value}(hv:tF w st.hp env tmps v u)(hm:v.mentions d=false)(f:SV→SV)(hf: ∀s y,look st.sl s=some y→f y= .one (.a .any)∨(f y=y∧y.mentions d=false)):
  Good ty zb ⟨st.n,(d,v)::st.sl.map fun e=>(e.1,f e.2),st.hp⟩ (tmps.setIfInBounds d u) w env:=by
 refine⟨g.obj,g.mu,fun s x hl=> ?_,g.dom,g.pins⟩
 by_cases hs:s=d
 ·subst hs
  have hl:look ((s,v)::_) s=some x:=hl
  rw[look_eq]at hl
  simp only[oI]at hl
  subst hl
  have:(tmps.setIfInBounds s u).getD s undef=u:=by
   rw[aa,Array.getElem?_setIfInBounds_self_of_lt hd];rfl
  rw[this]
  exact hv.put hm
 ·have hl:look ((d,v)::_) s=some x:=hl
  rw[cj hs,nT (α:=SV) (f:=fun e:Nat×SV=>f e.2)]at hl
  cases hq:look st.sl s with
  |none=>rw[hq]at hl;cases hl
  |some y=>
   rw[hq]at hl
   simp only[dI,oI]at hl
   subst hl
   have hgd:(tmps.setIfInBounds d u).getD s undef=tmps.getD s undef:=by
    rw[aa,aa,fL (Ne.symm hs)]
   rw[hgd]
   show tF w st.hp env _ (f y) _
   rcases hf s y hq with h| ⟨h,hm'⟩
   ·rw[h];trivial
   ·rw[h];exact(g.slot s y hq).put hm'
theorem Good.put{zb:eK}{st:St}{tmps:Array Value}{w:World}{env:Env}(g:Good ty zb st tmps w env){d:Nat}(hd:d<tmps.size){v:SV}{u:Value}(hv:tF w st.hp env tmps v u)(hm:v.mentions d=false):
  Good ty zb (st.put (some d) v) (tmps.setIfInBounds d u) w env:=by
 unfold St.put
 dsimp only
 split
 ·rename_i hno
  have:=g.aiV hd hv hm id (fun s y hl=>bn ⟨rfl,by
   rw[bR]at hno
   simpa using hno _ (ji hl)⟩)
  simpa using this
 ·refine g.aiV hd hv hm (SV.Xj d) fun s y hl=> ?_
  unfold SV.Xj
  split
  ·exact bI rfl
  ·rename_i hm';exact bn ⟨rfl,hm'⟩
theorem sC{zb:eK}{st:St}{a:Act}{w:World}{env:Env}(g:Good ty zb st a.tmps w env){dst:Option Nat}(hd: ∀d,dst=some d→d<a.tmps.size){v:SV}{u:Value}(hv:tF w st.hp env a.tmps v u)(hm: ∀d,dst=some d→v.mentions d=false):
  Good ty zb (st.put dst v) (a.put dst u).tmps w env:=by
 cases dst with
 |none=>exact g
 |some d=>exact g.put (hd d rfl) hv (hm d rfl)
theorem lE(a:Act)(dst:Option Nat)(u:Value):(a.put dst u).tmps.size=a.tmps.size:=by
 cases dst<;>simp[Act.put]
theorem Av(st:St)(d:Option Nat)(v:SV):(st.put d v).n=st.n:=by
 unfold St.put
 split
 ·split<;>rfl
 ·rfl
theorem agc(st:St)(d:Option Nat)(v:SV):(st.put d v).hp=st.hp:=by
 unfold St.put
 split
 ·split<;>rfl
 ·rfl
theorem put_defers(a:Act)(dst:Option Nat)(u:Value):(a.put dst u).defers=a.defers:=by
 cases dst<;>rfl
theorem vO{ops:Array Oper}{o:Oper}{j:Nat}{x:Bool}(hg:o.guard=some (j,x)){q:Oper}(hj:ops[j]? =some q){d:Nat}(hd:q.dst=some d)(tmps:Array Value):
  gU o (yielded ops tmps)=true↔tmps[d]? =some (.bool x):=by
 simp only[gU,hg,yielded,hj,Option.bind_some,hd]
 constructor
 ·intro h
  have h:=eq_of_beq h
  split at h
  ·rename_i b hb
   simp at h
   rw[hb,h]
  ·cases h
 ·intro h
  rw[h];simp
theorem DL{zb:eK}{st:St}{tmps:Array Value}{w:World}{env:Env}(g:Good ty zb st tmps w env){d:Nat}{p:List (Nat×Bool)}{b x:Bool}(hl:look st.sl d=some (.cond p (.a (.lit (.bool b)))))(h:tmps[d]? =some (.bool x)):holds tmps p∧b=x:=by
 have hs:=g.slot d _ hl
 rw[aa,h]at hs
 by_cases hh:holds tmps p
 ·have:=(hs.1 hh).lit
  simp at this
  exact⟨hh,this.symm⟩
 ·have:=hs.2 hh
  simp[undef]at this
theorem XI{zb:eK}{st:St}{tmps:Array Value}{w:World}{env:Env}(g:Good ty zb st tmps w env){d:Nat}{b x:Bool}(hl:look st.sl d=some (.one (.a (.lit (.bool b)))))(h:tmps[d]? =some (.bool x)):b=x:=by
 have hs:=g.slot d _ hl
 rw[aa,h]at hs
 have:=(show ju w st.hp env (.a (.lit (.bool b))) (.bool x)from hs).lit
 simp at this
 exact this.symm
theorem Gq{zb:eK}{st:St}{tmps:Array Value}{w:World}{env:Env}(g:Good ty zb st tmps w env): ∀{p:List (Nat×Bool)},holds tmps p→ ∀q,q∈hyps st p→q
 | [],_,q,hq=>by simp[hyps]at hq
 | (d,x)::r,h,q,hq=>by
   have h0:tmps[d]? =some (.bool x):=h (d,x) (by simp)
   have hr:holds tmps r:=fun e he=>h e (by simp[he])
   simp only[hyps]at hq
   split at hq
   ·rename_i b hl
    rcases bh.1 hq with rfl|hq
    ·exact XI g hl h0
    ·exact Gq g hr q hq
   ·rename_i p' b hl
    rcases bh.1 hq with rfl|hq
    ·exact(DL g hl h0).2
    ·exact Gq g hr q hq
   ·exact Gq g hr q hq
theorem Sz: ∀{hs:List Prop} {q:Prop},iH hs q→(∀h,h∈hs→h)→q
 | [],_,h,_=>h
 |h'::r,q,h,hh=>Sz (hs:=r) (h (hh h' (by simp))) fun x hx=>hh x (by simp[hx])
section
variable{P:Program}{zb:eK}{st st':St}{a:Act}{w:World}{Q:Exit→Act→World→Prop}{o:Oper}
def lF(P:Program)(ops:Array Oper)(o:Oper)(a:Act)(w:World)(K:Act→World→Prop)(Q:Exit→Act→World→Prop):Prop:=
 if gU o (yielded ops a.tmps)then o.wp P a w K Q∨(o.asks P a w∧LetsOut Q)else K (a.put o.dst undef) w
theorem mX{ops:Array Oper}(hg:o.guard=none){K:Act→World→Prop}(h:o.wp P a w K Q):lF P ops o a w K Q:=by
 unfold lF
 rw[if_pos (by simp[gU,hg])]
 exact .inl h
theorem LI(iv:Inv ty zb st a w)(h:BL st o.dst=true): ∀d,o.dst=some d→d<a.tmps.size:=by
 intro d hd
 rw[hd]at h
 rw[iv.size]
 exact bX h
theorem NO{Γ:Nat→TK}(C: ∀t,fK P t (Γ t)){fQ:List (Nat×Nat)}{cr:List (Nat×CR)}{ops:List Oper}{vc:List Prop}{v2:SV}{os:Hp}(h:uK Γ (P7 P ty) (Sound ty P) fQ cr ops st o=some (vc,v2,os))(iv:Inv ty zb st a w)(hv: ∀q,q∈vc→q):
  lF P ops.toArray o a w (fun a' w'=>Inv ty zb (St.put ⟨st.n,st.sl,os++st.hp⟩ o.dst v2) a' w') Q:=by
 obtain⟨env,g⟩:=iv.good
 have hBz:=iv.kept.size
 simp only[uK]at h
 split at h
 ·rename_i m hd _ o8
  have Fa:=LI iv hd
  have hg:o.guard=none:=by
   cases hg:o.guard with
   |none=>rfl
   |some e=>
    obtain⟨j,x⟩:=e
    exfalso
    simp only[mq,hg]at o8
    repeat' split at o8
    all_goals simp at o8
  split at h
  ·rename_i v1 v os hq
   split at h
   ·rename_i hf hn
    simp only[oI,pI]at h
    obtain⟨rfl,rfl,rfl⟩:=h
    refine mX hg (qm ?_ (NN (Q:=Q) C hq g (fun e he=>by simp at he) (iv.Jx.now iv.kept) hv hf hn))
    rintro a' w' ⟨u,env',rfl,hN,hr⟩
    have g':=g.grow hBz hf hN
    have hnm: ∀d,o.dst=some d→v.mentions d=false:=by
     intro d _
     cases v with
     |one x=>rfl
     |Au l=>rfl
     |cond p x=>
      exfalso
      have: ∀(op:Op) (d m:Nat) (out:Out) (p:List (Nat×Bool)) (x:S1),quiet Γ (P7 P ty) (Sound ty P) cr st [] d m op=some out→out.v≠ .cond p x:=by
       intro op d m out p x hh
       unfold quiet Xk at hh
       repeat' split at hh
       all_goals first
        | (cases hh;done)
        | (simp only[gF,oI]at hh;subst hh;intro e;cases e;done)
        | (simp only[oI]at hh;subst hh;unfold outs;(repeat' split)<;>(intro e;cases e))
      exact this _ _ _ _ p x hq rfl
    refine⟨by rw[lE,Av];exact iv.size,by rw[put_defers];exact iv.defers,iv.kept.trans (oY hN.below hBz),iv.Jx,env',sC g' Fa hr hnm⟩
   ·cases h
  ·cases h
 ·rename_i m e p hd _ o8
  have Fa:=LI iv hd
  split at h
  ·rename_i hne
   split at h
   ·rename_i v1 v hq
    simp only[oI,pI]at h
    obtain⟨rfl,rfl,rfl⟩:=h
    have hmn: ∀d,o.dst=some d→(SV.cond (e::p) v).mentions d=false:=by
     intro d hdd
     show((e::p).any fun e=>aU e.1 d)=false
     rw[bR]at hne ⊢
     intro x hx hb
     have:=ay hb
     exact hne x hx (by rw[hdd,this];simp)
    have fin: ∀{u:Value} {w':World},Below w.heap.size w w'→oZ (ty:=ty) w w' st.hp [] env env→tF w' st.hp env a.tmps (.cond (e::p) v) u→Inv ty zb (st.put o.dst (.cond (e::p) v)) (a.put o.dst u) w':=by
     intro u w' hb hN hr
     have g':=g.grow (os:= []) hBz rfl hN
     exact⟨by rw[lE,Av];exact iv.size,by rw[put_defers];exact iv.defers,iv.kept.trans (oY hb hBz),iv.Jx,env,sC g' Fa hr hmn⟩
    have key: ∃j x q d,o.guard=some (j,x)∧ops[j]? =some q∧q.dst=some d∧(d,x)∈e::p∧(a.tmps[d]? =some (.bool x)→holds a.tmps (e::p)):=by
     unfold mq at o8
     split at o8
     ·simp at o8
     ·rename_i j x hg
      split at o8
      ·rename_i q hj
       split at o8
       ·rename_i d hdq
        split at o8
        ·rename_i b hl
         simp only[oI]at o8
         refine⟨j,x,q,d,hg,hj,hdq,by rw[←o8];simp,fun hh=> ?_⟩
         rw[←o8]
         intro y hy
         simp at hy
         subst hy
         exact hh
        ·rename_i p' b hl
         simp only[oI]at o8
         refine⟨j,x,q,d,hg,hj,hdq,by rw[←o8];simp,fun hh=> ?_⟩
         rw[←o8]
         intro y hy
         rcases bh.1 hy with rfl|hy
         ·exact hh
         ·exact(DL g hl hh).1 y hy
        ·cases o8
       ·cases o8
      ·cases o8
    obtain⟨j,x,q,d,hg,hj,hdq,hmem,aiW⟩:=key
    have hw:=vO (ops:=ops.toArray) hg (by simpa using hj) hdq a.tmps
    unfold lF
    by_cases hb:a.tmps[d]? =some (.bool x)
    ·rw[if_pos (hw.2 hb)]
     have hp:=aiW hb
     left
     refine qm ?_ (NN (Q:=Q) C hq g hp (iv.Jx.now iv.kept) (fun z hz=> ?_) rfl rfl)
     ·rintro a' w' ⟨u,env',rfl,hN,hr⟩
      have he:env'=env:=funext fun n=>hN.old n rfl
      subst he
      exact fin hN.below hN ⟨fun _=>hr,fun hh=>absurd (fun y hy=>hp y hy) hh⟩
     ·exact Sz (hv _ (cq.2 ⟨z,hz,rfl⟩)) (Gq g hp)
    ·rw[if_neg (fun hh=>hb (hw.1 hh))]
     exact fin (iY _ _) (oZ.none (iY _ _)) ⟨fun hh=>absurd (hh (d,x) hmem) hb,fun _=>rfl⟩
   ·cases h
  ·cases h
 ·cases h
theorem XJ{Γ:Nat→TK}(C: ∀t,fK P t (Γ t)){fQ:List (Nat×Nat)}{cr:List (Nat×CR)}{ops:List Oper}{vc:List Prop}(h:Xl Γ (P7 P ty) (Sound ty P) fQ cr ops st o=some (vc,st'))(iv:Inv ty zb st a w)(hv: ∀q,q∈vc→q):
  lF P ops.toArray o a w (fun a' w'=>Inv ty zb st' a' w') Q:=by
 unfold Xl at h
 split at h
 ·rename_i tG v os hq
  simp only[oI,pI]at h
  obtain⟨rfl,rfl⟩:=h
  exact NO C hq iv hv
 ·cases h
end
end
section
variable{ty:Tag→Nat}
def V.dead:V→V
 | .vw _ _ _ l=> .zU l.length
 |_=> .any
def V.cR(ks kv:List Nat)(v:V):V:=match v.name with
 |some m=>match ks.any (aU m)with
  |true=>v.dead
  |false=>match kv with
   | []=>v
   |kv=>match v.view with
    |some _=>match kv.any (aU m)with|true=>v.dead|false=>v
    |none=>v
 |none=>v
def S1.cR(ks kv:List Nat):S1→S1
 | .a v=> .a (v.cR ks kv)
 | .agg l=> .agg (l.map (V.cR ks kv))
def SV.cR(ks kv:List Nat):SV→SV
 | .one x=> .one (x.cR ks kv)
 | .Au l=> .Au (l.map (S1.cR ks kv))
 | .cond p x=> .cond p (x.cR ks kv)
def vA.cR(ks kv:List Nat):vA→vA
 | .of n=>match ks.any (aU n)||kv.any (aU n)with|true=> .gone|false=> .of n
 | .zV (some (n,i,o))=>match ks.any (aU n)||kv.any (aU n)with|true=> .zV none|false=> .zV (some (n,i,o))
 |s=>s
def Obj.cR(ks kv:List Nat):Obj→Obj
 | .box c=> .box (c.map (V.cR ks kv))
 | .arr t l=> .arr t l
 | .jG t l s=> .jG t l (s.cR ks kv)
def dX(ks kv:List Nat)(hp:Hp):Hp:=(hp.filter fun e=> !ks.any (aU e.1)).map fun e=>(e.1,e.2.cR ks kv)
def pinned(ks:List Nat):Bool:=ks.any soft
theorem V.Qz{ks kv:List Nat}{v:V}:(v.cR ks kv).xP (fun n=>n∉ks) (fun n=>n∉ks∧n∉kv):=by
 have hx: ∀{l:List Nat} {m:Nat},(l.any (aU m))=false→m∉l:=by
  intro l m h hm
  rw[bR]at h
  exact h m hm (by simp)
 have aew: ∀x:V,x.dead.xP (fun n=>n∉ks) (fun n=>n∉ks∧n∉kv):=by
  intro x
  cases x<;>exact⟨fun _ h=>by simp[V.dead,V.name]at h,fun _ h=>by simp[V.dead,V.view]at h⟩
 unfold V.cR
 split
 ·rename_i m hm
  split
  ·exact aew v
  ·rename_i hk
   have hk:=hx hk
   have hn: ∀n,v.name=some n→n∉ks:=by
    intro n h;rw[hm]at h;simp only[oI]at h;subst h;exact hk
   split
   ·exact⟨hn,fun n h=>⟨hn n (V.uL h),by simp⟩⟩
   ·split
    ·split
     ·exact aew v
     ·rename_i hv
      have hv:=hx hv
      refine⟨hn,fun n h=>⟨hn n (V.uL h),?_⟩⟩
      have:=V.uL h
      rw[hm]at this;simp only[oI]at this;subst this;exact hv
    ·rename_i hnv
     exact⟨hn,fun n h=>by rw[hnv]at h;cases h⟩
 ·rename_i hm
  refine⟨fun n h=> ?_,fun n h=> ?_⟩
  ·rw[hm]at h;cases h
  ·have:=V.uL h;rw[hm]at this;cases this
theorem RA.dead{w:World}{hp:Hp}{env:Env}{v:V}{u:Value}(h:RA w hp env v u):RA w hp env v.dead u:=by
 cases v with
 |vw n p t l=>
  obtain⟨_,⟨fp,⟨oa,cap,rfl,hc,hm,h3⟩,_⟩,_⟩:=h
  refine⟨oa,cap,rfl,hc,hm,fun ho=> ?_⟩
  rcases h3 with⟨_,_,h4⟩| ⟨b,off,cB,h4,_⟩
  ·exact h4
  ·rw[ho]at h4;cases h4
 |_=>trivial
theorem RA.cR{w:World}{hp:Hp}{env:Env}{ks kv:List Nat}{v:V}{u:Value}(h:RA w hp env v u):RA w hp env (v.cR ks kv) u:=by
 unfold V.cR
 repeat' split
 all_goals first
  |exact h
  |exact h.dead
  |trivial
abbrev uP(ks kv:List Nat)(w:World)(hp:Hp)(env:Env)(w':World)(kY:Hp)(env':Env):Prop:=Step (fun n=>n∉ks) (fun n=>n∉ks∧n∉kv) w hp env w' kY env'
section
variable{ks kv:List Nat}{w w':World}{hp kY:Hp}{env env':Env}
theorem BE.kZ(s:uP ks kv w hp env w' kY env'){r:vA}{t:Tag}{x:T t}{u:Value}(h:BE w hp env r t x u):BE w' kY env' (r.cR ks kv) t x u:=by
 cases r with
 |gone=>trivial
 |mp=>trivial
 |Nb u=>trivial
 |zV p=>
  have: ∃q,vA.cR ks kv (.zV p)= .zV q:=by
   unfold vA.cR
   split
   ·rename_i e;cases e
   ·split
    ·exact⟨_,rfl⟩
    ·exact⟨_,rfl⟩
   ·exact⟨_,rfl⟩
  obtain⟨q,hq⟩:=this
  rw[hq];trivial
 |sj=>exact BE.step s (r:= .sj) (fun n hn=>by cases hn) h
 |of n=>
  unfold vA.cR
  dsimp only
  split
  ·trivial
  ·rename_i hk
   rw[gB,bR,bR]at hk
   refine BE.step s (r:= .of n) (fun m hm=> ?_) h
   simp only[vA.name,oI]at hm
   subst hm
   exact⟨fun hm=>hk.1 n hm (by simp),fun hm=>hk.2 n hm (by simp)⟩
theorem RA.kZ(s:uP ks kv w hp env w' kY env'){v:V}{u:Value}(h:RA w hp env v u):RA w' kY env' (v.cR ks kv) u:=
 RA.step s V.Qz h.cR
theorem cT.map{α β γ:Type}{R:α→β→Prop}{R':γ→β→Prop}{f:α→γ}: ∀{as:List α} {bs:List β},(∀a b,R a b→R' (f a) b)→cT R as bs→cT R' (as.map f) bs
 | [],[],_,_=>trivial
 |a::as,b::bs,h,⟨h1,h2⟩=>⟨h a b h1,cT.map h h2⟩
 | [],_::_,_,h=>h.elim
 |_::_,[],_,h=>h.elim
theorem ju.kZ(s:uP ks kv w hp env w' kY env'){x:S1}{u:Value}(h:ju w hp env x u):ju w' kY env' (x.cR ks kv) u:=by
 cases x with
 |a v=>exact RA.kZ s h
 |agg l=>obtain⟨cs,hu,hl⟩:=h;exact⟨cs,hu,hl.map fun a b hr=>RA.kZ s hr⟩
theorem tF.kZ(s:uP ks kv w hp env w' kY env'){tmps:Array Value}{x:SV}{u:Value}(h:tF w hp env tmps x u):tF w' kY env' tmps (x.cR ks kv) u:=by
 cases x with
 |one x=>exact ju.kZ s h
 |Au l=>obtain⟨us,hu,hl⟩:=h;exact⟨us,hu,hl.map fun a b hr=>ju.kZ s hr⟩
 |cond p x=>exact⟨fun hh=>ju.kZ s (h.1 hh),h.2⟩
theorem Good.kZ{zb:eK}{st:St}{tmps:Array Value}(g:Good ty zb st tmps w env)(s:uP ks kv w st.hp env w' kY env')
  (ho: ∀n o,look kY n=some o→RO ty w' kY env' n o (env' n))(hd: ∀n m o o',n≠m→look kY n=some o→look kY m=some o'→ ∀b,b∈(env' n).fp→b∉(env' m).fp)
  (hm: ∀n o,look kY n=some o→ ∀b,b∈(env' n).fp→b∈zb.L∨zb.w.heap.size≤b)(hp: ∀n,nI n=true→(env' n).v=(zb.pv n).v∧ ∀b,b∈(env' n).fp→b∈(zb.pv n).fp):
  Good ty zb ⟨st.n,st.sl.map fun e=>(e.1,e.2.cR ks kv),kY⟩ tmps w' env':=by
 refine⟨ho,hd,fun t v hl=> ?_,hm,hp⟩
 have hl:look (st.sl.map fun e=>(e.1,e.2.cR ks kv)) t=some v:=hl
 rw[nT (α:=SV) (f:=fun e:Nat×SV=>e.2.cR ks kv)]at hl
 cases hq:look st.sl t with
 |none=>rw[hq]at hl;cases hl
 |some y=>
  rw[hq]at hl
  simp only[dI,oI]at hl
  subst hl
  exact tF.kZ s (g.slot t y hq)
end
theorem dr{ks kv:List Nat}{hp:Hp}{n:Nat}:look (dX ks kv hp) n=if n∈ks then none else(look hp n).map (Obj.cR ks kv):=by
 unfold dX
 rw[nT (α:=Obj) (f:=fun e:Nat×Obj=>e.2.cR ks kv)]
 have:look (hp.filter fun e=> !ks.any (aU e.1)) n=if n∈ks then none else look hp n:=by
  induction hp with
  |nil=>simp[look]
  |cons e r ih=>
   obtain⟨j,x⟩:=e
   by_cases hj:j∈ks
   ·have:(ks.any (aU j))=true:=eZ.2 ⟨j,hj,by simp⟩
    rw[ey (by simp[this]),ih]
    by_cases hn:n∈ks
    ·simp[hn]
    ·have:n≠j:=by rintro rfl;exact hn hj
     rw[cj this]
   ·have:(ks.any (aU j))=false:=bR.2 fun y hy hb=>hj (by have:=ay hb;rw[this];exact hy)
    rw[dx (by simp[this])]
    by_cases hn:n=j
    ·subst hn;rw[look_eq,look_eq,if_neg hj]
    ·rw[cj hn,cj hn,ih]
 rw[this]
 split<;>rfl
theorem uQ: ∀{l:List V},xO l=true→ ∀v,v∈l→v≠ .any
 |x::r,h,v,hv=>by
  cases x with
  |any=>simp[xO]at h
  |_=>
   rcases bh.1 hv with rfl|hv
   ·exact fun e=>by cases e
   ·exact uQ (l:=r) (by simpa[xO]using h) v hv
def Hy(Γ:Nat→TK)(st:St):Op→Option St
 | .store t x y=>match jH st [] x,P6 st [] y with
   |some (.a (.ptr n off)),some v=>match look st.hp n with
    |some (.box c)=>match Γ t,v with
     | .st z _ _, .agg l=>match aU l.length z.length&&xO l,JK c off l with
       |true,some c'=>some ⟨st.n,st.sl,(n, .box c')::st.hp⟩
       |_,_=>none
     | .st _ _ _, .a _=>none
     | .other,_=>none
     |_, .a .any=>none
     |_, .a v=>match JK c off [v]with
      |some c'=>some ⟨st.n,st.sl,(n, .box c')::st.hp⟩
      |none=>none
     |_,_=>none
    |_=>none
   |_,_=>none
 | .mapUpdate t m x y=>match Γ t with
   | .mp=>match jH st [] m,jH st [] x,jH st [] y with
     |some (.a (.zn n)),some (.a (.lit (.int .i64 k))),some (.a (.lit (.int .i64 v)))=>match look st.hp n with
      |some (.jG tg l .mp)=>match kL .int tg l with
       |some l=>some ⟨st.n,st.sl,(n, .jG .int (Nt l k v) .mp)::st.hp⟩
       |none=>none
      |_=>none
     |_,_,_=>none
   |_=>none
 |_=>none
section
variable{P:Program}{zb:eK}{st st':St}{a:Act}{w:World}{env:Env}{Q:Exit→Act→World→Prop}{o:Oper}
theorem RA.one(g:Good ty zb st a.tmps w env){v:V}{u:Value}(h:RA w st.hp env v u)(hv:v≠ .any):u.oneCell'=true:=by
 cases v with
 |any=>exact absurd rfl hv
 |lit x=>obtain⟨rfl,h1⟩:=h;exact h1
 |sl t l=>obtain⟨fp,⟨oa,cap,rfl,_⟩,_⟩:=h;rfl
 |own n=>
  obtain⟨⟨t,l,hl⟩,rfl⟩:=h
  obtain⟨oa,cap,h,_⟩:=RO.sl (g.obj n _ hl)
  rw[h];rfl
 |ptr n off=>obtain⟨_,b,_,rfl⟩:=h;rfl
 |Gi f n=>obtain⟨_,b,_,rfl⟩:=h;rfl
 |zU k=>obtain⟨oa,cap,rfl,_⟩:=h;rfl
 |raw x=>obtain⟨rfl,h1⟩:=h;exact h1
 |wJ v t l=>obtain⟨_,fp,⟨oa,cap,rfl,_⟩,_⟩:=h;rfl
 |rZ n i off=>obtain⟨t,l,_,b,o,len,cap,_,rfl⟩:=h;rfl
 |ip t x off=>obtain⟨b,o,cs,fp,rfl,_⟩:=h;rfl
 |vw n p t l=>obtain⟨_,⟨fp,⟨oa,cap,rfl,_⟩,_⟩,_⟩:=h;rfl
 |Jw n t l=>obtain⟨_,b,fp,⟨oa,cap,rfl,_⟩,_⟩:=h;rfl
 |mix n c t l=>obtain⟨_,⟨fp,⟨oa,cap,rfl,_⟩,_⟩,_⟩:=h;rfl
 |zn n=>
  obtain⟨⟨t,l,s,hl⟩,rfl⟩:=h
  rcases RO.Hf (g.obj n _ hl)with⟨_,r,lx,_,h,_⟩| ⟨_,_,hv,_,_,⟨oa,cap,h,_⟩,_⟩| ⟨_,_,_,⟨oa,m,cap,h⟩,_⟩| ⟨_,_,us,hB,_⟩
  ·rw[h];rfl
  ·rw[hv,h];rfl
  ·rw[h];rfl
  ·obtain⟨oa,cap,h,_⟩:=hB.sl
   rw[h];rfl
 |Jv n p t x off=>obtain⟨_,b,o,cs,fp,rfl,_⟩:=h;rfl
theorem zx(g:Good ty zb st a.tmps w env): ∀{l:List V} {us:List Value},cT (RA w st.hp env) l us→(∀v,v∈l→v≠ .any)→ ∀u,u∈us→u.oneCell'=true
 |v::l,u::us,⟨h1,h2⟩,hn,x,hx=>by
  rcases bh.1 hx with rfl|hx
  ·exact RA.one g h1 (hn v (by simp))
  ·exact zx g h2 (fun y hy=>hn y (by simp[hy])) x hx
 | [],_::_,h,_,_,_=>h.elim
theorem Hz(g:Good ty zb st a.tmps w env){n:Nat}{c c':List V}(hl:look st.hp n=some (.box c)){b:Nat}{cs us:List Value}{e:TypeId}{off:Nat}(BU:env n=⟨.pointer (some ⟨b,0,none⟩),[b]⟩)(hh:w.heap[b]? =some (.cells (e9 cs) e (0,0)))
  (hlen:off+us.length≤cs.length)(hc:cT (RA w st.hp env) c' (cs.take off++(us++cs.drop (off+us.length)))):
  Good ty zb ⟨st.n,st.sl,(n, .box c')::st.hp⟩ a.tmps (w.setCells b off us) env:=by
 have hk: ∀x,x≠b→(w.setCells b off us).heap[x]? =w.heap[x]? :=fun x hx=>dV b us off w x hx
 have hlk: ∀m o,look ((n,Obj.box c')::st.hp) m=some o→(m=n∧o= .box c')∨(m≠n∧look st.hp m=some o):=by
  intro m o hm
  by_cases hmn:m=n
  ·subst hmn;rw[look_eq]at hm;simp only[oI]at hm;exact bI ⟨rfl,hm.symm⟩
  ·rw[cj hmn]at hm;exact bn ⟨hmn,hm⟩
 have how:Ow st.hp env b:=⟨n,_,hl,by rw[BU];simp⟩
 have s:Step (fun _=>True) (fun _=>True) w st.hp env (w.setCells b off us) ((n, .box c')::st.hp) env:=by
  refine⟨fun x _ hx=>hk x (fun e=>hx (e▸how)),?_,?_,?_⟩
  ·rintro x _ ⟨m,o,h1,h2⟩
   rcases hlk m o h1 with⟨rfl,rfl⟩| ⟨_,h1⟩
   ·exact⟨m,_,hl,h2⟩
   ·exact⟨m,o,h1,h2⟩
  ·intro m o _ h1
   by_cases hmn:m=n
   ·subst hmn
    rw[hl]at h1
    simp only[oI]at h1
    subst h1
    exact⟨_,look_eq,trivial,rfl⟩
   ·exact⟨o,by rw[cj hmn];exact h1,by cases o<;>simp[Obj.like],rfl⟩
  ·intro m t l _ h1
   have hmn:m≠n:=by rintro rfl;rw[hl]at h1;cases h1
   refine⟨by rw[cj hmn];exact h1,rfl,fun x hx=>hk x ?_⟩
   rintro rfl
   exact g.mu m n _ _ hmn h1 hl x hx (by rw[BU];simp)
 refine⟨fun m o hm=> ?_,fun m m' o o' hne h1 h2=> ?_,fun t v hv=>tF.step s (fun v _=>v.gM) (g.slot t v hv),fun m o hm b hb=> ?_,g.pins⟩
 ·rcases hlk m o hm with⟨rfl,rfl⟩| ⟨hmn,hm⟩
  ·refine⟨b,_,e,BU,?_,hc.mono fun v u _ h=>RA.step s v.gM h⟩
   rw[G2 hh,tM us cs off hlen]
  ·have hro:=g.obj m o hm
   refine hro.step s (Obj.gM _) fun x hx=>hk x ?_
   rintro rfl
   exact g.mu m n o _ hmn hm hl x hx (by rw[BU];simp)
 ·rcases hlk m o h1 with⟨e1,e2⟩| ⟨_,k1⟩<;>rcases hlk m' o' h2 with⟨e3,e4⟩| ⟨_,k2⟩
  ·exact absurd (e1.trans e3.symm) hne
  ·exact g.mu m m' _ _ hne (e1▸hl) k2
  ·exact g.mu m m' _ _ hne k1 (e3▸hl)
  ·exact g.mu m m' _ _ hne k1 k2
 ·rcases hlk m o hm with⟨e1,_⟩| ⟨_,k1⟩
  ·subst e1;exact g.dom m _ hl b hb
  ·exact g.dom m o k1 b hb
theorem BX{b:Nat}(hb:b∈zb.L∨zb.w.heap.size≤b){c:Array Value}{e:TypeId}(hh:w.heap[b]? =some (.cells c e (0,0)))(off:Nat)(us:List Value):Kept zb w (w.setCells b off us):=by
 have h0:=GR (B:=0) (w:=w) (iY 0 w) (aD b) off us
 refine⟨h0.os,h0.tape,h0.output,h0.size,fun x hx hn=>dV b us off w x ?_,fun x c' e' hx=> ?_⟩
 ·rintro rfl
  rcases hb with h|h
  ·exact hn h
  ·omega
 ·by_cases hxb:x=b
  ·subst hxb
   rw[hh]at hx
   simp only[oI,Go.Obj.cells.injEq,and_true]at hx
   obtain⟨rfl,rfl⟩:=hx
   obtain⟨c2,h1,h2⟩:=gf x e us off w c hh
   exact⟨c2,h1,h2⟩
  ·exact⟨c',by rw[dV b us off w x hxb];exact hx,rfl⟩
theorem ry{t b off:Nat}{v:Value}{us:List Value}(hv:v.cells=us.toArray)(ht:w.there b off us.length)(hi:(P.info? t).map (·.size)=some us.length)(h1: ∀u,u∈us→u.oneCell'=true):
  (storeVar t ⟨b,off,none⟩ v).run P w= .ok () (w.setCells b off us):=by
 have:=run_storeVar_mid (P:=P) w b off t us.toArray (by simpa using ht) (by simpa using hi) (all_oneCell_toArray h1)
 unfold storeVar at this ⊢
 rw[hv]
 exact this
theorem XK(g:Good ty zb st a.tmps w env){n:Nat}{l0 l':List Int}(hl:look st.hp n=some (.jG .int l0 .mp)){r:Nat}(BU:env n=⟨.map (some r),[r]⟩){o0:Go.Obj}(hh:w.heap[r]? =some o0){es:Array MapEntry}{clock:Nat}(he:Ls es.toList l'):
  Good ty zb ⟨st.n,st.sl,(n, .jG .int l' .mp)::st.hp⟩ a.tmps {w with heap:=w.heap.setIfInBounds r (.map es clock)} env:=by
 have hk: ∀x,x≠r→(w.heap.setIfInBounds r (.map es clock))[x]? =w.heap[x]? :=fun x hx=>(mY hh).2 x hx
 have hlk: ∀m o,look ((n,Obj.jG .int l' .mp)::st.hp) m=some o→(m=n∧o= .jG .int l' .mp)∨(m≠n∧look st.hp m=some o):=by
  intro m o hm
  by_cases hmn:m=n
  ·subst hmn;rw[look_eq]at hm;simp only[oI]at hm;exact bI ⟨rfl,hm.symm⟩
  ·rw[cj hmn]at hm;exact bn ⟨hmn,hm⟩
 have how:Ow st.hp env r:=⟨n,_,hl,by rw[BU];simp⟩
 have s:Step (fun _=>True) (fun _=>True) w st.hp env {w with heap:=w.heap.setIfInBounds r (.map es clock)} ((n, .jG .int l' .mp)::st.hp) env:=by
  refine⟨fun x _ hx=>hk x (fun e=>hx (e▸how)),?_,?_,?_⟩
  ·rintro x _ ⟨m,o,h1,h2⟩
   rcases hlk m o h1 with⟨rfl,rfl⟩| ⟨_,h1⟩
   ·exact⟨m,_,hl,h2⟩
   ·exact⟨m,o,h1,h2⟩
  ·intro m o _ h1
   by_cases hmn:m=n
   ·subst hmn
    rw[hl]at h1
    simp only[oI]at h1
    subst h1
    exact⟨_,look_eq,rfl,rfl⟩
   ·exact⟨o,by rw[cj hmn];exact h1,by cases o<;>simp[Obj.like],rfl⟩
  ·intro m t l _ h1
   have hmn:m≠n:=by rintro rfl;rw[hl]at h1;cases h1
   refine⟨by rw[cj hmn];exact h1,rfl,fun x hx=>hk x ?_⟩
   rintro rfl
   exact g.mu m n _ _ hmn h1 hl x hx (by rw[BU];simp)
 refine⟨fun m o hm=> ?_,fun m m' o o' hne h1 h2=> ?_,fun t v hv=>tF.step s (fun v _=>v.gM) (g.slot t v hv),fun m o hm b hb=> ?_,g.pins⟩
 ·rcases hlk m o hm with⟨rfl,rfl⟩| ⟨hmn,hm⟩
  ·exact⟨r,l',rfl,BU,es,clock,(mY hh).1,he⟩
  ·have hro:=g.obj m o hm
   refine hro.step s (Obj.gM _) fun x hx=>hk x ?_
   rintro rfl
   exact g.mu m n o _ hmn hm hl x hx (by rw[BU];simp)
 ·rcases hlk m o h1 with⟨e1,e2⟩| ⟨_,k1⟩<;>rcases hlk m' o' h2 with⟨e3,e4⟩| ⟨_,k2⟩
  ·exact absurd (e1.trans e3.symm) hne
  ·exact g.mu m m' _ _ hne (e1▸hl) k2
  ·exact g.mu m m' _ _ hne k1 (e3▸hl)
  ·exact g.mu m m' _ _ hne k1 k2
 ·rcases hlk m o hm with⟨e1,_⟩| ⟨_,k1⟩
  ·subst e1;exact g.dom m _ hl b hb
  ·exact g.dom m o k1 b hb
theorem XL{r:Nat}(hb:r∈zb.L∨zb.w.heap.size≤r){es0 es:Array MapEntry}{c0 clock:Nat}(hh:w.heap[r]? =some (.map es0 c0)):Kept zb w {w with heap:=w.heap.setIfInBounds r (.map es clock)}:=by
 refine⟨rfl,rfl,rfl,by simp,fun x hx hn=>(mY hh).2 x ?_,fun x c' e' hx=>⟨c',?_,rfl⟩⟩
 ·rintro rfl
  rcases hb with h|h
  ·exact hn h
  ·omega
 ·rw[(mY hh).2 x (by rintro rfl;rw[hh]at hx;cases hx)];exact hx
theorem UR{Γ:Nat→TK}(C: ∀t,fK P t (Γ t))(Z: ∀t,(∀z tg fo,Γ t≠ .st z tg fo)→Γ t≠ .other→(P.info? t).map (·.size)=some 1)(h:Hy Γ st o.op=some st')(g:Good ty zb st a.tmps w env):
  o.wp P a w (fun a' w'=>a'=a.put o.dst undef∧Kept zb w w'∧Good ty zb st' a.tmps w' env∧st'.n=st.n∧st'.sl=st.sl) Q:=by
 have hop: ∀{x v},jH st [] x=some v→ju w st.hp env v (a.eval x):=fun hx=>gG g (fun e he=>by simp at he) hx
 have hor: ∀{x v},P6 st [] x=some v→ju w st.hp env v (a.eval x):=fun hx=>AL g (fun e he=>by simp at he) hx
 generalize jf:o.op=op at h
 cases op with
 |mapUpdate t m x y=>
  simp only[Hy]at h
  split at h
  case h_2=>cases h
  rename_i hk
  have hC:=C t
  rw[hk]at hC
  obtain⟨kt,et,ht,hkt,_,_⟩:=hC
  split at h
  case h_2=>cases h
  rename_i n k v hm hx hy
  split at h
  case h_2=>cases h
  rename_i tg l0 hl
  split at h
  case h_2=>cases h
  rename_i l hc
  simp only[oI]at h
  obtain⟨e1,e2⟩:=ga hc
  subst e1
  subst e2
  obtain⟨_,hu⟩:=hop hm
  have hx:=(hop hx).lit
  have hy:=(hop hy).lit
  obtain⟨r,lx,h1,h2,h3⟩:=g.obj n _ hl
  rw[hc]at h1
  simp only[oI]at h1
  subst h1
  obtain⟨es,clock,q1,q2,es0,c0,q3⟩:=BI (x:=k) (y:=v) ht hkt h3
  have Wr:a.eval m= .map (some r):=by rw[hu,h2]
  have hM:=g.dom n _ hl r (by rw[h2];simp)
  subst h
  unfold iE execOp
  simp only[jf,Wr,hx,hy,q1,cI,cQ,bP]
  exact⟨by trivial,XL hM q3,XK g hl h2 q3 q2,by trivial,by trivial⟩
 |store t x y=>
  simp only[Hy]at h
  split at h
  ·rename_i n off v hx hy
   have hx:=hop hx
   have hy:=hor hy
   split at h
   ·rename_i c hl
    obtain⟨_,b,hb,hu⟩:=hx
    obtain⟨b',cs,e,BU,hh,hc⟩:=g.obj n _ hl
    have hM:=g.dom n _ hl b' (by rw[BU];simp)
    have hbb:b=b':=by rw[BU]at hb;simpa using hb.symm
    subst hbb
    have fin: ∀{us:List Value} {c':List V},(a.eval y).cells=us.toArray→(P.info? t).map (·.size)=some us.length→(∀u,u∈us→u.oneCell'=true)→off+us.length≤cs.length→cT (RA w st.hp env) c' (cs.take off++(us++cs.drop (off+us.length)))→st'=⟨st.n,st.sl,(n, .box c')::st.hp⟩→
      o.wp P a w (fun a' w'=>a'=a.put o.dst undef∧Kept zb w w'∧Good ty zb st' a.tmps w' env∧st'.n=st.n∧st'.sl=st.sl) Q:=by
     intro us c' h1 h2 h3 h4 h5 h6
     subst h6
     unfold iE execOp
     simp only[jf,hu,vP,kU,cI,cQ,bP,ry h1 (Li hh off us.length h4) h2 h3]
     exact⟨by trivial,BX hM hh off us,Hz g hl BU hh h4 h5,by trivial,by trivial⟩
    split at h
    ·rename_i z tg fo l hk _
     split at h
     ·rename_i c' hlen hs
      simp only[oI]at h
      obtain⟨us,XE,P9⟩:=hy
      obtain⟨k1,k2⟩:=LD hc P9 hs
      have hC:=C t
      rw[hk]at hC
      obtain⟨fs,_,hi,_⟩:=hC
      simp only[ak]at hlen
      have oO:=ay hlen.1
      refine fin (us:=us) (by rw[XE];rfl) ?_ ?_ k1 k2 h.symm
      ·rw[P9.len,oO]
       cases hq:P.info? t with
       |none=>simp[hq]at hi
       |some i=>simp[hq]at hi;simp[hi.1]
      ·exact zx g P9 (uQ hlen.2)
     ·cases h
    ·cases h
    ·cases h
    ·cases h
    ·rename_i v k1 k2 k3 _
     split at h
     ·rename_i c' hs
      simp only[oI]at h
      obtain⟨q1,q2⟩:=LD (vs:= [v]) (us:= [a.eval y]) hc ⟨hy,trivial⟩ hs
      have hne:v≠ .any:=fun e=>k1 e
      refine fin (us:= [a.eval y]) (nq g hy hne) (Z t (fun z tg fo hz=>k2 z tg fo hz) k3) ?_ q1 q2 h.symm
      intro u hu'
      rw[aR.1 hu']
      exact RA.one g hy hne
     ·cases h
    ·cases h
   ·cases h
  ·cases h
 |_=>simp[Hy]at h
end
end
section
variable{ty:Tag→Nat}
theorem BY{α:Type}{k:Nat}{E:ER α}(G:j0 k E)(hk:0<k){w:World}{u:Value}{l:List α}{fp:List Nat}(h:Sl k E w u l fp):
  ∃(news:List Value) (fx:List (List Nat)),Src w u l.length news∧fx.length=l.length∧news.length=l.length*k∧(∀i x f,l[i]? =some x→fx[i]? =some f→E w ((news.drop (i*k)).take k) x f)∧fx.flatten.Sublist fp:=by
 obtain⟨news,fx,h1,h2,h3,h4,h5,_⟩:=uO G hk h
 exact⟨news,fx,h1,h2,h3,h4,h5⟩
theorem vA.NP{ks kv:List Nat}{r:vA}(h:r.br):(r.cR ks kv).br:=by
 cases r with
 |mp=>exact h.elim
 |Nb u=>exact h.elim
 |zV p=>exact h.elim
 |gone=>trivial
 |sj=>trivial
 |of n=>unfold vA.cR;dsimp only;split<;>trivial
theorem DE.kZ{ks kv:List Nat}{w w':World}{hp kY:Hp}{env env':Env}(s:uP ks kv w hp env w' kY env'){n:Nat}{t:Tag}{l:List (T t)}{p:Option (Nat×Nat×Nat)}{co:CO}(hk: ∀b,b∈co.fp→w'.heap[b]? =w.heap[b]?)(h:DE ty w hp env t l p co):RO ty w' kY env' n (.jG t l ((vA.zV p).cR ks kv)) co:=by
 have hnone:DE ty w' kY env' t l none co:=⟨h.1.agree hk,h.2.1,fun _ _ _ e=>by cases e⟩
 cases p with
 |none=>exact hnone
 |some e=>
  obtain⟨m,i,o⟩:=e
  unfold vA.cR
  dsimp only
  split
  ·exact hnone
  ·rename_i hn
   rw[gB,bR,bR]at hn
   refine DE.step s (fun n hm=> ?_) hk h
   simp only[vA.name,oI]at hm
   subst hm
   exact⟨fun hm=>hn.1 _ hm (by simp),fun hm=>hn.2 _ hm (by simp)⟩
theorem RO.kZ{ks kv:List Nat}{w w':World}{hp kY:Hp}{env env':Env}(s:uP ks kv w hp env w' kY env'){n:Nat}{o:Obj}{co:CO}
  (hk: ∀b,b∈co.fp→w'.heap[b]? =w.heap[b]?)(h:RO ty w hp env n o co):RO ty w' kY env' n (o.cR ks kv) co:=by
 cases o with
 |box c=>
  obtain⟨b,cs,e,rfl,hh,hc⟩:=h
  exact⟨b,cs,e,rfl,by rw[hk b (by simp)];exact hh,hc.map fun a u hr=>RA.kZ s hr⟩
 |arr t l=>exact RO.agree h hk
 |jG t l r=>
  rcases RO.Hf h with⟨rfl,h⟩| ⟨u,rfl,h⟩| ⟨p,rfl,h⟩| ⟨hr,h1,us,hB,h2,h3⟩
  ·exact Nz.agree h hk
  ·exact Lw.step s hk h
  ·exact DE.kZ s hk h
  ·exact RO.UL (vA.NP hr) ⟨h1,us,mo.agree BM hB hk,h2,fun i x u hx hu=>BE.kZ s (h3 i x u hx hu)⟩
def St.gone(st:St)(ks:List Nat)(d:Nat)(t:Tag)(l:List (T t)):St:=
 match ks with
 | []=>⟨st.n,st.sl,(d, .arr t l)::st.hp⟩
 |ks=>⟨st.n,st.sl.map fun e=>(e.1,e.2.cR ks []),(d, .arr t l)::dX ks [] st.hp⟩
theorem V.lZ(v:V):v.cR [] []=v:=by
 unfold V.cR;split<;>simp
theorem S1.lZ(x:S1):x.cR [] []=x:=by
 cases x with
 |a v=>simp[S1.cR,V.lZ]
 |agg l=>simp only[S1.cR,S1.agg.injEq];rw[fD (g:=id) fun v _=>V.lZ v,o7]
theorem SV.lZ(x:SV):x.cR [] []=x:=by
 cases x with
 |one x=>simp[SV.cR,S1.lZ]
 |Au l=>simp only[SV.cR,SV.Au.injEq];rw[fD (g:=id) fun v _=>S1.lZ v,o7]
 |cond p x=>simp[SV.cR,S1.lZ]
theorem QA(hp:Hp):dX [] [] hp=hp:=by
 unfold dX
 rw[List.filter_eq_self.2 (by simp),fD (g:=id),o7]
 rintro⟨n,o⟩ _
 cases o with
 |box c=>simp only[Obj.cR,id];rw[fD (g:=id) fun v _=>V.lZ v,o7]
 |arr t l=>rfl
 |jG t l s=>cases s with
  |zV p=>cases p<;>rfl
  |_=>rfl
theorem St.gone_eq(st:St)(ks:List Nat)(d:Nat)(t:Tag)(l:List (T t)):st.gone ks d t l=⟨st.n,st.sl.map fun e=>(e.1,e.2.cR ks []),(d, .arr t l)::dX ks [] st.hp⟩:=by
 unfold St.gone
 split
 ·rw[QA,fD (g:=id),o7]
  rintro⟨n,x⟩ _
  simp[SV.lZ]
 ·rfl
section
variable{P:Program}{zb:eK}{st st':St}{a:Act}{w:World}{env:Env}{Q:Exit→Act→World→Prop}{o:Oper}
theorem sD{ks:List Nat}(h:pinned ks=false){n:Nat}(hn:n∈ks):soft n=false:=by
 unfold pinned at h
 rw[bR]at h
 simpa using h n hn
theorem DM(g:Good ty zb st a.tmps w env)(hB:zb.w.heap.size≤w.heap.size){ks:List Nat}(hpk:pinned ks=false){d:Nat}(hdp:nI d=false)(hd:look (dX ks [] st.hp) d=none){v v':Value}{w':World}{ob:Obj}{fp fx jD:List Nat}
  (jr: ∀b,b∈fp++fx→ ∃i o,i∈ks∧look st.hp i=some o∧b∈(env i).fp)(Fb: ∀b,v.ownBlock=some b→b∈fp)
  (hRO: ∀env':Env,env' d=⟨v',jD⟩→uP ks [] w st.hp env w' ((d,ob)::dX ks [] st.hp) env'→RO ty w' ((d,ob)::dX ks [] st.hp) env' d ob ⟨v',jD⟩)(hg:w.grownBy w' v.ownBlock)(hsub: ∀b,b∈jD→b∈fp∨b∈fx∨b=w.heap.size):
  ∃env',Good ty zb ⟨st.n,st.sl.map fun e=>(e.1,e.2.cR ks []),(d,ob)::dX ks [] st.hp⟩ a.tmps w' env'∧(env' d).v=v'∧(∀n,n≠d→env' n=env n)∧(env' d).fp=jD:=by
 refine⟨fun n=>if n=d then⟨v',jD⟩else env n,?_,by simp,fun n hn=>by simp[hn],by simp⟩
 have hlk: ∀m o,look ((d,ob)::dX ks [] st.hp) m=some o→(m=d∧o=ob)∨(m≠d∧m∉ks∧ ∃o',look st.hp m=some o'∧o=o'.cR ks []):=by
  intro m o hm
  by_cases lG:m=d
  ·subst lG;rw[look_eq]at hm;simp only[oI]at hm;exact bI ⟨rfl,hm.symm⟩
  ·rw[cj lG,dr]at hm
   split at hm
   ·cases hm
   ·rename_i hks
    cases hq:look st.hp m with
    |none=>rw[hq]at hm;cases hm
    |some o'=>rw[hq]at hm;simp only[dI,oI]at hm;exact bn ⟨lG,hks,o',rfl,hm.symm⟩
 have how: ∀b,b∈jD→b<w.heap.size→ ∃i o,i∈ks∧look st.hp i=some o∧b∈(env i).fp:=by
  intro b hb hlt
  rcases hsub b hb with h|h|h
  ·exact jr b (aN _ h)
  ·exact jr b (aH _ h)
  ·omega
 have hnd: ∀m o,m∉ks→look st.hp m=some o→m≠d:=by
  rintro m o hks h1 rfl
  rw[dr,if_neg hks,h1]at hd
  cases hd
 have hst: ∀m o,m∉ks→look st.hp m=some o→ ∀b,b∈(env m).fp→w'.heap[b]? =w.heap[b]? :=by
  intro m o hks h3 b hb
  refine hg.block b ((g.obj m o h3).AH b hb) fun e=> ?_
  obtain⟨i,oi,hi,h5,h6⟩:=jr b (aN _ (Fb b e.symm))
  exact g.mu m i _ _ (fun e=>hks (e▸hi)) h3 h5 b hb h6
 have s:uP ks [] w st.hp env w' ((d,ob)::dX ks [] st.hp) (fun n=>if n=d then⟨v',jD⟩else env n):=by
  refine⟨fun b hb hno=>hg.block b hb fun e=> ?_,?_,?_,?_⟩
  ·obtain⟨i,o',_,h1,h2⟩:=jr b (aN _ (Fb b e.symm))
   exact hno ⟨i,o',h1,h2⟩
  ·rintro b hb ⟨m,o',h1,h2⟩
   rcases hlk m o' h1 with⟨rfl,_⟩| ⟨lG,hks,By,h3,rfl⟩
   ·simp at h2
    obtain⟨i,o',_,h3,h4⟩:=how b h2 hb
    exact⟨i,o',h3,h4⟩
   ·simp[lG]at h2
    exact⟨m,By,h3,h2⟩
  ·intro m o' hks h1
   have lG:=hnd m o' hks h1
   refine⟨o'.cR ks [],by rw[cj lG,dr,if_neg hks,h1];rfl,by cases o'<;>simp[Obj.like,Obj.cR],by simp[lG]⟩
  ·rintro m t' l' ⟨hks,_⟩ h1
   have lG:=hnd m _ hks h1
   exact⟨by rw[cj lG,dr,if_neg hks,h1];rfl,by simp[lG],hst m _ hks h1⟩
 refine g.kZ s (fun m o' hm=> ?_) (fun m m' o1 o2 hne h1 h2 b hb hb'=> ?_) (fun m o' hm b hb=> ?_) (fun m hm=> ?_)
 ·rcases hlk m o' hm with⟨e1,e2⟩| ⟨lG,hks,By,h3,rfl⟩
  ·rw[e1,e2]
   simp only[if_true]
   exact hRO _ (by simp) s
  ·simp only[if_neg lG]
   have hro:=g.obj m By h3
   exact hro.kZ s (hst m By hks h3)
 ·rcases hlk m o1 h1 with⟨e1,_⟩| ⟨lG,hks,q1,h3,_⟩<;>rcases hlk m' o2 h2 with⟨e2,_⟩| ⟨FT,QC,q2,h4,_⟩
  ·exact hne (e1.trans e2.symm)
  ·simp only[if_pos e1]at hb
   simp only[if_neg FT]at hb'
   have hlt:=(g.obj m' q2 h4).AH b hb'
   obtain⟨i,oi,hi,h5,h6⟩:=how b hb hlt
   exact g.mu m' i _ _ (fun e=>QC (e▸hi)) h4 h5 b hb' h6
  ·simp only[if_pos e2]at hb'
   simp only[if_neg lG]at hb
   have hlt:=(g.obj m q1 h3).AH b hb
   obtain⟨i,oi,hi,h5,h6⟩:=how b hb' hlt
   exact g.mu m i _ _ (fun e=>hks (e▸hi)) h3 h5 b hb h6
  ·simp only[if_neg lG]at hb
   simp only[if_neg FT]at hb'
   exact g.mu m m' _ _ hne h3 h4 b hb hb'
 ·rcases hlk m o' hm with⟨e1,_⟩| ⟨lG,hks,q1,h3,_⟩
  ·simp only[if_pos e1]at hb
   by_cases hlt:b<w.heap.size
   ·obtain⟨i,oi,hi,h5,h6⟩:=how b hb hlt
    exact g.dom i oi h5 b h6
   ·exact bn (by omega)
  ·simp only[if_neg lG]at hb
   exact g.dom m q1 h3 b hb
 ·have:m≠d:=by rintro rfl;rw[hdp]at hm;cases hm
  simp only[if_neg this]
  exact g.pins m hm
theorem DN(g:Good ty zb st a.tmps w env)(hB:zb.w.heap.size≤w.heap.size){ks:List Nat}(hpk:pinned ks=false){d:Nat}(hdp:nI d=false)(hd:look (dX ks [] st.hp) d=none){v v':Value}{w':World}{t:Tag}{l:List (T t)}{fp fx jD:List Nat}
  (jr: ∀b,b∈fp++fx→ ∃i o,i∈ks∧look st.hp i=some o∧b∈(env i).fp)(Fb: ∀b,v.ownBlock=some b→b∈fp)
  (hB':mo (kk t) (rd t) 0 (ty t) w' v' l jD)(hg:w.grownBy w' v.ownBlock)(hsub: ∀b,b∈jD→b∈fp∨b∈fx∨b=w.heap.size):
  ∃env',Good ty zb ⟨st.n,st.sl.map fun e=>(e.1,e.2.cR ks []),(d, .arr t l)::dX ks [] st.hp⟩ a.tmps w' env'∧(env' d).v=v'∧(∀n,n≠d→env' n=env n)∧(env' d).fp=jD:=
 DM g hB hpk hdp hd jr Fb (fun _ _ _=>RO.Ki hB') hg hsub
theorem BZ(g:Good ty zb st a.tmps w env)(hB:zb.w.heap.size≤w.heap.size){ks:List Nat}(hpk:pinned ks=false){d:Nat}(hdp:nI d=false)(hd:look (dX ks [] st.hp) d=none){v v':Value}{w':World}{t:Tag}{l:List (T t)}{fp fx jD:List Nat}
  (jr: ∀b,b∈fp++fx→ ∃i o,i∈ks∧look st.hp i=some o∧b∈(env i).fp)(Fb: ∀b,v.ownBlock=some b→b∈fp)
  (hB':mo (kk t) (rd t) 0 (ty t) w' v' l jD)(hg:w.grownBy w' v.ownBlock)(hsub: ∀b,b∈jD→b∈fp∨b∈fx∨b=w.heap.size):
  ∃env',Good ty zb ⟨st.n,st.sl.map fun e=>(e.1,e.2.cR ks []),(d, .arr t l)::dX ks [] st.hp⟩ a.tmps w' env'∧(env' d).v=v':=by
 obtain⟨env',h1,h2,_⟩:=DN g hB hpk hdp hd jr Fb hB' hg hsub
 exact⟨env',h1,h2⟩
end
def HA(st:St)(t:Tag):S1→Option (List (T t)×List Nat)
 | .a (.own n)=>match look st.hp n with
   |some (.arr t' l)=>match kL t t' l with|some l=>some (l,[n])|none=>none
   |_=>none
 | .a (.lit (.slice none 0 0))=>some ([],[])
 |_=>none
def LJ(st:St)(t:Tag):S1→Option (List (T t)×List Nat)
 | .a (.own n)=>match look st.hp n with
   |some (.arr t' l)=>match kL t t' l with|some l=>some (l,match flat t with|true=> []|false=> [n])|none=>none
   |_=>none
 | .a (.sl t' l)=>match flat t,kL t t' l with
   |true,some l=>some (l,[])
   |false,some l=>match l with| []=>some ([],[])|_=>none
   |_,_=>none
 | .a (.vw n _ t' l)=>match kL t t' l with
   |some l=>some (l,match flat t with|true=> []|false=> [n])
   |none=>none
 | .a (.Jw n t' l)=>match kL t t' l with
   |some l=>some (l,[n])
   |none=>none
 | .a (.lit (.slice none 0 0))=>some ([],[])
 | .a (.zU 0)=>some ([],[])
 |_=>none
def rz{α:Type}:List α→List α→List α
 | [],l=>l
 | [x],l=>x::l
 |k,l=>k++l
theorem gV{α:Type}(k l:List α):rz k l=k++l:=by
 unfold rz;split<;>rfl
def B0(k m:List Nat):Bool:=k.all fun x=> !m.any fun y=>aU x y
def QD(P:Program)(ty:Tag→Nat)(Γ:Nat→TK)(st:St)(m0:Nat):Op→Option (List Prop×St×SV)
 | .call ⟨.builtin .append,xs,ts⟩=>match xs.toList,ts.toList with
   | [s,x],[t1,t2]=>match Γ t1,aU t1 t2 with
     | .sl t e,true=>match aU e (ty t),jH st [] s,jH st [] x with
       |true,some vs,some vx=>match HA st t vs,LJ st t vx with
        |some (l,k),some (lx,m)=>match B0 k m&& !pinned (rz k m)&& !nI m0,look (dX (rz k m) [] st.hp) m0 with
         |true,none=>some ([El P ty t,(l.length+lx.length)*gb t≤140737488355328∧l.length+lx.length≤maxLen],
           st.gone (rz k m) m0 t (l++lx), .one (.a (.own m0)))
         |_,_=>none
        |_,_=>none
       |_,_,_=>none
     |_,_=>none
   |_,_=>none
 |_=>none
section
variable{P:Program}{zb:eK}{st:St}{a:Act}{w:World}{env:Env}{Q:Exit→Act→World→Prop}{o:Oper}
theorem DO(g:Good ty zb st a.tmps w env){t:Tag}{x:S1}{u:Value}{l:List (T t)}{k:List Nat}(hr:ju w st.hp env x u)(h:HA st t x=some (l,k)):
  pinned k=false→ ∃fp,mo (kk t) (rd t) 0 (ty t) w u l fp∧(∀b,b∈fp→ ∃i o,i∈k∧look st.hp i=some o∧b∈(env i).fp)
  :=by
 intro hpk
 unfold HA at h
 split at h
 ·rename_i n
  split at h
  ·rename_i t' l' hl
   split at h
   ·rename_i l2 hc
    simp only[oI,pI]at h
    obtain⟨rfl,rfl⟩:=h
    obtain⟨e,rfl⟩:=ga hc
    subst e
    obtain⟨_,rfl⟩:=hr
    exact⟨(env n).fp,RO.bld (sD hpk (by simp)) (g.obj n _ hl),fun b hb=>⟨n,_,by simp,hl,hb⟩⟩
   ·cases h
  ·cases h
 ·simp only[oI,pI]at h
  obtain⟨rfl,rfl⟩:=h
  have hu:=(show ju w st.hp env (.a (.lit Lu)) u from hr).lit
  subst hu
  exact⟨[],mo.nil _ _ _ _ _,by simp⟩
 ·cases h
theorem HB{t:Tag}(hf:flat t=true){u:Value}{l:List (T t)}{fp:List Nat}(hs:Sl (kk t) (rd t) w u l fp):
  ∃(news:List Value) (fx:List (List Nat)),Src w u l.length news∧fx.length=l.length∧news.length=l.length*kk t∧(∀i x f,l[i]? =some x→fx[i]? =some f→rd t w ((news.drop (i*kk t)).take (kk t)) x f)∧fx.flatten= []:=by
 obtain⟨news,fx,h1,h2,h3,h4,h5⟩:=BY (gh t) (jt t) hs
 refine⟨news,fx,h1,h2,h3,h4,?_⟩
 rw[List.flatten_eq_nil_iff]
 intro f hf'
 obtain⟨i,hi⟩:=ff hf'
 have hil:i<l.length:=by have:=(aI.1 hi).1;omega
 exact abB t hf (h4 i _ f (au hil) hi)
theorem Kr(g:Good ty zb st a.tmps w env){t:Tag}{x:S1}{u:Value}{l:List (T t)}{k:List Nat}(hr:ju w st.hp env x u)(h:LJ st t x=some (l,k)):
  ∃(news:List Value) (fx:List (List Nat)),Src w u l.length news∧fx.length=l.length∧news.length=l.length*kk t∧(∀i x f,l[i]? =some x→fx[i]? =some f→rd t w ((news.drop (i*kk t)).take (kk t)) x f)∧
   (∀b,b∈fx.flatten→ ∃i o,i∈k∧look st.hp i=some o∧b∈(env i).fp)∧Own 0 w fx.flatten:=by
 unfold LJ at h
 split at h
 ·rename_i n
  split at h
  ·rename_i t' l' hl
   split at h
   ·rename_i l2 hc
    simp only[oI,pI]at h
    obtain⟨rfl,hk⟩:=h
    obtain⟨e,rfl⟩:=ga hc
    subst e
    obtain⟨_,rfl⟩:=hr
    have hb:=RO.sl (g.obj n _ hl)
    split at hk
    ·rename_i hf
     subst hk
     obtain⟨news,fx,h1,h2,h3,h4,h5⟩:=HB hf hb
     exact⟨news,fx,h1,h2,h3,h4,by simp[h5],by rw[h5];exact Own.nil _ _⟩
    ·subst hk
     obtain⟨news,fx,h1,h2,h3,h4,h5⟩:=BY (gh t') (jt t') hb
     have ho:=RO.own (g.obj n _ hl)
     exact⟨news,fx,h1,h2,h3,h4,fun b hb=>⟨n,_,by simp,hl,h5.subset hb⟩,⟨h5.nodup ho.nodup,fun b hb=>ho.ge b (h5.subset hb),fun b hb=>ho.kind b (h5.subset hb)⟩⟩
   ·cases h
  ·cases h
 ·rename_i t' l'
  split at h
  ·rename_i l2 hf hc
   simp only[oI,pI]at h
   obtain⟨rfl,rfl⟩:=h
   obtain⟨e,rfl⟩:=ga hc
   subst e
   obtain⟨fp,hs,_⟩:=hr
   obtain⟨news,fx,h1,h2,h3,h4,h5⟩:=HB hf hs
   exact⟨news,fx,h1,h2,h3,h4,by simp[h5],by rw[h5];exact Own.nil _ _⟩
  ·rename_i l2 hf hc
   split at h
   ·simp only[oI,pI]at h
    obtain⟨rfl,rfl⟩:=h
    obtain⟨e,he⟩:=ga hc
    subst e
    obtain rfl:l'= []:=he.symm
    obtain⟨fp,hs,_⟩:=hr
    obtain⟨news,fx,h1,h2,h3,h4,h5⟩:=BY (gh t') (jt t') hs
    have GN:fx= []:=bN h2
    subst GN
    exact⟨news,[],h1,rfl,h3,by simp,by simp,Own.nil _ _⟩
   ·cases h
  ·cases h
 ·rename_i n _ t' l'
  split at h
  ·rename_i l2 hc
   simp only[oI,pI]at h
   obtain⟨rfl,hk⟩:=h
   obtain⟨e,rfl⟩:=ga hc
   subst e
   obtain⟨⟨tA,lA,hl⟩,⟨fp,hs,hnd,hsub⟩,_⟩:=hr
   split at hk
   ·rename_i hf
    subst hk
    obtain⟨news,fx,h1,h2,h3,h4,h5⟩:=HB hf hs
    exact⟨news,fx,h1,h2,h3,h4,by simp[h5],by rw[h5];exact Own.nil _ _⟩
   ·subst hk
    obtain⟨news,fx,h1,h2,h3,h4,h5⟩:=BY (gh t') (jt t') hs
    have ho:=RO.own (g.obj n _ hl)
    exact⟨news,fx,h1,h2,h3,h4,fun b hb=>⟨n,_,by simp,hl,hsub b (h5.subset hb)⟩,⟨h5.nodup hnd,fun b _=>aD _,fun b hb=>ho.kind b (hsub b (h5.subset hb))⟩⟩
  ·cases h
 ·rename_i n t' l'
  split at h
  ·rename_i l2 hc
   simp only[oI,pI]at h
   obtain⟨rfl,rfl⟩:=h
   obtain⟨e,rfl⟩:=ga hc
   subst e
   obtain⟨⟨tA,lA,hl⟩,b,fp,hs,hb,hnd,hsub⟩:=hr
   obtain⟨news,fx,h1,h2,h3,h4,_,h5⟩:=uO (gh t') (jt t') hs
   have h5:=h5 b fp rfl
   have ho:=RO.own (g.obj n _ hl)
   exact⟨news,fx,h1,h2,h3,h4,fun c hc=>⟨n,_,by simp,hl,hsub c (by rw[←h5];exact hc)⟩,⟨by rw[h5];exact hnd,fun c _=>aD _,fun c hc=>ho.kind c (hsub c (by rw[←h5];exact hc))⟩⟩
  ·cases h
 ·simp only[oI,pI]at h
  obtain⟨rfl,rfl⟩:=h
  have hu:=(show ju w st.hp env (.a (.lit Lu)) u from hr).lit
  subst hu
  exact⟨[],[],bI ⟨rfl,rfl,rfl⟩,rfl,by simp,by simp,by simp,Own.nil _ _⟩
 ·simp only[oI,pI]at h
  obtain⟨rfl,rfl⟩:=h
  obtain⟨oa,cap,rfl,_,_,hz⟩:=hr
  refine⟨[],[],?_,rfl,by simp,by simp,by simp,Own.nil _ _⟩
  cases oa with
  |none=>exact bI ⟨by simp[hz rfl],rfl,rfl⟩
  |some a=>exact bn ⟨a,cap,rfl,by simp⟩
 ·cases h
theorem abW{Γ:Nat→TK}(C: ∀t,fK P t (Γ t)){m0:Nat}{vc:List Prop}{st':St}{v:SV}(h:QD P ty Γ st m0 o.op=some (vc,st',v))(g:Good ty zb st a.tmps w env)(hB:zb.w.heap.size≤w.heap.size)(hv: ∀q,q∈vc→q):
  o.wp P a w (fun a' w'=> ∃u env',a'=a.put o.dst u∧Kept zb w w'∧Good ty zb st' a.tmps w' env'∧st'.n=st.n∧tF w' st'.hp env' a.tmps v u) Q:=by
 have hop: ∀{x v},jH st [] x=some v→ju w st.hp env v (a.eval x):=fun hx=>gG g (fun e he=>by simp at he) hx
 generalize jf:o.op=op at h
 cases op with
 |call c=>
  obtain⟨callee,xs,ts⟩:=c
  cases callee with
  |builtin b=>
   cases b with
   |append=>
    simp only[QD]at h
    split at h
    ·rename_i s x t1 t2 hxl htl
     obtain rfl:xs= #[s,x]:=by cases xs;simp_all
     obtain rfl:ts= #[t1,t2]:=by cases ts;simp_all
     split at h
     ·rename_i t e hk AP
      have AP:=ay AP
      subst AP
      split at h
      ·rename_i vs vx he hs hx
       have he:=ay he
       split at h
       ·rename_i l k lx m hds hsr
        split at h
        ·rename_i hno hlk
         simp only[ak,bq]at hno
         obtain⟨⟨hno,hpk⟩,Hx⟩:=hno
         rw[gV]at hpk
         have agi:pinned k=false:=by
          unfold pinned at hpk ⊢
          rw[xT,gB]at hpk
          exact hpk.1
         simp only[oI,pI,gV]at h
         rw[gV]at hlk
         obtain⟨rfl,h2,rfl⟩:=h
         rw[St.gone_eq]at h2
         subst h2
         have wL:El P ty t:=hv _ (by simp)
         obtain⟨cx,dY⟩:(l.length+lx.length)*gb t≤140737488355328∧l.length+lx.length≤maxLen:=hv _ (by simp)
         obtain⟨fp,hD,xC⟩:=DO g (hop hs) hds agi
         obtain⟨news,fx,n1,n2,n3,n4,n5,n6⟩:=Kr g (hop hx) hsr
         have hC:=C t1
         rw[hk]at hC
         have Uu:Own 0 w (fp++fx.flatten):=by
          have ho:=hD.own
          refine⟨bf.2 ⟨ho.nodup,n6.nodup,?_⟩,fun b hb=> ?_,fun b hb=> ?_⟩
          ·rintro b hb c hc rfl
           obtain⟨i,oi,hi,h1,h2⟩:=xC b hb
           obtain⟨j,oj,hj,h3,h4⟩:=n5 b hc
           have hij:i≠j:=by
            rintro rfl
            simp only[B0,bw,bq,bR]at hno
            exact hno i hi i hj (by simp)
           exact g.mu i j _ _ hij h1 h3 b h2 h4
          ·rcases aL.1 hb with hb|hb
           ·exact ho.ge b hb
           ·exact n6.ge b hb
          ·rcases aL.1 hb with hb|hb
           ·exact ho.kind b hb
           ·exact n6.kind b hb
         refine Gh s x t1 jf (gh t) (jt t) 0 (ty t) (iX t) (gb t) (by rw[←he];exact hC.1) wL (mW t) _ l fp rfl hD _ rfl lx news fx n1 n2 n3 n4 Uu dY cx (aD _) ?_
         intro v' w' jD k1 k2 k3 k4 k5 _
         obtain⟨env',hg',HC⟩:=BZ (ty:=ty) g hB (ks:=k++m) hpk Hx hlk (v:=a.eval s) (fp:=fp) (fx:=fx.flatten)
          (by
           intro b hb
           rcases aL.1 hb with hb|hb
           ·obtain⟨i,oi,hi,h1⟩:=xC b hb;exact⟨i,oi,aN _ hi,h1⟩
           ·obtain⟨i,oi,hi,h1⟩:=n5 b hb;exact⟨i,oi,aH _ hi,h1⟩)
          (by
           intro b hb
           obtain⟨xs,cB,_,_,_,jr,_⟩:=hD
           rw[jr,hb];simp)
          k1 k2 k4
         refine⟨v',env',rfl,⟨k2.os,k2.tape,k2.output,k2.size,fun b hb hn=>k2.block b (by omega) fun e=> ?_,k5⟩,hg',rfl,⟨t,_,look_eq⟩,HC.symm⟩
         have QE:b∈fp:=by
          obtain⟨xs,cB,_,_,_,jr,_⟩:=hD
          rw[jr, ←e];simp
         obtain⟨i,oi,hi,h1,h2⟩:=xC b QE
         rcases g.dom i oi h1 b h2 with h|h
         ·exact hn h
         ·omega
        ·cases h
       ·cases h
      ·cases h
     ·cases h
    ·cases h
   |_=>simp[QD]at h
  |_=>simp[QD]at h
 |_=>simp[QD]at h
end
end
section
variable{ty:Tag→Nat}
def takes(st:St):List V→Option (List V×List Nat)
 | []=>some ([],[])
 | .lit v::r=>match takes st r with|some (c,k)=>some (.lit v::c,k)|none=>none
 | .own n::r=>match look st.hp n,takes st r with
   |some (.arr t l),some (c,k)=>some (.sl t l::c,n::k)
   |_,_=>none
 |_=>none
def HD(st:St)(g:Tag):Nat→List (Nat×Operand)→Option (List Prop×List (T g)×List Nat)
 |_,[]=>some ([],[],[])
 |i,(j,x)::r=>match aU i j,jH st [] x with
  |true,some s=>match takes st (cellsOf s)with
   |some (c,k)=>match enc g c,HD st g (i+1) r with
    |some (vc,y),some (vcs,ys,ks)=>some (vc++vcs,y::ys,k++ks)
    |_,_=>none
   |none=>none
  |_,_=>none
def mZ(st:St):List V→Option (List V×List Nat)
 | []=>some ([],[])
 | .lit v::r=>match mZ st r with|some (c,k)=>some (.lit v::c,k)|none=>none
 | .own n::r=>match look st.hp n,mZ st r with
   |some (.arr t l),some (c,k)=>some (.sl t l::c,n::k)
   |_,_=>none
 | .vw n _ t l::r=>match look st.hp n,mZ st r with
   |some (.arr _ _),some (c,k)=>some (.sl t l::c,n::k)
   |_,_=>none
 |_=>none
def B3(st:St)(g:Tag):Nat→List (Nat×Operand)→Option (List Prop×List (T g)×List Nat)
 |_,[]=>some ([],[],[])
 |i,(j,x)::r=>match aU i j,jH st [] x with
  |true,some s=>match mZ st (cellsOf s)with
   |some (c,k)=>match enc g c,B3 st g (i+1) r with
    |some (vc,y),some (vcs,ys,ks)=>some (vc++vcs,y::ys,k++ks)
    |_,_=>none
   |none=>none
  |_,_=>none
def uw:List Nat→Bool
 | []=>true
 |n::r=> !(r.any fun m=>aU n m)&&uw r
def HE(P:Program)(ty:Tag→Nat)(Γ:Nat→TK)(st:St)(m0:Nat):Op→Option (List Prop×St×SV)
 | .buildSlice t len parts=>match Γ t with
   | .sl g e=>match aU e (ty g),aU parts.toList.length len,mO (len*kk g) 16777216,B3 st g 0 parts.toList with
     |true,true,true,some (vc,xs,ks)=>match uw ks&& !pinned ks&& !nI m0,look (dX ks [] st.hp) m0 with
      |true,none=>some (El P ty g::vc,st.gone ks m0 g xs, .one (.a (.own m0)))
      |_,_=>none
     |_,_,_,_=>none
   |_=>none
 |_=>none
theorem nr: ∀{l:List Nat},uw l=true→l.Nodup
 | [],_=>uo
 |n::r,h=>by
  simp only[uw,ak,bq,bR]at h
  exact cu.2 ⟨fun hm=>h.1 n hm (by simp),nr h.2⟩
section
variable{P:Program}{zb:eK}{st:St}{a:Act}{w:World}{env:Env}{Q:Exit→Act→World→Prop}{o:Oper}
theorem B4(g:Good ty zb st a.tmps w env): ∀{l c:List V} {k:List Nat} {us:List Value},cT (RA w st.hp env) l us→takes st l=some (c,k)→k.Nodup→
  ∃fp,dQ w c us fp∧Own 0 w fp∧ ∀b,b∈fp→ ∃i o,i∈k∧look st.hp i=some o∧b∈(env i).fp
 | [],c,k,us,hr,h,_=>by
   simp only[takes,oI,pI]at h
   obtain⟨rfl,rfl⟩:=h
   cases us with
   |nil=>exact⟨[],rfl,Own.nil _ _,by simp⟩
   |cons _ _=>exact hr.elim
 |v::r,c,k,us,hr,h,hnd=>by
  cases us with
  |nil=>exact hr.elim
  |cons u us=>
   cases v with
   |lit x=>
    simp only[takes]at h
    split at h
    ·rename_i c' k' h'
     simp only[oI,pI]at h
     obtain⟨rfl,rfl⟩:=h
     obtain⟨fp,h1,h2,h3⟩:=B4 g hr.2 h' hnd
     obtain⟨e1,e2⟩:=hr.1
     exact⟨fp,⟨[],fp,⟨e1,e2,rfl⟩,h1,rfl⟩,h2,h3⟩
    ·cases h
   |own n=>
    simp only[takes]at h
    split at h
    ·rename_i t l c' k' hl h'
     simp only[oI,pI]at h
     obtain⟨rfl,rfl⟩:=h
     obtain⟨hn1,hn2⟩:=cu.1 hnd
     obtain⟨fp,h1,h2,h3⟩:=B4 g hr.2 h' hn2
     obtain⟨_,rfl⟩:=hr.1
     have hb:=RO.sl (g.obj n _ hl)
     have ho:=RO.own (g.obj n _ hl)
     refine⟨(env n).fp++fp,⟨_,_,hb,h1,rfl⟩,⟨bf.2 ⟨ho.nodup,h2.nodup,?_⟩,fun b hb=> ?_,fun b hb=> ?_⟩,fun b hb=> ?_⟩
     ·rintro b hb x hx rfl
      obtain⟨i,o,hi,h4,h5⟩:=h3 b hx
      exact g.mu n i _ _ (fun e=>hn1 (e▸hi)) hl h4 b hb h5
     ·rcases aL.1 hb with hb|hb
      ·exact ho.ge b hb
      ·exact h2.ge b hb
     ·rcases aL.1 hb with hb|hb
      ·exact ho.kind b hb
      ·exact h2.kind b hb
     ·rcases aL.1 hb with hb|hb
      ·exact⟨n,_,by simp,hl,hb⟩
      ·obtain⟨i,o,hi,h4,h5⟩:=h3 b hb
       exact⟨i,o,aK _ hi,h4,h5⟩
    ·cases h
   |_=>simp[takes]at h
theorem m6(g:Good ty zb st a.tmps w env){s:S1}{u:Value}(hr:ju w st.hp env s u)(hn:xO (cellsOf s)=true):cT (RA w st.hp env) (cellsOf s) u.cells.toList:=by
 cases s with
 |a v=>
  have:=nq g (show RA w st.hp env v u from hr) (uQ hn v (by simp[cellsOf]))
  rw[this]
  exact⟨hr,trivial⟩
 |agg l=>
  obtain⟨cs,rfl,hl⟩:=hr
  exact hl
theorem jJ{st:St}: ∀{l c:List V} {k:List Nat},takes st l=some (c,k)→xO l=true
 | [],_,_,_=>rfl
 |v::r,c,k,h=>by
  cases v with
  |lit x=>
   simp only[takes]at h
   split at h
   ·rename_i h';exact jJ (l:=r) h'
   ·cases h
  |own n=>
   simp only[takes]at h
   split at h
   ·rename_i h';exact jJ (l:=r) h'
   ·cases h
  |_=>simp[takes]at h
theorem zy(g:Good ty zb st a.tmps w env): ∀{l c:List V} {k:List Nat} {us:List Value},cT (RA w st.hp env) l us→mZ st l=some (c,k)→k.Nodup→
  ∃fp,dQ w c us fp∧Own 0 w fp∧ ∀b,b∈fp→ ∃i o,i∈k∧look st.hp i=some o∧b∈(env i).fp
 | [],c,k,us,hr,h,_=>by
   simp only[mZ,oI,pI]at h
   obtain⟨rfl,rfl⟩:=h
   cases us with
   |nil=>exact⟨[],rfl,Own.nil _ _,by simp⟩
   |cons _ _=>exact hr.elim
 |v::r,c,k,us,hr,h,hnd=>by
  cases us with
  |nil=>exact hr.elim
  |cons u us=>
   cases v with
   |lit x=>
    simp only[mZ]at h
    split at h
    ·rename_i c' k' h'
     simp only[oI,pI]at h
     obtain⟨rfl,rfl⟩:=h
     obtain⟨fp,h1,h2,h3⟩:=zy g hr.2 h' hnd
     obtain⟨e1,e2⟩:=hr.1
     exact⟨fp,⟨[],fp,⟨e1,e2,rfl⟩,h1,rfl⟩,h2,h3⟩
    ·cases h
   |own n=>
    simp only[mZ]at h
    split at h
    ·rename_i t l c' k' hl h'
     simp only[oI,pI]at h
     obtain⟨rfl,rfl⟩:=h
     obtain⟨hn1,hn2⟩:=cu.1 hnd
     obtain⟨fp,h1,h2,h3⟩:=zy g hr.2 h' hn2
     obtain⟨_,rfl⟩:=hr.1
     have hb:=RO.sl (g.obj n _ hl)
     have ho:=RO.own (g.obj n _ hl)
     refine⟨(env n).fp++fp,⟨_,_,hb,h1,rfl⟩,⟨bf.2 ⟨ho.nodup,h2.nodup,?_⟩,fun b hb=> ?_,fun b hb=> ?_⟩,fun b hb=> ?_⟩
     ·rintro b hb x hx rfl
      obtain⟨i,o,hi,h4,h5⟩:=h3 b hx
      exact g.mu n i _ _ (fun e=>hn1 (e▸hi)) hl h4 b hb h5
     ·rcases aL.1 hb with hb|hb
      ·exact ho.ge b hb
      ·exact h2.ge b hb
     ·rcases aL.1 hb with hb|hb
      ·exact ho.kind b hb
      ·exact h2.kind b hb
     ·rcases aL.1 hb with hb|hb
      ·exact⟨n,_,by simp,hl,hb⟩
      ·obtain⟨i,o,hi,h4,h5⟩:=h3 b hb
       exact⟨i,o,aK _ hi,h4,h5⟩
    ·cases h
   |vw n p t l=>
    simp only[mZ]at h
    split at h
    ·rename_i t0 l0 c' k' hl h'
     simp only[oI,pI]at h
     obtain⟨rfl,rfl⟩:=h
     obtain⟨hn1,hn2⟩:=cu.1 hnd
     obtain⟨fp,h1,h2,h3⟩:=zy g hr.2 h' hn2
     obtain⟨_,⟨fv,hs,hnv,hsub⟩,_⟩:=hr.1
     have ho:=RO.own (g.obj n _ hl)
     refine⟨fv++fp,⟨_,_,hs,h1,rfl⟩,⟨bf.2 ⟨hnv,h2.nodup,?_⟩,fun b hb=> ?_,fun b hb=> ?_⟩,fun b hb=> ?_⟩
     ·rintro b hb x hx rfl
      obtain⟨i,o,hi,h4,h5⟩:=h3 b hx
      exact g.mu n i _ _ (fun e=>hn1 (e▸hi)) hl h4 b (hsub b hb) h5
     ·rcases aL.1 hb with hb|hb
      ·exact ho.ge b (hsub b hb)
      ·exact h2.ge b hb
     ·rcases aL.1 hb with hb|hb
      ·exact ho.kind b (hsub b hb)
      ·exact h2.kind b hb
     ·rcases aL.1 hb with hb|hb
      ·exact⟨n,_,by simp,hl,hsub b hb⟩
      ·obtain⟨i,o,hi,h4,h5⟩:=h3 b hb
       exact⟨i,o,aK _ hi,h4,h5⟩
    ·cases h
   |_=>simp[mZ]at h
theorem rA{st:St}: ∀{l c:List V} {k:List Nat},mZ st l=some (c,k)→xO l=true
 | [],_,_,_=>rfl
 |v::r,c,k,h=>by
  cases v with
  |lit x=>
   simp only[mZ]at h
   split at h
   ·rename_i h';exact rA (l:=r) h'
   ·cases h
  |own n=>
   simp only[mZ]at h
   split at h
   ·rename_i h';exact rA (l:=r) h'
   ·cases h
  |vw n p t l=>
   simp only[mZ]at h
   split at h
   ·rename_i h';exact rA (l:=r) h'
   ·cases h
  |_=>simp[mZ]at h
theorem HG(g:Good ty zb st a.tmps w env){t:Tag}: ∀{ps:List (Nat×Operand)} {i:Nat} {vc:List Prop} {xs:List (T t)} {ks:List Nat},B3 st t i ps=some (vc,xs,ks)→ks.Nodup→(∀q,q∈vc→q)→
  (ps.map fun p=>(p.1,a.eval p.2))=zW i (ps.map fun p=>a.eval p.2)∧xs.length=ps.length∧ ∃cB:List (List Nat),cB.length=xs.length∧
   (∀(i:Nat) (x:T t) (f:List Nat),xs[i]? =some x→cB[i]? =some f→ ∃p:Nat×Operand,ps[i]? =some p∧rd t w (a.eval p.2).cells.toList x f)∧Own 0 w cB.flatten∧ ∀b,b∈cB.flatten→ ∃i o,i∈ks∧look st.hp i=some o∧b∈(env i).fp
 | [],i,vc,xs,ks,h,_,_=>by
   simp only[B3,oI,pI]at h
   obtain⟨rfl,rfl,rfl⟩:=h
   exact⟨rfl,rfl,[],rfl,by simp,Own.nil _ _,by simp⟩
 | (j,x)::r,i,vc,xs,ks,h,hnd,hv=>by
   simp only[B3]at h
   split at h
   ·rename_i s hij hx
    have hij:=ay hij
    subst hij
    split at h
    ·rename_i c k hc
     split at h
     ·rename_i tG y vcs ys ks1 he hb
      simp only[oI,pI]at h
      obtain⟨rfl,rfl,rfl⟩:=h
      obtain⟨hn1,hn2,hn3⟩:=bf.1 hnd
      obtain⟨q1,q2,cB,q3,q4,q5,q6⟩:=HG g hb hn2 (fun q hq=>hv q (aH _ hq))
      obtain⟨fp,r1,r2,r3⟩:=zy g (m6 g (gG g (fun e he=>by simp at he) hx) (rA hc)) hc hn1
      have hE:=vJ t he (fun q hq=>hv q (aN _ hq)) r1
      refine⟨by simp[zW,q1],by simp[q2],fp::cB,by simp[q3],?_,⟨?_,?_,?_⟩,?_⟩
      ·intro i' x' f hx' hf
       cases i' with
       |zero=>simp at hx' hf;subst hx';subst hf;exact⟨(i,x),rfl,hE⟩
       |succ n=>simp at hx' hf;obtain⟨p,h1,h2⟩:=q4 n x' f hx' hf;exact⟨p,by simpa using h1,h2⟩
      ·rw[bQ]
       refine bf.2 ⟨r2.nodup,q5.nodup,?_⟩
       rintro b hb z hz rfl
       obtain⟨n,o1,h1,h2,h3⟩:=r3 b hb
       obtain⟨m,o2,h4,h5,h6⟩:=q6 b hz
       exact g.mu n m _ _ (fun e=>hn3 n h1 m h4 e) h2 h5 b h3 h6
      ·intro b hb
       rw[bQ]at hb
       rcases aL.1 hb with hb|hb
       ·exact r2.ge b hb
       ·exact q5.ge b hb
      ·intro b hb
       rw[bQ]at hb
       rcases aL.1 hb with hb|hb
       ·exact r2.kind b hb
       ·exact q5.kind b hb
      ·intro b hb
       rw[bQ]at hb
       rcases aL.1 hb with hb|hb
       ·obtain⟨n,o1,h1,h2,h3⟩:=r3 b hb;exact⟨n,o1,aN _ h1,h2,h3⟩
       ·obtain⟨n,o1,h1,h2,h3⟩:=q6 b hb;exact⟨n,o1,aH _ h1,h2,h3⟩
     ·cases h
    ·cases h
   ·cases h
theorem US{Γ:Nat→TK}(C: ∀t,fK P t (Γ t)){m0:Nat}{vc:List Prop}{st':St}{v:SV}(h:HE P ty Γ st m0 o.op=some (vc,st',v))(g:Good ty zb st a.tmps w env)(hB:zb.w.heap.size≤w.heap.size)(hv: ∀q,q∈vc→q):
  o.wp P a w (fun a' w'=> ∃u env',a'=a.put o.dst u∧Kept zb w w'∧Good ty zb st' a.tmps w' env'∧st'.n=st.n∧tF w' st'.hp env' a.tmps v u) Q:=by
 generalize jf:o.op=op at h
 cases op with
 |buildSlice t len parts=>
  simp only[HE]at h
  split at h
  ·rename_i gt e hk
   split at h
   ·rename_i tG xs ks he hlen hbig hb
    have he:=ay he
    split at h
    ·rename_i hnd hlk
     simp only[ak,bq]at hnd
     obtain⟨⟨hnd,hpk⟩,Hx⟩:=hnd
     simp only[oI,pI]at h
     obtain⟨rfl,h2,rfl⟩:=h
     rw[St.gone_eq]at h2
     subst h2
     have wL:El P ty gt:=hv _ (by simp)
     obtain⟨q1,q2,cB,q3,q4,q5,q6⟩:=HG g hb (nr hnd) (fun q hq=>hv q (by simp[hq]))
     have hC:=C t
     rw[hk,he]at hC
     obtain⟨w',r1,r2,r3⟩:=zw (P:=P) (w:=w) (a:=a) jf hC.1 wL (bX hbig) (ay hlen) (aD _) q1 q2 q3 q4 q5
     obtain⟨env',hg',HC⟩:=BZ (ty:=ty) g hB (ks:=ks) hpk Hx hlk (v:=Lu) (fp:= []) (fx:=cB.flatten) (by simpa using q6) (by intro b hb;cases hb) r3
      ⟨r2.os,r2.tape,r2.output,r2.size,fun b hb _=>r2.block b hb⟩ (by
       intro b hb
       rcases bh.1 hb with h|h
       ·exact bn (bn h)
       ·exact bn (bI h))
     unfold iE
     rw[r1]
     exact⟨_,env',rfl,oY r2 hB,hg',rfl,⟨gt,_,look_eq⟩,HC.symm⟩
    ·cases h
   ·cases h
  ·cases h
 |_=>simp[HE]at h
end
end
section
variable{ty:Tag→Nat}
theorem tO{w:World}{b o:Nat}{x y:List Value}(hx:w.rangeAt b o x)(hy:w.rangeAt b (o+x.length) y):w.rangeAt b o (x++y):=by
 intro j v hv
 by_cases hj:j<x.length
 ·rw[bT hj]at hv;exact hx j v hv
 ·rw[bU (by omega)]at hv
  have:=hy _ v hv
  rwa [show o+x.length+(j-x.length)=o+j by omega]at this
theorem B5{w:World}{b o n:Nat}{cs:List Value}(h:w.rangeAt b o cs):w.rangeAt b o (cs.take n):=by
 intro j v hv
 rw[cH]at hv
 split at hv
 ·exact h j v hv
 ·cases hv
theorem B6{w:World}{b o n:Nat}{cs:List Value}(h:w.rangeAt b o cs):w.rangeAt b (o+n) (cs.drop n):=by
 intro j v hv
 rw[cN]at hv
 have:=h _ v hv
 rwa [show o+n+j=o+(n+j)by omega]
theorem xU{w:World}{b o off:Nat}{cs us:List Value}(h:w.rangeAt b o cs)(hl:off+us.length≤cs.length)(ht:w.there b (o+off) us.length):
  (w.setCells b (o+off) us).rangeAt b o (cs.take off++(us++cs.drop (off+us.length))):=by
 have l1:(cs.take off).length=off:=by rw[bV];omega
 refine tO (dO (B5 h) _ _ _ (bn (bI (by rw[l1];exact aZ _)))) ?_
 rw[l1]
 refine tO (World.rangeAt_setCells_same w b _ us ht) ?_
 rw[fu]
 exact dO (B6 h) _ _ _ (bn (bn (by omega)))
theorem dQ.agj{w:World}{x y z:List V}{us vs ts:List Value}{f g h:List Nat}(a:dQ w x us f)(b:dQ w y vs g)(c:dQ w z ts h):dQ w (x++(y++z)) (us++(vs++ts)) (f++(g++h)):=dQ.app a (dQ.app b c)
theorem dQ.split{w:World}: ∀(n:Nat) {c:List V} {cs:List Value} {f:List Nat},dQ w c cs f→ ∃f1 f2,f=f1++f2∧dQ w (c.take n) (cs.take n) f1∧dQ w (c.drop n) (cs.drop n) f2
 |0,c,cs,f,h=>⟨[],f,rfl,by simp[dQ],by simpa using h⟩
 |n+1,[],[],f,h=>⟨[],f,rfl,by simp[dQ],by simpa using h⟩
 |n+1,v::r,u::us,f,⟨f1,f2,h1,h2,e⟩=>by
  obtain⟨g1,g2,k1,k2,k3⟩:=dQ.split n h2
  exact⟨f1++g1,g2,by rw[e,k1,ct],⟨f1,g1,h1,k2,rfl⟩,by simpa using k3⟩
 |_+1,[],_::_,_,h=>h.elim
 |_+1,_::_,[],_,h=>h.elim
theorem dQ.JK{w:World}{c d vs:List V}{cs us:List Value}{f g:List Nat}{off:Nat}(h:dQ w c cs f)(hv:dQ w vs us g)(hs:G.JK c off vs=some d):
  ∃f1 f2 f3,f=f1++(f2++f3)∧dQ w d (cs.take off++(us++cs.drop (off+us.length))) (f1++(g++f3))∧off+us.length≤cs.length:=by
 unfold G.JK at hs
 split at hs
 ·rename_i hb
  have hb:=bX hb
  simp only[oI]at hs
  subst hs
  obtain⟨f1,f',e1,k1,k2⟩:=dQ.split off h
  obtain⟨f2,f3,e2,_,k4⟩:=dQ.split us.length k2
  have h1:=h.len
  have h2:=hv.len
  refine⟨f1,f2,f3,by rw[e1,e2],?_,by omega⟩
  have:=dQ.agj k1 hv k4
  rw[mG,mG]at this
  rw[←h2]
  exact this
 ·cases hs
theorem xV{cB:List (List Nat)}{i:Nat}{f':List Nat}{b:Nat}(h:b∈(cB.set i f').flatten):b∈f'∨ ∃j f,j≠i∧cB[j]? =some f∧b∈f:=by
 obtain⟨f,hf,hb⟩:=mM.1 h
 obtain⟨j,hj⟩:=ff hf
 by_cases hji:j=i
 ·subst hji
  have hlt:=(aI.1 hj).1
  rw[bA]at hlt
  rw[fm hlt]at hj
  simp only[oI]at hj
  subst hj
  exact bI hb
 ·rw[iI (Ne.symm hji)]at hj
  exact bn ⟨j,f,hji,hj,hb⟩
theorem uy{cB:List (List Nat)}{i:Nat}{f':List Nat}(h:cB.flatten.Nodup)(hf:f'.Nodup)(hd: ∀j f,j≠i→cB[j]? =some f→ ∀b,b∈f→b∉f'):(cB.set i f').flatten.Nodup:=by
 have h1:=hY.1 h
 refine hY.2 ⟨fun l hl=> ?_,?_⟩
 ·obtain⟨j,hj⟩:=ff hl
  by_cases hji:j=i
  ·subst hji
   have hlt:=(aI.1 hj).1
   rw[bA]at hlt
   rw[fm hlt]at hj
   simp only[oI]at hj
   subst hj
   exact hf
  ·rw[iI (Ne.symm hji)]at hj
   exact h1.1 _ (dL hj)
 ·have h2:=mJ.1 h1.2
  rw[mJ]
  intro p q hp hq hpq x hx y hy e
  subst e
  rw[bA]at hp hq
  rw[List.getElem_set]at hx hy
  split at hx<;>split at hy
  ·omega
  ·rename_i e1 e2
   subst e1
   exact hd q _ (by omega) (au hq) x hy hx
  ·rename_i e1 e2
   subst e2
   exact hd p _ (by omega) (au hp) x hx hy
  ·exact h2 p q hp hq hpq x hx x hy rfl
theorem DP{α:Type}{k:Nat}{E:ER α}(G:j0 k E){w w':World}{b off:Nat}{l:List α}{cB:List (List Nat)}(h:tJ k E w b off l cB){i:Nat}{x':α}{f':List Nat}{cs':List Value}
  (hr:w'.rangeAt b (off+i*k) cs')(hE:E w' cs' x' f')(ho: ∀j cs,j≠i→cs.length=k→w.rangeAt b (off+j*k) cs→w'.rangeAt b (off+j*k) cs)(ha: ∀j f,j≠i→cB[j]? =some f→Agree w w' f):
  tJ k E w' b off (l.set i x') (cB.set i f'):=by
 refine⟨by rw[bA,bA];exact h.1,fun j y fy hy rj=> ?_⟩
 by_cases hj:i=j
 ·subst hj
  have hi:=(aI.1 hy).1
  rw[bA]at hi
  have hi2:=(aI.1 rj).1
  rw[bA]at hi2
  rw[fm hi]at hy
  rw[fm hi2]at rj
  simp only[oI]at hy rj
  subst hy;subst rj
  exact⟨cs',hr,hE⟩
 ·rw[iI hj]at hy rj
  obtain⟨cy,hry,Sb⟩:=h.2 j y fy hy rj
  exact⟨cy,ho j cy (Ne.symm hj) (G.len Sb) hry,G.agree Sb (ha j fy (Ne.symm hj) rj)⟩
theorem agl{α:Type}{k:Nat}{E:ER α}(G:j0 k E){e:Nat}{w w':World}{v:Value}{l l':List α}{fp jD:List Nat}(h:mo k E 0 e w v l fp)(hs:Shape w w')(h':Sl k E w' v l' jD)(ho:Own 0 w' jD)(hsub: ∀b,b∈jD→b∈fp):
  ∃NA,mo k E 0 e w' v l' NA∧ ∀b,b∈NA→b∈fp:=by
 rcases h.parts with⟨rfl,rfl,rfl⟩| ⟨g,o,n,c,cB,rfl,hn,hnm,AQ,LL,rfl⟩
 ·obtain⟨oa,cap,hv,_,_,h3⟩:=h'
  simp only[cP]at hv
  obtain⟨rfl,hl,rfl⟩:=hv
  have:l'= []:=bN hl.symm
  subst this
  exact⟨[],mo.nil _ _ _ _ _,by simp⟩
 ·obtain⟨oa,cap,hv,hc,hm,h3⟩:=h'
  simp only[cP]at hv
  obtain⟨rfl,hl,rfl⟩:=hv
  obtain⟨c',hs1,xB⟩:=hs g c e AQ
  rcases h3 with⟨rfl,rfl,_⟩| ⟨b,off,UT,hb,alx,rfl,hE⟩
  ·rw[hl]
   refine⟨[g],nv G (l:= []) (cB:= []) hs1 (by rw[xB];exact LL) (aD _) hm ⟨rfl,by simp⟩ ⟨by simp,by simp,fun b hb=> ?_⟩,by simp⟩
   simp only[kK,aR]at hb
   exact⟨_,_,by rw[hb];exact hs1⟩
  ·simp only[oI,fA,and_true]at hb
   obtain⟨rfl,rfl⟩:=hb
   rw[hl]
   exact⟨_,nv G hs1 (by rw[xB];exact LL) hc hm hE ho,hsub⟩
def fits:TK→S1→Bool
 | .st z _ _, .agg c=>aU c.length z.length
 | .st _ _ _,_=>false
 | .other,_=>false
 |_, .a _=>true
 |_,_=>false
theorem NQ{k:TK}{c:List V}(h:fits k (.agg c)=true): ∃z tg fo,k= .st z tg fo∧aU c.length z.length=true:=by
 cases k with
 |st z tg fo=>exact⟨z,tg,fo,rfl,h⟩
 |_=>cases h
theorem B7{k:TK}{v:V}(h:fits k (.a v)=true):(∀z tg fo,k≠ .st z tg fo)∧k≠ .other:=by
 cases k with
 |st z tg fo=>cases h
 |other=>cases h
 |_=>exact⟨fun _ _ _ e=>(by cases e),fun e=>(by cases e)⟩
def St.QF(st:St)(ms:List Nat)(n:Nat)(t:Tag)(l:List (T t)):St:=⟨st.n,st.sl.map fun e=>(e.1,e.2.cR ms [n]),(n, .arr t l)::dX ms [n] st.hp⟩
def NR(n:Nat)(ms:List Nat):Bool:=uw (n::ms)&& !pinned ms&&(match ms with| []=>true|_=> !nI n)
def abZ(Γ:Nat→TK)(st:St):Op→Option (List Prop×St)
 | .store t x y=>match jH st [] x,jH st [] y with
   |some (.a (.rZ n i off)),some v=>match look st.hp n with
    |some (.arr g l)=>match fits (Γ t) v,takes st (cellsOf v)with
     |true,some (c,ms)=>match JK (dec g (l.getD i (aP g))) off c with
      |some d=>match enc g d,NR n ms with
       |some (vc,y'),true=>some ((i<l.length)::vc,st.QF ms n g (l.set i y'))
       |_,_=>none
      |none=>none
     |_,_=>none
    |_=>none
   |_,_=>none
 |_=>none
section
variable{P:Program}{zb:eK}{st st':St}{a:Act}{w:World}{env:Env}{Q:Exit→Act→World→Prop}{o:Oper}
theorem Fc(g:Good ty zb st a.tmps w env){n:Nat}{t:Tag}{l l':List (T t)}(hl:look st.hp n=some (.arr t l)){ms:List Nat}(hok:NR n ms=true){w':World}{jD fx:List Nat}
  (GN: ∀b,b∈fx→ ∃i o,i∈ms∧look st.hp i=some o∧b∈(env i).fp)(hsub: ∀b,b∈jD→b∈(env n).fp∨b∈fx)(NS:nI n=true→ ∀b,b∈jD→b∈(env n).fp)
  (hk: ∀b,b∉(env n).fp→b∉fx→b<w.heap.size→w'.heap[b]? =w.heap[b]?)(aly:qg ty w' n t l' ⟨(env n).v,jD⟩):
  ∃env',Good ty zb (st.QF ms n t l') a.tmps w' env'∧(env' n).v=(env n).v:=by
 simp only[NR,ak,bq]at hok
 obtain⟨⟨hnd,hpk⟩,hpn⟩:=hok
 have hnd:=nr hnd
 have hnm:n∉ms:=(cu.1 hnd).1
 refine⟨fun m=>if m=n then⟨(env n).v,jD⟩else env m,?_,by simp⟩
 have hlk: ∀m o,look ((n,Obj.arr t l')::dX ms [n] st.hp) m=some o→(m=n∧o= .arr t l')∨(m≠n∧m∉ms∧ ∃o',look st.hp m=some o'∧o=o'.cR ms [n]):=by
  intro m o hm
  by_cases lG:m=n
  ·subst lG;rw[look_eq]at hm;simp only[oI]at hm;exact bI ⟨rfl,hm.symm⟩
  ·rw[cj lG,dr]at hm
   split at hm
   ·cases hm
   ·rename_i hks
    cases hq:look st.hp m with
    |none=>rw[hq]at hm;cases hm
    |some o'=>rw[hq]at hm;simp only[dI,oI]at hm;exact bn ⟨lG,hks,o',rfl,hm.symm⟩
 have how: ∀b,b∈jD→ ∃i o,(i=n∨i∈ms)∧look st.hp i=some o∧b∈(env i).fp:=by
  intro b hb
  rcases hsub b hb with h|h
  ·exact⟨n,_,bI rfl,hl,h⟩
  ·obtain⟨i,o,h1,h2,h3⟩:=GN b h;exact⟨i,o,bn h1,h2,h3⟩
 have hst: ∀m o,m≠n→m∉ms→look st.hp m=some o→ ∀b,b∈(env m).fp→w'.heap[b]? =w.heap[b]? :=by
  intro m o hmn hks h3 b hb
  refine hk b (fun h=>g.mu m n _ _ hmn h3 hl b hb h) (fun h=> ?_) ((g.obj m o h3).AH b hb)
  obtain⟨i,oi,hi,h5,h6⟩:=GN b h
  exact g.mu m i _ _ (fun e=>hks (e▸hi)) h3 h5 b hb h6
 have s:uP ms [n] w st.hp env w' ((n, .arr t l')::dX ms [n] st.hp) (fun m=>if m=n then⟨(env n).v,jD⟩else env m):=by
  refine⟨fun b hb hno=>hk b (fun h=>hno ⟨n,_,hl,h⟩) (fun h=> ?_) hb,?_,?_,?_⟩
  ·obtain⟨i,oi,hi,h5,h6⟩:=GN b h
   exact hno ⟨i,oi,h5,h6⟩
  ·rintro b hb ⟨m,o',h1,h2⟩
   rcases hlk m o' h1 with⟨rfl,rfl⟩| ⟨lG,hks,By,h3,rfl⟩
   ·simp at h2
    obtain⟨i,o',_,h3,h4⟩:=how b h2
    exact⟨i,o',h3,h4⟩
   ·simp[lG]at h2
    exact⟨m,By,h3,h2⟩
  ·intro m o' hks h1
   by_cases hmn:m=n
   ·subst hmn
    rw[hl]at h1
    simp only[oI]at h1
    subst h1
    exact⟨_,look_eq,rfl,by simp⟩
   ·exact⟨o'.cR ms [n],by rw[cj hmn,dr,if_neg hks,h1];rfl,by cases o'<;>simp[Obj.like,Obj.cR],by simp[hmn]⟩
  ·rintro m t' l2 ⟨hks,hmn⟩ h1
   have hmn:m≠n:=by simpa using hmn
   exact⟨by rw[cj hmn,dr,if_neg hks,h1];rfl,by simp[hmn],hst m _ hmn hks h1⟩
 refine g.kZ s (fun m o' hm=> ?_) (fun m m' o1 o2 hne h1 h2 b hb hb'=> ?_) (fun m o' hm b hb=> ?_) (fun m hm=> ?_)
 ·rcases hlk m o' hm with⟨rfl,rfl⟩| ⟨lG,hks,By,h3,rfl⟩
  ·simp only[if_true];exact aly
  ·simp only[if_neg lG]
   exact(g.obj m By h3).kZ s (hst m By lG hks h3)
 ·rcases hlk m o1 h1 with⟨e1,_⟩| ⟨lG,hks,q1,h3,_⟩<;>rcases hlk m' o2 h2 with⟨e2,_⟩| ⟨FT,QC,q2,h4,_⟩
  ·exact hne (e1.trans e2.symm)
  ·simp only[if_pos e1]at hb
   simp only[if_neg FT]at hb'
   obtain⟨i,oi,hi,h5,h6⟩:=how b hb
   refine g.mu m' i _ _ (fun e=> ?_) h4 h5 b hb' h6
   rcases hi with hi|hi
   ·exact FT (e.trans hi)
   ·exact QC (e▸hi)
  ·simp only[if_pos e2]at hb'
   simp only[if_neg lG]at hb
   obtain⟨i,oi,hi,h5,h6⟩:=how b hb'
   refine g.mu m i _ _ (fun e=> ?_) h3 h5 b hb h6
   rcases hi with hi|hi
   ·exact lG (e.trans hi)
   ·exact hks (e▸hi)
  ·simp only[if_neg lG]at hb
   simp only[if_neg FT]at hb'
   exact g.mu m m' _ _ hne h3 h4 b hb hb'
 ·rcases hlk m o' hm with⟨e1,_⟩| ⟨lG,hks,q1,h3,_⟩
  ·simp only[if_pos e1]at hb
   obtain⟨i,oi,_,h5,h6⟩:=how b hb
   exact g.dom i oi h5 b h6
  ·simp only[if_neg lG]at hb
   exact g.dom m q1 h3 b hb
 ·by_cases hmn:m=n
  ·subst hmn
   simp only[if_true]
   exact⟨(g.pins m hm).1,fun b hb=>(g.pins m hm).2 b (NS hm b hb)⟩
  ·simp only[if_neg hmn]
   exact g.pins m hm
theorem ab0{Γ:Nat→TK}(C: ∀t,fK P t (Γ t))(Z: ∀t,(∀z tg fo,Γ t≠ .st z tg fo)→Γ t≠ .other→(P.info? t).map (·.size)=some 1){vc:List Prop}(h:abZ Γ st o.op=some (vc,st'))(g:Good ty zb st a.tmps w env)(hv: ∀q,q∈vc→q):
  o.wp P a w (fun a' w'=> ∃env',a'=a.put o.dst undef∧Kept zb w w'∧Good ty zb st' a.tmps w' env'∧st'.n=st.n) Q:=by
 have hop: ∀{x v},jH st [] x=some v→ju w st.hp env v (a.eval x):=fun hx=>gG g (fun e he=>by simp at he) hx
 generalize jf:o.op=op at h
 cases op with
 |store t x y=>
  simp only[abZ]at h
  split at h
  ·rename_i n i off v hx hy
   have hx:=hop hx
   have hy:=hop hy
   split at h
   ·rename_i gt l hl
    split at h
    ·rename_i c ms hfit Wu
     split at h
     ·rename_i d hs
      split at h
      ·rename_i tG y' he hok
       simp only[oI,pI]at h
       obtain⟨rfl,rfl⟩:=h
       have hi:i<l.length:=hv _ (by simp)
       have aiX:=hok
       simp only[NR,ak,bq]at aiX
       obtain⟨⟨hnd,hpk⟩,hpn⟩:=aiX
       have hnd:=nr hnd
       have hnm:n∉ms:=(cu.1 hnd).1
       obtain⟨t1,l1,hl1,b2,o2,agn,ab1,FR,hu⟩:=hx
       rw[hl]at hl1
       simp only[oI,Obj.arr.injEq]at hl1
       obtain⟨rfl,_⟩:=hl1
       have hro:=g.obj n _ hl
       obtain⟨oa,cap,qT,AQ,LL,h3⟩:=RO.sl hro
       have hown:=RO.own hro
       rcases h3 with⟨rfl,_⟩| ⟨b,o1,cB,QG,dY,jr,hE⟩
       ·simp at hi
       rw[qT,QG]at FR
       simp only[cP,oI,fA,and_true]at FR
       obtain⟨⟨rfl,rfl⟩,rfl,rfl⟩:=FR
       have XN:l[i]? =some (l.getD i (aP gt)):=by rw[an,au hi];rfl
       obtain⟨f,hf⟩:=kI hE.1 XN
       obtain⟨cs,BV,hEi⟩:=hE.2 _ _ f XN hf
       have hlen:=(gh gt).len hEi
       rw[jr]at hown
       have vQ:=cu.1 hown.nodup
       obtain⟨fx,P8,Ww,GN⟩:=B4 g (m6 g hy (jJ Wu)) Wu (cu.1 hnd).2
       obtain⟨f1,f2,f3,Sq,hrd,hlo⟩:=dQ.JK (reads gt hEi) P8 hs
       have hEn:=vJ gt he (fun q hq=>hv q (by simp[hq])) hrd
       have hsz:(P.info? t).map (·.size)=some (a.eval y).cells.toList.length∧ ∀u,u∈(a.eval y).cells.toList→u.oneCell'=true:=by
        refine⟨?_,zx g (m6 g hy (jJ Wu)) (uQ (jJ Wu))⟩
        cases v with
        |agg c'=>
         have hk: ∃z tg fo,Γ t= .st z tg fo∧aU c'.length z.length=true:=by
          exact NQ hfit
         obtain⟨z,tg,fo,hk,hfit⟩:=hk
         have hC:=C t
         rw[hk]at hC
         obtain⟨fs,_,hi2,_⟩:=hC
         obtain⟨us,XE,P9⟩:=hy
         have:=ay hfit
         have XO:=P9.len
         rw[XE]
         cases hq:P.info? t with
         |none=>simp[hq]at hi2
         |some inf=>simp[hq]at hi2;simp[hi2.1,eD,XO,this]
        |a v'=>
         have hk:(∀z tg fo,Γ t≠ .st z tg fo)∧Γ t≠ .other:=by
          exact B7 hfit
         have hne:v'≠ .any:=by rintro rfl;simp[cellsOf,takes]at Wu
         have:=nq g (show RA w st.hp env v' (a.eval y)from hy) hne
         rw[this]
         exact Z t hk.1 hk.2
       obtain⟨cb,eb,vR⟩:=hown.kind b (by simp)
       have Sa:w.there b (o1+i*kk gt+off) (a.eval y).cells.toList.length:=by
        refine Li vR _ _ ?_
        have xA:o1+i*kk gt+cs.length≤cb.size:=by
         have hk0:=jt gt
         have:=BV (cs.length-1) _ (au (by omega))
         rw[G1 vR]at this
         have:=(dj.1 this).1
         omega
        omega
       have hkeep: ∀x,x≠b→(w.setCells b (o1+i*kk gt+off) (a.eval y).cells.toList).heap[x]? =w.heap[x]? :=fun x hx=>dV b _ _ w x hx
       have Nc: ∀x,x∈fx→x≠b:=by
        rintro x hx rfl
        obtain⟨m,om,hm,h5,h6⟩:=GN x hx
        exact g.mu n m _ _ (fun e=>hnm (e▸hm)) hl h5 x (by rw[jr];simp) h6
       have QE: ∀x,x∈cB.flatten→x≠b:=fun x hx e=>vQ.1 (e▸hx)
       have Aw: ∀x,x∈f1++(fx++f3)→x∈f∨x∈fx:=by
        intro x hx
        rw[Sq]
        rcases aL.1 hx with hx|hx
        ·exact bI (aN _ hx)
        ·rcases aL.1 hx with hx|hx
         ·exact bn hx
         ·exact bI (aH _ (aH _ hx))
       have af2: ∀x,x∈f1++(fx++f3)→x≠b:=by
        intro x hx
        rcases Aw x hx with h|h
        ·exact QE x (eo hf h)
        ·exact Nc x h
       have Uv:Agree w (w.setCells b (o1+i*kk gt+off) (a.eval y).cells.toList) (f1++(fx++f3)):=fun x hx=>hkeep x (af2 x hx)
       have LM:=DP (gh gt) (w':=w.setCells b (o1+i*kk gt+off) (a.eval y).cells.toList) hE (i:=i) (x':=y') (f':=f1++(fx++f3))
        (xU BV hlo Sa) ((gh gt).agree hEn Uv)
        (fun j cs' hj xA hr=>dO hr _ _ _ (bn (by
         rw[xA]
         rcases nu j i with h1|h1
         ·left
          have:=bK (kk gt) (show j+1≤i by omega)
          rw[cJ]at this;omega
         ·right
          have:=bK (kk gt) (show i+1≤j by omega)
          rw[cJ]at this;omega)))
        (fun j f' _ hf' x hx=>hkeep x (QE x (eo hf' hx)))
       have XP:(f1++(fx++f3)).Nodup:=by
        have h1:=(hY.1 vQ.2).1 f (dL hf)
        rw[Sq]at h1
        obtain⟨h2,h3,h4⟩:=bf.1 h1
        obtain⟨_,h6,_⟩:=bf.1 h3
        have hap: ∀x,x∈fx→x∉f:=by
         intro x hx hxf
         obtain⟨m,om,hm,h5,h7⟩:=GN x hx
         exact g.mu n m _ _ (fun e=>hnm (e▸hm)) hl h5 x (by rw[jr];exact aK _ (eo hf hxf)) h7
        rw[Sq]at hap
        refine bf.2 ⟨h2,bf.2 ⟨Ww.nodup,h6,?_⟩,?_⟩
        ·rintro x hx z hz rfl
         exact hap x hx (by simp[hz])
        ·rintro x hx z hz rfl
         rcases aL.1 hz with hz|hz
         ·exact hap x hz (by simp[hx])
         ·exact h4 x hx x (by simp[hz]) rfl
       have hmem: ∀x,x∈(cB.set i (f1++(fx++f3))).flatten→x∈cB.flatten∨x∈fx:=by
        intro x hx
        rcases xV hx with h| ⟨j,f',_,hj,h⟩
        ·rcases Aw x h with h|h
         ·exact bI (eo hf h)
         ·exact bn h
        ·exact bI (eo hj h)
       have hO':Own 0 (w.setCells b (o1+i*kk gt+off) (a.eval y).cells.toList) (b::(cB.set i (f1++(fx++f3))).flatten):=by
        refine⟨cu.2 ⟨fun hm=> ?_,uy vQ.2 XP fun j f' hj hf' x hx hx'=> ?_⟩,fun _ _=>aD _,fun x hx=> ?_⟩
        ·rcases hmem b hm with h|h
         ·exact vQ.1 h
         ·exact Nc b h rfl
        ·rcases Aw x hx' with h|h
         ·exact zz vQ.2 hf' hf hj x hx h
         ·obtain⟨m,om,hm,h5,h7⟩:=GN x h
          exact g.mu n m _ _ (fun e=>hnm (e▸hm)) hl h5 x (by rw[jr];exact aK _ (eo hf' hx)) h7
        ·rcases bh.1 hx with rfl|hx
         ·obtain⟨c',q1,_⟩:=gf x eb (a.eval y).cells.toList (o1+i*kk gt+off) w cb vR
          exact⟨_,_,q1⟩
         ·rcases hmem x hx with h|h
          ·rw[hkeep x (QE x h)];exact hown.kind x (aK _ h)
          ·rw[hkeep x (Nc x h)];exact Ww.kind x h
       have XQ:Sl (kk gt) (rd gt) (w.setCells b (o1+i*kk gt+off) (a.eval y).cells.toList) (env n).v (l.set i y') (b::(cB.set i (f1++(fx++f3))).flatten):=by
        refine⟨some ⟨b,o1,none⟩,cap,by rw[qT,QG,bA],by rw[bA];exact AQ,LL,bn ⟨b,o1,_,rfl,?_,rfl,LM⟩⟩
        exact dY.set vR _ _
       have hM:=g.dom n _ hl b (by rw[jr];simp)
       have XR:=BX hM vR (o1+i*kk gt+off) (a.eval y).cells.toList
       have hrun:(storeVar t ⟨b,o1+i*kk gt+off,none⟩ (a.eval y)).run P w= .ok () (w.setCells b (o1+i*kk gt+off) (a.eval y).cells.toList):=ry (by simp) Sa hsz.1 hsz.2
       have alz: ∃jD,(∀x,x∈jD→x∈(env n).fp∨x∈fx)∧(nI n=true→ ∀x,x∈jD→x∈(env n).fp)∧qg ty (w.setCells b (o1+i*kk gt+off) (a.eval y).cells.toList) n gt (l.set i y') ⟨(env n).v,jD⟩:=by
        have hall: ∀x,x∈b::(cB.set i (f1++(fx++f3))).flatten→x∈(env n).fp∨x∈fx:=by
         intro x hx
         rw[jr]
         rcases bh.1 hx with rfl|hx
         ·exact bI (by simp)
         ·rcases hmem x hx with h|h
          ·exact bI (aK _ h)
          ·exact bn h
        cases hp:soft n with
        |true=>
         refine⟨_,hall,fun hpt x hx=> ?_,by unfold qg;rw[hp];exact⟨XQ,hO'⟩⟩
         rcases hall x hx with h|h
         ·exact h
         ·obtain⟨m,om,hm,_⟩:=GN x h
          cases ms with
          |nil=>simp at hm
          |cons _ _=>rw[hpt]at hpn;simp at hpn
        |false=>
         have hB:=RO.bld hp hro
         have hB2:mo (kk gt) (rd gt) 0 (ty gt) (w.setCells b (o1+i*kk gt+off) (a.eval y).cells.toList) (env n).v (l.set i y') (b::(cB.set i (f1++(fx++f3))).flatten):=by
          rcases hB.parts with⟨h1,rfl,_⟩| ⟨g0,o0,n0,cc,agp,h1,hn0,UU,q1,q2,_⟩
          ·simp at hi
          ·rw[qT,QG]at h1
           simp only[cP,oI,fA,and_true,true_and]at h1
           obtain⟨⟨rfl,rfl⟩,rfl⟩:=h1
           obtain⟨cc',q3,q4⟩:=gf b (ty gt) (a.eval y).cells.toList (o1+i*kk gt+off) w cc q1
           rw[qT,QG, ←bA (as:=l) (i:=i) (a:=y')]
           exact nv (gh gt) q3 (by rw[q4];exact q2) (by rw[bA];exact AQ) LL LM hO'
         refine⟨_,hall,?_,?_⟩
         ·intro h;rw[Xs hp]at h;cases h
         ·unfold qg;rw[hp];exact hB2
       obtain⟨jD,k1,k2,k3⟩:=alz
       obtain⟨env',hg',HC⟩:=Fc g hl hok (w':=w.setCells b (o1+i*kk gt+off) (a.eval y).cells.toList) GN k1 k2 (fun x hx _ _=>hkeep x (fun e=>hx (by rw[e,jr];simp))) k3
       unfold iE execOp
       simp only[jf,hu,vP,kU,cI,cQ,bP,hrun]
       exact⟨env',rfl,XR,hg',rfl⟩
      ·cases h
     ·cases h
    ·cases h
   ·cases h
  ·cases h
 |_=>simp[abZ]at h
end
end
section
variable{ty:Tag→Nat}
def RF(w:World):List V→List Value→List (List Nat)→Prop
 | [],[],cB=>cB= []
 |v::vs,u::us,cB=> ∃f g,RI w v u f∧RF w vs us g∧cB=f::g
 |_,_,_=>False
def Fe(w:World):List S1→List Value→List (List Nat)→Prop
 | [],[],cB=>cB= []
 | .a v::as,u::us,cB=> ∃f g,RI w v u f∧Fe w as us g∧cB=f::g
 | .agg l::as,u::us,cB=> ∃cs f g,u= .agg cs.toArray∧RF w l cs f∧Fe w as us g∧cB=f++g
 |_,_,_=>False
def UW:List (List Nat)→List (List Nat)→Prop
 | [],[]=>True
 |f::r,g::s=>(∀b,b∈f→b∈g)∧UW r s
 |_,_=>False
def LN(P:Program)(f:FuncId)(as as':List S1)(v:Value):Prop:=
 (∀(args:Array Value) (w:World),(callFunc f args).run P w= .ok (.enter f args) w)∧
 ∀w us cB,Lr w→(∀b,Qo b→b∉cB.flatten)→Fe w as us cB→Own 0 w cB.flatten→Calls P f us.toArray w fun e w'=> ∃UT,e= .returned v∧Kept ⟨w,cB.flatten,fun _=>⟨v,[]⟩⟩ w w'∧Fe w' as' us UT∧Own 0 w' UT.flatten∧UW UT cB
def St.upd(st:St)(os:Hp):St:=⟨st.n,st.sl.map fun e=>(e.1,e.2.cR [] (os.map iC)),os++dX [] (os.map iC) st.hp⟩
theorem UX{os:Hp}{n:Nat}:n∈os.map iC↔look os n≠none:=by
 induction os with
 |nil=>simp[look]
 |cons e r ih=>
  obtain⟨j,x⟩:=e
  by_cases h:n=j
  ·subst h;simp[look_eq]
  ·rw[cj h, ←ih];simp[h]
section
variable{P:Program}{zb:eK}{st st':St}{a:Act}{w:World}{env:Env}{Q:Exit→Act→World→Prop}{o:Oper}
theorem NT(g:Good ty zb st a.tmps w env){os:Hp}(hos: ∀n o,look os n=some o→ ∃t l l',look st.hp n=some (.arr t l)∧o= .arr t l'){w':World}{fpn:Nat→List Nat}
  (hsub: ∀n o,look os n=some o→ ∀b,b∈fpn n→b∈(env n).fp)(hk: ∀b,b<w.heap.size→(∀n o,look os n=some o→b∉(env n).fp)→w'.heap[b]? =w.heap[b]?)
  (hro: ∀n t l',look os n=some (.arr t l')→qg ty w' n t l' ⟨(env n).v,fpn n⟩):
  ∃env',Good ty zb (st.upd os) a.tmps w' env'∧ ∀n,(env' n).v=(env n).v:=by
 refine⟨fun m=>match look os m with|some _=>⟨(env m).v,fpn m⟩|none=>env m,?_,fun n=>by dsimp only;split<;>rfl⟩
 have hlk: ∀m o,look (os++dX [] (os.map iC) st.hp) m=some o→(look os m=some o)∨(look os m=none∧ ∃o',look st.hp m=some o'∧o=o'.cR [] (os.map iC)):=by
  intro m o hm
  cases hq:look os m with
  |some x=>rw[eR hq]at hm;exact bI hm
  |none=>
   rw[cU hq,dr,if_neg (by simp)]at hm
   cases LO:look st.hp m with
   |none=>rw[LO]at hm;cases hm
   |some o'=>rw[LO]at hm;simp only[dI,oI]at hm;exact bn ⟨rfl,o',rfl,hm.symm⟩
 have hst: ∀m o,look os m=none→look st.hp m=some o→ ∀b,b∈(env m).fp→w'.heap[b]? =w.heap[b]? :=by
  intro m o hm h3 b hb
  refine hk b ((g.obj m o h3).AH b hb) fun n o' hn h=> ?_
  obtain⟨t,l,l',h4,_⟩:=hos n o' hn
  exact g.mu m n _ _ (fun e=>by rw[e,hn]at hm;cases hm) h3 h4 b hb h
 have jr: ∀m o,look (os++dX [] (os.map iC) st.hp) m=some o→ ∀b,b∈(match look os m with|some _=>(⟨(env m).v,fpn m⟩:CO)|none=>env m).fp→b∈(env m).fp∧ ∃o',look st.hp m=some o':=by
  intro m o hm b hb
  rcases hlk m o hm with h| ⟨h,o',h2,_⟩
  ·rw[h]at hb
   obtain⟨t,l,l',h4,_⟩:=hos m o h
   exact⟨hsub m o h b hb,_,h4⟩
  ·rw[h]at hb
   exact⟨hb,o',h2⟩
 have s:uP [] (os.map iC) w st.hp env w' (os++dX [] (os.map iC) st.hp) (fun m=>match look os m with|some _=>⟨(env m).v,fpn m⟩|none=>env m):=by
  refine⟨fun b hb hno=>hk b hb fun n o hn h=> ?_,?_,?_,?_⟩
  ·obtain⟨t,l,l',h4,_⟩:=hos n o hn
   exact hno ⟨n,_,h4,h⟩
  ·rintro b hb ⟨m,o',h1,h2⟩
   obtain⟨h3,o2,h4⟩:=jr m o' h1 b h2
   exact⟨m,o2,h4,h3⟩
  ·intro m o' _ h1
   cases hq:look os m with
   |some x=>
    obtain⟨t,l,l',h4,rfl⟩:=hos m x hq
    rw[h4]at h1
    simp only[oI]at h1
    subst h1
    exact⟨_,eR hq,rfl,rfl⟩
   |none=>
    exact⟨o'.cR [] (os.map iC),by rw[cU hq,dr,if_neg (by simp),h1];rfl,by cases o'<;>simp[Obj.like,Obj.cR],rfl⟩
  ·rintro m t' l2 ⟨_,hmn⟩ h1
   have hq:look os m=none:=by
    cases hq:look os m with
    |none=>rfl
    |some x=>exact absurd (UX.2 (by rw[hq];simp)) hmn
   exact⟨by rw[cU hq,dr,if_neg (by simp),h1];rfl,by simp[hq],hst m _ hq h1⟩
 refine g.kZ s (fun m o' hm=> ?_) (fun m m' o1 o2 hne h1 h2 b hb hb'=> ?_) (fun m o' hm b hb=> ?_) (fun m hm=> ?_)
 ·rcases hlk m o' hm with h| ⟨h,By,h3,rfl⟩
  ·obtain⟨t,l,l',h4,rfl⟩:=hos m o' h
   simp only[h]
   exact hro m t l' h
  ·simp only[h]
   exact(g.obj m By h3).kZ s (hst m By h h3)
 ·obtain⟨h3,q1,h4⟩:=jr m o1 h1 b hb
  obtain⟨h5,q2,h6⟩:=jr m' o2 h2 b hb'
  exact g.mu m m' _ _ hne h4 h6 b h3 h5
 ·obtain⟨h3,q1,h4⟩:=jr m o' hm b hb
  exact g.dom m q1 h4 b h3
 ·refine⟨?_,fun b hb=> ?_⟩
  ·have:=(g.pins m hm).1
   split<;>exact this
  ·cases hq:look os m with
   |none=>simp only[hq]at hb;exact(g.pins m hm).2 b hb
   |some x=>simp only[hq]at hb;exact(g.pins m hm).2 b (hsub m x hq b hb)
theorem HH{n:Nat}{t:Tag}{l l':List (T t)}{co:CO}{jD:List Nat}{w':World}{hp:Hp}(h:RO ty w hp env n (.arr t l) co)(hs:Shape w w')(h':Sl (kk t) (rd t) w' co.v l' jD)(ho:Own 0 w' jD)(hsub: ∀b,b∈jD→b∈co.fp):
  ∃NA,qg ty w' n t l' ⟨co.v,NA⟩∧ ∀b,b∈NA→b∈co.fp:=by
 unfold qg
 cases hp:soft n with
 |true=>exact⟨jD,⟨h',ho⟩,hsub⟩
 |false=>exact agl (gh t) (RO.bld hp h) hs h' ho hsub
end
def UY(st:St)(tg:Option Tag):V→Option V
 | .own n=>match look st.hp n with|some (.arr t l)=>some (.sl t l)|_=>none
 | .lit (.slice none 0 0)=>match tg with|some t=>some (.sl t [])|none=>none
 | .lit (.slice _ _ _)=>none
 | .lit v=>some (.lit v)
 |_=>none
def NU(st:St):List (Option Tag)→List V→Option (List V)
 |_,[]=>some []
 |tg,v::r=>match UY st (match tg with|t::_=>t| []=>none) v,NU st (match tg with|_::ts=>ts| []=> []) r with
  |some x,some y=>some (x::y)
  |_,_=>none
def XS(st:St)(k:TK):S1→Option S1
 | .a v=>match UY st (match k with| .sl t _=>some t|_=>none) v with|some x=>some (.a x)|none=>none
 | .agg l=>match NU st (match k with| .st _ tg _=>tg|_=> []) l with|some x=>some (.agg x)|none=>none
def xW(Γ:Nat→TK)(st:St):List Operand→List Nat→Option (List S1×List S1)
 | [],_=>some ([],[])
 |x::r,t=>match jH st [] x with
  |some v=>match XS st (match t with|t::_=>Γ t| []=> .other) v,xW Γ st r (match t with|_::ts=>ts| []=> [])with
   |some y,some (vs,ys)=>some (v::vs,y::ys)
   |_,_=>none
  |none=>none
def back(st:St):List V→List V→Option Hp
 | [],[]=>some []
 | .own n::r, .sl t' l'::s=>match look st.hp n,back st r s with
   |some (.arr t _),some os=>match kL t t' l' with|some l'=>some ((n, .arr t l')::os)|none=>none
   |_,_=>none
 | .lit _::r,_::s=>back st r s
 |_,_=>none
def eio(P:Program)(ty:Tag→Nat)(Γ:Nat→TK)(cr:List (Nat×CR))(st:St)(d:Option Nat):Op→Option (List Prop×St×SV)
 | .call ⟨.value (.func f),xs,ts⟩=>match xW Γ st xs.toList ts.toList,look cr (d.getD 0+100000)with
   |some (vs,as),some ⟨_, .a (.lit v)::as'⟩=>match back st (vs.flatMap cellsOf) (as'.flatMap cellsOf),v.oneCell' with
    |some os,true=>match kX os with
     |true=>some ([LN P f as as' v],st.upd os, .one (.a (.lit v)))
     |false=>none
    |_,_=>none
   |_,_=>none
 |_=>none
def B8(st:St):List Operand→Option (List S1)
 | []=>some []
 |x::r=>match jH st [] x,B8 st r with
  |some (.a (.lit (.slice _ _ _))),_=>none
  |some (.a (.lit v)),some ys=>some (.a (.lit v)::ys)
  |_,_=>none
def eiv(P:Program)(ty:Tag→Nat)(cr:List (Nat×CR))(st:St)(d:Option Nat):Op→Option (List Prop×St×SV)
 | .call ⟨.value (.func f),xs,_⟩=>match xs.toList with
   |x::r=>match jH st [] x,B8 st r,look cr (d.getD 0+200000)with
    |some (.a (.vw n (some (i,off)) t l)),some ls,some ⟨_, .a (.lit v):: .a (.sl t' l')::ls'⟩=>match look st.hp n,kL t t' l',v.oneCell' with
     |some (.arr g l0),some l',true=>match JK (dec g (l0.getD i (aP g))) off [.sl t l']with
      |some c=>match enc g c with
       |some (vc,x')=>some (LN P f (.a (.sl t l)::ls) (.a (.sl t l')::ls') v::vc,st.upd [(n, .arr g (l0.set i x'))], .one (.a (.lit v)))
       |none=>none
      |none=>none
     |_,_,_=>none
    |_,_,_=>none
   | []=>none
 |_=>none
section
variable{P:Program}{zb:eK}{st st':St}{a:Act}{w:World}{env:Env}{Q:Exit→Act→World→Prop}{o:Oper}
theorem RI.cells{v:V}{u:Value}{f:List Nat}(h:RI w v u f):u.cells= #[u]:=by
 cases v with
 |lit x=>obtain⟨rfl,h1,_⟩:=h;cases u<;>simp_all [eD,eE]
 |sl t l=>obtain⟨oa,cap,rfl,_⟩:=h;rfl
 |_=>exact h.elim
theorem RF.app{w:World}: ∀{x y:List V} {us vs:List Value} {f g:List (List Nat)},RF w x us f→RF w y vs g→RF w (x++y) (us++vs) (f++g)
 | [],_,[],_,_,_,h,k=>by rw[show _=_ from h];exact k
 |_::_,_,_::_,_,_,_,⟨f1,f2,h1,h2,e⟩,k=>⟨f1,f2++_,h1,RF.app h2 k,by rw[e,List.cons_append]⟩
 | [],_,_::_,_,_,_,h,_=>h.elim
 |_::_,_,[],_,_,_,h,_=>h.elim
theorem AR{w:World}: ∀{as:List S1} {us:List Value} {cB:List (List Nat)},Fe w as us cB→RF w (as.flatMap cellsOf) (us.flatMap fun u=>u.cells.toList) cB
 | [],[],_,h=>h
 | .a v::as,u::us,_,⟨f,g,h1,h2,e⟩=>by
   have:=RF.app (x:= [v]) (us:= [u]) (f:= [f]) ⟨f,[],h1,rfl,rfl⟩ (AR h2)
   rw[dm,dm,RI.cells h1,e]
   exact this
 | .agg l::as,u::us,_,⟨cs,f,g,hu,h1,h2,e⟩=>by
   rw[dm,dm,hu,e]
   exact RF.app h1 (AR h2)
 | [],_::_,_,h=>h.elim
 | .a _::_,[],_,h=>h.elim
 | .agg _::_,[],_,h=>h.elim
def LP(env:Env):V→List Nat
 | .own n=>(env n).fp
 |_=> []
theorem SA(g:Good ty zb st a.tmps w env){tg:Option Tag}{v x:V}{u:Value}(hr:RA w st.hp env v u)(h:UY st tg v=some x):RI w x u (LP env v):=by
 cases v with
 |own n=>
  simp only[UY]at h
  split at h
  ·rename_i t l hl
   simp only[oI]at h
   subst h
   obtain⟨_,rfl⟩:=hr
   exact RO.sl (g.obj n _ hl)
  ·cases h
 |lit v=>
  obtain⟨rfl,h1⟩:=hr
  simp only[UY]at h
  split at h
  ·rename_i heq;cases heq
  ·rename_i heq
   simp only[V.lit.injEq]at heq
   subst heq
   split at h
   ·simp only[oI]at h
    subst h
    exact⟨none,0,rfl,aZ _,aD _,bI ⟨rfl,rfl,rfl⟩⟩
   ·cases h
  ·cases h
  ·rename_i heq
   simp only[V.lit.injEq]at heq
   subst heq
   simp only[oI]at h
   subst h
   exact⟨rfl,h1,rfl⟩
  ·cases h
 |_=>simp[UY]at h
theorem NV(g:Good ty zb st a.tmps w env): ∀{vs:List V} {tg:List (Option Tag)} {xs:List V} {us:List Value},cT (RA w st.hp env) vs us→NU st tg vs=some xs→RF w xs us (vs.map (LP env))
 | [],tg,xs,us,hr,h=>by
   simp only[NU,oI]at h
   subst h
   cases us with
   |nil=>rfl
   |cons _ _=>exact hr.elim
 |v::r,tg,xs,us,hr,h=>by
  cases us with
  |nil=>exact hr.elim
  |cons u us=>
   simp only[NU]at h
   split at h
   ·rename_i x y h1 h2
    simp only[oI]at h
    subst h
    exact⟨_,_,SA g hr.1 h1,NV g hr.2 h2,rfl⟩
   ·cases h
theorem Ff{Γ:Nat→TK}(g:Good ty zb st a.tmps w env): ∀{xs:List Operand} {ts:List Nat} {vs as:List S1},xW Γ st xs ts=some (vs,as)→
  Fe w as (xs.map a.eval) ((vs.flatMap cellsOf).map (LP env))∧cT (RA w st.hp env) (vs.flatMap cellsOf) ((xs.map a.eval).flatMap fun u=>u.cells.toList)
 | [],ts,vs,as,h=>by
   simp only[xW,oI,pI]at h
   obtain⟨rfl,rfl⟩:=h
   exact⟨rfl,trivial⟩
 |x::r,ts,vs,as,h=>by
  simp only[xW]at h
  split at h
  ·rename_i v hx
   split at h
   ·rename_i y vs' ys h1 h2
    simp only[oI,pI]at h
    obtain⟨rfl,rfl⟩:=h
    have E9:=gG g (fun e he=>by simp at he) hx
    obtain⟨k1,k2⟩:=Ff g h2
    cases v with
    |a v=>
     simp only[XS]at h1
     split at h1
     ·rename_i x' hl
      simp only[oI]at h1
      subst h1
      have P8:=SA g E9 hl
      refine⟨⟨_,_,P8,k1,rfl⟩,?_⟩
      rw[cA,dm,dm,RI.cells P8]
      exact⟨E9,k2⟩
     ·cases h1
    |agg l=>
     simp only[XS]at h1
     split at h1
     ·rename_i x' hl
      simp only[oI]at h1
      subst h1
      obtain⟨cs,hu,ru⟩:=E9
      refine⟨⟨cs,_,_,hu,NV g ru hl,k1,by rw[dm,eu];rfl⟩,?_⟩
      rw[cA,dm,dm,hu]
      exact cT.app ru k2
     ·cases h1
   ·cases h
  ·cases h
theorem LQ(g:Good ty zb st a.tmps w env){w':World}: ∀{vs as:List V} {us:List Value} {cB:List (List Nat)} {os:Hp},back st vs as=some os→cT (RA w st.hp env) vs us→RF w' as us cB→UW cB (vs.map (LP env))→Own 0 w' cB.flatten→kX os=true→
  (∀b,b∈(vs.map (LP env)).flatten→ ∃n o,look os n=some o∧b∈(env n).fp)∧
  (∀n o,look os n=some o→(∃t l l' jD,look st.hp n=some (.arr t l)∧o= .arr t l'∧Sl (kk t) (rd t) w' (env n).v l' jD∧Own 0 w' jD∧ ∀b,b∈jD→b∈(env n).fp)∧ ∀b,b∈(env n).fp→b∈(vs.map (LP env)).flatten)∧
  ((vs.map (LP env)).flatten.Nodup)
 | [],[],us,cB,os,h,_,_,_,_,_=>by
   simp only[back,oI]at h
   subst h
   exact⟨by simp,by simp[look],by simp⟩
 | .own n::r, .sl t' l'::s,us,cB,os,h,hr,hf,hsub,hown,hnd=>by
   cases us with
   |nil=>exact hr.elim
   |cons u us=>
    obtain⟨f,fr,h1,h2,rfl⟩:=hf
    simp only[back]at h
    split at h
    ·rename_i t l os' hl hb
     split at h
     ·rename_i l2 hc
      simp only[oI]at h
      subst h
      obtain⟨e,rfl⟩:=ga hc
      subst e
      simp only[kX,ak]at hnd
      rw[bQ]at hown
      obtain⟨hn1,hn2,hn3⟩:=bf.1 hown.nodup
      have o1:Own 0 w' f:=⟨hn1,fun _ _=>aD _,fun b hb=>hown.kind b (aN _ hb)⟩
      have o2:Own 0 w' fr.flatten:=⟨hn2,fun _ _=>aD _,fun b hb=>hown.kind b (aH _ hb)⟩
      obtain⟨q1,q2,q3⟩:=LQ g hb hr.2 h2 hsub.2 o2 hnd.2
      have hu:u=(env n).v:=hr.1.2
      have hno:look os' n=none:=by
       cases hq:look os' n with
       |none=>rfl
       |some x=>simp[hq]at hnd
      refine⟨fun b hb=> ?_,fun m o hm=> ?_,?_⟩
      ·rw[cA,bQ]at hb
       rcases aL.1 hb with hb|hb
       ·exact⟨n,_,look_eq,hb⟩
       ·obtain⟨m,o,h3,h4⟩:=q1 b hb
        have hmn:m≠n:=by rintro rfl;rw[hno]at h3;cases h3
        exact⟨m,o,by rw[cj hmn];exact h3,h4⟩
      ·by_cases hmn:m=n
       ·subst hmn
        rw[look_eq]at hm
        simp only[oI]at hm
        exact⟨⟨t',l,l',f,hl,hm.symm,by rw[←hu];exact h1,o1,hsub.1⟩,fun b hb=>by rw[cA,bQ];exact aN _ hb⟩
       ·rw[cj hmn]at hm
        obtain⟨h3,h4⟩:=q2 m o hm
        exact⟨h3,fun b hb=>by rw[cA,bQ];exact aH _ (h4 b hb)⟩
      ·rw[cA,bQ]
       refine bf.2 ⟨(RO.own (g.obj n _ hl)).nodup,q3,?_⟩
       rintro b hb c hc rfl
       obtain⟨m,o,h3,h4⟩:=q1 b hc
       have hmn:n≠m:=by rintro rfl;rw[hno]at h3;cases h3
       obtain⟨⟨t2,l2,_,_,h5,_⟩,_⟩:=q2 m o h3
       exact g.mu n m _ _ hmn hl h5 b hb h4
     ·cases h
    ·cases h
 | .lit x::r,y::s,us,cB,os,h,hr,hf,hsub,hown,hnd=>by
   cases us with
   |nil=>exact hr.elim
   |cons u us=>
    obtain⟨f,fr,h1,h2,rfl⟩:=hf
    simp only[back]at h
    rw[bQ]at hown
    obtain⟨_,hn2,_⟩:=bf.1 hown.nodup
    obtain⟨q1,q2,q3⟩:=LQ g h hr.2 h2 hsub.2 ⟨hn2,fun _ _=>aD _,fun b hb=>hown.kind b (aH _ hb)⟩ hnd
    exact⟨q1,q2,q3⟩
 | .own _::_, .lit _::_,_,_,_,h,_,_,_,_,_=>by simp[back]at h
 | .own _::_, .any::_,_,_,_,h,_,_,_,_,_=>by simp[back]at h
 | .own _::_, .own _::_,_,_,_,h,_,_,_,_,_=>by simp[back]at h
 | .own _::_, .ptr _ _::_,_,_,_,h,_,_,_,_,_=>by simp[back]at h
 | .own _::_, .rZ _ _ _::_,_,_,_,h,_,_,_,_,_=>by simp[back]at h
 | .own _::_, .ip _ _ _::_,_,_,_,h,_,_,_,_,_=>by simp[back]at h
 | .own _::_, .vw _ _ _ _::_,_,_,_,h,_,_,_,_,_=>by simp[back]at h
 | .own _::_, .Jv _ _ _ _ _::_,_,_,_,h,_,_,_,_,_=>by simp[back]at h
 | .own _::_, .Jw _ _ _::_,_,_,_,h,_,_,_,_,_=>by simp[back]at h
 | .own _::_, .mix _ _ _ _::_,_,_,_,h,_,_,_,_,_=>by simp[back]at h
 | .own _::_, .zn _::_,_,_,_,h,_,_,_,_,_=>by simp[back]at h
 | .own _::_, .Gi _ _::_,_,_,_,h,_,_,_,_,_=>by simp[back]at h
 | .own _::_, .zU _::_,_,_,_,h,_,_,_,_,_=>by simp[back]at h
 | .own _::_, .raw _::_,_,_,_,h,_,_,_,_,_=>by simp[back]at h
 | .own _::_, .wJ _ _ _::_,_,_,_,h,_,_,_,_,_=>by simp[back]at h
 | .own _::_,[],_,_,_,h,_,_,_,_,_=>by simp[back]at h
 | .lit _::_,[],_,_,_,h,_,_,_,_,_=>by simp[back]at h
 | [],_::_,_,_,_,h,_,_,_,_,_=>by simp[back]at h
 | .any::_,_,_,_,_,h,_,_,_,_,_=>by simp[back]at h
 | .sl _ _::_,_,_,_,_,h,_,_,_,_,_=>by simp[back]at h
 | .ptr _ _::_,_,_,_,_,h,_,_,_,_,_=>by simp[back]at h
 | .rZ _ _ _::_,_,_,_,_,h,_,_,_,_,_=>by simp[back]at h
 | .ip _ _ _::_,_,_,_,_,h,_,_,_,_,_=>by simp[back]at h
 | .vw _ _ _ _::_,_,_,_,_,h,_,_,_,_,_=>by simp[back]at h
 | .Jv _ _ _ _ _::_,_,_,_,_,h,_,_,_,_,_=>by simp[back]at h
 | .Jw _ _ _::_,_,_,_,_,h,_,_,_,_,_=>by simp[back]at h
 | .mix _ _ _ _::_,_,_,_,_,h,_,_,_,_,_=>by simp[back]at h
 | .zn _::_,_,_,_,_,h,_,_,_,_,_=>by simp[back]at h
 | .Gi _ _::_,_,_,_,_,h,_,_,_,_,_=>by simp[back]at h
 | .zU _::_,_,_,_,_,h,_,_,_,_,_=>by simp[back]at h
 | .raw _::_,_,_,_,_,h,_,_,_,_,_=>by simp[back]at h
 | .wJ _ _ _::_,_,_,_,_,h,_,_,_,_,_=>by simp[back]at h
theorem HI(g:Good ty zb st a.tmps w env): ∀{vs as:List V} {os:Hp},back st vs as=some os→kX os=true→
  Own 0 w (vs.map (LP env)).flatten∧(∀b,b∈(vs.map (LP env)).flatten→ ∃n o o',look os n=some o∧look st.hp n=some o'∧b∈(env n).fp)
 | [],[],os,h,_=>⟨Own.nil _ _,by simp⟩
 | .own n::r, .sl t' l'::s,os,h,hnd=>by
   simp only[back]at h
   split at h
   ·rename_i t l os' hl hb
    split at h
    ·rename_i l2 hc
     simp only[oI]at h
     subst h
     simp only[kX,ak]at hnd
     obtain⟨q1,q2⟩:=HI g hb hnd.2
     have hno:look os' n=none:=by
      cases hq:look os' n with
      |none=>rfl
      |some x=>simp[hq]at hnd
     have ho:=RO.own (g.obj n _ hl)
     rw[cA,bQ]
     refine⟨⟨bf.2 ⟨ho.nodup,q1.nodup,?_⟩,fun _ _=>aD _,fun b hb=> ?_⟩,fun b hb=> ?_⟩
     ·rintro b hb c M9 rfl
      obtain⟨m,o,o',h3,h5,h4⟩:=q2 b M9
      have hmn:n≠m:=by rintro rfl;rw[hno]at h3;cases h3
      exact g.mu n m _ _ hmn hl h5 b hb h4
     ·rcases aL.1 hb with hb|hb
      ·exact ho.kind b hb
      ·exact q1.kind b hb
     ·rcases aL.1 hb with hb|hb
      ·exact⟨n,_,_,look_eq,hl,hb⟩
      ·obtain⟨m,o,o',h3,h5,h4⟩:=q2 b hb
       have hmn:m≠n:=by rintro rfl;rw[hno]at h3;cases h3
       exact⟨m,o,o',by rw[cj hmn];exact h3,h5,h4⟩
    ·cases h
   ·cases h
 | .lit x::r,y::s,os,h,hnd=>by
   simp only[back]at h
   have q:=HI g h hnd
   exact q
 | .own _::_, .lit _::_,_,h,_=>by simp[back]at h
 | .own _::_, .any::_,_,h,_=>by simp[back]at h
 | .own _::_, .own _::_,_,h,_=>by simp[back]at h
 | .own _::_, .ptr _ _::_,_,h,_=>by simp[back]at h
 | .own _::_, .rZ _ _ _::_,_,h,_=>by simp[back]at h
 | .own _::_, .ip _ _ _::_,_,h,_=>by simp[back]at h
 | .own _::_, .vw _ _ _ _::_,_,h,_=>by simp[back]at h
 | .own _::_, .Jv _ _ _ _ _::_,_,h,_=>by simp[back]at h
 | .own _::_, .Jw _ _ _::_,_,h,_=>by simp[back]at h
 | .own _::_, .mix _ _ _ _::_,_,h,_=>by simp[back]at h
 | .own _::_, .zn _::_,_,h,_=>by simp[back]at h
 | .own _::_, .Gi _ _::_,_,h,_=>by simp[back]at h
 | .own _::_, .zU _::_,_,h,_=>by simp[back]at h
 | .own _::_, .raw _::_,_,h,_=>by simp[back]at h
 | .own _::_, .wJ _ _ _::_,_,h,_=>by simp[back]at h
 | .own _::_,[],_,h,_=>by simp[back]at h
 | .lit _::_,[],_,h,_=>by simp[back]at h
 | [],_::_,_,h,_=>by simp[back]at h
 | .any::_,_,_,h,_=>by simp[back]at h
 | .sl _ _::_,_,_,h,_=>by simp[back]at h
 | .ptr _ _::_,_,_,h,_=>by simp[back]at h
 | .rZ _ _ _::_,_,_,h,_=>by simp[back]at h
 | .ip _ _ _::_,_,_,h,_=>by simp[back]at h
 | .vw _ _ _ _::_,_,_,h,_=>by simp[back]at h
 | .Jv _ _ _ _ _::_,_,_,h,_=>by simp[back]at h
 | .Jw _ _ _::_,_,_,h,_=>by simp[back]at h
 | .mix _ _ _ _::_,_,_,h,_=>by simp[back]at h
 | .zn _::_,_,_,h,_=>by simp[back]at h
 | .Gi _ _::_,_,_,h,_=>by simp[back]at h
 | .zU _::_,_,_,h,_=>by simp[back]at h
 | .raw _::_,_,_,h,_=>by simp[back]at h
 | .wJ _ _ _::_,_,_,h,_=>by simp[back]at h
theorem Kept.agr{L:List Nat}{pv:Nat→CO}{w':World}(h:Kept ⟨w,L,pv⟩ w w')(hB:zb.w.heap.size≤w.heap.size)(hL: ∀b,b∈L→b∈zb.L∨zb.w.heap.size≤b):Kept zb w w':=
 ⟨h.os,h.tape,h.output,h.size,fun b hb hn=>h.block b (Nat.lt_of_lt_of_le hb hB) fun hm=>(hL b hm).elim hn fun h=>by omega,h.shape⟩
theorem Ks{f:FuncId}{xs:Array Operand}{ts:Array TypeId}(ho:o.op= .call ⟨.value (.func f),xs,ts⟩)(hS: ∀(args:Array Value) (w:World),(callFunc f args).run P w= .ok (.enter f args) w):
  (execOp a.eval o).run P w= .ok (.enter f (xs.toList.map a.eval).toArray) w:=by
 have hx:xs.map a.eval=(xs.toList.map a.eval).toArray:=by rw[←kJ]
 rw[←hx]
 have h0:a.eval (.func f)= .func (.func f) #[] #[]:=rfl
 unfold execOp
 simp[ho,resolve,invoke,qJ,h0,hS]
theorem ags{Γ:Nat→TK}{cr:List (Nat×CR)}{vc:List Prop}{v:SV}{d:Option Nat}(h:eio P ty Γ cr st d o.op=some (vc,st',v))(g:Good ty zb st a.tmps w env)(hB:zb.w.heap.size≤w.heap.size)(hA:Lx zb)(hN:Lr w)(hv: ∀q,q∈vc→q):
  o.wp P a w (fun a' w'=> ∃u env',a'=a.put o.dst u∧Kept zb w w'∧Good ty zb st' a.tmps w' env'∧st'.n=st.n∧tF w' st'.hp env' a.tmps v u) Q:=by
 generalize jf:o.op=op at h
 unfold eio at h
 split at h
 ·rename_i f xs ts
  split at h
  ·rename_i vs as own v0 as' hl hcr
   split at h
   ·rename_i os hb h1
    split at h
    ·rename_i hnd
     simp only[oI,pI]at h
     obtain⟨rfl,rfl,rfl⟩:=h
     obtain⟨hS1,hS2⟩:LN P f as as' v0:=hv _ (by simp)
     obtain⟨q1,q2⟩:=Ff g hl
     obtain⟨q3,q4⟩:=HI g hb hnd
     unfold iE
     rw[Ks jf hS1]
     simp only[Hq]
     refine(hS2 w _ _ hN (fun b h0 hb=>by obtain⟨n,o,o',_,hl',NW⟩:=q4 b hb;exact hA.free (g.dom n o' hl' b NW) h0) q1 q3).mono ?_
     rintro e w' ⟨UT,rfl,hk,ha,hown,hsub⟩
     obtain⟨r1,r2,_⟩:=LQ g hb q2 (AR ha) hsub hown hnd
     have jr: ∀n, ∃NA, ∀t l',look os n=some (.arr t l')→qg ty w' n t l' ⟨(env n).v,NA⟩∧ ∀b,b∈NA→b∈(env n).fp:=by
      intro n
      cases hq:look os n with
      |none=>exact⟨[],fun _ _ h=>by cases h⟩
      |some o'=>
       obtain⟨⟨t,l,l',jD,h3,rfl,h5,h6,h7⟩,_⟩:=r2 n o' hq
       obtain⟨NA,k1,k2⟩:=HH (hp:=st.hp) (g.obj n _ h3) hk.shape h5 h6 h7
       refine⟨NA,fun t2 l2 h=> ?_⟩
       simp only[oI,Obj.arr.injEq]at h
       obtain⟨rfl,h⟩:=h
       cases h
       exact⟨k1,k2⟩
     obtain⟨env',hg',HC⟩:=NT g (os:=os) (w':=w') (fpn:=fun n=>Classical.choose (jr n))
      (fun n o' hn=>by
       obtain⟨⟨t,l,l',jD,h3,h4,_⟩,_⟩:=r2 n o' hn
       exact⟨t,l,l',h3,h4⟩)
      (fun n o' hn b hb'=>by
       obtain⟨⟨t,l,l',jD,h3,rfl,_⟩,_⟩:=r2 n o' hn
       exact(Classical.choose_spec (jr n) t l' hn).2 b hb')
      (fun b hlt hno=>hk.block b hlt fun hm=>by
       obtain⟨n,o',h3,h4⟩:=r1 b hm
       exact hno n o' h3 h4)
      (fun n t l' hn=>(Classical.choose_spec (jr n) t l' hn).1)
     refine⟨v0,env',rfl,hk.agr hB fun b hm=> ?_,hg',rfl,rfl,h1⟩
     obtain⟨n,o1,o2,h3,h4,h5⟩:=q4 b hm
     exact g.dom n o2 h4 b h5
    ·cases h
   ·cases h
  ·cases h
 ·cases h
theorem HJ(g:Good ty zb st a.tmps w env): ∀{xs:List Operand} {as:List S1},B8 st xs=some as→Fe w as (xs.map a.eval) (as.map fun _=> [])
 | [],as,h=>by
   simp only[B8,oI]at h
   subst h;rfl
 |x::r,as,h=>by
  simp only[B8]at h
  split at h
  ·cases h
  ·rename_i v ys hne hx h2
   simp only[oI]at h
   subst h
   obtain⟨h3,h4⟩:=gG g (fun e he=>by simp at he) hx
   exact⟨[],_,⟨h3,h4,rfl⟩,HJ g h2,rfl⟩
  ·cases h
theorem HK{n i off:Nat}{t:Tag}{l l2:List (T t)}{u0:Value}{gt:Tag}{l0:List (T gt)}{c:List V}{x':T gt}{tG:List Prop}{pv:Nat→CO}(g:Good ty zb st a.tmps w env)(hB:zb.w.heap.size≤w.heap.size)
  (hRV:RV w st.hp env n (some (i,off)) t l u0)(hl:look st.hp n=some (.arr gt l0))(hs:JK (dec gt (l0.getD i (aP gt))) off [.sl t l2]=some c)(he:enc gt c=some (tG,x'))(hv: ∀q,q∈tG→q):
  ∃fv,RI w (.sl t l) u0 fv∧(∀y,y∈fv→y∈zb.L∨zb.w.heap.size≤y)∧Own 0 w fv∧ ∀w' FU,Kept ⟨w,fv,pv⟩ w w'→RI w' (.sl t l2) u0 FU→Own 0 w' FU→(∀y,y∈FU→y∈fv)→ ∃env',Kept zb w w'∧Good ty zb (st.upd [(n, .arr gt (l0.set i x'))]) a.tmps w' env':=by
 obtain⟨_,_,XT⟩:=hRV
 obtain⟨t1,l1,b2,o2,agn,ab1,hl1,hi,QH,UZ,JL,hcell⟩:=XT i off rfl
 rw[hl]at hl1
 simp only[oI,Obj.arr.injEq]at hl1
 obtain⟨rfl,hl1⟩:=hl1
 cases hl1
 have hro:=g.obj n _ hl
 obtain⟨oa,cap,qT,AQ,LL,h3⟩:=RO.sl hro
 have hown:=RO.own hro
 rcases h3 with⟨rfl,_⟩| ⟨b,o1,cB,QG,dY,jr,hE⟩
 ·simp at hi
 rw[qT,QG]at UZ
 simp only[cP,oI,fA,and_true]at UZ
 obtain⟨⟨rfl,rfl⟩,rfl,rfl⟩:=UZ
 have XN:l0[i]? =some (l0.getD i (aP gt)):=by rw[an,au hi];rfl
 obtain⟨fe,hf⟩:=kI hE.1 XN
 obtain⟨cs,BV,hEi⟩:=hE.2 _ _ fe XN hf
 rw[jr]at hown
 have vQ:=cu.1 hown.nodup
 have hR:=reads gt hEi
 obtain⟨f1,f',hfe,k1,k2⟩:=dQ.split off hR
 have Fa: ∃r',(dec gt (l0.getD i (aP gt))).drop off= .sl t l::r':=by
  rw[BS]at QH
  have hlt:=(aI.1 QH).1
  rw[eG hlt]
  have:=(aI.1 QH).2
  rw[this]
  exact⟨_,rfl⟩
 obtain⟨r',Fa⟩:=Fa
 rw[Fa]at k2
 have HL: ∃u us,cs.drop off=u::us:=by
  cases hq:cs.drop off with
  |nil=>rw[hq]at k2;exact k2.elim
  |cons u us=>exact⟨u,us,rfl⟩
 obtain⟨u,us,HL⟩:=HL
 rw[HL]at k2
 obtain⟨fv,f3,P8,XU,hf'⟩:=k2
 have huc:cs[off]? =some u:=by
  have:=congrArg (fun l=>l[0]?) HL
  simpa using this
 have hue:u0=u:=by
  have:=BV off u huc
  rw[hcell]at this
  simpa using this
 rw[hue]at hcell ⊢
 have Kt: ∀y,y∈fv→y∈fe:=fun y hy=>by rw[hfe,hf'];simp[hy]
 have ai1:=(hY.1 vQ.2).1 fe (dL hf)
 rw[hfe,hf']at ai1
 obtain⟨n1,n2,n3⟩:=bf.1 ai1
 obtain⟨n4,n5,n6⟩:=bf.1 n2
 have XV:Own 0 w fv:=⟨n4,fun _ _=>aD _,fun y hy=>hown.kind y (aK _ (eo hf (Kt y hy)))⟩
 refine⟨fv,P8,fun y hy=>g.dom n _ hl y (by rw[jr];exact aK _ (eo hf (Kt y hy))),XV,?_⟩
 intro w' FU hk agt QI QJ
 have m1:=QI.nodup
 have hkeep: ∀y,y<w.heap.size→y∉fv→w'.heap[y]? =w.heap[y]? :=fun y hy hn=>hk.block y hy hn
 have QE: ∀y,y∈cB.flatten→y≠b:=fun y hy e=>vQ.1 (e▸hy)
 have U0: ∀y,y∈cB.flatten→y<w.heap.size:=fun y hy=>hown.lt y (aK _ hy)
 have hkb:w'.heap[b]? =w.heap[b]? :=hkeep b dY.lt fun hm=>vQ.1 (eo hf (Kt b hm))
 have hrg: ∀{o:Nat} {cs:List Value},w.rangeAt b o cs→w'.rangeAt b o cs:=by
  intro o cs hr j v hv
  rw[World.cell?_of_block (w:=w) (a:=⟨b,_,none⟩) hkb];exact hr j v hv
 have ag1:Agree w w' f1:=fun y hy=>hkeep y (U0 y (eo hf (by rw[hfe];simp[hy]))) fun hm=>n3 y hy y (by simp[hm]) rfl
 have ag3:Agree w w' f3:=fun y hy=>hkeep y (U0 y (eo hf (by rw[hfe,hf'];simp[hy]))) fun hm=>n6 y hm y hy rfl
 have XW: ∀{c:List V} {us:List Value} {f:List Nat},dQ w c us f→Agree w w' f→dQ w' c us f:=by
  intro c
  induction c with
  |nil=>intro us f h _;cases us with
   |nil=>exact h
   |cons _ _=>exact h.elim
  |cons v r ih=>
   intro us f h ha
   cases us with
   |nil=>exact h.elim
   |cons u us=>
    obtain⟨f1,f2,h1,h2,rfl⟩:=h
    refine⟨f1,f2,?_,ih h2 (ha.sub fun y hy=>aH _ hy),rfl⟩
    cases v with
    |lit x=>exact h1
    |sl t l=>exact Sl.agree (gh t) h1 (ha.sub fun y hy=>aN _ hy)
    |_=>exact h1.elim
 have M9:c=(dec gt (l0.getD i (aP gt))).take off++([.sl t l2]++r'):=by
  unfold JK at hs
  split at hs
  ·simp only[oI]at hs
   rw[←hs]
   congr 2
   have:(dec gt (l0.getD i (aP gt))).drop (off+ [V.sl t l2].length)=((dec gt (l0.getD i (aP gt))).drop off).drop 1:=by rw[mG];rfl
   rw[this,Fa];rfl
  ·cases hs
 have alC:cs=cs.take off++([u]++us):=by
  have:=(lB off cs).symm
  rw[HL]at this
  exact this
 have hrd:dQ w' c cs (f1++(FU++f3)):=by
  rw[M9,alC]
  refine dQ.agj (XW k1 ag1) (y:= [.sl t l2]) (vs:= [u]) ?_ (XW XU ag3)
  exact⟨FU,[],agt,rfl,by simp⟩
 have hEn:=vJ gt he (fun q hq=>hv q hq) hrd
 have Aw: ∀y,y∈f1++(FU++f3)→y∈fe:=by
  intro y hy
  rw[hfe,hf']
  simp only[aL]at hy ⊢
  rcases hy with hy|hy|hy
  ·exact bI hy
  ·exact bn (bI (QJ y hy))
  ·exact bn (bn hy)
 have LM:=DP (gh gt) (w':=w') hE (i:=i) (x':=x') (f':=f1++(FU++f3)) (hrg BV) hEn (fun j cs' _ _ hr=>hrg hr)
  (fun j f' hj hf' y hy=>hkeep y (U0 y (eo hf' hy)) fun hm=>zz vQ.2 hf' hf hj y hy (Kt y hm))
 have hmem: ∀y,y∈(cB.set i (f1++(FU++f3))).flatten→y∈cB.flatten:=by
  intro y hy
  rcases xV hy with h| ⟨j,f',_,hj,h⟩
  ·exact eo hf (Aw y h)
  ·exact eo hj h
 have hO':Own 0 w' (b::(cB.set i (f1++(FU++f3))).flatten):=by
  refine⟨cu.2 ⟨fun hm=>vQ.1 (hmem b hm),uy vQ.2 ?_ fun j f' hj hf' y hy hy'=>zz vQ.2 hf' hf hj y hy (Aw y hy')⟩,fun _ _=>aD _,fun y hy=> ?_⟩
  ·refine bf.2 ⟨n1,bf.2 ⟨m1,n5,fun y hy z hz e=>n6 y (QJ y hy) z hz e⟩,fun y hy z hz e=> ?_⟩
   rcases aL.1 hz with hz|hz
   ·exact n3 y hy z (by simp[QJ z hz]) e
   ·exact n3 y hy z (by simp[hz]) e
  ·obtain⟨cb,eb,vR⟩:=hown.kind y (by
    rcases bh.1 hy with rfl|hy
    ·simp
    ·exact aK _ (hmem y hy))
   obtain⟨cb',h5,_⟩:=hk.shape y cb eb vR
   exact⟨_,_,h5⟩
 have XQ:Sl (kk gt) (rd gt) w' (env n).v (l0.set i x') (b::(cB.set i (f1++(FU++f3))).flatten):=by
  refine⟨some ⟨b,o1,none⟩,cap,by rw[qT,QG,bA],by rw[bA];exact AQ,LL,bn ⟨b,o1,_,rfl,dY.agree hkb,rfl,LM⟩⟩
 obtain⟨NA,w1,w2⟩:=HH (hp:=st.hp) hro hk.shape XQ hO' (fun y hy=>by
  rw[jr]
  rcases bh.1 hy with rfl|hy
  ·simp
  ·exact aK _ (hmem y hy))
 have hlk: ∀m o',look [(n,Obj.arr gt (l0.set i x'))] m=some o'→m=n∧o'= .arr gt (l0.set i x'):=by
  intro m o' hm
  by_cases hmn:m=n
  ·subst hmn;rw[look_eq]at hm;simp only[oI]at hm;exact⟨rfl,hm.symm⟩
  ·rw[cj hmn]at hm;cases hm
 obtain⟨env',hg',HC⟩:=NT g (os:= [(n, .arr gt (l0.set i x'))]) (w':=w') (fpn:=fun _=>NA)
  (fun m o' hm=>by obtain⟨rfl,rfl⟩:=hlk m o' hm;exact⟨_,_,_,hl,rfl⟩)
  (fun m o' hm y hy=>by obtain⟨rfl,_⟩:=hlk m o' hm;exact w2 y hy)
  (fun y hlt hno=>hkeep y hlt fun hm=>hno n _ look_eq (by rw[jr];exact aK _ (eo hf (Kt y hm))))
  (fun m t2 l3 hm=>by
   obtain⟨rfl,h5⟩:=hlk m _ hm
   simp only[Obj.arr.injEq]at h5
   obtain⟨rfl,h5⟩:=h5
   cases h5
   exact w1)
 refine⟨env',hk.agr hB fun y hm=> ?_,hg'⟩
 exact g.dom n _ hl y (by rw[jr];exact aK _ (eo hf (Kt y hm)))
theorem agu{Γ:Nat→TK}{cr:List (Nat×CR)}{vc:List Prop}{v:SV}{d:Option Nat}(h:eiv P ty cr st d o.op=some (vc,st',v))(g:Good ty zb st a.tmps w env)(hB:zb.w.heap.size≤w.heap.size)(hA:Lx zb)(hN:Lr w)(hv: ∀q,q∈vc→q):
  o.wp P a w (fun a' w'=> ∃u env',a'=a.put o.dst u∧Kept zb w w'∧Good ty zb st' a.tmps w' env'∧st'.n=st.n∧tF w' st'.hp env' a.tmps v u) Q:=by
 generalize jf:o.op=op at h
 unfold eiv at h
 split at h
 ·rename_i f xs ts
  split at h
  ·rename_i x r hxs
   split at h
   ·rename_i n i off t l ls own v0 t' l' ls' hx hls hcr
    split at h
    ·rename_i gt l0 l2 hl hc hv0
     split at h
     ·rename_i c hs
      split at h
      ·rename_i tG x' he
       simp only[oI,pI]at h
       obtain⟨rfl,rfl,rfl⟩:=h
       obtain⟨hS1,hS2⟩:LN P f (.a (.sl t l)::ls) (.a (.sl t l2)::ls') v0:=hv _ (by simp)
       obtain⟨fv,P8,ai3,XV,XX⟩:=HK (pv:=fun _=>⟨v0,[]⟩) g hB (gG g (fun e he=>by simp at he) hx) hl hs he (fun q hq=>hv q (by simp[hq]))
       have wN:((fv::ls.map fun _=>([]:List Nat))).flatten=fv:=by
        rw[bQ]
        have:(ls.map fun _=>([]:List Nat)).flatten= []:=by simp
        rw[this,cS]
       unfold iE
       rw[Ks jf hS1]
       simp only[Hq]
       rw[hxs,cA]
       have hargs:Fe w (.a (.sl t l)::ls) (a.eval x::r.map a.eval) (fv::ls.map fun _=> []):=⟨fv,_,P8,HJ g hls,rfl⟩
       refine(hS2 w _ (fv::ls.map fun _=> []) hN (by rw[wN];exact fun b h0 hb=>hA.free (ai3 b hb) h0) hargs (by rw[wN];exact XV)).mono ?_
       rintro e w' ⟨UT,rfl,hk,⟨FU,fr,agt,_,rfl⟩,HM,hsub⟩
       rw[wN]at hk
       rw[bQ]at HM
       obtain⟨m1,_,_⟩:=bf.1 HM.nodup
       have QI:Own 0 w' FU:=⟨m1,fun _ _=>aD _,fun y hy=>HM.kind y (aN _ hy)⟩
       obtain⟨env',hk2,hg'⟩:=XX w' FU hk agt QI hsub.1
       exact⟨v0,env',rfl,hk2,hg',rfl,rfl,hv0⟩
      ·cases h
     ·cases h
    ·cases h
   ·cases h
  ·cases h
 ·cases h
def evs(Γ:Nat→TK)(st:St):Op→Option (List Prop×St)
 | .store t x y=>match jH st [] x,jH st [] y with
   |some (.a (.Jv n (some (i,o2,j)) tg _ off)),some v=>match look st.hp n with
    |some (.arr g l0)=>match fits (Γ t) v,takes st (cellsOf v),BJ (dec g (l0.getD i (aP g))) o2 with
     |true,some (cv,[]),some (.sl t' l')=>match kL tg t' l' with
      |some l=>match JK (dec tg (l.getD j (aP tg))) off cv with
       |some d=>match enc tg d with
        |some (vc2,y')=>match JK (dec g (l0.getD i (aP g))) o2 [.sl tg (l.set j y')]with
         |some c=>match enc g c with
          |some (tG,x')=>some (tG++vc2,st.upd [(n, .arr g (l0.set i x'))])
          |none=>none
         |none=>none
        |none=>none
       |none=>none
      |none=>none
     |_,_,_=>none
    |_=>none
   |_,_=>none
 |_=>none
theorem agv{Γ:Nat→TK}(C: ∀t,fK P t (Γ t))(Z: ∀t,(∀z tg fo,Γ t≠ .st z tg fo)→Γ t≠ .other→(P.info? t).map (·.size)=some 1){vc:List Prop}(h:evs Γ st o.op=some (vc,st'))(g:Good ty zb st a.tmps w env)(hB:zb.w.heap.size≤w.heap.size)(hv: ∀q,q∈vc→q):
  o.wp P a w (fun a' w'=> ∃env',a'=a.put o.dst undef∧Kept zb w w'∧Good ty zb st' a.tmps w' env'∧st'.n=st.n) Q:=by
 have hop: ∀{x v},jH st [] x=some v→ju w st.hp env v (a.eval x):=fun hx=>gG g (fun e he=>by simp at he) hx
 generalize jf:o.op=op at h
 cases op with
 |store t x y=>
  simp only[evs]at h
  split at h
  case h_2=>cases h
  rename_i n i o2 j tg xx off v hx hy
  have hx:=hop hx
  have hy:=hop hy
  split at h
  case h_2=>cases h
  rename_i gt l0 hl
  split at h
  case h_2=>cases h
  rename_i cv t' l' hfit Wu NX
  split at h
  case h_2=>cases h
  rename_i l hcast
  split at h
  case h_2=>cases h
  rename_i d hs1
  split at h
  case h_2=>cases h
  rename_i vc2 y' he1
  split at h
  case h_2=>cases h
  rename_i c xB
  split at h
  case h_2=>cases h
  rename_i tG x' JM
  simp only[oI,pI]at h
  obtain⟨rfl,rfl⟩:=h
  obtain⟨_,_,_,_,_,_,_,_,_,_,_,hpos⟩:=hx
  obtain⟨l3,u0,b0,uu,len,cap,hRV,hj,_,hu0,hu⟩:=hpos i o2 j rfl
  have XO:l3=l:=by
   obtain⟨_,_,hpv⟩:=hRV
   obtain⟨t1,l1,_,_,_,_,hl1,_,hel,_⟩:=hpv i o2 rfl
   rw[hl]at hl1
   simp only[oI,Obj.arr.injEq]at hl1
   obtain⟨rfl,hl1⟩:=hl1
   cases hl1
   rw[hel]at NX
   simp only[oI,V.sl.injEq]at NX
   obtain⟨rfl,NX⟩:=NX
   cases NX
   obtain⟨e,rfl⟩:=ga hcast
   rfl
  subst XO
  obtain⟨fv,P8,_,hown,XX⟩:=HK (pv:=fun _=>⟨u0,[]⟩) g hB hRV hl xB JM (fun q hq=>hv q (by simp[hq]))
  obtain⟨oa,ab1,qT,AQ,LL,h3⟩:=P8
  rcases h3 with⟨rfl,_⟩| ⟨b,o1,cB,QG,dY,jr,hE⟩
  ·simp at hj
  rw[hu0,QG]at qT
  simp only[cP,oI,fA,and_true]at qT
  obtain⟨⟨rfl,rfl⟩,rfl,rfl⟩:=qT
  have XN:l3[j]? =some (l3.getD j (aP tg)):=by rw[an,au hj];rfl
  obtain⟨f,hf⟩:=kI hE.1 XN
  obtain⟨cs,BV,hEi⟩:=hE.2 _ _ f XN hf
  have hlen:=(gh tg).len hEi
  rw[jr]at hown
  have vQ:=cu.1 hown.nodup
  obtain⟨fx,hrx,Ww,GN⟩:=B4 g (m6 g hy (jJ Wu)) Wu uo
  have alE:fx= []:=by
   cases fx with
   |nil=>rfl
   |cons y r=>obtain⟨m,_,hm,_⟩:=GN y (by simp);simp at hm
  subst alE
  obtain⟨f1,f2,f3,Sq,hrd,hlo⟩:=dQ.JK (reads tg hEi) hrx hs1
  have hEn:=vJ tg he1 (fun q hq=>hv q (by simp[hq])) hrd
  have hsz:(P.info? t).map (·.size)=some (a.eval y).cells.toList.length∧ ∀u,u∈(a.eval y).cells.toList→u.oneCell'=true:=by
   refine⟨?_,zx g (m6 g hy (jJ Wu)) (uQ (jJ Wu))⟩
   cases v with
   |agg c'=>
    obtain⟨z,tg',fo,hk,hfit⟩:=NQ hfit
    have hC:=C t
    rw[hk]at hC
    obtain⟨fs,_,hi2,_⟩:=hC
    obtain⟨us,XE,P9⟩:=hy
    have:=ay hfit
    have XO:=P9.len
    rw[XE]
    cases hq:P.info? t with
    |none=>simp[hq]at hi2
    |some inf=>simp[hq]at hi2;simp[hi2.1,eD,XO,this]
   |a v'=>
    have hk:=B7 hfit
    have hne:v'≠ .any:=by rintro rfl;simp[cellsOf,takes]at Wu
    have:=nq g (show RA w st.hp env v' (a.eval y)from hy) hne
    rw[this]
    exact Z t hk.1 hk.2
  obtain⟨cb,eb,vR⟩:=hown.kind b0 (by simp)
  have Sa:w.there b0 (uu+j*kk tg+off) (a.eval y).cells.toList.length:=by
   refine Li vR _ _ ?_
   have xA:uu+j*kk tg+cs.length≤cb.size:=by
    have hk0:=jt tg
    have:=BV (cs.length-1) _ (au (by omega))
    rw[G1 vR]at this
    have:=(dj.1 this).1
    omega
   omega
  have hkeep: ∀x,x≠b0→(w.setCells b0 (uu+j*kk tg+off) (a.eval y).cells.toList).heap[x]? =w.heap[x]? :=fun x hx=>dV b0 _ _ w x hx
  have QE: ∀x,x∈cB.flatten→x≠b0:=fun x hx e=>vQ.1 (e▸hx)
  have Aw: ∀x,x∈f1++([]++f3)→x∈f:=by
   intro x hx
   rw[Sq]
   rcases aL.1 hx with hx|hx
   ·exact aN _ hx
   ·rw[eM]at hx;exact aH _ (aH _ hx)
  have Uv:Agree w (w.setCells b0 (uu+j*kk tg+off) (a.eval y).cells.toList) (f1++([]++f3)):=fun x hx=>hkeep x (QE x (eo hf (Aw x hx)))
  have LM:=DP (gh tg) (w':=w.setCells b0 (uu+j*kk tg+off) (a.eval y).cells.toList) hE (i:=j) (x':=y') (f':=f1++([]++f3))
   (xU BV hlo Sa) ((gh tg).agree hEn Uv)
   (fun j1 cs' hj1 xA hr=>dO hr _ _ _ (bn (by
    rw[xA]
    rcases nu j1 j with h1|h1
    ·left
     have:=bK (kk tg) (show j1+1≤j by omega)
     rw[cJ]at this;omega
    ·right
     have:=bK (kk tg) (show j+1≤j1 by omega)
     rw[cJ]at this;omega)))
   (fun j1 f' _ hf' x hx=>hkeep x (QE x (eo hf' hx)))
  have XP:(f1++([]++f3)).Nodup:=by
   have h1:=(hY.1 vQ.2).1 f (dL hf)
   rw[Sq]at h1
   obtain⟨h2,h3,h4⟩:=bf.1 h1
   obtain⟨_,h6,_⟩:=bf.1 h3
   rw[eM]
   exact bf.2 ⟨h2,h6,fun x hx z hz=>h4 x hx z (aH _ hz)⟩
  have hmem: ∀x,x∈(cB.set j (f1++([]++f3))).flatten→x∈cB.flatten:=by
   intro x hx
   rcases xV hx with h| ⟨j1,f',_,hj1,h⟩
   ·exact eo hf (Aw x h)
   ·exact eo hj1 h
  have hO':Own 0 (w.setCells b0 (uu+j*kk tg+off) (a.eval y).cells.toList) (b0::(cB.set j (f1++([]++f3))).flatten):=by
   refine⟨cu.2 ⟨fun hm=>vQ.1 (hmem b0 hm),uy vQ.2 XP fun j1 f' hj1 hf' x hx hx'=>zz vQ.2 hf' hf hj1 x hx (Aw x hx')⟩,fun _ _=>aD _,fun x hx=> ?_⟩
   rcases bh.1 hx with rfl|hx
   ·obtain⟨c',q1,_⟩:=gf x eb (a.eval y).cells.toList (uu+j*kk tg+off) w cb vR
    exact⟨_,_,q1⟩
   ·rw[hkeep x (QE x (hmem x hx))];exact hown.kind x (aK _ (hmem x hx))
  have XR:Kept ⟨w,fv,fun _=>⟨u0,[]⟩⟩ w (w.setCells b0 (uu+j*kk tg+off) (a.eval y).cells.toList):=
   BX (zb:=⟨w,fv,fun _=>⟨u0,[]⟩⟩) (bI (by rw[jr];simp)) vR _ _
  have hrun:(storeVar t ⟨b0,uu+j*kk tg+off,none⟩ (a.eval y)).run P w= .ok () (w.setCells b0 (uu+j*kk tg+off) (a.eval y).cells.toList):=ry (by simp) Sa hsz.1 hsz.2
  obtain⟨env',hk2,hg'⟩:=XX _ (b0::(cB.set j (f1++([]++f3))).flatten) XR
   ⟨some ⟨b0,uu,none⟩,cap,by rw[hu0,bA],by rw[bA];exact AQ,LL,bn ⟨b0,uu,_,rfl,dY.set vR _ _,rfl,LM⟩⟩ hO'
   (fun y hy=>by
    rw[jr]
    rcases bh.1 hy with rfl|hy
    ·simp
    ·exact aK _ (hmem y hy))
  unfold iE execOp
  simp only[jf,hu,vP,kU,cI,cQ,bP,hrun]
  exact⟨env',rfl,hk2,hg',rfl⟩
 |_=>simp[evs]at h
end
end
section
variable{ty:Tag→Nat}
def fzs(st:St):List V→Option (List V×List Nat)
 | []=>some ([],[])
 | .lit (.slice _ _ _)::_=>none
 | .lit v::r=>match fzs st r with|some (c,k)=>some (.lit v::c,k)|none=>none
 | .sl t l::r=>match fzs st r with|some (c,k)=>some (.sl t l::c,k)|none=>none
 | .own n::r=>match look st.hp n,fzs st r with
   |some (.arr t l),some (c,k)=>some (.sl t l::c,n::k)
   |_,_=>none
 |_=>none
def HN(st:St)(g:Tag):Nat→List (Nat×Operand)→Option (List Prop×List (T g)×List Nat)
 |_,[]=>some ([],[],[])
 |i,(j,x)::r=>match aU i j,jH st [] x with
  |true,some s=>match fzs st (cellsOf s)with
   |some (c,k)=>match enc g c,HN st g (i+1) r with
    |some (vc,y),some (vcs,ys,ks)=>some (vc++vcs,y::ys,k++ks)
    |_,_=>none
   |none=>none
  |_,_=>none
def efz(P:Program)(ty:Tag→Nat)(Γ:Nat→TK)(st:St):Op→Option (List Prop×St×SV)
 | .buildSlice t len parts=>match Γ t with
   | .sl g e=>match aU e (ty g),aU parts.toList.length len,mO (len*kk g) 16777216,HN st g 0 parts.toList with
     |true,true,true,some (vc,xs,ks)=>match uw ks&& !pinned ks with
      |true=>some (El P ty g::vc,⟨st.n,st.sl.map fun e=>(e.1,e.2.cR ks []),dX ks [] st.hp⟩, .one (.a (.sl g xs)))
      |_=>none
     |_,_,_,_=>none
   |_=>none
 |_=>none
section
variable{P:Program}{zb:eK}{st:St}{a:Act}{w:World}{env:Env}{Q:Exit→Act→World→Prop}{o:Oper}
theorem zA{st:St}: ∀{l c:List V} {k:List Nat},fzs st l=some (c,k)→xO l=true
 | [],_,_,_=>rfl
 |v::r,c,k,h=>by
  unfold fzs at h
  split at h
  ·rename_i he;cases he
  ·cases h
  ·rename_i x r' _ he
   simp only[cC]at he
   obtain⟨rfl,rfl⟩:=he
   split at h
   ·rename_i h';have h2:=zA h';exact h2
   ·cases h
  ·rename_i t l r' he
   simp only[cC]at he
   obtain⟨rfl,rfl⟩:=he
   split at h
   ·rename_i h';have h2:=zA h';exact h2
   ·cases h
  ·rename_i n r' he
   simp only[cC]at he
   obtain⟨rfl,rfl⟩:=he
   split at h
   ·rename_i h';have h2:=zA h';exact h2
   ·cases h
  ·cases h
theorem LR(g:Good ty zb st a.tmps w env): ∀{l c:List V} {k:List Nat} {us:List Value},cT (RA w st.hp env) l us→fzs st l=some (c,k)→
  ∃fp,dQ w c us fp∧ ∀b,b∈fp→b<w.heap.size∧(¬Ow st.hp env b∨ ∃i o,i∈k∧look st.hp i=some o∧b∈(env i).fp)
 | [],c,k,us,hr,h=>by
   simp only[fzs,oI,pI]at h
   obtain⟨rfl,rfl⟩:=h
   cases us with
   |nil=>exact⟨[],rfl,by simp⟩
   |cons _ _=>exact hr.elim
 |v::r,c,k,us,hr,h=>by
  cases us with
  |nil=>exact hr.elim
  |cons u us=>
   unfold fzs at h
   split at h
   ·rename_i he;cases he
   ·cases h
   ·rename_i x r' _ he
    simp only[cC]at he
    obtain⟨rfl,rfl⟩:=he
    split at h
    ·rename_i c' k' h'
     simp only[oI,pI]at h
     obtain⟨rfl,rfl⟩:=h
     obtain⟨fp,h1,h3⟩:=LR g hr.2 h'
     obtain⟨e1,e2⟩:=hr.1
     exact⟨fp,⟨[],fp,⟨e1,e2,rfl⟩,h1,rfl⟩,h3⟩
    ·cases h
   ·rename_i t l r' he
    simp only[cC]at he
    obtain⟨rfl,rfl⟩:=he
    split at h
    ·rename_i c' k' h'
     simp only[oI,pI]at h
     obtain⟨rfl,rfl⟩:=h
     obtain⟨fp,h1,h3⟩:=LR g hr.2 h'
     obtain⟨f0,k1,k2⟩:=hr.1
     refine⟨f0++fp,⟨f0,fp,k1,h1,rfl⟩,fun b hb=> ?_⟩
     rcases aL.1 hb with hb|hb
     ·exact⟨Sl.lt (gh t) k1 b hb,bI (k2 b hb)⟩
     ·exact h3 b hb
    ·cases h
   ·rename_i n r' he
    simp only[cC]at he
    obtain⟨rfl,rfl⟩:=he
    split at h
    ·rename_i t l c' k' hl h'
     simp only[oI,pI]at h
     obtain⟨rfl,rfl⟩:=h
     obtain⟨fp,h1,h3⟩:=LR g hr.2 h'
     obtain⟨_,rfl⟩:=hr.1
     have hb:=RO.sl (g.obj n _ hl)
     refine⟨(env n).fp++fp,⟨_,_,hb,h1,rfl⟩,fun b hb=> ?_⟩
     rcases aL.1 hb with hb|hb
     ·exact⟨(g.obj n _ hl).AH b hb,bn ⟨n,_,by simp,hl,hb⟩⟩
     ·obtain⟨q1,q2⟩:=h3 b hb
      refine⟨q1,q2.imp id ?_⟩
      rintro⟨i,o,hi,h4,h5⟩
      exact⟨i,o,aK _ hi,h4,h5⟩
    ·cases h
   ·cases h
theorem Ku(g:Good ty zb st a.tmps w env){t:Tag}: ∀{ps:List (Nat×Operand)} {i:Nat} {vc:List Prop} {xs:List (T t)} {ks:List Nat},HN st t i ps=some (vc,xs,ks)→(∀q,q∈vc→q)→
  (ps.map fun p=>(p.1,a.eval p.2))=zW i (ps.map fun p=>a.eval p.2)∧xs.length=ps.length∧ ∃cB:List (List Nat),cB.length=xs.length∧
   (∀(i:Nat) (x:T t) (f:List Nat),xs[i]? =some x→cB[i]? =some f→ ∃p:Nat×Operand,ps[i]? =some p∧rd t w (a.eval p.2).cells.toList x f)∧ ∀b,b∈cB.flatten→b<w.heap.size∧(¬Ow st.hp env b∨ ∃i o,i∈ks∧look st.hp i=some o∧b∈(env i).fp)
 | [],i,vc,xs,ks,h,_=>by
   simp only[HN,oI,pI]at h
   obtain⟨rfl,rfl,rfl⟩:=h
   exact⟨rfl,rfl,[],rfl,by simp,by simp⟩
 | (j,x)::r,i,vc,xs,ks,h,hv=>by
   simp only[HN]at h
   split at h
   ·rename_i s hij hx
    have hij:=ay hij
    subst hij
    split at h
    ·rename_i c k hc
     split at h
     ·rename_i tG y vcs ys ks1 he hb
      simp only[oI,pI]at h
      obtain⟨rfl,rfl,rfl⟩:=h
      obtain⟨q1,q2,cB,q3,q4,q6⟩:=Ku g hb (fun q hq=>hv q (aH _ hq))
      obtain⟨fp,r1,r3⟩:=LR g (m6 g (gG g (fun e he=>by simp at he) hx) (zA hc)) hc
      have hE:=vJ t he (fun q hq=>hv q (aN _ hq)) r1
      refine⟨by simp[zW,q1],by simp[q2],fp::cB,by simp[q3],?_,?_⟩
      ·intro i' x' f hx' hf
       cases i' with
       |zero=>simp at hx' hf;subst hx';subst hf;exact⟨(i,x),rfl,hE⟩
       |succ n=>simp at hx' hf;obtain⟨p,h1,h2⟩:=q4 n x' f hx' hf;exact⟨p,by simpa using h1,h2⟩
      ·intro b hb
       rw[bQ]at hb
       rcases aL.1 hb with hb|hb
       ·obtain⟨z1,z2⟩:=r3 b hb
        exact⟨z1,z2.imp id fun⟨n,o1,h1,h2,h3⟩=>⟨n,o1,aN _ h1,h2,h3⟩⟩
       ·obtain⟨z1,z2⟩:=q6 b hb
        exact⟨z1,z2.imp id fun⟨n,o1,h1,h2,h3⟩=>⟨n,o1,aH _ h1,h2,h3⟩⟩
     ·cases h
    ·cases h
   ·cases h
theorem run_frozen{t len:Nat}{parts:Array (Nat×Operand)}(ho:o.op= .buildSlice t len parts){g:Tag}(hu:P.underlying t=some (.slice (ty g)))(wL:El P ty g)(hbig:len*kk g≤16777216)(hlen:parts.toList.length=len)
  {xs:List (T g)}{cB:List (List Nat)}(q1:(parts.toList.map fun p=>(p.1,a.eval p.2))=zW 0 (parts.toList.map fun p=>a.eval p.2))(q2:xs.length=parts.toList.length)(q3:cB.length=xs.length)
  (q4: ∀(i:Nat) (x:T g) (f:List Nat),xs[i]? =some x→cB[i]? =some f→ ∃p:Nat×Operand,parts.toList[i]? =some p∧rd g w (a.eval p.2).cells.toList x f):
  ∃w',(execOp a.eval o).run P w= .ok (.value (.slice (some ⟨w.heap.size,0,none⟩) len len)) w'∧Below w.heap.size w w'∧Sl (kk g) (rd g) w' (.slice (some ⟨w.heap.size,0,none⟩) len len) xs (w.heap.size::cB.flatten):=by
 have hkp:=jt g
 have xA: ∀v,v∈(parts.toList.map fun p=>a.eval p.2)→v.cells.size=kk g:=by
  intro v hv
  obtain⟨i,hi⟩:=ff hv
  have hil:i<xs.length:=by have:=(aI.1 hi).1;simp at this;rw[q2];simpa using this
  have hfl:i<cB.length:=by omega
  obtain⟨p,h1,h2⟩:=q4 i xs[i] cB[i] (au hil) (au hfl)
  rw[dR,h1]at hi
  simp at hi
  subst hi
  simpa using(gh g).len h2
 cases hq:P.info? (ty g)with
 |none=>simp[El,hq]at wL
 |some inf=>
  simp[El,hq]at wL
  obtain⟨z1,z2,z3⟩:=wL
  let zs:List Value:=(bD (len*kk g)).map fun j=>(if len*kk g=0 then #[]else(iX g).cells)[j % (if len*kk g=0 then #[]else(iX g).cells).size]!
  have hzl:zs.length=len*kk g:=by simp[zs]
  have hf:=Hr (k:=kk g) (parts.toList.map fun p=>a.eval p.2) 0 zs xA (by rw[hzl,bg,hlen,dZ])
  rw[E8,mH,eM]at hf
  have hrun:(execOp a.eval o).run P w= .ok (.value (.slice (some ⟨w.heap.size,0,none⟩) len len)) (w.alloc (.cells (e9 ((parts.toList.map fun p=>a.eval p.2).flatMap fun v=>v.cells.toList)) (ty g) (0,0))):=by
   unfold execOp
   have sr:(parts.map fun(p:Nat×Operand)=>(p.1,a.eval p.2)).toList=zW 0 (parts.toList.map fun p=>a.eval p.2):=by
    rw[mQ];exact q1
   have hzs:((Qs (len*kk g)).map fun j=>(if len*kk g=0 then #[]else(iX g).cells)[j % (if len*kk g=0 then #[]else(iX g).cells).size]!)=e9 zs:=by
    simp only[zs]
    apply DH
    simp
   have hze:(sizeOf (ty g)).run P w= .ok (kk g) w:=by simp[sizeOf,typeInfo,hq,z2]
   simp only[ho,FO,cI,run_underlying hu,bP,hze]
   rw[if_neg (by omega)]
   by_cases hz0:len*kk g=0
   ·simp only[if_pos hz0]at hzs ⊢
    simp only[cI,cQ,bP]
    rw[hzs,sr,hf]
    simp[newRow]
   ·have hzv:(zeroValue (ty g)).run P w= .ok (iX g) w:=by simp[zeroValue,typeInfo,hq,z1]
    simp only[if_neg hz0]at hzs ⊢
    simp only[cI,hzv,cQ,bP]
    rw[hzs,sr,hf]
    simp[newRow]
  have hps:((parts.toList.map fun p=>a.eval p.2).flatMap fun v=>v.cells.toList)=((parts.toList.map fun p=>(a.eval p.2).cells.toList).flatMap id):=by
   simp[FP]
  have XA: ∀v,v∈(parts.toList.map fun p=>(a.eval p.2).cells.toList)→v.length=kk g:=by
   intro v hv
   obtain⟨p,hp,rfl⟩:=cq.1 hv
   simpa using xA _ (cq.2 ⟨p,hp,rfl⟩)
  have Km:=xS XA
  rw[bg,hlen]at Km
  have hb0:Below w.heap.size w (w.alloc (.cells (e9 ((parts.toList.map fun p=>a.eval p.2).flatMap fun v=>v.cells.toList)) (ty g) (0,0))):=(iY _ _).alloc (aZ _) _
  have ai6:=uH (w:=w) (o:= .cells (e9 ((parts.toList.map fun p=>a.eval p.2).flatMap fun v=>v.cells.toList)) (ty g) (0,0)) (k:=w.heap.size) rfl
  refine⟨_,hrun,hb0,some ⟨w.heap.size,0,none⟩,len,by rw[q2,hlen],by rw[q2,hlen];exact aZ _,?_,bn ⟨w.heap.size,0,cB,rfl,⟨_,_,_,ai6,by simp only[iV];rw[hps];omega⟩,rfl,q3,?_⟩⟩
  ·unfold maxLen;have:=vN len hkp;omega
  ·intro i x f hx Sq
   obtain⟨p,h1,h2⟩:=q4 i x f hx Sq
   have hkey:(((parts.toList.map fun p=>a.eval p.2).flatMap fun v=>v.cells.toList).drop (i*kk g)).take (kk g)=(a.eval p.2).cells.toList:=by
    rw[hps];exact xR XA (by rw[dR,h1];rfl)
   refine⟨_,Sj ai6 _ _ fun j v hv=> ?_,(gh g).below h2 hb0⟩
   rw[←hkey]at hv
   rw[cH]at hv
   split at hv
   ·rw[cN]at hv
    rw[dZ,List.getElem?_toArray]
    exact hv
   ·cases hv
theorem U1(g:Good ty zb st a.tmps w env){ks:List Nat}{w':World}(hb:Below w.heap.size w w'):Good ty zb ⟨st.n,st.sl.map fun e=>(e.1,e.2.cR ks []),dX ks [] st.hp⟩ a.tmps w' env:=by
 have hlk: ∀m o,look (dX ks [] st.hp) m=some o→m∉ks∧ ∃o',look st.hp m=some o'∧o=o'.cR ks []:=by
  intro m o hm
  rw[dr]at hm
  split at hm
  ·cases hm
  ·rename_i hks
   cases hq:look st.hp m with
   |none=>rw[hq]at hm;cases hm
   |some o'=>rw[hq]at hm;simp only[dI,oI]at hm;exact⟨hks,o',rfl,hm.symm⟩
 have s:uP ks [] w st.hp env w' (dX ks [] st.hp) env:=by
  refine⟨fun b hlt _=>hb.block b hlt,?_,?_,?_⟩
  ·rintro b hlt ⟨m,o',h1,h2⟩
   obtain⟨_,By,h3,rfl⟩:=hlk m o' h1
   exact⟨m,By,h3,h2⟩
  ·intro m o' hks h1
   exact⟨o'.cR ks [],by rw[dr,if_neg hks,h1];rfl,by cases o'<;>simp[Obj.like,Obj.cR],rfl⟩
  ·rintro m t' l' ⟨hks,_⟩ h1
   exact⟨by rw[dr,if_neg hks,h1];rfl,rfl,fun b JL=>hb.block b ((g.obj m _ h1).AH b JL)⟩
 refine g.kZ s (fun m o' hm=> ?_) (fun m m' o1 o2 hne h1 h2 b JL hb'=> ?_) (fun m o' hm b JL=> ?_) g.pins
 ·obtain⟨hks,By,h3,rfl⟩:=hlk m o' hm
  exact(g.obj m By h3).kZ s fun b JL=>hb.block b ((g.obj m By h3).AH b JL)
 ·obtain⟨_,q1,h3,_⟩:=hlk m o1 h1
  obtain⟨_,q2,h4,_⟩:=hlk m' o2 h2
  exact g.mu m m' _ _ hne h3 h4 b JL hb'
 ·obtain⟨_,q1,h3,_⟩:=hlk m o' hm
  exact g.dom m q1 h3 b JL
theorem agw{Γ:Nat→TK}(C: ∀t,fK P t (Γ t)){vc:List Prop}{st':St}{v:SV}(h:efz P ty Γ st o.op=some (vc,st',v))(g:Good ty zb st a.tmps w env)(hB:zb.w.heap.size≤w.heap.size)(hv: ∀q,q∈vc→q):
  o.wp P a w (fun a' w'=> ∃u env',a'=a.put o.dst u∧Kept zb w w'∧Good ty zb st' a.tmps w' env'∧st'.n=st.n∧tF w' st'.hp env' a.tmps v u) Q:=by
 generalize jf:o.op=op at h
 cases op with
 |buildSlice t len parts=>
  simp only[efz]at h
  split at h
  ·rename_i gt e hk
   split at h
   ·rename_i tG xs ks he hlen hbig hb
    have he:=ay he
    split at h
    ·rename_i hnd
     simp only[oI,pI]at h
     obtain⟨rfl,rfl,rfl⟩:=h
     have wL:El P ty gt:=hv _ (by simp)
     obtain⟨q1,q2,cB,q3,q4,q6⟩:=Ku g hb (fun q hq=>hv q (by simp[hq]))
     have hC:=C t
     rw[hk,he]at hC
     obtain⟨w',r1,r2,r3⟩:=run_frozen (P:=P) (w:=w) (a:=a) jf hC.1 wL (bX hbig) (ay hlen) q1 q2 q3 q4
     have hg':=U1 g (ks:=ks) r2
     unfold iE
     rw[r1]
     refine⟨_,env,rfl,oY r2 hB,hg',rfl,_,r3,?_⟩
     rintro b JL ⟨m,o',h1,h2⟩
     rw[dr]at h1
     split at h1
     ·cases h1
     ·rename_i hks
      cases hq:look st.hp m with
      |none=>rw[hq]at h1;cases h1
      |some By=>
       have hlt:=(g.obj m By hq).AH b h2
       rcases bh.1 JL with rfl|JL
       ·omega
       ·rcases(q6 b JL).2 with h3| ⟨i,oi,hi,h4,h5⟩
        ·exact h3 ⟨m,By,hq,h2⟩
        ·exact g.mu m i _ _ (fun e=>hks (e▸hi)) hq h4 b h2 h5
    ·cases h
   ·cases h
  ·cases h
 |_=>simp[efz]at h
end
end
section
variable{ty:Tag→Nat}
def inv:List (Nat×Nat)→Nat→Option Nat
 | [],_=>none
 | (n,m)::r,k=>match aU k m with|true=>some n|false=>inv r k
def V.toF(ρ:List (Nat×Nat)):V→V
 | .lit v=> .lit v
 | .sl t l=> .sl t l
 | .own m=>match inv ρ m with|some n=> .own n|none=> .any
 | .ptr m o=>match inv ρ m with|some n=> .ptr n o|none=> .any
 | .Gi f m=>match inv ρ m with|some n=> .Gi f n|none=> .any
 | .wJ v t l=> .wJ v t l
 |_=> .any
def Obj.toF(ρ:List (Nat×Nat)):Obj→Obj
 | .box c=> .box (c.map (V.toF ρ))
 | .arr t l=> .arr t l
 | .jG t l .mp=> .jG t l .mp
 | .jG t l (.Nb u)=> .jG t l (.Nb u)
 | .jG t l (.zV _)=> .jG t l (.zV none)
 | .jG t l _=> .jG t l .gone
def B9(st:St)(ρ:List (Nat×Nat)):List (Nat×Nat)→Option Hp
 | []=>some []
 | (n,m)::r=>match look st.hp m, !nI m||nI n, !soft m||soft n,B9 st ρ r with
   |some o,true,true,some h=>some ((n,o.toF ρ)::h)
   |_,_,_,_=>none
def ab5(st:St)(ρ:List (Nat×Nat))(tg:Option Tag)(v:V):Option V:=match v.name with
 |some m=>match inv ρ m with
  |some n=>match v with
   | .own _=>some (.own n)
   | .ptr _ o=>some (.ptr n o)
   | .Gi f _=>some (.Gi f n)
   |_=>none
  |none=>match v with
   | .mix _ _ _ _=>none
   | .zn _=>none
   |v=>sj st tg v
 |none=>sj st tg v
def NY(st:St)(ρ:List (Nat×Nat)):List (Option Tag)→List V→Option (List V)
 |_,[]=>some []
 |tg,v::r=>match ab5 st ρ (match tg with|t::_=>t| []=>none) v,NY st ρ (match tg with|_::ts=>ts| []=> []) r with
  |some x,some y=>some (x::y)
  |_,_=>none
def V.aey:V→Bool
 | .wJ _ _ _=>true
 |_=>false
def agx(st:St)(ρ:List (Nat×Nat))(k:TK):S1→Option S1
 | .a v=>match v.aey with
   |true=>some (.a v)
   |false=>match ab5 st ρ (match k with| .sl t _=>some t|_=>none) v with|some x=>some (.a x)|none=>none
 | .agg l=>match NY st ρ (match k with| .st _ tg _=>tg|_=> []) l with|some x=>some (.agg x)|none=>none
def NZ(Γ:Nat→TK)(st:St)(ρ:List (Nat×Nat)):List Operand→List Nat→Option (List S1)
 | [],_=>some []
 |x::r,t=>match P6 st [] x with
  |some v=>match agx st ρ (match t with|t::_=>Γ t| []=> .other) v,NZ Γ st ρ r (match t with|_::ts=>ts| []=> [])with
   |some y,some ys=>some (y::ys)
   |_,_=>none
  |none=>none
def LS(st:St)(ρ:List (Nat×Nat))(x:Operand):Option (FuncId×List S1):=match jH st [] x with
 |some (.a (.Gi f m))=>match inv ρ m with|some n=>some (f,[.a (.ptr n 0)])|none=>none
 |some v=>match abE v with|some f=>some (f,[])|none=>none
 |none=>none
def agy:List V→Option (List (Nat×Nat))
 | []=>some []
 | .ptr n m::r=>match agy r with|some l=>some ((n,m)::l)|none=>none
 |_=>none
def ai7:List V→Option (List Nat)
 | []=>some []
 | .own n::r=>match ai7 r with|some l=>some (n::l)|none=>none
 |_=>none
def XY:List Nat→List S1→Option Hp
 | [],[]=>some []
 |n::ns, .a (.sl t l)::r=>match XY ns r with|some h=>some ((n, .arr t l)::h)|none=>none
 |n::ns, .agg c::r=>match XY ns r with|some h=>some ((n, .box c)::h)|none=>none
 |_,_=>none
def knV:List V→Option V
 | []=>none
 | .wJ v t l::_=>some (.wJ v t l)
 |_::r=>knV r
def knX(st:St):List Operand→Option V
 | []=>none
 |x::r=>match P6 st [] x with
  |some (.a v)=>match v.aey with|true=>some v|false=>knX st r
  |_=>knX st r
def knR(st:St):List (Nat×Nat)→Option V
 | []=>none
 | (_,m)::r=>match look st.hp m with
   |some (.box c)=>match knV c with|some v=>some v|none=>knR st r
   |_=>knR st r
def knS(st:St)(xs:List Operand)(ρ:List (Nat×Nat)):Option V:=match knX st xs with|some v=>some v|none=>knR st ρ
def N0(kn:Option V):V→List Prop
 | .wJ v _ _=>match kn with
   |some (.wJ u _ _)=> [v=u]
   |_=> [False]
 |_=> []
def XZ(kn:Option V):List V→List Prop
 | []=> []
 |v::r=>rz (N0 kn v) (XZ kn r)
def QK(kn:Option V):Hp→List Prop
 | []=> []
 | (_, .box c)::r=>rz (XZ kn c) (QK kn r)
 |_::r=>QK kn r
def V.toA(kn:Option V)(ρ:List (Nat×Nat)):V→Option V
 | .wJ _ _ _=>kn
 | .any=>some .any
 | .lit v=>some (.lit v)
 | .own n=>match look ρ n with|some m=>some (.own m)|none=>none
 | .ptr n o=>match look ρ n with|some m=>some (.ptr m o)|none=>none
 |_=>none
def toAs(kn:Option V)(ρ:List (Nat×Nat)):List V→Option (List V)
 | []=>some []
 |v::r=>match v.toA kn ρ,toAs kn ρ r with|some x,some y=>some (x::y)|_,_=>none
def S1.toA(ρ:List (Nat×Nat)):S1→Option S1
 | .a v=>match v.toA none ρ with|some x=>some (.a x)|none=>none
 | .agg l=>match toAs none ρ l with|some x=>some (.agg x)|none=>none
def rsH(ρ:List (Nat×Nat)):List S1→Option (List S1)
 | []=>some []
 |v::r=>match v.toA ρ,rsH ρ r with|some x,some y=>some (x::y)|_,_=>none
def Obj.toA(kn:Option V)(ρ:List (Nat×Nat)):Obj→Option Obj
 | .box c=>match toAs kn ρ c with|some x=>some (.box x)|none=>none
 | .arr t l=>some (.arr t l)
 | .jG _ _ _=>none
def HO(kn:Option V)(ρ:List (Nat×Nat)):Hp→Option (List (Nat×Nat×Obj))
 | []=>some []
 | (n,o)::r=>match look ρ n,o.toA kn ρ,HO kn ρ r with
   |some m,some o',some h=>match !nI m||nI n, !soft n||soft m with|true,true=>some ((n,m,o')::h)|_,_=>none
   |_,_,_=>none
def HP:Option Obj→Bool
 |some (.box _)=>true
 |_=>false
def N1(ty:Tag→Nat)(w:World)(hp:Hp)(env:Env):Prop:=(∀n o,look hp n=some o→RO ty w hp env n o (env n))∧ ∀n m o o',n≠m→look hp n=some o→look hp m=some o'→ ∀b,b∈(env n).fp→b∉(env m).fp
def Ca(hp:Hp)(env:Env):List Nat:=hp.flatMap fun e=>(env e.1).fp
def aja(w:World)(hp:Hp)(env:Env)(rs:List S1)(u:Value):Prop:=match rs with
 | [r]=>ju w hp env r u
 |rs=> ∃us,u= .tuple us.toArray∧cT (ju w hp env) rs us
def sE(ty:Tag→Nat)(P:Program)(f:FuncId)(kV:Hp)(as:List S1)(jo:Hp)(rs:List S1):Prop:=
 (∀(args:Array Value) (w:World),(callFunc f args).run P w= .ok (.enter f args) w)∧
 ∀w env us,Lr w→(∀b,Qo b→b∉Ca kV env)→N1 ty w kV env→cT (ju w kV env) as us→Calls P f us.toArray w fun e w'=> ∃env' u,e= .returned u∧Kept ⟨w,Ca kV env,env⟩ w w'∧N1 ty w' jo env'∧
  (∀n o,look jo n=some o→ ∀b,b∈(env' n).fp→b∈Ca kV env∨w.heap.size≤b)∧(∀n,nI n=true→(env' n).v=(env n).v∧ ∀b,b∈(env' n).fp→b∈(env n).fp)∧aja w' jo env' rs u
def dH{ty:Tag→Nat}{P:Program}{f:FuncId}{xs rs:List S1}(_:Sound ty P f xs rs):List S1:=rs
def LU{ty:Tag→Nat}{P:Program}{f:FuncId}{kV:Hp}{xs:List S1}{jo:Hp}{rs:List S1}(_:sE ty P f kV xs jo rs):List S1:=rs
def obS:Obj→S1
 | .box c=> .agg c
 | .arr t l=> .a (.sl t l)
 | .jG _ _ _=> .agg []
def LV{ty:Tag→Nat}{P:Program}{f:FuncId}{kV:Hp}{xs:List S1}{jo:Hp}{rs:List S1}(_:sE ty P f kV xs jo rs):List S1:= .agg (jo.map fun e=> .own e.1)::jo.map fun e=>obS e.2
def Gr(B:List (Nat×Nat×Obj)):Hp:=B.map fun e=>(e.2.1,e.2.2)
def JN:List (Nat×Nat×Obj)→Nat→Option Nat
 | [],_=>none
 | (n,m,_)::r,k=>match aU k m with|true=>some n|false=>JN r k
def HQ(kv ks:List Nat)(hp:Hp):Hp:=(hp.filter fun e=> !kv.any (aU e.1)).map fun e=>(e.1,e.2.cR ks kv)
def LW(hp:Hp):Hp→Bool
 | []=>true
 | (m,_)::r=>(match look hp m with|none=>true|some _=>false)&&LW hp r
def X0(P:Program)(ty:Tag→Nat)(Γ:Nat→TK)(cr:List (Nat×CR))(st:St)(d:Option Nat):Op→Option (List Prop×St×SV)
 | .call ⟨.value x,xs,ts⟩=>match look cr (d.getD 99999+700000),look cr (d.getD 99999+800000)with
   |some ⟨_, .agg a:: .agg b:: .agg c::os⟩,some ⟨_,rs⟩=>match agy a,agy b,ai7 c with
    |some ρ0,some ρ1,some ns=>match XY ns os,B9 st ρ0 ρ0,LS st ρ0 x,NZ Γ st ρ0 xs.toList ts.toList with
     |some jo,some kV,some (f,ex),some as=>match HO (knS st xs.toList ρ0) (ρ0++ρ1) jo,rsH (ρ0++ρ1) rs with
      |some B,some rsA=>match uw ((ρ0++ρ1).map iC)&&uw (ρ0.map fW)&&kX jo&&kX (Gr B)&&LW (HQ (ρ0.map fW) ((ρ0.filter fun e=> !nI e.1).map fW) st.hp) (Gr B)&&ρ0.all (fun e=> !nI e.1|| (HP (look kV e.1)&&HP (look jo e.1)))&&ρ1.all (fun e=> !nI e.2)with
       |true=>some (sE ty P f kV (rz as ex) jo rs::QK (knS st xs.toList ρ0) jo,⟨st.n,st.sl.map fun e=>(e.1,e.2.cR ((ρ0.filter fun e=> !nI e.1).map fW) (ρ0.map fW)),Gr B++HQ (ρ0.map fW) ((ρ0.filter fun e=> !nI e.1).map fW) st.hp⟩,match rsA with| [r]=> .one r|l=> .Au l)
       |false=>none
      |_,_=>none
     |_,_,_,_=>none
    |_,_,_=>none
   |_,_=>none
 |_=>none
theorem rB: ∀{ρ:List (Nat×Nat)} {m n:Nat},inv ρ m=some n→(n,m)∈ρ
 | (a,b)::r,m,n,h=>by
   simp only[inv]at h
   split at h
   ·rename_i hb
    have:=ay hb
    simp only[oI]at h
    subst h;subst this;simp
   ·exact aK _ (rB h)
theorem N2: ∀{ρ:List (Nat×Nat)} {m:Nat},inv ρ m=none→m∉ρ.map fW
 | [],_,_=>by simp
 | (a,b)::r,m,h=>by
   simp only[inv]at h
   split at h
   ·cases h
   ·rename_i hb
    have hne:m≠b:=fun e=>by rw[e,Nat.beq_refl]at hb;cases hb
    have:=N2 h
    simp only[cA,bh,not_or]
    exact⟨hne,this⟩
theorem iS{α:Type}: ∀{l:List (Nat×α)} {n:Nat} {x:α},(l.map iC).Nodup→(n,x)∈l→look l n=some x
 | (j,y)::r,n,x,hnd,h=>by
   obtain⟨h1,h2⟩:=cu.1 hnd
   rcases bh.1 h with h'|h'
   ·simp only[pI]at h'
    obtain⟨rfl,rfl⟩:=h'
    exact look_eq
   ·have hne:n≠j:=fun e=>h1 (cq.2 ⟨(n,x),h',e⟩)
    rw[cj hne];exact iS h2 h'
theorem zB: ∀{l:Hp},kX l=true→(l.map iC).Nodup
 | [],_=>uo
 | (n,x)::r,h=>by
   simp only[kX,ak]at h
   refine cu.2 ⟨fun hm=> ?_,zB h.2⟩
   obtain⟨e,he,rfl⟩:=cq.1 hm
   have:=iS (zB h.2) (show(e.1,e.2)∈r from he)
   rw[this]at h;simp at h
theorem rN: ∀{B:List (Nat×Nat×Obj)} {m:Nat} {o:Obj},look (Gr B) m=some o→ ∃n,(n,m,o)∈B∧JN B m=some n
 | (n,k,x)::r,m,o,h=>by
   have h:look ((k,x)::Gr r) m=some o:=h
   by_cases hm:m=k
   ·subst hm
    rw[look_eq]at h
    simp only[oI]at h
    subst h
    exact⟨n,by simp,by simp[JN]⟩
   ·rw[cj hm]at h
    obtain⟨n',h1,h2⟩:=rN h
    refine⟨n',aK _ h1,?_⟩
    simp only[JN]
    cases hb:aU m k with
    |true=>exact absurd (ay hb) hm
    |false=>exact h2
theorem Kv: ∀{B:List (Nat×Nat×Obj)} {m:Nat},look (Gr B) m=none→JN B m=none
 | [],_,_=>rfl
 | (n,k,x)::r,m,h=>by
   have h:look ((k,x)::Gr r) m=none:=h
   have hm:m≠k:=by rintro rfl;rw[look_eq]at h;cases h
   rw[cj hm]at h
   simp only[JN]
   cases hb:aU m k with
   |true=>exact absurd (ay hb) hm
   |false=>exact Kv h
theorem o9{kn:Option V}{ρ:List (Nat×Nat)}: ∀{hp:Hp} {B:List (Nat×Nat×Obj)},HO kn ρ hp=some B→ ∀n m o',(n,m,o')∈B→ ∃o,(n,o)∈hp∧look ρ n=some m∧o.toA kn ρ=some o'∧(nI m=true→nI n=true)∧(soft n=true→soft m=true)
 | [],B,h,n,m,o',hm=>by
   simp only[HO,oI]at h
   subst h;cases hm
 | (k,x)::r,B,h,n,m,o',hm=>by
   simp only[HO]at h
   split at h
   ·rename_i m1 o1 h1 e1 e2 e3
    split at h
    ·rename_i hp hs
     simp only[oI]at h
     subst h
     rcases bh.1 hm with h|h
     ·simp only[pI]at h
      obtain⟨rfl,rfl,rfl⟩:=h
      refine⟨x,by simp,e1,e2,fun hn=> ?_,fun hn=> ?_⟩
      ·rw[hn]at hp;simpa using hp
      ·rw[hn]at hs;simpa using hs
     ·obtain⟨o,q1,q2⟩:=o9 e3 n m o' h
      exact⟨o,aK _ q1,q2⟩
    ·cases h
   ·cases h
theorem Kw{kn:Option V}{ρ:List (Nat×Nat)}: ∀{hp:Hp} {B:List (Nat×Nat×Obj)},HO kn ρ hp=some B→ ∀n o,(n,o)∈hp→ ∃m o',(n,m,o')∈B∧look ρ n=some m∧o.toA kn ρ=some o'
 | [],B,h,n,o,hm=>by cases hm
 | (k,x)::r,B,h,n,o,hm=>by
   simp only[HO]at h
   split at h
   ·rename_i m1 o1 h1 e1 e2 e3
    split at h
    ·simp only[oI]at h
     subst h
     rcases bh.1 hm with h|h
     ·simp only[pI]at h
      obtain⟨rfl,rfl⟩:=h
      exact⟨m1,o1,by simp,e1,e2⟩
     ·obtain⟨m,o',q1,q2⟩:=Kw e3 n o h
      exact⟨m,o',aK _ q1,q2⟩
    ·cases h
   ·cases h
theorem Kx{st:St}{ρ:List (Nat×Nat)}: ∀{r:List (Nat×Nat)} {hp:Hp},B9 st ρ r=some hp→(∀n o,(n,o)∈hp→ ∃m x,(n,m)∈r∧look st.hp m=some x∧o=x.toF ρ∧(nI m=true→nI n=true)∧(soft m=true→soft n=true))∧ ∀n m,(n,m)∈r→ ∃x,look st.hp m=some x∧(n,x.toF ρ)∈hp
 | [],hp,h=>by
   simp only[B9,oI]at h
   subst h
   exact⟨(fun n o hm=>nomatch hm),(fun n m hm=>nomatch hm)⟩
 | (k,j)::r,hp,h=>by
   simp only[B9]at h
   split at h
   ·rename_i x h' e1 e2 e3 e4
    simp only[oI]at h
    subst h
    obtain⟨q1,q2⟩:=Kx e4
    refine⟨fun n o hm=> ?_,fun n m hm=> ?_⟩
    ·rcases bh.1 hm with h|h
     ·simp only[pI]at h
      obtain⟨rfl,rfl⟩:=h
      exact⟨j,x,by simp,e1,rfl,fun hs=>by rw[hs]at e2;simpa using e2,fun hs=>by rw[hs]at e3;simpa using e3⟩
     ·obtain⟨m,y,p1,p2⟩:=q1 n o h
      exact⟨m,y,aK _ p1,p2⟩
    ·rcases bh.1 hm with h|h
     ·simp only[pI]at h
      obtain⟨rfl,rfl⟩:=h
      exact⟨x,e1,by simp⟩
     ·obtain⟨y,p1,p2⟩:=q2 n m h
      exact⟨y,p1,aK _ p2⟩
   ·cases h
theorem DQ{st:St}{ρ:List (Nat×Nat)}: ∀{r:List (Nat×Nat)} {hp:Hp},B9 st ρ r=some hp→hp.map iC=r.map iC
 | [],hp,h=>by simp only[B9,oI]at h;subst h;rfl
 | (k,j)::r,hp,h=>by
   simp only[B9]at h
   split at h
   ·rename_i e4
    simp only[oI]at h
    subst h
    rw[cA,cA,DQ e4]
   ·cases h
theorem vS{kv ks:List Nat}{hp:Hp}{n:Nat}:look (HQ kv ks hp) n=if n∈kv then none else(look hp n).map (Obj.cR ks kv):=by
 unfold HQ
 rw[nT (α:=Obj) (f:=fun e:Nat×Obj=>e.2.cR ks kv)]
 have:look (hp.filter fun e=> !kv.any (aU e.1)) n=if n∈kv then none else look hp n:=by
  induction hp with
  |nil=>simp[look]
  |cons e r ih=>
   obtain⟨j,x⟩:=e
   by_cases hj:j∈kv
   ·have:(kv.any (aU j))=true:=eZ.2 ⟨j,hj,by simp⟩
    rw[ey (by simp[this]),ih]
    by_cases hn:n∈kv
    ·simp[hn]
    ·have:n≠j:=by rintro rfl;exact hn hj
     rw[if_neg hn,if_neg hn,cj this]
   ·have:(kv.any (aU j))=false:=by
     rw[bR]
     intro y hy hb
     exact hj (by rw[ay hb];exact hy)
    rw[dx (by simp[this])]
    by_cases hnj:n=j
    ·subst hnj;rw[look_eq,if_neg hj,look_eq]
    ·rw[cj hnj,cj hnj,ih]
 rw[this]
 split<;>simp
theorem Ky{hp:Hp}: ∀{l:Hp},LW hp l=true→ ∀m o,look l m=some o→look hp m=none
 | (k,x)::r,h,m,o,hl=>by
   simp only[LW,ak]at h
   by_cases hm:m=k
   ·subst hm
    cases hq:look hp m with
    |none=>rfl
    |some y=>rw[hq]at h;simp at h
   ·rw[cj hm]at hl;exact Ky h.2 m o hl
theorem X1{w:World}{hp:Hp}{env:Env}: ∀{c:List V} {us:List Value} {x:V},cT (RA w hp env) c us→knV c=some x→ ∃u t l,x= .wJ u t l∧RA w hp env x u
 | [],_,_,_,h=>by cases h
 |v::r,us,x,hr,h=>by
  cases us with
  |nil=>exact hr.elim
  |cons u us=>
   cases v with
   |wJ v t l=>
    simp only[knV,oI]at h
    subst h
    have h1:=hr.1
    obtain⟨hu,_⟩:=h1
    subst hu
    exact⟨_,t,l,rfl,hr.1⟩
   |_=>exact X1 hr.2 h
theorem QL{zb:eK}{st:St}{a:Act}{w:World}{env:Env}(g:Good ty zb st a.tmps w env): ∀{xs:List Operand} {x:V},knX st xs=some x→ ∃u t l,x= .wJ u t l∧RA w st.hp env x u
 | [],_,h=>by cases h
 |y::r,x,h=>by
  simp only[knX]at h
  split at h
  ·rename_i v hv
   split at h
   ·rename_i hl
    simp only[oI]at h
    subst h
    have hr:=AL g (fun e he=>by simp at he) hv
    cases v with
    |wJ v t l=>
     have h1:RA w st.hp env (.wJ v t l) (a.eval y):=hr
     obtain⟨hu,_⟩:=h1
     refine⟨v,t,l,rfl,?_⟩
     have h2:RA w st.hp env (.wJ v t l) (a.eval y):=hr
     rw[hu]at h2
     exact h2
    |_=>cases hl
   ·exact QL g h
  ·exact QL g h
theorem QM{zb:eK}{st:St}{tmps:Array Value}{w:World}{env:Env}(g:Good ty zb st tmps w env): ∀{ρ:List (Nat×Nat)} {x:V},knR st ρ=some x→ ∃u t l,x= .wJ u t l∧RA w st.hp env x u
 | [],_,h=>by cases h
 | (n,m)::r,x,h=>by
   simp only[knR]at h
   split at h
   ·rename_i c hc
    split at h
    ·rename_i v hv
     simp only[oI]at h
     subst h
     obtain⟨b,cs,e,_,_,h3⟩:=g.obj m _ hc
     exact X1 h3 hv
    ·exact QM g h
   ·exact QM g h
theorem agA{zb:eK}{st:St}{a:Act}{w:World}{env:Env}(g:Good ty zb st a.tmps w env){xs:List Operand}{ρ:List (Nat×Nat)}{x:V}(h:knS st xs ρ=some x): ∃u t l,x= .wJ u t l∧RA w st.hp env x u:=by
 unfold knS at h
 split at h
 ·rename_i v hv
  simp only[oI]at h
  subst h
  exact QL g hv
 ·exact QM g h
theorem N3{kn:Option V}: ∀{c:List V} {v:V},v∈c→ ∀q,q∈N0 kn v→q∈XZ kn c
 |x::r,v,hv,q,hq=>by
  simp only[XZ,gV]
  rcases bh.1 hv with rfl|hv
  ·exact aN _ hq
  ·exact aH _ (N3 hv q hq)
theorem N4{kn:Option V}: ∀{hp:Hp} {n:Nat} {c:List V},(n, .box c)∈hp→ ∀q,q∈XZ kn c→q∈QK kn hp
 | (m,o)::r,n,c,h,q,hq=>by
   rcases bh.1 h with h|h
   ·simp only[pI]at h
    obtain⟨_,rfl⟩:=h
    simp only[QK,gV]
    exact aN _ hq
   ·have:=N4 h q hq
    cases o with
    |box d=>simp only[QK,gV];exact aH _ this
    |_=>exact this
end
section
variable{ty:Tag→Nat}
def Cb(env:Env)(ρ:List (Nat×Nat)):Env:=fun n=>match look ρ n with|some m=>env m|none=>⟨Lu,[]⟩
section
variable{P:Program}{zb:eK}{st st':St}{a:Act}{w:World}{env:Env}{Q:Exit→Act→World→Prop}{o:Oper}{ρ:List (Nat×Nat)}{kV:Hp}
structure Cc(st:St)(env:Env)(ρ:List (Nat×Nat))(kV:Hp):Prop where
 at_: ∀n m,(n,m)∈ρ→look ρ n=some m
 obj: ∀n m,(n,m)∈ρ→ ∃x,look st.hp m=some x∧look kV n=some (x.toF ρ)
 back: ∀n o,look kV n=some o→ ∃m x,(n,m)∈ρ∧look st.hp m=some x∧o=x.toF ρ∧(nI m=true→nI n=true)∧(soft m=true→soft n=true)
 uniq:(ρ.map fW).Nodup
theorem Cc.of{st:St}{env:Env}{kV:Hp}(h:B9 st ρ ρ=some kV)(h1:(ρ.map iC).Nodup)(h2:(ρ.map fW).Nodup):Cc st env ρ kV:=by
 obtain⟨q1,q2⟩:=Kx h
 have hnd:(kV.map iC).Nodup:=by rw[DQ h];exact h1
 refine⟨fun n m hm=>iS h1 hm,fun n m hm=> ?_,fun n o hl=> ?_,h2⟩
 ·obtain⟨x,p1,p2⟩:=q2 n m hm
  exact⟨x,p1,iS hnd p2⟩
 ·obtain⟨m,x,p1,p2,p3,p4⟩:=q1 n o (ji hl)
  exact⟨m,x,p1,p2,p3,p4⟩
theorem Cc.en(L:Cc st env ρ kV){n m:Nat}(h:(n,m)∈ρ):Cb env ρ n=env m:=by unfold Cb;rw[L.at_ n m h]
theorem Cc.ow(L:Cc st env ρ kV){b:Nat}(h:Ow kV (Cb env ρ) b): ∃n m x,(n,m)∈ρ∧look st.hp m=some x∧b∈(env m).fp:=by
 obtain⟨n,o,h1,h2⟩:=h
 obtain⟨m,x,p1,p2,_⟩:=L.back n o h1
 rw[L.en p1]at h2
 exact⟨n,m,x,p1,p2,h2⟩
theorem SB: ∀{ρ:List (Nat×Nat)} {n n' m:Nat},(ρ.map fW).Nodup→(n,m)∈ρ→(n',m)∈ρ→n=n'
 | (a,b)::r,n,n',m,hnd,h1,h2=>by
   obtain⟨q1,q2⟩:=cu.1 hnd
   rcases bh.1 h1 with e1|e1<;>rcases bh.1 h2 with e2|e2
   ·rw[pI]at e1 e2;rw[e1.1,e2.1]
   ·rw[pI]at e1;exact absurd (cq.2 ⟨_,e2,e1.2⟩) q1
   ·rw[pI]at e2;exact absurd (cq.2 ⟨_,e1,e2.2⟩) q1
   ·exact SB q2 e1 e2
theorem toF_ok(L:Cc st env ρ kV){v:V}{u:Value}(h:RA w st.hp env v u):RA w kV (Cb env ρ) (v.toF ρ) u:=by
 cases v with
 |lit x=>exact h
 |sl t l=>
  obtain⟨fp,h1,h2⟩:=h
  refine⟨fp,h1,fun b hb ho=>h2 b hb ?_⟩
  obtain⟨n,m,x,_,p2,p3⟩:=L.ow ho
  exact⟨m,x,p2,p3⟩
 |own m=>
  simp only[V.toF]
  split
  ·rename_i n hn
   obtain⟨⟨t,l,hl⟩,hu⟩:=h
   obtain⟨x,p1,p2⟩:=L.obj n m (rB hn)
   rw[hl]at p1
   simp only[oI]at p1
   subst p1
   exact⟨⟨t,l,p2⟩,by rw[L.en (rB hn)];exact hu⟩
  ·trivial
 |ptr m off=>
  simp only[V.toF]
  split
  ·rename_i n hn
   obtain⟨⟨c,hl⟩,hu⟩:=h
   obtain⟨x,p1,p2⟩:=L.obj n m (rB hn)
   rw[hl]at p1
   simp only[oI]at p1
   subst p1
   exact⟨⟨_,p2⟩,by rw[L.en (rB hn)];exact hu⟩
  ·trivial
 |Gi f m=>
  simp only[V.toF]
  split
  ·rename_i n hn
   obtain⟨⟨c,hl⟩,hu⟩:=h
   obtain⟨x,p1,p2⟩:=L.obj n m (rB hn)
   rw[hl]at p1
   simp only[oI]at p1
   subst p1
   exact⟨⟨_,p2⟩,by rw[L.en (rB hn)];exact hu⟩
  ·trivial
 |wJ v t l=>
  obtain⟨hu,fp,h1,h2⟩:=h
  refine⟨hu,fp,h1,fun b hb ho=>h2 b hb ?_⟩
  obtain⟨n,m,x,_,p2,p3⟩:=L.ow ho
  exact⟨m,x,p2,p3⟩
 |_=>trivial
theorem SC{w:World}{hp kY:Hp}{env env':Env}{n m:Nat}{t:Tag}{l:List (T t)}{co:CO}(hs:soft m=true→soft n=true)(h:RO ty w hp env m (.arr t l) co):RO ty w kY env' n (.arr t l) co:=by
 cases hm:soft m with
 |false=>exact RO.Ki (RO.bld hm h)
 |true=>exact RO.Xo (hs hm) (RO.sl h) (RO.own h)
theorem U2(g:Good ty zb st a.tmps w env)(L:Cc st env ρ kV):N1 ty w kV (Cb env ρ):=by
 refine⟨fun n o hl=> ?_,fun n n' o o' hne h1 h2 b hb hb'=> ?_⟩
 ·obtain⟨m,x,p1,p2,rfl,_,p4⟩:=L.back n o hl
  rw[L.en p1]
  have hro:=g.obj m x p2
  cases x with
  |arr t l=>exact SC p4 hro
  |box c=>
   obtain⟨b,cs,e,h1,h2,h3⟩:=hro
   exact⟨b,cs,e,h1,h2,h3.map fun x y hr=>toF_ok L hr⟩
  |jG t l s=>
   rcases RO.Hf hro with⟨rfl,h⟩| ⟨u,rfl,h1,h2,fp,h3,h4⟩| ⟨p,rfl,h⟩| ⟨hr,h1,us,hB,h2,_⟩
   ·exact h
   ·refine⟨h1,h2,fp,h3,h4.imp id fun⟨c,e1,e2⟩=>⟨c,e1,fun ho=> ?_⟩⟩
    obtain⟨n',m',x',p1',p2',p3'⟩:=L.ow ho
    exact e2 ⟨m',x',p2',p3'⟩
   ·exact⟨h.1,h.2.1,fun _ _ _ e=>by cases e⟩
   ·have e:(Obj.jG t l s).toF ρ= .jG t l .gone:=by cases s<;>first|rfl|exact hr.elim
    rw[e]
    exact⟨h1,us,hB,h2,fun _ _ _ _ _=>trivial⟩
 ·obtain⟨m,x,p1,p2,_⟩:=L.back n o h1
  obtain⟨m',x',p1',p2',_⟩:=L.back n' o' h2
  rw[L.en p1]at hb
  rw[L.en p1']at hb'
  refine g.mu m m' x x' (fun e=> ?_) p2 p2' b hb hb'
  subst e
  exact hne (SB L.uniq p1 p1')
theorem SD(g:Good ty zb st a.tmps w env)(L:Cc st env ρ kV){tg:Option Tag}{v v':V}{u:Value}(h:RA w st.hp env v u)(hf:ab5 st ρ tg v=some v'):RA w kV (Cb env ρ) v' u:=by
 have ajb:(∀n c t l,v≠ .mix n c t l)→(∀n,v≠ .zn n)→(∀m,v.name=some m→inv ρ m=none)→sj st tg v=some v'→RA w kV (Cb env ρ) v' u:=by
  intro Wp hbw hno hi
  have ajc: ∀{m:Nat} {x:Obj},v.name=some m→look st.hp m=some x→ ∀b,b∈(env m).fp→ ¬Ow kV (Cb env ρ) b:=by
   intro m x hm hl b hb ho
   obtain⟨n,m',x',p1,p2,p3⟩:=L.ow ho
   have hne:m≠m':=by
    rintro rfl
    exact N2 (hno m hm) (cq.2 ⟨_,p1,rfl⟩)
   exact g.mu m m' x x' hne hl p2 b hb p3
  cases v with
  |sl t l=>
   simp only[sj,oI]at hi
   subst hi
   exact toF_ok L h
  |own m=>
   simp only[sj]at hi
   split at hi
   ·rename_i t l hl
    simp only[oI]at hi
    subst hi
    obtain⟨_,hu⟩:=h
    refine⟨(env m).fp,?_,ajc rfl hl⟩
    rw[hu];exact RO.sl (g.obj m _ hl)
   ·cases hi
  |vw m p t l=>
   simp only[sj,oI]at hi
   subst hi
   obtain⟨⟨tA,lA,hl⟩,⟨fp,hs,_,hsub⟩,_⟩:=h
   exact⟨fp,hs,fun b hb=>ajc rfl hl b (hsub b hb)⟩
  |lit x=>
   unfold sj at hi
   split at hi
   ·rename_i he;cases he
   ·rename_i he;cases he
   ·rename_i he;cases he
   ·rename_i he;cases he
   ·rename_i he;cases he
   ·rename_i he
    simp only[V.lit.injEq]at he
    subst he
    obtain⟨hu,_⟩:=h
    split at hi
    ·simp only[oI]at hi
     subst hi
     refine⟨[],?_,by simp⟩
     rw[hu]
     exact⟨none,0,rfl,aZ _,aD _,bI ⟨rfl,rfl,rfl⟩⟩
    ·cases hi
   ·cases hi
   ·rename_i he
    simp only[V.lit.injEq]at he
    subst he
    simp only[oI]at hi
    subst hi
    exact h
   ·cases hi
  |mix n c t l=>exact absurd rfl (Wp n c t l)
  |zn n=>exact absurd rfl (hbw n)
  |_=>simp[sj]at hi
 unfold ab5 at hf
 split at hf
 ·rename_i m hm
  split at hf
  ·rename_i n hn
   have hF:=toF_ok L h
   split at hf
   ·rename_i m'
    simp only[V.name,oI]at hm
    subst hm
    simp only[oI]at hf
    subst hf
    simpa only[V.toF,hn]using hF
   ·rename_i m' off
    simp only[V.name,oI]at hm
    subst hm
    simp only[oI]at hf
    subst hf
    simpa only[V.toF,hn]using hF
   ·rename_i f m'
    simp only[V.name,oI]at hm
    subst hm
    simp only[oI]at hf
    subst hf
    simpa only[V.toF,hn]using hF
   ·cases hf
  ·rename_i hn
   split at hf
   ·cases hf
   ·cases hf
   ·rename_i h1 h2
    exact ajb (fun n c t l e=>h1 n c t l e) (fun n e=>h2 n e) (fun k hk=>by rw[hm]at hk;simp only[oI]at hk;subst hk;exact hn) hf
 ·rename_i hm
  exact ajb (fun n c t l e=>by rw[e]at hm;cases hm) (fun n e=>by rw[e]at hm;cases hm) (fun k hk=>by rw[hm]at hk;cases hk) hf
theorem N5(g:Good ty zb st a.tmps w env)(L:Cc st env ρ kV): ∀{vs vs':List V} {tg:List (Option Tag)} {us:List Value},cT (RA w st.hp env) vs us→NY st ρ tg vs=some vs'→cT (RA w kV (Cb env ρ)) vs' us
 | [],vs',tg,us,h,hf=>by
   simp only[NY,oI]at hf
   subst hf
   cases us with
   |nil=>trivial
   |cons _ _=>exact h.elim
 |v::r,vs',tg,us,h,hf=>by
  cases us with
  |nil=>exact h.elim
  |cons u us=>
   simp only[NY]at hf
   split at hf
   ·rename_i x y h1 h2
    simp only[oI]at hf
    subst hf
    exact⟨SD g L h.1 h1,N5 g L h.2 h2⟩
   ·cases hf
theorem N6(g:Good ty zb st a.tmps w env)(L:Cc st env ρ kV){Γ:Nat→TK}: ∀{xs:List Operand} {ts:List Nat} {as:List S1},NZ Γ st ρ xs ts=some as→cT (ju w kV (Cb env ρ)) as (xs.map a.eval)
 | [],_,as,h=>by
   simp only[NZ,oI]at h
   subst h;trivial
 |x::r,ts,as,h=>by
  simp only[NZ]at h
  split at h
  ·rename_i v hv
   split at h
   ·rename_i y ys h1 h2
    simp only[oI]at h
    subst h
    have hr:=AL g (fun e he=>by simp at he) hv
    refine⟨?_,N6 g L h2⟩
    cases v with
    |a v=>
     simp only[agx]at h1
     split at h1
     ·rename_i hl
      simp only[oI]at h1
      subst h1
      cases v with
      |wJ v t l=>exact toF_ok L (v:= .wJ v t l) hr
      |_=>cases hl
     ·split at h1
      ·rename_i z hz
       simp only[oI]at h1
       subst h1
       exact SD g L hr hz
      ·cases h1
    |agg l=>
     simp only[agx]at h1
     split at h1
     ·rename_i z hz
      simp only[oI]at h1
      subst h1
      obtain⟨cs,hu,hl⟩:=hr
      exact⟨cs,hu,N5 g L hl hz⟩
     ·cases h1
   ·cases h
  ·cases h
theorem cT.append{α β:Type}{R:α→β→Prop}: ∀{as as':List α} {bs bs':List β},cT R as bs→cT R as' bs'→cT R (as++as') (bs++bs'):=cT.app
theorem QN(g:Good ty zb st a.tmps w env)(L:Cc st env ρ kV){x:Operand}{xs:Array Operand}{ts:Array TypeId}(ho:o.op= .call ⟨.value x,xs,ts⟩){f:FuncId}{ex:List S1}(h:LS st ρ x=some (f,ex))(hS: ∀(args:Array Value) (w:World),(callFunc f args).run P w= .ok (.enter f args) w):
  ∃us,(execOp a.eval o).run P w= .ok (.enter f (xs.toList.map a.eval++us).toArray) w∧cT (ju w kV (Cb env ρ)) ex us:=by
 have hx:xs.map a.eval=(xs.toList.map a.eval).toArray:=by rw[←kJ]
 unfold LS at h
 split at h
 ·rename_i f' m hv
  split at h
  ·rename_i n hn
   simp only[oI,pI]at h
   obtain⟨rfl,rfl⟩:=h
   have hr:=gG g (fun e he=>by simp at he) hv
   have hA:RA w st.hp env (.Gi f' m) (a.eval x):=hr
   obtain⟨⟨c,hl⟩,b,hb,hu⟩:=hA
   refine⟨[.pointer (some ⟨b,0,none⟩)],?_,?_,trivial⟩
   ·unfold execOp
    simp[ho,resolve,invoke,qJ,hu,hS]
    rw[hx];simp
   ·obtain⟨y,p1,p2⟩:=L.obj n m (rB hn)
    rw[hl]at p1
    simp only[oI]at p1
    subst p1
    exact⟨⟨_,p2⟩,b,by rw[L.en (rB hn)];exact hb,rfl⟩
  ·cases h
 ·rename_i v _ hv
  split at h
  ·rename_i f' hf
   simp only[oI,pI]at h
   obtain⟨rfl,rfl⟩:=h
   have h0:=Ss (gG g (fun e he=>by simp at he) hv) hf
   refine⟨[],?_,trivial⟩
   unfold execOp
   simp[ho,resolve,invoke,qJ,h0,hS]
   exact hx
  ·cases h
 ·cases h
theorem toA_ok{w:World}{jo U3:Hp}{sG env':Env}{ρ:List (Nat×Nat)}{kn kn':Option V}(hn: ∀n m,look ρ n=some m→ ∀o,look jo n=some o→(∃o',look U3 m=some o'∧o.toA kn' ρ=some o')∧env' m=sG n)(hK: ∀x,kn=some x→ ∃u t l,x= .wJ u t l∧RA w U3 env' x u){v v':V}{u:Value}(hP: ∀q,q∈N0 kn v→q)(h:RA w jo sG v u)(hv:v.toA kn ρ=some v'):RA w U3 env' v' u:=by
 cases v with
 |any=>simp only[V.toA,oI]at hv;subst hv;trivial
 |lit x=>simp only[V.toA,oI]at hv;subst hv;exact h
 |wJ v t l=>
  simp only[V.toA]at hv
  obtain⟨u0,t0,l0,rfl,h0⟩:=hK _ hv
  subst hv
  have e:=hP (v=u0) (by simp[N0])
  obtain⟨hu,_⟩:=h
  rw[hu,e]
  exact h0
 |own n=>
  simp only[V.toA]at hv
  split at hv
  ·rename_i m hm
   simp only[oI]at hv
   subst hv
   obtain⟨⟨t,l,hl⟩,hu⟩:=h
   obtain⟨⟨o',q1,q2⟩,q3⟩:=hn n m hm _ hl
   simp only[Obj.toA,oI]at q2
   subst q2
   exact⟨⟨t,l,q1⟩,by rw[q3];exact hu⟩
  ·cases hv
 |ptr n off=>
  simp only[V.toA]at hv
  split at hv
  ·rename_i m hm
   simp only[oI]at hv
   subst hv
   obtain⟨⟨c,hl⟩,hu⟩:=h
   obtain⟨⟨o',q1,q2⟩,q3⟩:=hn n m hm _ hl
   simp only[Obj.toA]at q2
   split at q2
   ·simp only[oI]at q2
    subst q2
    exact⟨⟨_,q1⟩,by rw[q3];exact hu⟩
   ·cases q2
  ·cases hv
 |_=>simp[V.toA]at hv
theorem toAs_ok{w:World}{jo U3:Hp}{sG env':Env}{ρ:List (Nat×Nat)}{kn kn':Option V}(hn: ∀n m,look ρ n=some m→ ∀o,look jo n=some o→(∃o',look U3 m=some o'∧o.toA kn' ρ=some o')∧env' m=sG n)(hK: ∀x,kn=some x→ ∃u t l,x= .wJ u t l∧RA w U3 env' x u): ∀{vs vs':List V} {us:List Value},(∀v,v∈vs→ ∀q,q∈N0 kn v→q)→cT (RA w jo sG) vs us→toAs kn ρ vs=some vs'→cT (RA w U3 env') vs' us
 | [],vs',us,_,h,hv=>by
   simp only[toAs,oI]at hv
   subst hv
   cases us with
   |nil=>trivial
   |cons _ _=>exact h.elim
 |v::r,vs',us,hP,h,hv=>by
  cases us with
  |nil=>exact h.elim
  |cons u us=>
   simp only[toAs]at hv
   split at hv
   ·rename_i x y h1 h2
    simp only[oI]at hv
    subst hv
    exact⟨toA_ok hn hK (hP v (by simp)) h.1 h1,toAs_ok hn hK (fun z hz=>hP z (aK _ hz)) h.2 h2⟩
   ·cases hv
theorem toA_none{kn:Option V}{ρ:List (Nat×Nat)}{v v':V}(hk:kn=none)(h:v.toA kn ρ=some v'): ∀q,q∈N0 kn v→q:=by
 subst hk
 cases v with
 |wJ v t l=>simp[V.toA]at h
 |_=>intro q hq;simp[N0]at hq
theorem toAs_none{ρ:List (Nat×Nat)}: ∀{vs vs':List V},toAs none ρ vs=some vs'→ ∀v,v∈vs→ ∀q,q∈N0 none v→q
 |x::r,vs',h,v,hv=>by
  simp only[toAs]at h
  split at h
  ·rename_i h1 h2
   rcases bh.1 hv with rfl|hv
   ·exact toA_none rfl h1
   ·exact toAs_none h2 v hv
  ·cases h
theorem X2{w:World}{jo U3:Hp}{sG env':Env}{ρ:List (Nat×Nat)}{kn':Option V}(hn: ∀n m,look ρ n=some m→ ∀o,look jo n=some o→(∃o',look U3 m=some o'∧o.toA kn' ρ=some o')∧env' m=sG n){v v':S1}{u:Value}(h:ju w jo sG v u)(hv:v.toA ρ=some v'):ju w U3 env' v' u:=by
 cases v with
 |a v=>
  simp only[S1.toA]at hv
  split at hv
  ·rename_i x hx
   simp only[oI]at hv
   subst hv
   exact toA_ok (kn:=none) hn (fun _ h=>by cases h) (toA_none rfl hx) h hx
  ·cases hv
 |agg l=>
  simp only[S1.toA]at hv
  split at hv
  ·rename_i x hx
   simp only[oI]at hv
   subst hv
   obtain⟨cs,hu,hl⟩:=h
   exact⟨cs,hu,toAs_ok (kn:=none) hn (fun _ h=>by cases h) (toAs_none hx) hl hx⟩
  ·cases hv
theorem QO{w:World}{jo U3:Hp}{sG env':Env}{ρ:List (Nat×Nat)}{kn':Option V}(hn: ∀n m,look ρ n=some m→ ∀o,look jo n=some o→(∃o',look U3 m=some o'∧o.toA kn' ρ=some o')∧env' m=sG n): ∀{vs vs':List S1} {us:List Value},cT (ju w jo sG) vs us→rsH ρ vs=some vs'→cT (ju w U3 env') vs' us
 | [],vs',us,h,hv=>by
   simp only[rsH,oI]at hv
   subst hv
   cases us with
   |nil=>trivial
   |cons _ _=>exact h.elim
 |v::r,vs',us,h,hv=>by
  cases us with
  |nil=>exact h.elim
  |cons u us=>
   simp only[rsH]at hv
   split at hv
   ·rename_i x y h1 h2
    simp only[oI]at hv
    subst hv
    exact⟨X2 hn h.1 h1,QO hn h.2 h2⟩
   ·cases hv
theorem SE{ρ:List (Nat×Nat)}: ∀{vs vs':List S1},rsH ρ vs=some vs'→vs'.length=vs.length
 | [],vs',h=>by simp only[rsH,oI]at h;subst h;rfl
 |v::r,vs',h=>by
  simp only[rsH]at h
  split at h
  ·rename_i x y h1 h2
   simp only[oI]at h
   subst h
   rw[b9,b9,SE h2]
  ·cases h
theorem ab8{Γ:Nat→TK}{cr:List (Nat×CR)}{d:Option Nat}{vc:List Prop}{v:SV}(h:X0 P ty Γ cr st d o.op=some (vc,st',v))(g:Good ty zb st a.tmps w env)(hB:zb.w.heap.size≤w.heap.size)(hA:Lx zb)(hN:Lr w)(hv: ∀q,q∈vc→q):
  (∀k,v.mentions k=false)∧o.wp P a w (fun a' w'=> ∃u env',a'=a.put o.dst u∧Kept zb w w'∧Good ty zb st' a.tmps w' env'∧st'.n=st.n∧tF w' st'.hp env' a.tmps v u) Q:=by
 generalize jf:o.op=op at h
 cases op with
 |call c=>
  obtain⟨callee,xs,ts⟩:=c
  cases callee with
  |value x=>
   simp only[X0]at h
   split at h
   case h_2=>cases h
   rename_i _ ca cb cc os _ rs _ _
   split at h
   case h_2=>cases h
   rename_i ρ0 ρ1 ns _ _ _
   split at h
   case h_2=>cases h
   rename_i jo kV f ex as _ aeA alG hargs
   split at h
   case h_2=>cases h
   rename_i B rsA HR E9
   split at h
   case h_2=>cases h
   rename_i ajd
   simp only[ak]at ajd
   obtain⟨⟨⟨⟨⟨⟨c1,c2⟩,c3⟩,c4⟩,c5⟩,c6⟩,c7⟩:=ajd
   simp only[oI,pI,gV]at h
   obtain⟨rfl,rfl,rfl⟩:=h
   have hS:sE ty P f kV (as++ex) jo rs:=hv _ (List.mem_cons_self ..)
   have alH: ∀q,q∈QK (knS st xs.toList ρ0) jo→q:=fun q hq=>hv q (aK _ hq)
   have X3:=nr c1
   rw[eu]at X3
   have aje:=(bf.1 X3).1
   have L:Cc st env ρ0 kV:=Cc.of aeA aje (nr c2)
   refine⟨fun k=>by split<;>rfl,?_⟩
   have ab9: ∀b,b∈Ca kV (Cb env ρ0)→ ∃m x,m∈ρ0.map fW∧look st.hp m=some x∧b∈(env m).fp:=by
    intro b hb
    obtain⟨e,he,NW⟩:=List.mem_flatMap.1 hb
    have alI:(kV.map iC).Nodup:=by rw[DQ aeA];exact aje
    obtain⟨m,x,p1,p2,_⟩:=L.back e.1 e.2 (iS alI he)
    rw[L.en p1]at NW
    exact⟨m,x,cq.2 ⟨_,p1,rfl⟩,p2,NW⟩
   have hLz: ∀b,b∈Ca kV (Cb env ρ0)→b∈zb.L∨zb.w.heap.size≤b:=by
    intro b hb
    obtain⟨m,x,_,p2,p3⟩:=ab9 b hb
    exact g.dom m x p2 b p3
   obtain⟨us,hrun,hex⟩:=QN (P:=P) g L jf alG hS.1
   unfold iE
   rw[hrun]
   simp only[Hq]
   refine(hS.2 w (Cb env ρ0) _ hN (fun b h0 hb=>hA.free (hLz b hb) h0) (U2 g L) (cT.app (N6 g L hargs) hex)).mono ?_
   rintro e w' ⟨sG,u,rfl,hK,⟨hG1,hG2⟩,jr,NS,hres⟩
   have ajf: ∀n m,(n,m)∈ρ0→look (ρ0++ρ1) n=some m:=fun n m hm=>iS (by rw[eu];exact X3) (aN _ hm)
   have agB:=zB c3
   have ajg:=zB c4
   have alK: ∀{n m n':Nat} {o1 o2:Obj},(n,m,o1)∈B→(n',m,o2)∈B→n=n':=by
    intro n m n' o1 o2 h1 h2
    have: ∀{B:List (Nat×Nat×Obj)},((Gr B).map iC).Nodup→(n,m,o1)∈B→(n',m,o2)∈B→n=n':=by
     intro B
     induction B with
     |nil=>intro _ h;cases h
     |cons x r ih=>
      intro hnd h1 h2
      obtain⟨q1,q2⟩:=cu.1 (show((x.2.1)::(Gr r).map iC).Nodup from hnd)
      have hin: ∀{k:Nat} {o:Obj},(k,m,o)∈r→m∈(Gr r).map iC:=fun h=>cq.2 ⟨(m,_),cq.2 ⟨_,h,rfl⟩,rfl⟩
      rcases bh.1 h1 with e1|e1<;>rcases bh.1 h2 with e2|e2
      ·rw[←e1]at e2;simp only[pI]at e2;exact e2.1.symm
      ·rw[←e1]at q1;exact absurd (hin e2) q1
      ·rw[←e2]at q1;exact absurd (hin e1) q1
      ·exact ih q2 e1 e2
    exact this ajg h1 h2
   have ajh: ∀{n m:Nat} {o':Obj},(n,m,o')∈B→look (Gr B) m=some o'∧JN B m=some n:=by
    intro n m o' hm
    have h1:look (Gr B) m=some o':=iS ajg (cq.2 ⟨_,hm,rfl⟩)
    obtain⟨n',h2,h3⟩:=rN h1
    rw[alK hm h2]
    exact⟨h1,h3⟩
   let env':Env:=fun m=>match JN B m with|some n=>sG n|none=>env m
   have N7: ∀{n m:Nat} {o':Obj},(n,m,o')∈B→env' m=sG n:=by
    intro n m o' hm
    show(match JN B m with|some n=>sG n|none=>env m)=sG n
    rw[(ajh hm).2]
   have SF: ∀{m:Nat},look (Gr B) m=none→env' m=env m:=by
    intro m hm
    show(match JN B m with|some n=>sG n|none=>env m)=env m
    rw[Kv hm]
   have hn: ∀n m,look (ρ0++ρ1) n=some m→ ∀o,look jo n=some o→(∃o',look (Gr B) m=some o'∧o.toA (knS st xs.toList ρ0) (ρ0++ρ1)=some o')∧env' m=sG n:=by
    intro n m hm o hl
    obtain⟨m',o',q1,q2,q3⟩:=Kw HR n o (ji hl)
    rw[hm]at q2
    simp only[oI]at q2
    subst q2
    exact⟨⟨o',(ajh q1).1,q3⟩,N7 q1⟩
   have hfr:=Ky c5
   have hlk: ∀m o,look (Gr B++HQ (ρ0.map fW) ((ρ0.filter fun e=> !nI e.1).map fW) st.hp) m=some o→(∃n o1,look (Gr B) m=some o∧look jo n=some o1∧o1.toA (knS st xs.toList ρ0) (ρ0++ρ1)=some o∧env' m=sG n∧(nI m=true→nI n=true)∧(soft n=true→soft m=true))∨(look (Gr B) m=none∧m∉ρ0.map fW∧ ∃x,look st.hp m=some x∧o=x.cR ((ρ0.filter fun e=> !nI e.1).map fW) (ρ0.map fW)∧env' m=env m):=by
    intro m o hm
    cases hq:look (Gr B) m with
    |some o2=>
     rw[eR hq]at hm
     simp only[oI]at hm
     subst hm
     obtain⟨n,h1,_⟩:=rN hq
     obtain⟨o1,p1,p2,p3,p4,p5⟩:=o9 HR n m _ h1
     exact bI ⟨n,o1,rfl,iS agB p1,p3,N7 h1,p4,p5⟩
    |none=>
     rw[cU hq,vS]at hm
     split at hm
     ·cases hm
     ·rename_i hnk
      cases hx:look st.hp m with
      |none=>rw[hx]at hm;cases hm
      |some x=>
       rw[hx]at hm
       simp only[dI,oI]at hm
       exact bn ⟨rfl,hnk,x,rfl,hm.symm,SF hq⟩
   have hold: ∀m x,m∉ρ0.map fW→look st.hp m=some x→look (Gr B) m=none:=by
    intro m x hnk hx
    cases hq:look (Gr B) m with
    |none=>rfl
    |some o2=>
     have:=hfr m o2 hq
     rw[vS,if_neg hnk,hx]at this
     cases this
   have hst: ∀m x,m∉ρ0.map fW→look st.hp m=some x→ ∀b,b∈(env m).fp→w'.heap[b]? =w.heap[b]? :=by
    intro m x hnk hx b hb
    refine hK.block b ((g.obj m x hx).AH b hb) fun hL=> ?_
    obtain⟨m',x',p1,p2,p3⟩:=ab9 b hL
    exact g.mu m m' x x' (fun e=>hnk (e▸p1)) hx p2 b hb p3
   have hnew: ∀{m n:Nat} {o1:Obj},look jo n=some o1→ ∀b,b∈(sG n).fp→b<w.heap.size→ ∃m' x',m'∈ρ0.map fW∧look st.hp m'=some x'∧b∈(env m').fp:=by
    intro m n o1 hl b hb hlt
    rcases jr n o1 hl b hb with h|h
    ·exact ab9 b h
    ·omega
   have s:uP ((ρ0.filter fun e=> !nI e.1).map fW) (ρ0.map fW) w st.hp env w' (Gr B++HQ (ρ0.map fW) ((ρ0.filter fun e=> !nI e.1).map fW) st.hp) env':=by
    refine⟨fun b hb hno=>hK.block b hb fun hL=> ?_,?_,?_,?_⟩
    ·obtain⟨m,x,_,p2,p3⟩:=ab9 b hL
     exact hno ⟨m,x,p2,p3⟩
    ·rintro b hb ⟨m,o',h1,h2⟩
     rcases hlk m o' h1 with⟨n,o1,_,q2,_,q4,_⟩| ⟨_,_,x,q3,_,q5⟩
     ·rw[q4]at h2
      obtain⟨m',x',_,p2,p3⟩:=hnew (m:=m) q2 b h2 hb
      exact⟨m',x',p2,p3⟩
     ·rw[q5]at h2
      exact⟨m,x,q3,h2⟩
    ·intro m o' hks h1
     by_cases hkv:m∈ρ0.map fW
     ·obtain⟨e,he,rfl⟩:=cq.1 hkv
      have hpe:nI e.1=true:=by
       cases hp:nI e.1 with
       |true=>rfl
       |false=>exact absurd (cq.2 ⟨e,List.mem_filter.2 ⟨he,by simp[hp]⟩,rfl⟩) hks
      have Nc:=bw.1 c6 e he
      rw[hpe]at Nc
      simp only[Bool.not_true,BQ,ak]at Nc
      obtain⟨x,p1,p2⟩:=L.obj e.1 e.2 he
      rw[h1]at p1
      simp only[oI]at p1
      subst p1
      rw[p2]at Nc
      cases hq1:look jo e.1 with
      |none=>rw[hq1]at Nc;simp[HP]at Nc
      |some o1=>
       rw[hq1]at Nc
       obtain⟨⟨o2,q1,q2⟩,q3⟩:=hn e.1 e.2 (ajf e.1 e.2 he) o1 hq1
       refine⟨o2,eR q1,?_,by rw[q3,(NS e.1 hpe).1,L.en he]⟩
       cases o' with
       |arr t l=>simp[Obj.toF,HP]at Nc
       |jG t l s=>cases s<;>simp[Obj.toF,HP]at Nc
       |box c=>
        cases o1 with
        |arr t l=>simp[HP]at Nc
        |jG t l s=>simp[HP]at Nc
        |box c1=>
         simp only[Obj.toA]at q2
         split at q2
         ·simp only[oI]at q2;subst q2;trivial
         ·cases q2
     ·have hno:=hold m o' hkv h1
      refine⟨o'.cR _ _,by rw[cU hno,vS,if_neg hkv,h1];rfl,by cases o'<;>simp[Obj.like,Obj.cR],by rw[SF hno]⟩
    ·rintro m t' l' ⟨_,hkv⟩ h1
     have hno:=hold m _ hkv h1
     refine⟨by rw[cU hno,vS,if_neg hkv,h1];rfl,SF hno,hst m _ hkv h1⟩
   have X4:=g.kZ s (fun m o' hm=> ?_) (fun m m' o1 o2 hne h1 h2 b hb hb'=> ?_) (fun m o' hm b hb=> ?_) (fun m hm=> ?_)
   ·refine⟨u,env',rfl,Kept.agr hK hB hLz,X4,by first|trivial|rfl,?_⟩
    have h1: ∀{hp:Hp},(∀m o,look (Gr B) m=some o→look hp m=some o)→(∀n m,look (ρ0++ρ1) n=some m→ ∀o,look jo n=some o→(∃o',look hp m=some o'∧o.toA (knS st xs.toList ρ0) (ρ0++ρ1)=some o')∧env' m=sG n):=by
     intro hp hh n m hm o hl
     obtain⟨⟨o',p1,p2⟩,p3⟩:=hn n m hm o hl
     exact⟨⟨o',hh m o' p1,p2⟩,p3⟩
    have h2:=h1 (hp:=Gr B++HQ (ρ0.map fW) ((ρ0.filter fun e=> !nI e.1).map fW) st.hp) (fun m o hm=>eR hm)
    have hlen:=SE E9
    match rs,rsA,E9,hres,hlen with
    | [r],[ra],E9,hres,_=>
      simp only[rsH]at E9
      split at E9
      ·rename_i x y e1 e2
       simp only[oI,cC]at e2 E9
       obtain⟨rfl,_⟩:=E9
       exact X2 h2 hres e1
      ·cases E9
    | [],[],E9,⟨us',hu,hall⟩,_=>exact⟨us',hu,QO h2 hall E9⟩
    |r1::r2::r,x1::x2::xr,E9,⟨us',hu,hall⟩,_=>exact⟨us',hu,QO h2 hall E9⟩
    | [],_::_,_,_,hl=>cases hl
    | [_],[],_,_,hl=>cases hl
    | [_],_::_::_,_,_,hl=>simp at hl
    |_::_::_,[],_,_,hl=>simp at hl
    |_::_::_,[_],_,_,hl=>simp at hl
   ·rcases hlk m o' hm with⟨n,o1,q1,q2,q3,q4,_,q6⟩| ⟨q1,q2,x,q3,rfl,q5⟩
    ·rw[q4]
     have hro:=hG1 n o1 q2
     cases o1 with
     |arr t l=>
      simp only[Obj.toA,oI]at q3
      subst q3
      exact SC q6 hro
     |jG t l s=>cases q3
     |box c=>
      simp only[Obj.toA]at q3
      split at q3
      ·rename_i c' M9
       simp only[oI]at q3
       subst q3
       obtain⟨b,cs,e,h1,h2,h3⟩:=hro
       refine⟨b,cs,e,h1,h2,toAs_ok (kn':=knS st xs.toList ρ0) (jo:=jo) (sG:=sG) ?_ (fun y hy=> ?_) (fun y hy q hq=>alH q (N4 (ji q2) q (N3 hy q hq))) h3 M9⟩
       ·intro n m hm o hl
        obtain⟨⟨o',p1,p2⟩,p3⟩:=hn n m hm o hl
        exact⟨⟨o',eR p1,p2⟩,p3⟩
       ·obtain⟨u0,t0,l0,e0,h0⟩:=agA g hy
        subst e0
        exact⟨u0,t0,l0,rfl,RA.kZ s h0⟩
      ·cases q3
    ·rw[q5]
     exact(g.obj m x q3).kZ s (hst m x q2 q3)
   ·rcases hlk m o1 h1 with⟨n,p1,q1,q2,q3,q4,_⟩| ⟨q1,q2,x,q3,_,q5⟩<;>rcases hlk m' o2 h2 with⟨n',p1',q1',q2',q3',q4',_⟩| ⟨q1',q2',x',q3',_,q5'⟩
    ·rw[q4]at hb
     rw[q4']at hb'
     obtain⟨k1,k2,k3⟩:=rN q1
     obtain⟨k1',k2',k3'⟩:=rN q1'
     have e1:=N7 k2
     have e2:=N7 k2'
     have alO:k1≠k1':=by
      rintro rfl
      obtain⟨_,_,z1,_⟩:=o9 HR _ _ _ k2
      obtain⟨_,_,z2,_⟩:=o9 HR _ _ _ k2'
      rw[z1]at z2
      simp only[oI]at z2
      exact hne z2
     rw[q4]at e1
     rw[q4']at e2
     rw[e1]at hb
     rw[e2]at hb'
     obtain⟨y1,z1,_⟩:=o9 HR _ _ _ k2
     obtain⟨y2,z2,_⟩:=o9 HR _ _ _ k2'
     exact hG2 k1 k1' y1 y2 alO (iS agB z1) (iS agB z2) b hb hb'
    ·rw[q4]at hb
     rw[q5']at hb'
     have hlt:=(g.obj m' x' q3').AH b hb'
     obtain⟨k,y,p1,p2,p3⟩:=hnew (m:=m) q2 b hb hlt
     exact g.mu m' k x' y (fun e=>q2' (e▸p1)) q3' p2 b hb' p3
    ·rw[q5]at hb
     rw[q4']at hb'
     have hlt:=(g.obj m x q3).AH b hb
     obtain⟨k,y,p1,p2,p3⟩:=hnew (m:=m') q2' b hb' hlt
     exact g.mu m k x y (fun e=>q2 (e▸p1)) q3 p2 b hb p3
    ·rw[q5]at hb
     rw[q5']at hb'
     exact g.mu m m' x x' hne q3 q3' b hb hb'
   ·rcases hlk m o' hm with⟨n,p1,q1,q2,q3,q4,_⟩| ⟨q1,q2,x,q3,_,q5⟩
    ·rw[q4]at hb
     rcases jr n p1 q2 b hb with h|h
     ·exact hLz b h
     ·exact bn (by omega)
    ·rw[q5]at hb
     exact g.dom m x q3 b hb
   ·cases hq:look (Gr B) m with
    |none=>rw[SF hq];exact g.pins m hm
    |some o2=>
     obtain⟨n,h1,_⟩:=rN hq
     obtain⟨_,_,p2,_,p4,_⟩:=o9 HR n m _ h1
     have hpn:=p4 hm
     have hin:(n,m)∈ρ0:=by
      rcases aL.1 (ji p2)with h|h
      ·exact h
      ·have:=bw.1 c7 _ h
       simp only[hm]at this;cases this
     rw[N7 h1]
     obtain⟨k1,k2⟩:=NS n hpn
     rw[L.en hin]at k1 k2
     obtain⟨j1,j2⟩:=g.pins m hm
     exact⟨k1.trans j1,fun b hb=>j2 b (k2 b hb)⟩
  |_=>simp[X0]at h
 |_=>simp[X0]at h
end
end
section
variable{ty:Tag→Nat}
def aji(hp:Hp)(n m:Nat)(t:Tag)(l:List (T t))(r:vA:= .sj):Hp:=(m, .jG t l r)::dX [n] [] hp
def apx:S1→Option ((t:Tag)×List (T t)×vA)
 | .a (.sl t l)=>some ⟨t,l, .sj⟩
 | .a (.Jw q t l)=>some ⟨t,l, .of q⟩
 |_=>none
def X5:vA→vA→Nat→Bool
 | .sj, .sj,_=>true
 | .of q, .of q',n=>match aU q q',aU q n with|true,false=>true|_,_=>false
 |_,_,_=>false
theorem X6{r r':vA}{n:Nat}(h:X5 r r' n=true):r=r'∧r.cR [n] []=r∧r.br:=by
 cases r with
 |gone=>cases r'<;>cases h
 |mp=>cases r'<;>cases h
 |Nb u=>cases r'<;>cases h
 |zV p=>cases r'<;>cases h
 |sj=>cases r' with
  |sj=>exact⟨rfl,rfl,trivial⟩
  |_=>cases h
 |of q=>cases r' with
  |of q'=>
   simp only[X5]at h
   split at h
   ·rename_i h1 h2
    refine⟨by rw[ay h1],?_,trivial⟩
    simp[vA.cR,h2]
   ·cases h
  |_=>cases h
def QS(P:Program)(ty:Tag→Nat)(Γ:Nat→TK)(st:St)(m0:Nat):Op→Option (List Prop×St×SV)
 | .call ⟨.builtin .append,xs,ts⟩=>match xs.toList,ts.toList with
   | [s,x],[t1,t2]=>match Γ t1,aU t1 t2 with
     | .sl t e,true=>match aU e (ty t),aU (kk t) 1,jH st [] s,(jH st [] x).bind apx with
       |true,true,some (.a (.zn n)),some ⟨t2',lx,r⟩=>match look st.hp n,kL t t2' lx with
        |some (.jG t' l r'),some lx=>match kL t t' l,pinned [n],nI m0,look (dX [n] [] st.hp) m0,X5 r r' n with
         |some l,false,false,none,true=>some ([El P ty t,(l.length+lx.length)*gb t≤140737488355328∧l.length+lx.length≤maxLen],
           ⟨st.n,st.sl.map fun e=>(e.1,e.2.cR [n] []),aji st.hp n m0 t (l++lx) r⟩, .one (.a (.zn m0)))
         |_,_,_,_,_=>none
        |_,_=>none
       |_,_,_,_=>none
     |_,_=>none
   |_,_=>none
 |_=>none
section
variable{P:Program}{zb:eK}{st st':St}{a:Act}{w:World}{env:Env}{Q:Exit→Act→World→Prop}{o:Oper}
theorem Fg{α β:Type}(l:List α):(l.map fun _=>([]:List β)).flatten= []:=by
 induction l with
 |nil=>rfl
 |cons _ _ ih=>simpa using ih
theorem ace{Γ:Nat→TK}(C: ∀t,fK P t (Γ t)){m0:Nat}{vc:List Prop}{v:SV}(h:QS P ty Γ st m0 o.op=some (vc,st',v))(g:Good ty zb st a.tmps w env)(hB:zb.w.heap.size≤w.heap.size)(hv: ∀q,q∈vc→q):
  o.wp P a w (fun a' w'=> ∃u env',a'=a.put o.dst u∧Kept zb w w'∧Good ty zb st' a.tmps w' env'∧st'.n=st.n∧tF w' st'.hp env' a.tmps v u) Q:=by
 have hop: ∀{x v},jH st [] x=some v→ju w st.hp env v (a.eval x):=fun hx=>gG g (fun e he=>by simp at he) hx
 generalize jf:o.op=op at h
 cases op with
 |call c=>
  obtain⟨callee,xs,ts⟩:=c
  cases callee with
  |builtin b=>
   cases b with
   |append=>
    simp only[QS]at h
    split at h
    case h_2=>cases h
    rename_i s x t1 t2 hxl htl
    obtain rfl:xs= #[s,x]:=by cases xs;simp_all
    obtain rfl:ts= #[t1,t2]:=by cases ts;simp_all
    split at h
    case h_2=>cases h
    rename_i t e hk AP
    have AP:=ay AP
    subst AP
    split at h
    case h_2=>cases h
    rename_i n t2' lx0 r he hk1 hs hx
    have he:=ay he
    have hk1:=ay hk1
    split at h
    case h_2=>cases h
    rename_i t' l0 r' lx hl hcx
    split at h
    case h_2=>cases h
    rename_i l xA hpk Hx hlk hbk
    obtain⟨rfl,hkr,hmp⟩:=X6 hbk
    obtain⟨sx,Ww,hx⟩:=Option.bind_eq_some_iff.1 hx
    simp only[oI,pI]at h
    obtain⟨rfl,rfl,rfl⟩:=h
    obtain⟨e1,rfl⟩:=ga hcx
    subst e1
    obtain⟨e2,rfl⟩:=ga xA
    subst e2
    have wL:El P ty t':=hv _ (by simp)
    obtain⟨cx,dY⟩:(l0.length+lx0.length)*gb t'≤140737488355328∧l0.length+lx0.length≤maxLen:=hv _ (by simp)
    obtain⟨_,hu⟩:=hop hs
    obtain⟨fpx,hsx,hnx⟩: ∃fp,Sl (kk t') (rd t') w (a.eval x) lx0 fp∧ ∀(t:Tag) (y:T t) (u:Value) (f:List Nat),(∀b,b∈f→b∈fp)→rd t w [u] y f→BE w st.hp env r t y u:=by
     have hr:=hop Ww
     unfold apx at hx
     split at hx
     ·simp only[oI,Sigma.mk.injEq]at hx
      obtain⟨rfl,hx⟩:=hx
      obtain⟨rfl,rfl⟩:=Prod.mk.inj (eq_of_heq hx)
      obtain⟨fp,h1,h2⟩:=hr
      exact⟨fp,h1,fun t y u f hf hr=>⟨f,hr,fun b hb=>h2 b (hf b hb)⟩⟩
     ·simp only[oI,Sigma.mk.injEq]at hx
      obtain⟨rfl,hx⟩:=hx
      obtain⟨rfl,rfl⟩:=Prod.mk.inj (eq_of_heq hx)
      obtain⟨h0,b0,fp,h1,h2,_,h3⟩:=hr
      refine⟨_,h1,fun t y u f hf hr=>⟨h0,f,hr,fun b hb=> ?_⟩⟩
      rcases bh.1 (hf b hb)with rfl|h
      ·exact bn h2
      ·exact bI (h3 b h)
     ·cases hx
    obtain⟨_,us,hBl,P9,NW⟩:Xn ty w st.hp env t' l0 r (env n):=by
     rcases RO.Hf (g.obj n _ hl)with⟨rfl,_⟩| ⟨u,rfl,_⟩| ⟨p,rfl,_⟩| ⟨_,h⟩
     ·exact hmp.elim
     ·exact hmp.elim
     ·exact hmp.elim
     ·exact h
    obtain⟨news,fx,n1,n2,n3,n4,n5⟩:=BY (gh t') (jt t') hsx
    rw[hk1]at n3 n4
    have hC:=C t1
    rw[hk]at hC
    have hone: ∀(i:Nat) (y:Value),news[i]? =some y→y.oneCell'=true∧ ∀x,lx0[i]? =some x→BE w st.hp env r t' x y:=by
     intro i y hy
     have hi:i<news.length:=(aI.1 hy).1
     have hx':lx0[i]? =some (lx0[i]'(by omega)):=au (by omega)
     have hf':fx[i]? =some (fx[i]'(by omega)):=au (by omega)
     have hr:=n4 i _ _ hx' hf'
     have hch:(news.drop (i*1)).take 1= [y]:=by
      rw[HS,eG hi]
      have:news[i]=y:=(aI.1 hy).2
      rw[this];rfl
     rw[hch]at hr
     refine⟨(gh t').one hr y (by simp),fun x hx=> ?_⟩
     rw[hx']at hx
     simp only[oI]at hx
     subst hx
     exact hnx _ _ _ _ (fun b hb=>n5.subset (mM.2 ⟨_,List.getElem_mem _,hb⟩)) hr
    have hB0:mo 1 Xm 0 (ty t') w (a.eval s) us (env n).fp:=by rw[hu];exact hBl
    have WW:(P.info? (ty t')).map (fun i=>(i.zero,i.size,i.bytes))=some (some (iX t'),1,gb t'):=by rw[←hk1];exact wL
    refine Gh s x t1 jf BM (by decide) 0 (ty t') (iX t') (gb t') (by rw[←he];exact hC.1) WW (by rw[←hk1];exact mW t') _ us (env n).fp rfl hB0 _ rfl news news (news.map fun _=> [])
     (by rw[show news.length=lx0.length by omega];exact n1) (by simp) (by omega) (fun i y f hy hf=> ?_) (by rw[Fg,cS];exact hBl.own) (by rw[P9,show news.length=lx0.length by omega];exact dY) (by rw[P9,show news.length=lx0.length by omega];exact cx) (aD _) ?_
    ·have hi:i<news.length:=(aI.1 hy).1
     have hf0:f= []:=by
      rw[dR,hy]at hf
      simpa using hf.symm
     subst hf0
     refine⟨?_,rfl,(hone i y hy).1⟩
     rw[HS,eG hi]
     have:news[i]=y:=(aI.1 hy).2
     rw[this];rfl
    ·intro v' w' jD k1 k2 k3 k4 k5 _
     have Fb: ∀b,(a.eval s).ownBlock=some b→b∈(env n).fp:=by
      intro b hb
      obtain⟨xs,cB,_,_,_,jr,_⟩:=hB0
      rw[jr,hb];simp
     obtain⟨env',hg',HC,_,_⟩:=DM (ty:=ty) g hB (ks:= [n]) hpk Hx hlk (v:=a.eval s) (v':=v') (ob:= .jG t' (l0++lx0) r) (fp:=(env n).fp) (fx:= []) (jD:=jD)
      (by
       intro b hb
       rw[cS]at hb
       exact⟨n,_,by simp,hl,hb⟩)
      Fb
      (by
       intro alQ hd s2
       refine RO.UL hmp ⟨hk1,us++news,k1,by rw[aY,aY,P9];omega,fun i x u hx Wr=> ?_⟩
       by_cases hi:i<l0.length
       ·rw[bT hi]at hx
        rw[bT (by omega)]at Wr
        have hbt:=BE.kZ s2 (r:=r) (NW i x u hx Wr);rw[hkr]at hbt;exact hbt
       ·rw[bU (by omega)]at hx
        rw[bU (by omega),P9]at Wr
        have hbt:=BE.kZ s2 (r:=r) ((hone _ u Wr).2 x hx);rw[hkr]at hbt;exact hbt)
      k2 (by intro b hb;rcases k4 b hb with h|h|h
             ·exact bI h
             ·rw[Fg]at h;cases h
             ·exact bn (bn h))
     refine⟨v',env',rfl,⟨k2.os,k2.tape,k2.output,k2.size,fun b hb hn=>k2.block b (by omega) fun e=> ?_,k5⟩,hg',rfl,⟨t',_,_,look_eq⟩,HC.symm⟩
     rcases g.dom n _ hl b (Fb b e.symm)with h|h
     ·exact hn h
     ·omega
   |_=>simp[QS]at h
  |_=>simp[QS]at h
 |_=>simp[QS]at h
end
def aeB:Hp→Option (Nat×(t:Tag)×List (T t)×Value)
 | []=>none
 | (n, .jG t l (.Nb u))::_=>some (n,⟨t,l,u⟩)
 |_::r=>aeB r
def X7(hp:Hp)(n:Nat)(t:Tag):Option (List (T t)×Value):=match look hp n with
 |some (.jG t' l (.Nb u))=>match kL t t' l with|some l=>some (l,u)|none=>none
 |_=>none
def alR(hp:Hp):Option Nat:=match aeB hp with|some (n,_)=>some n|none=>none
def acg(P:Program)(ty:Tag→Nat)(Γ:Nat→TK)(st:St)(m0:Nat):Op→Option (List Prop×St×SV)
 | .call ⟨.builtin .append,xs,ts⟩=>match xs.toList,ts.toList with
   | [s,x],[t1,t2]=>match Γ t1,aU t1 t2 with
     | .sl t e,true=>match aU e (ty t),jH st [] s,jH st [] x,alR st.hp with
       |true,some vs,some (.a (.raw u)),some n=>match HA st t vs,X7 st.hp n t with
        |some (l,k),some (lx,u')=>match B0 k [n]&& !pinned (rz k [n])&& !nI m0,look (dX (rz k [n]) [] st.hp) m0 with
         |true,none=>some ([u=u',El P ty t,(l.length+lx.length)*gb t≤140737488355328∧l.length+lx.length≤maxLen],
           st.gone (rz k [n]) m0 t (l++lx), .one (.a (.own m0)))
         |_,_=>none
        |_,_=>none
       |_,_,_,_=>none
     |_,_=>none
   |_,_=>none
 |_=>none
theorem X8{zb:eK}{st:St}{tmps:Array Value}{w:World}{env:Env}(g:Good ty zb st tmps w env){t:Tag}{n:Nat}{l:List (T t)}{u:Value}(h:X7 st.hp n t=some (l,u)):
  ∃(news:List Value) (fx:List (List Nat)),Src w u l.length news∧fx.length=l.length∧news.length=l.length*kk t∧(∀i x f,l[i]? =some x→fx[i]? =some f→rd t w ((news.drop (i*kk t)).take (kk t)) x f)∧
   (∀b,b∈fx.flatten→ ∃i o,i∈ [n]∧look st.hp i=some o∧b∈(env i).fp)∧Own 0 w fx.flatten:=by
 unfold X7 at h
 split at h
 case h_2=>cases h
 rename_i t' l' u' hl
 split at h
 case h_2=>cases h
 rename_i l2 hc
 simp only[oI,pI]at h
 obtain⟨rfl,rfl⟩:=h
 obtain⟨e,rfl⟩:=ga hc
 subst e
 obtain⟨_,ho,fp,hs,h2⟩:Lw w st.hp env t' l' u' (env n):=by
  rcases RO.Hf (g.obj n _ hl)with⟨h,_⟩| ⟨u,h,hh⟩| ⟨p,h,_⟩| ⟨h,_⟩
  ·cases h
  ·cases h;exact hh
  ·cases h
  ·exact h.elim
 obtain⟨news,fx,h1,h3,h4,h5,h6,h7⟩:=uO (gh t') (jt t') hs
 have GN:fx.flatten=(env n).fp:=by
  rcases h2 with⟨rfl,h2⟩| ⟨b,rfl,_⟩
  ·rw[h2];exact List.sublist_nil.1 h6
  ·exact h7 b _ rfl
 exact⟨news,fx,h1,h3,h4,h5,fun b hb=>⟨n,_,by simp,hl,by rw[←GN];exact hb⟩,by rw[GN];exact ho⟩
section
variable{P:Program}{zb:eK}{st:St}{a:Act}{w:World}{env:Env}{Q:Exit→Act→World→Prop}{o:Oper}
theorem ach{Γ:Nat→TK}(C: ∀t,fK P t (Γ t)){m0:Nat}{vc:List Prop}{st':St}{v:SV}(h:acg P ty Γ st m0 o.op=some (vc,st',v))(g:Good ty zb st a.tmps w env)(hB:zb.w.heap.size≤w.heap.size)(hv: ∀q,q∈vc→q):
  o.wp P a w (fun a' w'=> ∃u env',a'=a.put o.dst u∧Kept zb w w'∧Good ty zb st' a.tmps w' env'∧st'.n=st.n∧tF w' st'.hp env' a.tmps v u) Q:=by
 have hop: ∀{x v},jH st [] x=some v→ju w st.hp env v (a.eval x):=fun hx=>gG g (fun e he=>by simp at he) hx
 generalize jf:o.op=op at h
 unfold acg at h
 split at h
 case h_2=>cases h
 rename_i xs ts
 split at h
 case h_2=>cases h
 rename_i s x t1 t2 hxl htl
 obtain rfl:xs= #[s,x]:=by cases xs;simp_all
 obtain rfl:ts= #[t1,t2]:=by cases ts;simp_all
 split at h
 case h_2=>cases h
 rename_i t e hk AP
 have AP:=ay AP
 subst AP
 split at h
 case h_2=>cases h
 rename_i vs ux n he hs hx hbn
 have he:=ay he
 split at h
 case h_2=>cases h
 rename_i l k lx u' hds hsr
 split at h
 case h_2=>cases h
 rename_i hno hlk
 simp only[ak,bq]at hno
 obtain⟨⟨hno,hpk⟩,Hx⟩:=hno
 rw[gV]at hpk
 have agi:pinned k=false:=by
  unfold pinned at hpk ⊢
  rw[xT,gB]at hpk
  exact hpk.1
 simp only[oI,pI,gV]at h
 rw[gV]at hlk
 obtain⟨rfl,h2,rfl⟩:=h
 rw[St.gone_eq]at h2
 subst h2
 have huu:ux=u':=hv _ (by simp)
 subst huu
 have wL:El P ty t:=hv _ (by simp)
 obtain⟨cx,dY⟩:(l.length+lx.length)*gb t≤140737488355328∧l.length+lx.length≤maxLen:=hv _ (by simp)
 obtain⟨fp,hD,xC⟩:=DO g (hop hs) hds agi
 obtain⟨news,fx,n1,n2,n3,n4,n5,n6⟩:=X8 g hsr
 obtain⟨hue,_⟩:=hop hx
 rw[←hue]at n1
 have hC:=C t1
 rw[hk]at hC
 have Uu:Own 0 w (fp++fx.flatten):=by
  have ho:=hD.own
  refine⟨bf.2 ⟨ho.nodup,n6.nodup,?_⟩,fun b hb=> ?_,fun b hb=> ?_⟩
  ·rintro b hb c hc rfl
   obtain⟨i,oi,hi,h1,h2⟩:=xC b hb
   obtain⟨j,oj,hj,h3,h4⟩:=n5 b hc
   have hij:i≠j:=by
    rintro rfl
    simp only[B0,bw,bq,bR]at hno
    exact hno i hi i hj (by simp)
   exact g.mu i j _ _ hij h1 h3 b h2 h4
  ·rcases aL.1 hb with hb|hb
   ·exact ho.ge b hb
   ·exact n6.ge b hb
  ·rcases aL.1 hb with hb|hb
   ·exact ho.kind b hb
   ·exact n6.kind b hb
 refine Gh s x t1 jf (gh t) (jt t) 0 (ty t) (iX t) (gb t) (by rw[←he];exact hC.1) wL (mW t) _ l fp rfl hD _ rfl lx news fx n1 n2 n3 n4 Uu dY cx (aD _) ?_
 intro v' w' jD k1 k2 k3 k4 k5 _
 obtain⟨env',hg',HC⟩:=BZ (ty:=ty) g hB (ks:=k++ [n]) hpk Hx hlk (v:=a.eval s) (fp:=fp) (fx:=fx.flatten)
  (by
   intro b hb
   rcases aL.1 hb with hb|hb
   ·obtain⟨i,oi,hi,h1⟩:=xC b hb;exact⟨i,oi,aN _ hi,h1⟩
   ·obtain⟨i,oi,hi,h1⟩:=n5 b hb;exact⟨i,oi,aH _ hi,h1⟩)
  (by
   intro b hb
   obtain⟨xs,cB,_,_,_,jr,_⟩:=hD
   rw[jr,hb];simp)
  k1 k2 k4
 refine⟨v',env',rfl,⟨k2.os,k2.tape,k2.output,k2.size,fun b hb hn=>k2.block b (by omega) fun e=> ?_,k5⟩,hg',rfl,⟨t,_,look_eq⟩,HC.symm⟩
 have QE:b∈fp:=by
  obtain⟨xs,cB,_,_,_,jr,_⟩:=hD
  rw[jr, ←e];simp
 obtain⟨i,oi,hi,h1,h2⟩:=xC b QE
 rcases g.dom i oi h1 b h2 with h|h
 ·exact hn h
 ·omega
end
theorem X9{t:Tag}{w:World}{e:Nat}{v:Value}{l:List (T t)}{fp:List Nat}(h:mo (kk t) (rd t) 0 e w v l fp){j:Nat}(hj:j≤l.length):
  ∃oa cap,v= .slice oa l.length cap∧l.length≤cap∧ ∃jD,mo (kk t) (rd t) 0 e w (Wn oa cap (kk t) j l.length) (l.drop j) jD∧ ∀b,b∈jD→b∈fp:=by
 have ho:=h.own
 obtain⟨oa,cap,hv,hc,hm,h3⟩:=h.sl
 refine⟨oa,cap,hv,hc,?_⟩
 rcases h.parts with⟨rfl,rfl,rfl⟩| ⟨g,o,n,c,agp,UQ,hn,hnm,q1,q2,ajk⟩
 ·simp only[cP]at hv
  obtain⟨rfl,_,rfl⟩:=hv
  obtain rfl:j=0:=by simpa using hj
  exact⟨[],mo.nil _ _ _ _ _,by simp⟩
 ·rw[UQ]at hv
  simp only[cP,true_and]at hv
  obtain⟨rfl,rfl⟩:=hv
  have hnil:n=j→ ∃jD,mo (kk t) (rd t) 0 e w (Wn (some ⟨g,o,none⟩) n (kk t) j l.length) (l.drop j) jD∧ ∀b,b∈jD→b∈fp:=by
   rintro rfl
   have e0:l.drop n= []:=fY hn
   have e1:l.length=n:=by omega
   refine⟨[g],?_,fun b hb=>by rw[ajk];rw[aR.1 hb];simp⟩
   rw[e0]
   have:Wn (some ⟨g,o,none⟩) n (kk t) n l.length= .slice (some ⟨g,o,none⟩) ([]:List (T t)).length 0:=by
    unfold Wn;rw[if_pos rfl,e1,Nat.sub_self];rfl
   rw[this]
   refine nv (gh t) (cB:= []) q1 (by omega) (aD _) (aD _) ⟨rfl,by simp⟩ ⟨by simp,by simp,fun b hb=> ?_⟩
   simp only[kK,aR]at hb
   exact⟨_,_,by rw[hb];exact q1⟩
  by_cases hcn:n=j
  ·exact hnil hcn
  ·rcases h3 with⟨rfl,_,_⟩| ⟨b,off,cB,hb,alx,jr,hE⟩
   ·refine⟨[g],?_,fun b hb=>by rw[ajk];rw[aR.1 hb];simp⟩
    obtain rfl:j=0:=by simpa using hj
    have:Wn (some ⟨g,o,none⟩) n (kk t) 0 ([]:List (T t)).length= .slice (some ⟨g,o,none⟩) ([]:List (T t)).length n:=by
     unfold Wn;rw[if_neg hcn];simp[eT]
    rw[this]
    refine nv (gh t) (cB:= []) q1 q2 (aD _) hm ⟨rfl,by simp⟩ ⟨by simp,by simp,fun b hb=> ?_⟩
    simp only[kK,aR]at hb
    exact⟨_,_,by rw[hb];exact q1⟩
   ·simp only[oI,fA,and_true]at hb
    obtain⟨rfl,rfl⟩:=hb
    have hsub: ∀b,b∈g::(cB.drop j).flatten→b∈fp:=by
     intro b hb
     rw[jr]
     rcases bh.1 hb with rfl|hb
     ·simp
     ·exact aK _ ((tN (uN j cB)).subset hb)
    have ru:l.length-j=(l.drop j).length:=by simp
    refine⟨g::(cB.drop j).flatten,?_,hsub⟩
    have:Wn (some ⟨g,o,none⟩) n (kk t) j l.length= .slice (some ⟨g,o+j*kk t,none⟩) (l.drop j).length (n-j):=by
     unfold Wn;rw[if_neg hcn,ru];simp[eT]
    rw[this]
    refine nv (gh t) q1 ?_ (by rw[←ru];omega) (by omega) ⟨by simp[hE.1],fun i x f hx hf=> ?_⟩ ?_
    ·have h5:j*kk t≤n*kk t:=bK _ (by omega)
     rw[Nat.sub_mul];omega
    ·rw[cN]at hx hf
     obtain⟨cs,k1,k2⟩:=hE.2 _ x f hx hf
     exact⟨cs,by rw[fu, ←cJ];exact k1,k2⟩
    ·rw[jr]at ho
     have hss:(g::(cB.drop j).flatten).Sublist (g::cB.flatten):=w9 _ (tN (uN j cB))
     exact⟨hss.nodup ho.nodup,fun b hb=>ho.ge b (hss.subset hb),fun b hb=>ho.kind b (hss.subset hb)⟩
def aci(Γ:Nat→TK)(cr:List (Nat×CR))(st:St)(m0:Nat)(d:Option Nat):Op→Option (List Prop×St×SV)
 | .slice t x (some lo) none none=>match d,Γ t with
   |some dd, .sl g _=>match(look cr (dd+600000)).isSome,jH st [] x,UI st [] lo with
    |true,some (.a (.own n)),some (_,lo)=>match look st.hp n with
     |some (.arr t' l)=>match aU (kk g) (kk t'),pinned [n],nI m0,look (dX [n] [] st.hp) m0 with
      |true,false,false,none=>some ([0≤lo∧lo≤(l.length:Int)],st.gone [n] m0 t' (l.drop lo.toNat), .one (.a (.own m0)))
      |_,_,_,_=>none
     |_=>none
    |_,_,_=>none
   |_,_=>none
 |_=>none
section
variable{P:Program}{zb:eK}{st:St}{a:Act}{w:World}{env:Env}{Q:Exit→Act→World→Prop}{o:Oper}
theorem acj{Γ:Nat→TK}(C: ∀t,fK P t (Γ t)){cr:List (Nat×CR)}{m0:Nat}{d:Option Nat}{vc:List Prop}{st':St}{v:SV}(h:aci Γ cr st m0 d o.op=some (vc,st',v))(g:Good ty zb st a.tmps w env)(hB:zb.w.heap.size≤w.heap.size)(hv: ∀q,q∈vc→q):
  o.wp P a w (fun a' w'=> ∃u env',a'=a.put o.dst u∧Kept zb w w'∧Good ty zb st' a.tmps w' env'∧st'.n=st.n∧tF w' st'.hp env' a.tmps v u) Q:=by
 have hop: ∀{x v},jH st [] x=some v→ju w st.hp env v (a.eval x):=fun hx=>gG g (fun e he=>by simp at he) hx
 generalize jf:o.op=op at h
 unfold aci at h
 split at h
 case h_2=>cases h
 rename_i t x lo
 split at h
 case h_2=>cases h
 rename_i dd gt e hk
 split at h
 case h_2=>cases h
 rename_i n kk0 j hkey hx hlo
 split at h
 case h_2=>cases h
 rename_i t' l hl
 split at h
 case h_2=>cases h
 rename_i hkk hpk Hx hlk
 have hkk:=ay hkk
 simp only[oI,pI]at h
 obtain⟨rfl,h2,rfl⟩:=h
 rw[St.gone_eq]at h2
 subst h2
 obtain⟨q0,q1⟩:=hv _ (aR.2 rfl)
 have hC:=C t
 rw[hk]at hC
 obtain⟨_,hu⟩:=hop hx
 have hBl:=RO.bld (sD hpk (by simp)) (g.obj n _ hl)
 obtain⟨oa,cap,FR,hcap,jD,hB',hsub⟩:=X9 hBl (j:=j.toNat) (by omega)
 have hex:a.eval x= .slice oa l.length cap:=by rw[←FR];exact hu
 have alS:a.eval lo= .int kk0 j:=by
  unfold UI at hlo
  split at hlo
  ·rename_i k i hq
   simp only[oI,pI]at hlo
   obtain⟨rfl,rfl⟩:=hlo
   exact(hop hq).lit
  ·cases hlo
 have hrun:=Sv (P:=P) (w:=w) jf hC hex (n1:=j) (n2:=(l.length:Int)) (bn ⟨lo,kk0,rfl,alS⟩) (bI ⟨rfl,rfl⟩) q0 q1 (Int.le_refl _) hcap
 have Fb: ∀b,(env n).v.ownBlock=some b→b∈(env n).fp:=by
  intro b hb
  obtain⟨xs,cB,_,_,_,jr,_⟩:=hBl
  rw[jr,hb];simp
 obtain⟨env',hg',HC,_,_⟩:=DN (ty:=ty) g hB (ks:= [n]) hpk Hx hlk (v:=(env n).v) (w':=w) (fp:=(env n).fp) (fx:= [])
  (by
   intro b hb
   rw[cS]at hb
   exact⟨n,_,by simp,hl,hb⟩) Fb hB' ⟨rfl,rfl,rfl,aZ _,fun _ _ _=>rfl⟩ (fun b hb=>bI (hsub b hb))
 unfold iE
 rw[hrun]
 refine⟨_,env',rfl,Kept.refl _ _,hg',rfl,⟨t',_,look_eq⟩,?_⟩
 rw[HC,hkk]
 rfl
end
end
end Go.Proofs.YtkcegdacbddipaaGreat.G
