/-
  append to a slice whose elements' memory is others'.
-/
import Derived.Laws.OwnMore
import Derived.Test.YtkcegdacbddipaaGreatM6
open Array renaming ext'→CJ,foldl_toList→Be,getD_eq_getD_getElem?→aa,getElem?_eq_some_iff→cY,getElem?_setIfInBounds_ne→fE,mk→eU,range→Pd,toList_map→mq,toList_zipIdx→zY
open Bool renaming and_eq_true→aj,false_or→Bd,not_eq_true'→bp,or_eq_false_iff→gm
open Go.Addr renaming add_mid→eM
open Go.Addr.mk renaming injEq→eZ
open Go.Builtin renaming append_→dG,firstCells→kr,lenOf→jf
open Go.Deferred renaming ofValue→qi
open Go.Instr renaming box→V3,buildSlice→EK,fill→qM,slice→rC,sliceAt→ir,sliceBound→j0,sliceBounds→jC,storeAt→ve,sureAddr→j9
open Go.MapKept renaming heap_alloc→MA,heap_set→mD
open Go.Oper renaming upon→Gp,wp→iK,wp_mono→pN
open Go.Region renaming wanted→lB
open Go.Result renaming andThen_ok→bN
open Go.RowKit.Below renaming refl→jd
open Go.Sem renaming run_bind→cF,run_pure→cL
open Go.Value renaming cells→eu,oneCell'→ew
open Go.Value.slice renaming injEq→cK
open Go.World renaming rangeAt_setCells_apart→dI
open List renaming all_eq_true→bq,any_append→w8,any_eq_false→bK,any_eq_true→dV,append_assoc→b7,append_nil→cW,drop_append→mh,drop_drop→lY,drop_eq_getElem_cons→dK,drop_eq_nil_of_le→fK,drop_sublist→tX,drop_zero→eV,eq_nil_of_length_eq_zero→bR,ext_getElem?→tW,filter_cons_of_neg→ef,filter_cons_of_pos→dc,flatMap_cons→cZ,flatMap_map→EL,flatten_cons→bO,flatten_nil→jW,getD_eq_getElem?_getD→ak,getElem?_append_left→bP,getElem?_append_right→bQ,getElem?_drop→cJ,getElem?_eq_getElem→au,getElem?_eq_none→kJ,getElem?_eq_some_iff→aI,getElem?_map→dN,getElem?_of_mem→eW,getElem?_range→rA,getElem?_replicate→iq,getElem?_set_ne→hY,getElem?_set_self→eY,getElem?_take→cE,length_append→aX,length_cons→bY,length_drop→bM,length_map→bw,length_set→bH,length_take→bL,map_append→eI,map_congr_left→fj,map_cons→cA,map_id→rB,map_toArray→jV,mem_append→aK,mem_append_left→aM,mem_append_right→aH,mem_cons→aW,mem_cons_of_mem→aJ,mem_flatten→mg,mem_map→cj,mem_of_getElem?→dF,mem_singleton→aP,nil_append→eS,nil_sublist→vR,nodup_append→aY,nodup_cons→b9,nodup_nil→tC,pairwise_flatten→gO,pairwise_iff_getElem→l7,range→bA,replicate→ey,size_toArray→iF,sublist_append_right→l5,sublist_cons_self→ox,sublist_flatten_of_mem→rE,take_append→EJ,take_append_drop→jg,take_of_length_le→aB,take_sublist→CL,take_zero→lZ
open List.Sublist renaming append→Aa,cons_cons→wm,refl→jB
open List.cons renaming injEq→cx
open Nat renaming add_assoc→fB,add_mul→cG,add_zero→kH,beq→bf,ble→mm,eq_of_beq_eq_true→av,le_mul_of_pos_right→va,le_of_ble_eq_true→bT,le_refl→bh,lt_or_ge→mS,mul_comm→mP,mul_le_mul_right→bI,mul_one→PF,one_mul→zX,zero_add→eE,zero_le→aA,zero_mul→Ea
open Option renaming map_none→rD,map_some→dz
open Or renaming inl→bG,inr→bg
open Prod renaming fst→gV,snd→fI
namespace Go.Proofs.YtkcegdacbddipaaGreat.G
set_option linter.all false
open Go.RowKit L D
section
variable{ty:Tag→Nat}
theorem sQ: ∀(vs:List Value) (cs:List Value) (o:Nat),o+vs.length≤cs.length→splice (eU cs) o vs=eU (cs.take o++(vs++cs.drop (o+vs.length)))
 | [],cs,o,h=>by simp[splice,jg]
 |v::r,cs,o,h=>by
  simp only[bY]at h
  have e0:cs.set o v=cs.take o++v::cs.drop (o+1):=by
   rw[List.set_eq_take_append_cons_drop,if_pos (by omega)]
  have hl:(cs.take o).length=o:=by rw[bL];omega
  have t1:(cs.take o++v::cs.drop (o+1)).take (o+1)=cs.take o++ [v]:=by
   rw[EJ,hl,show o+1-o=1 by omega,aB (by rw[hl];omega)];rfl
  have t2:(cs.take o++v::cs.drop (o+1)).drop (o+1+r.length)=cs.drop (o+1+r.length):=by
   rw[mh,hl,show o+1+r.length-o=r.length+1 by omega,List.drop_succ_cons,lY,fK (as:=cs.take o) (by rw[hl];omega),eS]
  rw[splice,List.setIfInBounds_toArray,sQ r _ _ (by simp;omega),e0,t1,t2,b7,bY,show o+(r.length+1)=o+1+r.length by omega]
  rfl
theorem KA{R:V→Value→Prop}{c c' vs:List V}{cs us:List Value}{off:Nat}(h:cO R c cs)(hv:cO R vs us)(hs:IC c off vs=some c'):off+us.length≤cs.length∧cO R c' (cs.take off++(us++cs.drop (off+us.length))):=by
 unfold IC at hs
 split at hs
 ·rename_i hb
  have hb:=bT hb
  simp only[oI]at hs
  subst hs
  have h1:=h.len
  have h2:=hv.len
  refine⟨by omega,cO.app (h.take off) (cO.app hv ?_)⟩
  rw[h2];exact h.drop _
 ·cases hs
theorem uZ(off:Nat): ∀(l:List Value) (n:Nat) (c:Array Value),(l.zipIdx n).foldl (fun cs (p:Value×Nat)=>cs.setIfInBounds (off+p.2) p.1) c=splice c (off+n) l
 | [],_,_=>rfl
 |v::r,n,c=>by rw[List.zipIdx_cons,List.foldl_cons,uZ off r (n+1)];rfl
def zh:Nat→List Value→List (Nat×Value)
 |_,[]=> []
 |i,v::r=>(i,v)::zh (i+1) r
theorem Gq{k:Nat}: ∀(ps:List Value) (i:Nat) (cells:List Value),(∀v,v∈ps→v.cells.size=k)→cells.length=(i+ps.length)*k→
  qM (fun i=>some (i*k,k)) (eU cells) (zh i ps)=some (eU (cells.take (i*k)++ps.flatMap fun v=>v.cells.toList))
 | [],i,cells,_,h=>by
   rw[zh,qM,aB (by rw[h];simp)];simp
 |v::r,i,cells,hk,h=>by
  have hv:=hk v (by simp)
  have hlen:i*k+k≤cells.length:=by
   rw[h,bY,show i+(r.length+1)=(i+1)+r.length by omega,cG (i+1),cG i 1,zX];omega
  rw[zh,qM]
  simp only[hv,ne_eq,not_true_eq_false,decide_false,Bd,iF]
  rw[if_neg (by simp;omega)]
  have VW:(v.cells.zipIdx.foldl (fun cs (x:Value×Nat)=>cs.setIfInBounds (i*k+x.2) x.1) (eU cells))=splice (eU cells) (i*k) v.cells.toList:=by
   rw[←Be,zY,uZ,kH]
  have hsz:v.cells.toList.length=k:=by simpa using hv
  have:=sQ v.cells.toList cells (i*k) (by omega)
  show qM _ (v.cells.zipIdx.foldl (fun cs (x:Value×Nat)=>cs.setIfInBounds (i*k+x.2) x.1) (eU cells)) _=_
  rw[VW,this,Gq r (i+1) _ (fun u hu=>hk u (by simp[hu])) (by
   simp only[aX,bL,bM,hsz]
   rw[h,bY]at*
   have:(i+1+r.length)*k=(i+(r.length+1))*k:=by congr 1;omega
   rw[this]
   omega)]
  have h1:(i+1)*k=i*k+k:=by rw[cG,zX]
  have t:((cells.take (i*k))++(v.cells.toList++cells.drop (i*k+v.cells.toList.length))).take ((i+1)*k)=cells.take (i*k)++v.cells.toList:=by
   rw[←b7]
   exact List.take_left' (by rw[aX,bL,hsz,h1];omega)
  rw[t,cZ,b7]
theorem w6{k:Nat}: ∀{ps:List (List Value)} {i:Nat} {c:List Value},(∀v,v∈ps→v.length=k)→ps[i]? =some c→(((ps.flatMap id).drop (i*k)).take k)=c
 |p::r,0,c,hk,h=>by
  simp at h
  subst h
  have:=hk p (by simp)
  rw[cZ,Ea,eV,EJ]
  simp[←this]
 |p::r,i+1,c,hk,h=>by
  have hp:=hk p (by simp)
  rw[cZ,mh,show(id p).length=k from hp,fK (by rw[show(id p).length=k from hp,cG];omega),eS,show(i+1)*k-k=i*k by rw[cG];omega]
  exact w6 (fun v hv=>hk v (by simp[hv])) (by simpa using h)
theorem w7{k:Nat}: ∀{ps:List (List Value)},(∀v,v∈ps→v.length=k)→(ps.flatMap id).length=ps.length*k
 | [],_=>by simp
 |p::r,hh=>by
  rw[cZ,aX,w7 fun v hv=>hh v (by simp[hv]),show(id p).length=k from hh p (by simp),bY,cG];omega
section
variable{P:Program}{a:Act}{w:World}{o:Oper}
theorem yH{t len:Nat}{parts:Array (Nat×Operand)}(ho:o.op= .buildSlice t len parts){g:Tag}(hu:P.underlying t=some (.slice (ty g)))(vQ:El P ty g)(hbig:len*kk g≤16777216)(hlen:parts.toList.length=len){lo:Nat}(hlo:lo≤w.heap.size)
  {xs:List (T g)}{cu:List (List Nat)}(q1:(parts.toList.map fun p=>(p.1,a.eval p.2))=zh 0 (parts.toList.map fun p=>a.eval p.2))(q2:xs.length=parts.toList.length)(q3:cu.length=xs.length)
  (q4: ∀(i:Nat) (x:T g) (f:List Nat),xs[i]? =some x→cu[i]? =some f→ ∃p:Nat×Operand,parts.toList[i]? =some p∧rd g w (a.eval p.2).cells.toList x f)(q5:Own lo w cu.flatten):
  ∃w',(execOp a.eval o).run P w= .ok (.value (.slice (some ⟨w.heap.size,0,none⟩) len len)) w'∧Below w.heap.size w w'∧lP (kk g) (rd g) lo (ty g) w' (.slice (some ⟨w.heap.size,0,none⟩) len len) xs (w.heap.size::cu.flatten):=by
 have hkp:=iW g
 have zZ: ∀v,v∈(parts.toList.map fun p=>a.eval p.2)→v.cells.size=kk g:=by
  intro v hv
  obtain⟨i,hi⟩:=eW hv
  have hil:i<xs.length:=by have:=(aI.1 hi).1;simp at this;rw[q2];simpa using this
  have hfl:i<cu.length:=by omega
  obtain⟨p,h1,h2⟩:=q4 i xs[i] cu[i] (au hil) (au hfl)
  rw[dN,h1]at hi
  simp at hi
  subst hi
  simpa using(fP g).len h2
 cases hq:P.info? (ty g)with
 |none=>simp[El,hq]at vQ
 |some inf=>
  simp[El,hq]at vQ
  obtain⟨z1,z2,z3⟩:=vQ
  let zs:List Value:=(bA (len*kk g)).map fun j=>(if len*kk g=0 then #[]else(iH g).cells)[j % (if len*kk g=0 then #[]else(iH g).cells).size]!
  have hzl:zs.length=len*kk g:=by simp[zs]
  have hf:=Gq (k:=kk g) (parts.toList.map fun p=>a.eval p.2) 0 zs zZ (by rw[hzl,bw,hlen,eE])
  rw[Ea,lZ,eS]at hf
  have hrun:(execOp a.eval o).run P w= .ok (.value (.slice (some ⟨w.heap.size,0,none⟩) len len)) (w.alloc (.cells (eU ((parts.toList.map fun p=>a.eval p.2).flatMap fun v=>v.cells.toList)) (ty g) (0,0))):=by
   unfold execOp
   have rz:(parts.map fun(p:Nat×Operand)=>(p.1,a.eval p.2)).toList=zh 0 (parts.toList.map fun p=>a.eval p.2):=by
    rw[mq];exact q1
   have hzs:((Pd (len*kk g)).map fun j=>(if len*kk g=0 then #[]else(iH g).cells)[j % (if len*kk g=0 then #[]else(iH g).cells).size]!)=eU zs:=by
    simp only[zs]
    apply CJ
    simp
   have hze:(sizeOf (ty g)).run P w= .ok (kk g) w:=by simp[sizeOf,typeInfo,hq,z2]
   simp only[ho,EK,cF,run_underlying hu,bN,hze]
   rw[if_neg (by omega)]
   by_cases hz0:len*kk g=0
   ·simp only[if_pos hz0]at hzs ⊢
    simp only[cF,cL,bN]
    rw[hzs,rz,hf]
    simp[newRow]
   ·have hzv:(zeroValue (ty g)).run P w= .ok (iH g) w:=by simp[zeroValue,typeInfo,hq,z1]
    simp only[if_neg hz0]at hzs ⊢
    simp only[cF,hzv,cL,bN]
    rw[hzs,rz,hf]
    simp[newRow]
  have hps:((parts.toList.map fun p=>a.eval p.2).flatMap fun v=>v.cells.toList)=((parts.toList.map fun p=>(a.eval p.2).cells.toList).flatMap id):=by
   simp[EL]
  have VX: ∀v,v∈(parts.toList.map fun p=>(a.eval p.2).cells.toList)→v.length=kk g:=by
   intro v hv
   obtain⟨p,hp,rfl⟩:=cj.1 hv
   simpa using zZ _ (cj.2 ⟨p,hp,rfl⟩)
  have Jk:=w7 VX
  rw[bw,hlen]at Jk
  have hb0:Below w.heap.size w (w.alloc (.cells (eU ((parts.toList.map fun p=>a.eval p.2).flatMap fun v=>v.cells.toList)) (ty g) (0,0))):=(jd _ _).alloc (bh _) _
  have aiI:=q5.lt
  refine⟨_,hrun,hb0,((parts.toList.map fun p=>a.eval p.2).flatMap fun v=>v.cells.toList),cu,⟨?_,bg ⟨w.heap.size,0,len,eU ((parts.toList.map fun p=>a.eval p.2).flatMap fun v=>v.cells.toList),?_,hlo,?_,?_,?_,?_,?_⟩⟩,q3,?_,rfl,?_⟩
  ·rw[hps,Jk,q2,hlen]
  ·rw[q2,hlen]
  ·exact tR rfl
  ·rw[q2,hlen];exact bh _
  ·unfold maxLen;have:=va len hkp;omega
  ·rw[iF,hps,Jk];omega
  ·rw[eV,aB];simp only[hps,Jk,q2,hlen];exact bh _
  ·intro i x f hx Q4
   obtain⟨p,h1,h2⟩:=q4 i x f hx Q4
   have hkey:(((parts.toList.map fun p=>a.eval p.2).flatMap fun v=>v.cells.toList).drop (i*kk g)).take (kk g)=(a.eval p.2).cells.toList:=by
    rw[hps];exact w6 VX (by rw[dN,h1];rfl)
   rw[hkey]
   exact(fP g).below h2 hb0
  ·refine⟨b9.2 ⟨fun hm=>by have:=aiI _ hm;omega,q5.nodup⟩,fun b hb=> ?_,fun b hb=> ?_⟩
   ·rcases aW.1 hb with rfl|hb
    ·exact hlo
    ·exact q5.ge b hb
   ·rcases aW.1 hb with rfl|hb
    ·exact⟨_,_,tR rfl⟩
    ·exact(q5.below hb0).kind b hb
theorem VY(z:Array Value)(n k i:Nat)(hk:z.size=k)(hi:i<n)(hk0:0<k):(((madeCells z (n*k)).toList.drop (i*k)).take k)=z.toList:=by
 apply tW
 intro j
 have h5:i*k+k≤n*k:=by
  have:=bI k (show i+1≤n by omega)
  rw[cG]at this;omega
 by_cases hj:j<k
 ·rw[cE,if_pos hj,cJ]
  simp only[madeCells,mq,Array.toList_range,dN]
  rw[rA (by omega),hk]
  simp only[dz]
  have hm:(i*k+j)% k=j:=by rw[mP,Nat.mul_add_mod];exact Nat.mod_eq_of_lt hj
  rw[hm]
  have:j<z.size:=by omega
  simp[this]
 ·rw[cE,if_neg hj]
  rw[kJ (by simp;omega)]
theorem V0{t:Nat}{x y:Operand}(ho:o.op= .makeSlice t x y){g:Tag}(hu:P.underlying t=some (.slice (ty g)))(vQ:El P ty g){k1 k2:IntKind}{n:Int}(hx:a.eval x= .int k1 n)(hy:a.eval y= .int k2 n)(h0:0≤n)(hb:n.toNat*gl g≤140737488355328)(hm:n.toNat≤maxLen):
  ∃w' u fp,(execOp a.eval o).run P w= .ok (.value u) w'∧Below w.heap.size w w'∧lP (kk g) (rd g) w.heap.size (ty g) w' u (ey n.toNat (aO g)) fp:=by
 cases hq:P.info? (ty g)with
 |none=>simp[El,hq]at vQ
 |some inf=>
  simp[El,hq]at vQ
  obtain⟨z1,z2,z3⟩:=vQ
  obtain⟨w',hr,hrow,hg⟩:=run_make_full (P:=P) w w.heap.size t (ty g) inf (iH g) (kk g) hu hq z1 z2 k1 k2 n.toNat (by rw[z3,mP];omega) hm (bh _)
  rw[Int.toNat_of_nonneg h0]at hr
  refine⟨w', .slice (some ⟨w.heap.size,0,none⟩) n.toNat n.toNat,[w.heap.size],?_,⟨hg.os,hg.tape,hg.output,hg.size,fun b hb=>hg.block b hb (by simp)⟩,(madeCells (iH g).cells (n.toNat*kk g)).toList,ey n.toNat [],?_,by simp,?_,?_,?_⟩
  ·unfold execOp
   simp only[ho,hx,hy,cF,hr,bN,cL]
  ·rw[List.length_replicate];exact kq.of hrow
  ·intro i v f hi hf
   rw[iq]at hi hf
   split at hi
   ·rename_i hlt
    rw[if_pos hlt]at hf
    simp only[oI]at hi hf
    subst hi;subst hf
    rw[VY _ _ _ _ (mB g) hlt (iW g)]
    exact ZP g
   ·cases hi
  ·simp[Value.ownBlock]
  ·refine⟨by simp,by simp,fun b hb=> ?_⟩
   rcases hrow.2 with⟨h,_⟩| ⟨g',cap,cur,h,_,hh,_⟩
   ·cases h
   ·simp only[cK,oI,eZ,and_true]at h
    rw[aP.1 hb,h.1]
    exact⟨_,_,hh⟩
end
end
section
variable{ty:Tag→Nat}
section
variable{P:Program}{zb:eJ}{st:St}{a:Act}{w:World}{env:Env}{Q:Exit→Act→World→Prop}{o:Oper}
theorem Gr{hp:Hp}{env:Env}: ∀{z:List Value},(∀v,v∈z→v.oneCell'=true)→cO (RA w hp env) (z.map V.lit) z
 | [],_=>trivial
 |v::r,h=>⟨⟨rfl,h v (by simp)⟩,Gr fun u hu=>h u (by simp[hu])⟩
theorem mQ(g:Good ty zb st a.tmps w env){v:V}{u:Value}(h:RA w st.hp env v u)(hv:v≠ .any):u.cells= #[u]:=by
 cases v with
 |any=>exact absurd rfl hv
 |lit x=>obtain⟨rfl,h1⟩:=h;cases u<;>simp_all [eu,ew]
 |sl t l=>obtain⟨fp,⟨oa,cap,rfl,_⟩,_⟩:=h;rfl
 |own n=>
  obtain⟨⟨t,l,hl⟩,rfl⟩:=h
  obtain⟨oa,cap,h,_⟩:=RO.sl (g.obj n _ hl)
  rw[h];rfl
 |ptr n off=>obtain⟨_,b,_,rfl⟩:=h;rfl
 |Fi f n=>obtain⟨_,b,_,rfl⟩:=h;rfl
 |zf k=>obtain⟨oa,cap,rfl,_⟩:=h;rfl
 |raw x=>obtain⟨rfl,h1⟩:=h;cases u<;>simp_all [eu,ew]
 |vO v t l=>obtain⟨_,fp,⟨oa,cap,rfl,_⟩,_⟩:=h;rfl
 |rj n i off=>obtain⟨t,l,_,b,o,len,cap,_,rfl⟩:=h;rfl
 |ip t x off=>obtain⟨b,o,cs,fp,rfl,_⟩:=h;rfl
 |vw n p t l=>obtain⟨_,⟨fp,⟨oa,cap,rfl,_⟩,_⟩,_⟩:=h;rfl
 |Ir n t l=>obtain⟨_,b,fp,⟨oa,cap,rfl,_⟩,_⟩:=h;rfl
 |mix n c t l=>obtain⟨_,⟨fp,⟨oa,cap,rfl,_⟩,_⟩,_⟩:=h;rfl
 |yC n=>
  obtain⟨⟨t,l,s,hl⟩,rfl⟩:=h
  rcases RO.Gh (g.obj n _ hl)with⟨_,r,lx,_,h,_⟩| ⟨_,_,hv,_,_,⟨oa,cap,h,_⟩,_⟩| ⟨_,_,_,⟨oa,m,cap,h⟩,_⟩| ⟨_,_,us,hB,_⟩
  ·rw[h];rfl
  ·rw[hv,h];rfl
  ·rw[h];rfl
  ·obtain⟨oa,cap,h,_⟩:=hB.sl
   rw[h];rfl
 |Iq n p t x off=>obtain⟨_,b,o,cs,fp,rfl,_⟩:=h;rfl
theorem ZY{op:BinOp}{k k':IntKind}{x y:Int}{vc:List Prop}{v:Value}(h:ZQ op k k' x y=some (vc,v))(hv: ∀q,q∈vc→q){t:TypeId}{X Y:Operand}:
  (do eqGuard op t X Y (.int k x) (.int k' y);binOp op t (.int k x) (.int k' y):Sem Value).run P w= .ok v w∧v.oneCell'=true:=by
 have gen:(∀(_: ¬(op= .shl∨op= .shr)),(match decEq k k' with|isTrue _=>bop op k x y|isFalse _=>none)=some (vc,v)→(do eqGuard op t X Y (.int k x) (.int k' y);binOp op t (.int k x) (.int k' y):Sem Value).run P w= .ok v w∧v.oneCell'=true):=by
  intro _ h'
  clear h
  split at h'
  ·rename_i hk _
   subst hk
   exact adF h' hv
  ·cases h'
 cases op with
 |shl=>
  simp only[ZQ,oI,pI]at h
  obtain⟨rfl,rfl⟩:=h
  have hy: ¬y<0:=by have:0≤y:=hv _ (aP.2 rfl);omega
  refine⟨?_,rfl⟩
  simp[eqGuard,binOp,Op.shift,hy]
 |shr=>
  simp only[ZQ,oI,pI]at h
  obtain⟨rfl,rfl⟩:=h
  have hy: ¬y<0:=by have:0≤y:=hv _ (aP.2 rfl);omega
  refine⟨?_,rfl⟩
  simp[eqGuard,binOp,Op.shift,hy]
 |_=>exact gen (by simp) h
theorem Z0{op:BinOp}{x y:ByteArray}{vc:List Prop}{v:Value}(h:Th op x y=some (vc,v))(hv: ∀q,q∈vc→q){t:TypeId}{X Y:Operand}:
  (do eqGuard op t X Y (.string x) (.string y);binOp op t (.string x) (.string y):Sem Value).run P w= .ok v w∧v.oneCell'=true:=by
 cases op with
 |add=>
  simp only[Th,oI,pI]at h
  obtain⟨rfl,rfl⟩:=h
  have hy:((x.size+y.size:Nat):Int)≤IntKind.i64.max:=hv _ (aP.2 rfl)
  refine⟨?_,rfl⟩
  have hy': ¬((x.size+y.size:Nat):Int)>IntKind.i64.max:=by omega
  simp only[eqGuard,binOp,Op.stringOp,if_neg hy']
  rfl
 |eql=>
  simp only[Th,oI,pI]at h
  obtain⟨rfl,rfl⟩:=h
  exact⟨by simp[eqGuard,binOp,Op.stringOp],rfl⟩
 |neq=>
  simp only[Th,oI,pI]at h
  obtain⟨rfl,rfl⟩:=h
  exact⟨by simp[eqGuard,binOp,Op.stringOp],rfl⟩
 |_=>simp[Th]at h
theorem Q6{v:S1}{u:Value}{f:FuncId}(hr:ji w st.hp env v u)(h:ZR v=some f):u= .func (.func f) #[] #[]:=by
 unfold ZR at h
 split at h
 ·simp only[oI]at h
  subst h
  exact hr.lit
 ·cases h
theorem Tn(l:List UInt8):strOfNums (l.map fun n=>(n.toNat:Int))=IB l:=by
 unfold strOfNums IB
 congr 2
 rw[List.map_map]
 conv=>rhs;rw[←rB l]
 apply fj
 intro n _
 simp
theorem EM(ad:Addr)(cap:Nat):(Conv.bytesToString (.slice (some ad) 0 cap)).run P w= .ok (.string (IB [])) w:=by
 have:=run_bytesToString (P:=P) w ad 0 cap [] (by simp[loadCells,loadCellsFrom])
 exact this
theorem sR{a b:List (List Nat)}(h:a.Sublist b):a.flatten.Sublist b.flatten:=by
 induction h with
 |slnil=>exact jB _
 |cons x _ ih=>rw[bO];exact ih.trans (l5 _ _)
 |cons_cons x _ ih=>rw[bO,bO];exact Aa (jB _) ih
theorem CK{t:Nat}{x:Operand}{lo hi:Option Operand}(ho:o.op= .slice t x lo hi none){g:Tag}{e:Nat}(hk:fD P t (.sl g e)){t':Tag}{l:List (T t')}(hkk:kk g=kk t'){fp:List Nat}(hx:Sl (kk t') (rd t') w (a.eval x) l fp){n1 n2:Int}
  (h1:(lo=none∧n1=0)∨ ∃y k,lo=some y∧a.eval y= .int k n1)(h2:(hi=none∧n2=l.length)∨ ∃y k,hi=some y∧a.eval y= .int k n2)(q0:0≤n1)(q1:n1≤n2)(q2:n2≤(l.length:Int)):
  ∃u' je,(execOp a.eval o).run P w= .ok (.value u') w∧Sl (kk t') (rd t') w u' ((l.take n2.toNat).drop n1.toNat) je∧je.Sublist fp:=by
 obtain⟨hu,hs⟩:=hk
 obtain⟨oa,cap,hv,hc,hm,h3⟩:=hx
 cases hq:P.info? e with
 |none=>simp[hq]at hs
 |some inf=>
  have hsz:inf.size=kk g:=by simpa[hq]using hs
  have hcap:n2≤(cap:Int):=by omega
  have hn2:0≤n2:=by omega
  have UT:max n2 0=n2:=by omega
  have hlen:((l.take n2.toNat).drop n1.toNat).length=n2.toNat-n1.toNat:=by simp;omega
  have hrun:(ir t (.slice oa l.length cap) (lo.map a.eval) (hi.map a.eval) none).run P w= .ok (.slice (if cap=n1.toNat then oa else oa.map (·.add (n1.toNat*kk g))) (n2.toNat-n1.toNat) (cap-n1.toNat)) w:=by
   rcases h1 with⟨rfl,rfl⟩| ⟨y1,k1,rfl,e1⟩<;>rcases h2 with⟨rfl,rfl⟩| ⟨y2,k2,rfl,e2⟩
   all_goals simp[ir,rC,jC,j0,asIntOf,run_underlying hu,sizeOf,typeInfo,hq,hsz, *]
  have hex:(execOp a.eval o).run P w= .ok (.value (.slice (if cap=n1.toNat then oa else oa.map (·.add (n1.toNat*kk g))) (n2.toNat-n1.toNat) (cap-n1.toNat))) w:=by
   unfold execOp
   simp only[ho,hv,rD,cF,hrun,bN,cL]
  rcases h3 with⟨rfl,rfl,hn⟩| ⟨b,off,cu,rfl,hb,rfl,hE⟩
  ·have e0:n1=0:=by simp at q2;omega
   have e2:n2=0:=by simp at q2;omega
   subst e0;subst e2
   refine⟨_,[],hex,⟨_,_,rfl,by simp,by omega,bG ⟨by simp,rfl,by simp[hn]⟩⟩,vR _⟩
  ·by_cases hcn:cap=n1.toNat
   ·have e0:(l.take n2.toNat).drop n1.toNat= []:=by
     apply bR;omega
    refine⟨_,[],hex,⟨_,_,by rw[hlen],by rw[hlen];omega,by omega,bG ⟨e0,rfl,by omega⟩⟩,vR _⟩
   ·refine⟨_,b::((cu.take n2.toNat).drop n1.toNat).flatten,hex,⟨_,_,by rw[hlen],by rw[hlen];omega,by omega,bg ⟨b,off+n1.toNat*kk t',(cu.take n2.toNat).drop n1.toNat,?_,hb.mono (by rw[fB, ←cG,Nat.add_sub_cancel' (by omega)];exact bh _),rfl,?_,?_⟩⟩,?_⟩
    ·rw[if_neg hcn,hkk];simp[eM]
    ·have:=hE.1;simp[this]
    ·intro i x f hx hf
     rw[cJ,cE]at hx hf
     split at hx
     ·rename_i hlt
      rw[if_pos hlt]at hf
      obtain⟨cs,k1,k2⟩:=hE.2 _ x f hx hf
      exact⟨cs,by rw[fB, ←cG];exact k1,k2⟩
     ·cases hx
    ·exact wm _ (sR ((tX _ _).trans (CL _ _)))
theorem Q8{t:Nat}{x:Operand}{lo hi:Option Operand}(ho:o.op= .slice t x lo hi none){g:Tag}{e:Nat}(hk:fD P t (.sl g e)){oa:Option Addr}{n cap:Nat}(hv:a.eval x= .slice oa n cap){n1 n2:Int}
  (h1:(lo=none∧n1=0)∨ ∃y k,lo=some y∧a.eval y= .int k n1)(h2:(hi=none∧n2=(n:Int))∨ ∃y k,hi=some y∧a.eval y= .int k n2)(q0:0≤n1)(q1:n1≤n2)(q2:n2≤(n:Int))(q3:n≤cap):
  (execOp a.eval o).run P w= .ok (.value (UR oa cap (kk g) n1.toNat n2.toNat)) w:=by
 obtain⟨hu,hs⟩:=hk
 cases hq:P.info? e with
 |none=>simp[hq]at hs
 |some inf=>
  have hsz:inf.size=kk g:=by simpa[hq]using hs
  have hcap:n2≤(cap:Int):=by omega
  have hn2:0≤n2:=by omega
  have UT:max n2 0=n2:=by omega
  have hrun:(ir t (.slice oa n cap) (lo.map a.eval) (hi.map a.eval) none).run P w= .ok (UR oa cap (kk g) n1.toNat n2.toNat) w:=by
   rcases h1 with⟨rfl,rfl⟩| ⟨y1,k1,rfl,e1⟩<;>rcases h2 with⟨rfl,rfl⟩| ⟨y2,k2,rfl,e2⟩
   all_goals simp[ir,rC,jC,j0,asIntOf,run_underlying hu,sizeOf,typeInfo,hq,hsz,UR, *]
  unfold execOp
  simp only[ho,hv,rD,cF,hrun,bN,cL]
theorem Mx{t:Nat}{x:Operand}{lo:Option Operand}(ho:o.op= .slice t x lo none none){g:Tag}{e:Nat}(hk:fD P t (.sl g e)){oa:Option Addr}{n cap:Nat}(hv:a.eval x= .slice oa n cap)(hc:n≤cap){n1:Int}
  (h1:(lo=none∧n1=0)∨ ∃y k,lo=some y∧a.eval y= .int k n1)(hn:n1=(n:Int)):
  ∃Zm,(execOp a.eval o).run P w= .ok (.value (.slice Zm 0 (cap-n))) w∧(Zm=none→oa=none):=by
 obtain⟨hu,hs⟩:=hk
 cases hq:P.info? e with
 |none=>simp[hq]at hs
 |some inf=>
  have hsz:inf.size=kk g:=by simpa[hq]using hs
  subst hn
  have UT:max (n:Int) 0=n:=by omega
  refine⟨if cap=n then oa else oa.map (·.add (n*kk g)),?_,fun h=> ?_⟩
  ·have hrun:(ir t (.slice oa n cap) (lo.map a.eval) none none).run P w= .ok (.slice (if cap=n then oa else oa.map (·.add (n*kk g))) 0 (cap-n)) w:=by
    have h0:(n:Int)≤(cap:Int):=by omega
    rcases h1 with⟨rfl,e1⟩| ⟨y1,k1,rfl,e1⟩
    ·have:n=0:=by omega
     subst this
     simp[ir,rC,jC,j0,asIntOf,run_underlying hu,sizeOf,typeInfo,hq,hsz]
    ·simp[ir,rC,jC,j0,asIntOf,run_underlying hu,sizeOf,typeInfo,hq,hsz, *]
   unfold execOp
   simp only[ho,hv,rD,cF,hrun,bN,cL]
  ·split at h
   ·exact h
   ·simpa using h
theorem dM.at{w:World}: ∀{c:List V} {cs:List Value} {f:List Nat} {i:Nat} {v:V},dM w c cs f→A7 c i=some v→ ∃u f',cs[i]? =some u∧RI w v u f'∧f'.Sublist f
 |x::r,u::us,_,0,v,⟨f1,f2,h1,_,rfl⟩,h=>by
  simp only[A7,oI]at h
  subst h
  exact⟨u,f1,rfl,h1,List.sublist_append_left _ _⟩
 |x::r,u::us,_,i+1,v,⟨f1,f2,_,h2,rfl⟩,h=>by
  obtain⟨u',f',k1,k2,k3⟩:=dM.at h2 (show A7 r i=some v from h)
  exact⟨u',f',by simpa using k1,k2,k3.trans (l5 _ _)⟩
 | [],_,_,_,_,_,h=>by simp[A7]at h
 |_::_,[],_,_,_,h,_=>h.elim
theorem Gt(g:Good ty zb st a.tmps w env){n:Nat}{t:Tag}{l:List (T t)}(hl:look st.hp n=some (.arr t l)){i:Nat}(hi:i<l.length):
  ∃b o cap cs f,(env n).v= .slice (some ⟨b,o,none⟩) l.length cap∧b∈(env n).fp∧w.rangeAt b (o+i*kk t) cs∧rd t w cs (l.getD i (aO t)) f∧f.Sublist (env n).fp:=by
 obtain⟨oa,cap,hv,_,_,h3⟩:=RO.sl (g.obj n _ hl)
 rcases h3 with⟨rfl,_⟩| ⟨b,o,cu,rfl,hb,iV,he⟩
 ·simp at hi
 ·have hx:l[i]? =some (l.getD i (aO t)):=by rw[ak,au hi];rfl
  obtain⟨f,hf⟩:=kG he.1 hx
  obtain⟨cs,hr,hE⟩:=he.2 _ _ f hx hf
  exact⟨b,o,cap,cs,f,hv,by rw[iV];simp,hr,hE,by rw[iV];exact(rE (dF hf)).trans (ox _ _)⟩
theorem KB{hp:Hp}{n:Nat}{t0:Tag}{l0:List (T t0)}(hl:look hp n=some (.arr t0 l0)){p:Option (Nat×Nat)}{v:V}{u:Value}{f:List Nat}(h:RI w v u f)(hnd:f.Nodup)(hf: ∀b,b∈f→b∈(env n).fp)
  (kg: ∀i off,p=some (i,off)→ ∃b o len cap,i<l0.length∧A7 (dec t0 (l0.getD i (aO t0))) off=some v∧(env n).v= .slice (some ⟨b,o,none⟩) len cap∧b∈(env n).fp∧w.cell? ⟨b,o+i*kk t0+off,none⟩=some u):RA w hp env (bor n p v) u:=by
 cases v with
 |sl t l=>
  refine⟨⟨t0,l0,hl⟩,⟨f,h,hnd,hf⟩,fun i off hio=> ?_⟩
  obtain⟨b,o,len,cap,h1,h2,h3,h4,h5⟩:=kg i off hio
  exact⟨t0,l0,b,o,len,cap,hl,h1,h2,h3,h4,h5⟩
 |lit x=>exact⟨h.1,h.2.1⟩
 |_=>trivial
theorem Q9{hp:Hp}{n:Nat}{t0:Tag}{l0:List (T t0)}(hl:look hp n=some (.arr t0 l0)){i:Nat}(hi:i<l0.length){b o len cap:Nat}(hv:(env n).v= .slice (some ⟨b,o,none⟩) len cap)(hb:b∈(env n).fp):
  ∀{c:List V} {us:List Value} {f:List Nat} {k:Nat},dM w c us f→f.Nodup→(∀x,x∈f→x∈(env n).fp)→(∀j v,c[j]? =some v→A7 (dec t0 (l0.getD i (aO t0))) (k+j)=some v)→w.rangeAt b (o+i*kk t0+k) us→cO (RA w hp env) (adA n i k c) us
 | [],[],_,_,_,_,_,_,_=>trivial
 |v::r,u::us,_,k,⟨f1,f2,h1,h2,rfl⟩,hnd,hf,hc,hr=>by
  obtain⟨hn1,hn2,_⟩:=aY.1 hnd
  refine⟨KB hl h1 hn1 (fun x hx=>hf x (aM _ hx)) ?_,Q9 hl hi hv hb h2 hn2 (fun x hx=>hf x (aH _ hx)) ?_ ?_⟩
  ·rintro i' off' hio
   simp only[oI,pI]at hio
   obtain⟨rfl,rfl⟩:=hio
   exact⟨b,o,len,cap,hi,hc 0 v rfl,hv,hb,by have:=hr 0 u rfl;simpa using this⟩
  ·intro j v' hj
   have:=hc (j+1) v' (by simpa using hj)
   rwa [show k+(j+1)=k+1+j by omega]at this
  ·intro j v' hj
   have:=hr (j+1) v' (by simpa using hj)
   rwa [show o+i*kk t0+k+(j+1)=o+i*kk t0+(k+1)+j by omega]at this
 | [],_::_,_,_,h,_,_,_,_=>h.elim
 |_::_,[],_,_,h,_,_,_,_=>h.elim
theorem Ra{hp:Hp}{n:Nat}{t0:Tag}{l0:List (T t0)}(hl:look hp n=some (.arr t0 l0)):
  ∀{c:List V} {us:List Value} {f:List Nat},dM w c us f→f.Nodup→(∀x,x∈f→x∈(env n).fp)→cO (RA w hp env) (adB n c) us
 | [],[],_,_,_,_=>trivial
 |v::r,u::us,_,⟨f1,f2,h1,h2,rfl⟩,hnd,hf=>
  ⟨KB hl h1 (aY.1 hnd).1 (fun x hx=>hf x (aM _ hx)) (by simp),Ra hl h2 (aY.1 hnd).2.1 (fun x hx=>hf x (aH _ hx))⟩
 | [],_::_,_,h,_,_=>h.elim
 |_::_,[],_,h,_,_=>h.elim
theorem Bf: ∀{l:List V} {i:Nat},A7 l i=l[i]?
 | [],_=>by simp[A7]
 |_::_,0=>rfl
 |_::r,i+1=>by rw[A7,Bf (l:=r)];simp
theorem dM.sub{w:World}{c d:List V}{cs:List Value}{f:List Nat}{off k:Nat}(h:dM w c cs f)(hs:sub c off k=some d): ∃f',dM w d ((cs.drop off).take k) f'∧f'.Sublist f∧d=(c.drop off).take k∧((cs.drop off).take k).length=k:=by
 have drop: ∀(n:Nat) {c:List V} {cs:List Value} {f:List Nat},dM w c cs f→ ∃f',dM w (c.drop n) (cs.drop n) f'∧f'.Sublist f:=by
  intro n
  induction n with
  |zero=>intro c cs f h;exact⟨f,by simpa using h,jB _⟩
  |succ n ih=>
   intro c cs f h
   cases c with
   |nil=>cases cs with
    |nil=>exact⟨f,by simpa using h,jB _⟩
    |cons _ _=>exact h.elim
   |cons v r=>cases cs with
    |nil=>exact h.elim
    |cons u us=>
     obtain⟨f1,f2,_,h2,rfl⟩:=h
     obtain⟨f',k1,k2⟩:=ih h2
     exact⟨f',by simpa using k1,k2.trans (l5 _ _)⟩
 have take: ∀(n:Nat) {c:List V} {cs:List Value} {f:List Nat},dM w c cs f→ ∃f',dM w (c.take n) (cs.take n) f'∧f'.Sublist f:=by
  intro n
  induction n with
  |zero=>intro c cs f h;exact⟨[],by simp[dM],vR _⟩
  |succ n ih=>
   intro c cs f h
   cases c with
   |nil=>cases cs with
    |nil=>exact⟨f,by simpa using h,jB _⟩
    |cons _ _=>exact h.elim
   |cons v r=>cases cs with
    |nil=>exact h.elim
    |cons u us=>
     obtain⟨f1,f2,h1,h2,rfl⟩:=h
     obtain⟨f',k1,k2⟩:=ih h2
     exact⟨f1++f',⟨f1,f',h1,k1,rfl⟩,Aa (jB _) k2⟩
 unfold G.sub at hs
 split at hs
 ·rename_i hb
  have hb:=bT hb
  simp only[oI]at hs
  obtain⟨f1,h1,h2⟩:=drop off h
  obtain⟨f2,h3,h4⟩:=take k h1
  refine⟨f2,by rw[←hs];exact h3,h4.trans h2,hs.symm,?_⟩
  have:=h.len
  rw[bL,bM];omega
 ·cases hs
theorem Z1{n:Nat}{p:Option (Nat×Nat)}{t:Tag}{l:List (T t)}{u:Value}{k:Int}(h:RA w st.hp env (.vw n p t l) u)(h0:0≤k)(h1:k<l.length):
  ∃b off len cap,u= .slice (some ⟨b,off,none⟩) len cap∧k<len∧RA w st.hp env (.Iq n (adC p k.toNat) t (l.getD k.toNat (aO t)) 0) (.pointer (some ⟨b,off+k.toNat*kk t,none⟩)):=by
 have Zv:RV w st.hp env n p t l u:=h
 obtain⟨hA,⟨fp,⟨oa,cap,rfl,hc,hm,h3⟩,hnd,hd⟩,_⟩:=h
 have hn:k.toNat<l.length:=by omega
 rcases h3 with⟨rfl,_⟩| ⟨b,off,cu,rfl,hb,rfl,he⟩
 ·simp at hn
 ·have hx:l[k.toNat]? =some (l.getD k.toNat (aO t)):=by rw[ak,au hn];rfl
  obtain⟨f,hf⟩:=kG he.1 hx
  obtain⟨cs,hr,hE⟩:=he.2 _ _ f hx hf
  refine⟨b,off,l.length,cap,rfl,h1,hA,b,off+k.toNat*kk t,cs,f,rfl,hd b (by simp),hr,hE,((rE (dF hf)).trans (ox _ _)).nodup hnd,fun c hc=>hd c (aJ _ (dU hf hc)),fun i o2 j hp=> ?_⟩
  cases p with
  |none=>cases hp
  |some ab=>
   obtain⟨a1,b1⟩:=ab
   simp only[adC,oI,pI]at hp
   obtain⟨rfl,rfl,rfl⟩:=hp
   exact⟨l,_,b,off,l.length,cap,Zv,hn,rfl,rfl,rfl⟩
theorem KC{t:Nat}{x:Operand}{lo hi:Option Operand}(ho:o.op= .slice t x lo hi none)(hu:P.underlying t=some .string){s:ByteArray}(hv:a.eval x= .string s){n1 n2:Int}
  (h1:(lo=none∧n1=0)∨ ∃y k,lo=some y∧a.eval y= .int k n1)(h2:(hi=none∧n2=s.size)∨ ∃y k,hi=some y∧a.eval y= .int k n2)(q0:0≤n1)(q1:n1≤n2)(q2:n2≤(s.size:Int)):
  o.wp P a w (Bb ty st a w env o.dst (.one (.a (.lit (.string (s.extract n1.toNat n2.toNat))))) []) Q:=by
 have hn2:0≤n2:=by omega
 have UT:max n2 0=n2:=by omega
 have hrun:(ir t (.string s) (lo.map a.eval) (hi.map a.eval) none).run P w= .ok (.string (s.extract n1.toNat n2.toNat)) w:=by
  rcases h1 with⟨rfl,rfl⟩| ⟨y1,k1,rfl,e1⟩<;>rcases h2 with⟨rfl,rfl⟩| ⟨y2,k2,rfl,e2⟩
  all_goals simp[ir,rC,jC,j0,asIntOf,run_underlying hu, *]
 refine fH (u:= .string (s.extract n1.toNat n2.toNat)) ?_ ⟨rfl,rfl⟩
 unfold execOp
 simp only[ho,hv,rD,cF,hrun,bN,cL]
theorem To(g:Good ty zb st a.tmps w env){v:V}{u:Value}(hr:ji w st.hp env (.a v) u){l:List UInt8}(hl:bytesOf st v=some l){s e t:Nat}(hs:P.underlying s=some (.slice e))(he:P.underlying e=some (.int .u8))(ht:P.underlying t=some .string):
  (convert s t u).run P w= .ok (.string (IB l)) w:=by
 have key: ∀{b off len cap:Nat},len=l.length→(∀i x,l[i]? =some x→w.cell? ⟨b,off+i,none⟩=some (.int .u8 x.toNat))→(convert s t (.slice (some ⟨b,off,none⟩) len cap)).run P w= .ok (.string (IB l)) w:=by
  intro b off len cap hlen hc
  rw[run_convert_bytes_arg w s e hs he b off len cap (l.map fun n=>(n.toNat:Int)) (by simp[hlen]) (fun i hi=> ?_) t ht,Tn]
  have hi2:i<l.length:=by omega
  rw[hc i _ (au hi2),ak,dN,au hi2]
  rfl
 have nil: ∀{c:Nat},(convert s t (.slice none 0 c)).run P w= .ok (.string (IB [])) w:=by
  intro c
  rw[run_convert_bytes_nil w s e hs he 0 c t ht];rfl
 have sl: ∀{fp:List Nat},Sl 1 QL w u l fp→(convert s t u).run P w= .ok (.string (IB l)) w:=by
  rintro fp ⟨oa,cap,rfl,_,_,h3⟩
  rcases h3 with⟨rfl,_,_⟩| ⟨b,off,cu,rfl,_,_,hE⟩
  ·cases oa with
   |none=>exact nil
   |some ad=>
    rw[run_convert_bytes_string w s t e _ _ _ hs he ht]
    exact EM ad cap
  ·refine key rfl fun i x hx=> ?_
   obtain⟨f,hf⟩:=kG hE.1 hx
   obtain⟨cs,q1,rfl,_⟩:=hE.2 i x f hx hf
   have:=q1 0 _ rfl
   simpa using this
 unfold bytesOf at hl
 split at hl
 ·simp only[oI]at hl
  subst hl
  obtain⟨fp,h,_⟩:=hr
  exact sl h
 ·rename_i n
  split at hl
  ·rename_i l' hlk
   simp only[oI]at hl
   subst hl
   obtain⟨_,hu⟩:=hr
   have hb:Sl 1 QL w (env n).v l' (env n).fp:=RO.sl (g.obj n _ hlk)
   rw[←show u=(env n).v from hu]at hb
   exact sl hb
  ·cases hl
 ·simp only[oI]at hl
  subst hl
  obtain⟨_,⟨fp,h,_⟩,_⟩:=hr
  exact sl h
 ·simp only[oI]at hl
  subst hl
  have hu:=(show ji w st.hp env (.a (.lit Kr)) u from hr).lit
  rw[hu]
  exact nil
 ·cases hl
theorem nv{p:List (Nat×Bool)}(hop: ∀{x v},jh st p x=some v→ji w st.hp env v (a.eval x)){z n:Int}{b:Option Operand}(h:Ks st p z b=some n):(b=none∧n=z)∨ ∃x k,b=some x∧a.eval x= .int k n:=by
 cases b with
 |none=>simp only[Ks,oI]at h;exact bG ⟨rfl,h.symm⟩
 |some x=>
  simp only[Ks]at h
  split at h
  ·rename_i k i hx
   simp only[oI]at h
   subst h
   exact bg ⟨x,k,rfl,(hop hx).lit⟩
  ·cases h
theorem Jm{m:Nat}{t:Tag}{l:List (T t)}{w':World}{u:Value}{fp:List Nat}(hr:(execOp a.eval o).run P w= .ok (.value u) w')(hb:Below w.heap.size w w')(hB:lP (kk t) (rd t) w.heap.size (ty t) w' u l fp):
  o.wp P a w (Bb ty st a w env o.dst (.one (.a (.own m))) [(m, .arr t l)]) Q:=by
 unfold iK
 rw[hr]
 obtain⟨env',hN,hl⟩:=oC.list (ty:=ty) (hp:=st.hp) (env:=env) (os:= [(m, .arr t l)]) (ce:= [⟨u,fp⟩]) hb (by simp[kf,look]) ⟨⟨fun _ _=>RO.Jg (lP.mono hB (aA _)),(lP.own hB).ge⟩,trivial⟩ (by simpa using(lP.own hB).nodup)
 have h2:env' m=⟨u,fp⟩:=hl.1.2
 exact⟨u,env',rfl,hN,⟨t,l,look_eq⟩,by rw[h2]⟩
theorem tY{α:Type}{k:Nat}{E:ER α}(G:jA k E)(hk:0<k){w:World}{u:Value}{l:List α}{fp:List Nat}(h:Sl k E w u l fp):
  ∃(news:List Value) (fx:List (List Nat)),Src w u l.length news∧fx.length=l.length∧news.length=l.length*k∧(∀i x f,l[i]? =some x→fx[i]? =some f→E w ((news.drop (i*k)).take k) x f)∧fx.flatten.Sublist fp∧ ∀b r,fp=b::r→fx.flatten=r:=by
 obtain⟨oa,cap,rfl,hc,hm,h3⟩:=h
 rcases h3 with⟨rfl,rfl,hno⟩| ⟨b,off,cu,rfl,hb,rfl,he⟩
 ·refine⟨[],[],?_,rfl,by simp,by simp,by simp,fun b r h=>by cases h⟩
  cases oa with
  |none=>exact bG ⟨by simp[hno],rfl,rfl⟩
  |some a=>exact bg ⟨a,cap,rfl,by simp⟩
 ·have hcell: ∀j,j<l.length*k→ ∃v,w.cell? ⟨b,off+j,none⟩=some v:=by
   intro j hj
   have hi:j/k<l.length:=Nat.div_lt_of_lt_mul (by rw[mP];omega)
   obtain⟨f,hf⟩:=kG he.1 (au hi)
   obtain⟨cs,hr,hE⟩:=he.2 _ _ f (au hi) hf
   have hl:=G.len hE
   have hml:=Nat.mod_lt j hk
   have:=hr (j % k) cs[j % k] (au (by omega))
   refine⟨cs[j % k]'(by omega),?_⟩
   rw[←this]
   congr 2
   have:=Nat.div_add_mod j k
   have:=mP k (j/k)
   omega
  refine⟨(bA (l.length*k)).map fun j=>(w.cell? ⟨b,off+j,none⟩).getD undef,cu,bg ⟨_,cap,rfl,?_⟩,he.1,by simp,?_,ox _ _,fun b r h=>by cases h;rfl⟩
  ·intro j u hu
   have hj:j<l.length*k:=by have:=(aI.1 hu).1;simpa using this
   obtain⟨v,hv⟩:=hcell j hj
   simp[hj,hv]at hu
   rw[eM,hv,hu]
  ·intro i x f hx hf
   obtain⟨cs,hr,hE⟩:=he.2 i x f hx hf
   have hl:=G.len hE
   have hi:i<l.length:=(aI.1 hx).1
   have h5:i*k+k≤l.length*k:=by
    have:=bI k (show i+1≤l.length by omega)
    rw[cG]at this;omega
   have:(((bA (l.length*k)).map fun j=>(w.cell? ⟨b,off+j,none⟩).getD undef).drop (i*k)).take k=cs:=by
    apply tW
    intro j
    by_cases hj:j<k
    ·rw[cE,if_pos hj,cJ]
     have h6:=hr j cs[j] (au (by omega))
     rw[dN,rA (by omega)]
     simp[←fB,h6,show j<cs.length by omega]
    ·rw[cE,if_neg hj,kJ (by omega)]
   rw[this];exact hE
theorem Z2{α:Type}{k:Nat}{E:ER α}(G:jA k E)(hk:0<k){w:World}{l:List α}{news:List Value}{fx:List (List Nat)}(hf:fx.length=l.length)(hl:news.length=l.length*k)
  (hE: ∀i x f,l[i]? =some x→fx[i]? =some f→E w ((news.drop (i*k)).take k) x f): ∀u,u∈news→u.oneCell'=true:=uR G hf hl hk hE
theorem Z3{P:Program}{w:World}{t ty' e:TypeId}{z:Value}{k bytes:Nat}(ht:P.underlying t=some (.slice e))(Vi:(P.info? e).map (fun i=>(i.zero,i.size,i.bytes))=some (some z,k,bytes))(hzs:z.cells.size=k)(hk:0<k)
  {n:Nat}{oa:Option Addr}{olds:List Value}(hsx:Src w (.slice oa n n) n olds)(hlo:olds.length=n*k)
  {m:Nat}{y:Value}{news:List Value}(hsy:Src w y m news)(hl:news.length=m*k)(h1: ∀u,u∈news→u.oneCell'=true)(b1:n+m≤maxLen)(b2:(n+m)*bytes≤140737488355328):
  ∃v' w',(dG #[t,t] ty' #[.slice oa n n,y]).run P w= .ok v' w'∧((m=0∧v'= .slice oa n n∧w'=w)∨(w'.ownsRow w.heap.size e k v' (n+m) (olds++news)∧w.grownBy w' none)):=by
 obtain⟨i,hi,hz,hsize,hby⟩:=info_parts Vi
 rcases hsy with⟨rfl,rfl,rfl⟩| ⟨a,c,rfl,hnews⟩
 ·refine⟨.slice oa n n,w,?_,bG ⟨rfl,rfl,rfl⟩⟩
  cases oa with
  |none=>simp[dG,run_underlying ht,sizeOf,typeInfo,hi,jf,kr,storeCells]
  |some b=>simp[dG,run_underlying ht,sizeOf,typeInfo,hi,jf,kr,storeCells]
 ·by_cases hm:m=0
  ·subst hm
   have hn0:news= []:=bR (by omega)
   subst hn0
   refine⟨.slice oa n n,w,?_,bG ⟨rfl,rfl,rfl⟩⟩
   have hfc:=run_firstCells_some (P:=P) w i.size 0 a 0 c [] (by simp) (by simp)
   cases oa with
   |none=>simp[dG,run_underlying ht,sizeOf,typeInfo,hi,jf,hfc]
   |some b=>simp[dG,run_underlying ht,sizeOf,typeInfo,hi,jf,hfc,storeCells]
  ·rcases hsx with⟨hx,rfl,rfl⟩| ⟨b,cb,hx,holds⟩
   ·simp only[cK]at hx
    obtain⟨rfl,_⟩:=hx
    obtain⟨v',w',hrun,r1,r2,_⟩:=run_append_own (P:=P) w w.heap.size t ty' e i z k bytes ht hi hz hsize hby hzs hk (.slice none 0 0) 0 [] (World.ownsRow_nil w _ e k) a m c news hl hnews h1 b1 b2 (bh _)
    exact⟨v',w',hrun,bg ⟨r1,r2⟩⟩
   ·simp only[cK]at hx
    obtain⟨rfl,_,rfl⟩:=hx
    obtain⟨v',w',hrun,r1,r2⟩:=run_append_arg_grows (P:=P) w t ty' e i z k bytes ht hi hz hsize hby hzs hk b n n olds hlo holds a m c news hl hnews (by omega) b1 b2
    exact⟨v',w',hrun,bg ⟨r1,r2⟩⟩
theorem adH{α:Type}{k:Nat}{E:ER α}{w:World}{oa:Option Addr}{cap:Nat}{l:List α}{fp:List Nat}(h:Sl k E w (.slice oa l.length cap) l fp){j q:Nat}(hj:j≤l.length)(hq:q=0):
  ∃je,Sl k E w (.slice (if j=0 then oa else oa.map (·.add q)) j j) (l.take j) je∧ ∀b,b∈je→b∈fp:=by
 subst hq
 obtain⟨Zm,cap',hu,hc,hm,h3⟩:=h
 simp only[cK,true_and]at hu
 obtain⟨rfl,rfl⟩:=hu
 have hlen:(l.take j).length=j:=by rw[bL];omega
 by_cases h0:j=0
 ·subst h0
  refine⟨[],⟨oa,0,by simp,by simp,aA _,bG ⟨by simp,rfl,rfl⟩⟩,by simp⟩
 ·rcases h3 with⟨rfl,_⟩| ⟨b,off,cu,rfl,hb,rfl,he⟩
  ·simp at hj;omega
  ·rw[if_neg h0]
   refine⟨b::(cu.take j).flatten,⟨_,j,by rw[hlen],by omega,by omega,bg ⟨b,off,cu.take j,by simp[eM],hb.mono (Nat.add_le_add_left (bI _ (by omega)) _),rfl,?_,fun i x f hx hf=> ?_⟩⟩,fun c hc=> ?_⟩
   ·have:=he.1;simp[this]
   ·rw[cE]at hx hf
    split at hx
    ·rename_i hij
     rw[if_pos hij]at hf
     exact he.2 i x f hx hf
    ·cases hx
   ·rcases aW.1 hc with rfl|hc
    ·simp
    ·exact aJ _ ((sR (CL j cu)).subset hc)
theorem adI{α:Type}{k:Nat}{E:ER α}{w:World}{lo e:Nat}{v:Value}{l:List α}{xs:List Value}{cu:List (List Nat)}(h:w.ownsRow lo e k v l.length xs)(hf:cu.length=l.length)(he: ∀i x f,l[i]? =some x→cu[i]? =some f→E w ((xs.drop (i*k)).take k) x f):
  Sl k E w v l (v.ownBlock.toList++cu.flatten):=by
 have hlt:=h.lt
 have hcells: ∀g,v.ownBlock=some g→ ∀j u,xs[j]? =some u→w.cell? ((⟨g,0,none⟩:Addr).add j)=some u:=fun g hg=>h.cells (g:=g) hg
 rcases h.2 with⟨rfl,h0⟩| ⟨g,cap,cur,rfl,Zn,hg,hnc,hcm,hcs,FR⟩
 ·have hl:l= []:=bR h0
  subst hl
  have:cu= []:=bR (by simpa using hf)
  subst this
  exact⟨none,0,rfl,bh _,aA _,bG ⟨rfl,rfl,rfl⟩⟩
 ·refine⟨some ⟨g,0,none⟩,cap,rfl,hnc,hcm,bg ⟨g,0,cu,rfl,⟨cur,e,(0,0),hg,by omega⟩,rfl,Kb hf (fun j u hu=> ?_) he⟩⟩
  have:=hcells g rfl j u hu
  rwa [eM,eE]at this
theorem My{w:World}{hp:Hp}{env:Env}: ∀{l:List V} {us:List Value},plain l=true→cO (RA w hp env) l us→dM w l us []:=by
 intro l
 induction l with
 |nil=>intro us _ h;cases us with
  |nil=>rfl
  |cons _ _=>exact h.elim
 |cons v r ih=>
  intro us rz h
  cases us with
  |nil=>exact h.elim
  |cons u us=>
   unfold plain at rz
   split at rz
   ·rename_i heq;cases heq
   ·cases rz
   ·rename_i heq
    simp only[cx]at heq
    obtain⟨rfl,rfl⟩:=heq
    exact⟨[],[],⟨h.1.1,h.1.2,rfl⟩,ih rz h.2,rfl⟩
   ·cases rz
theorem Rb(g:Good ty zb st a.tmps w env): ∀{l c:List V} {n:Nat} {us:List Value},cO (RA w st.hp env) l us→zV st.hp l=some (c,n)→ ∃t l' fp,look st.hp n=some (.arr t l')∧dM w c us fp∧fp.Nodup∧ ∀b,b∈fp→b∈(env n).fp
 | [],_,_,_,_,h=>by simp[zV]at h
 |v::r,c,n,us,hr,h=>by
  cases us with
  |nil=>exact hr.elim
  |cons u us=>
   unfold zV at h
   split at h
   ·rename_i m r' he
    simp only[cx]at he
    obtain⟨rfl,rfl⟩:=he
    split at h
    ·rename_i t l hl rz
     simp only[oI,pI]at h
     obtain⟨rfl,rfl⟩:=h
     obtain⟨_,rfl⟩:=hr.1
     exact⟨t,l,(env m).fp,hl,⟨_,[],RO.sl (g.obj m _ hl),My rz hr.2,by simp⟩,(RO.own (g.obj m _ hl)).nodup,fun _ hb=>hb⟩
    ·cases h
   ·rename_i m pp t l r' he
    simp only[cx]at he
    obtain⟨rfl,rfl⟩:=he
    split at h
    ·rename_i t0 l0 hl rz
     simp only[oI,pI]at h
     obtain⟨rfl,rfl⟩:=h
     obtain⟨_,⟨fp,h1,h2,h3⟩,_⟩:=hr.1
     exact⟨t0,l0,fp,hl,⟨fp,[],h1,My rz hr.2,by simp⟩,h2,h3⟩
    ·cases h
   ·cases h
   ·rename_i x r' _ he
    simp only[cx]at he
    obtain⟨rfl,rfl⟩:=he
    split at h
    ·rename_i c' n' h'
     simp only[oI,pI]at h
     obtain⟨rfl,rfl⟩:=h
     obtain⟨t,l',fp,h1,h2,h3,h4⟩:=Rb g hr.2 h'
     exact⟨t,l',fp,h1,⟨[],_,⟨hr.1.1,hr.1.2,rfl⟩,h2,by simp⟩,h3,h4⟩
    ·cases h
   ·cases h
theorem Ph(g:Good ty zb st a.tmps w env){s:S1}{u:Value}(hr:ji w st.hp env s u){c:List V}{n:Nat}(h:zV st.hp (cellsOf s)=some (c,n)):cO (RA w st.hp env) (cellsOf s) u.cells.toList:=by
 cases s with
 |agg l=>obtain⟨cs,rfl,hl⟩:=hr;exact hl
 |a v=>
  have hv:v≠ .any:=by rintro rfl;simp[cellsOf,zV]at h
  have:=mQ g (show RA w st.hp env v u from hr) hv
  rw[this]
  exact⟨hr,trivial⟩
theorem Jn(g:Good ty zb st a.tmps w env){p:List (Nat×Bool)}(hp:holds a.tmps p){t:Tag}: ∀{ps:List (Nat×Operand)} {i:Nat} {vc:List Prop} {xs:List (T t)},tE st p t i ps=some (vc,xs)→(∀q,q∈vc→q)→
  (ps.map fun p=>(p.1,a.eval p.2))=zh i (ps.map fun p=>a.eval p.2)∧xs.length=ps.length∧ ∀(i:Nat) (x:T t),xs[i]? =some x→ ∃p:Nat×Operand,ps[i]? =some p∧rd t w (a.eval p.2).cells.toList x []
 | [],i,vc,xs,h,_=>by
   simp only[tE,oI,pI]at h
   obtain⟨rfl,rfl⟩:=h
   exact⟨rfl,rfl,by simp⟩
 | (j,x)::r,i,vc,xs,h,hv=>by
   simp only[tE]at h
   split at h
   ·rename_i s hij hx
    have hij:=av hij
    subst hij
    split at h
    ·rename_i tO y vcs ys rz he hb
     simp only[oI,pI]at h
     obtain⟨rfl,rfl⟩:=h
     obtain⟨q1,q2,q3⟩:=Jn g hp hb (fun q hq=>hv q (aH _ hq))
     have hc: ∃us,(a.eval x).cells.toList=us∧dM w (cellsOf s) us []:=by
      have hs:=gu g hp hx
      have key: ∀{l:List V} {us:List Value},plain l=true→cO (RA w st.hp env) l us→dM w l us []:=by
       intro l
       induction l with
       |nil=>intro us _ h;cases us with
        |nil=>rfl
        |cons _ _=>exact h.elim
       |cons v r ih=>
        intro us rz h
        cases us with
        |nil=>exact h.elim
        |cons u us=>
         unfold plain at rz
         split at rz
         ·rename_i heq;cases heq
         ·cases rz
         ·rename_i heq
          simp only[cx]at heq
          obtain⟨rfl,rfl⟩:=heq
          exact⟨[],[],⟨h.1.1,h.1.2,rfl⟩,ih rz h.2,rfl⟩
         ·cases rz
      cases s with
      |agg l=>
       obtain⟨cs,hu,hl⟩:=hs
       exact⟨cs,by rw[hu];rfl,key rz hl⟩
      |a v=>
       have hne:v≠ .any:=by rintro rfl;cases rz
       exact⟨[a.eval x],by rw[mQ g hs hne],key rz ⟨hs,trivial⟩⟩
     obtain⟨us,V1,OM⟩:=hc
     refine⟨by simp[zh,q1],by simp[q2],fun i' x' hx'=> ?_⟩
     cases i' with
     |zero=>
      simp at hx'
      subst hx'
      exact⟨(i,x),rfl,by rw[V1];exact uW t he (fun q hq=>hv q (aM _ hq)) OM⟩
     |succ n=>
      obtain⟨p,h1,h2⟩:=q3 n x' (by simpa using hx')
      exact⟨p,by simpa using h1,h2⟩
    ·cases h
   ·cases h
theorem Z4(g:Good ty zb st a.tmps w env){p:List (Nat×Bool)}(hp:holds a.tmps p){x:Operand}{k:IntKind}{i:Int}(h:Tj st p x=some (k,i)):a.eval x= .int k i:=by
 unfold Tj at h
 split at h
 ·rename_i k' i' hx
  simp only[oI,pI]at h
  obtain⟨rfl,rfl⟩:=h
  exact(gu g hp hx).lit
 ·cases h
theorem Gu(g:Good ty zb st a.tmps w env){p:List (Nat×Bool)}(hp:holds a.tmps p): ∀{xs:List Operand} {ys:List (IntKind×Int)},A8 st p xs=some ys→xs.map a.eval=ys.map fun y=> .int y.1 y.2
 | [],ys,h=>by simp only[A8,oI]at h;subst h;rfl
 |x::r,ys,h=>by
  simp only[A8]at h
  split at h
  ·rename_i y ys' h1 h2
   simp only[oI]at h
   subst h
   rw[cA,cA,Gu g hp h2,Z4 g hp h1]
  ·cases h
theorem Gv{F:Int→Int→Int}{f:Value→Value→Sem Value}(hf: ∀(k:IntKind) (x y:Int),f (.int k x) (.int k y)=pure (.int k (F x y))){k:IntKind}: ∀{ys:List (IntKind×Int)} {x z:Int},Jf F k x ys=some z→(List.foldlM f (.int k x) (ys.map fun y=> .int y.1 y.2)).run P w= .ok (.int k z) w
 | [],x,z,h=>by simp only[Jf,oI]at h;subst h;rfl
 | (k',y)::r,x,z,h=>by
   simp only[Jf]at h
   split at h
   ·rename_i hk _
    subst hk
    rw[cA,List.foldlM_cons,hf]
    simp only[pure_bind]
    exact Gv hf h
   ·cases h
theorem Mz(g:Good ty zb st a.tmps w env){p:List (Nat×Bool)}(hp:holds a.tmps p){n:Nat}{fo:List Nat}{pl:Nat→Option (Nat×Nat)}(rz: ∀j o k,sJ fo j=some o→fsz n fo j=some k→pl j=some (o,k)):
  ∀{ps:List (Nat×Operand)} {c c':List V} {cs:List Value},vP st p n fo ps c=some c'→cO (RA w st.hp env) c cs→
   ∃cs',qM pl (eU cs) (ps.map fun q=>(q.1,a.eval q.2))=some (eU cs')∧cO (RA w st.hp env) c' cs'
 | [],c,c',cs,h,hc=>by
   simp only[vP,oI]at h
   subst h
   exact⟨cs,rfl,hc⟩
 | (j,x)::r,c,c',cs,h,hc=>by
   simp only[vP]at h
   split at h
   ·rename_i o' k s h1 h2 hx
    split at h
    ·rename_i c1 hna hs
     simp only[aj]at hna
     have hk:=av hna.2
     have Fq:=zW g hp hx
     have hcs: ∃us,(a.eval x).cells=eU us∧cO (RA w st.hp env) (cellsOf s) us:=by
      cases s with
      |agg l=>obtain⟨us,hu,hl⟩:=Fq;exact⟨us,by rw[hu];rfl,hl⟩
      |a v=>
       have hne:v≠ .any:=by rintro rfl;simp[cellsOf,wY]at hna
       exact⟨[a.eval x],mQ g Fq hne,Fq,trivial⟩
     obtain⟨us,V1,ON⟩:=hcs
     obtain⟨q1,q2⟩:=KA hc ON hs
     obtain⟨cs',h3,h4⟩:=Mz g hp rz h q2
     refine⟨cs',?_,h4⟩
     rw[cA,qM,rz j o' k h1 h2]
     simp only[V1]
     have hl:=ON.len
     rw[if_neg (by simp;omega)]
     have VW:((eU us).zipIdx.foldl (fun cs (x:Value×Nat)=>cs.setIfInBounds (o'+x.2) x.1) (eU cs))=splice (eU cs) o' us:=by
      rw[←Be,zY,uZ,kH]
     show qM _ ((eU us).zipIdx.foldl (fun cs (x:Value×Nat)=>cs.setIfInBounds (o'+x.2) x.1) (eU cs)) _=_
     rw[VW,sQ us cs o' q1]
     exact h3
    ·cases h
   ·cases h
theorem Bg{w:World}{t:Nat}{d:Nat}(hu:P.underlying t=some .bool){x y:Bool}:(Op.equalIn (d+1) t (.bool x) (.bool y)).run P w= .ok (x==y) w:=by
 simp[Op.equalIn,run_underlying hu]
theorem V2{x:Operand}{op:Op}{out:Out}(iJ:o.op=op)(hm:op= .move x∨op= .assign x)(g:Good ty zb st a.tmps w env)(h:VH st x=some out):o.wp P a w (Bb ty st a w env o.dst out.v out.o) Q:=by
 unfold VH at h
 split at h
 ·rename_i t
  split at h
  ·rename_i l hl
   simp only[oI]at h
   subst h
   have hr:=g.slot t _ hl
   rcases hm with rfl|rfl
   ·exact Gk (by unfold execOp;simp only[iJ,cL];rfl) hr
   ·exact Gk (by unfold execOp;simp only[iJ,cL];rfl) hr
  ·cases h
 ·cases h
theorem Tp{n:Nat}(hr:(execOp a.eval o).run P w= .ok (.value (.map (some w.heap.size))) (w.alloc (.map #[] 0))):
  o.wp P a w (Bb ty st a w env o.dst (.one (.a (.yC n))) [(n, .jc .int [] .mp)]) Q:=by
 unfold iK
 rw[hr]
 have hm: ∀kg env',RO ty (w.alloc (.map #[] 0)) kg env' n (.jc .int [] .mp) ⟨.map (some w.heap.size),[w.heap.size]⟩:=fun _ _=>⟨w.heap.size,[],rfl,rfl,#[],0,(MA w _).1,rfl⟩
 obtain⟨env',h1,h2⟩:=oC.list (ty:=ty) (hp:=st.hp) (env:=env) (os:= [(n, .jc .int [] .mp)]) (ce:= [⟨.map (some w.heap.size),[w.heap.size]⟩]) ((jd _ _).alloc (bh _) _) rfl ⟨⟨hm,by simp⟩,trivial⟩ (by simp)
 exact⟨_,env',rfl,h1,⟨.int,[], .mp,by simp[look]⟩,by rw[h2.1.2]⟩
theorem MB{Γ:Nat→TK}(C: ∀t,fD P t (Γ t)){cr:List (Nat×CR)}{p:List (Nat×Bool)}{d m:Nat}{out:Out}(h:quiet Γ (OL P ty) (Sound ty P) cr st p d m o.op=some out)
  (g:Good ty zb st a.tmps w env)(hp:holds a.tmps p)(hA:Ko w)(hv: ∀q,q∈out.vc→q)(hf:fresh st.hp out.o=true)(hn:kf out.o=true):
  o.wp P a w (Bb ty st a w env o.dst out.v out.o) Q:=by
 have hop: ∀{q x v},holds a.tmps q→jh st q x=some v→ji w st.hp env v (a.eval x):=fun hq hx=>gu g hq hx
 generalize iJ:o.op=op at h
 cases op with
 |move x=>
  simp only[quiet]at h
  split at h
  ·rename_i v hx
   simp only[gr,oI]at h
   subst h
   exact fH (by unfold execOp;simp only[iJ,cL]) (zW g hp hx)
  ·exact V2 iJ (bG rfl) g h
 |assign x=>
  simp only[quiet]at h
  split at h
  ·rename_i v hx
   simp only[gr,oI]at h
   subst h
   exact fH (by unfold execOp;simp only[iJ,cL]) (zW g hp hx)
  ·exact V2 iJ (bg rfl) g h
 |pick c x y=>
  cases c with
  |tmp c=>
   simp only[quiet]at h
   split at h
   ·rename_i t u v h1 h2 h3
    simp only[gr,oI]at h
    subst h
    have hc:=(hop hp h1).lit
    have L2:a.tmps[c]? =some (.bool t):=Pa hc
    refine fH (u:= .bool (if t then u else v)) ?_ ⟨rfl,rfl⟩
    unfold execOp
    cases t with
    |true=>
     have hx:=(hop (q:=(c,true)::p) (by intro e he;rcases aW.1 he with rfl|he;exact L2;exact hp e he) h2).lit
     simp[iJ,hc,hx,asBool]
    |false=>
     have hx:=(hop (q:=(c,false)::p) (by intro e he;rcases aW.1 he with rfl|he;exact L2;exact hp e he) h3).lit
     simp[iJ,hc,hx,asBool]
   ·cases h
  |_=>simp[quiet]at h
 |box e x=>
  simp only[quiet]at h
  split at h
  ·rename_i l hx
   simp only[oI]at h
   subst h
   obtain⟨cs,hu,hl⟩:=hop hp hx
   exact CI (cs:=cs) (e:=e) (by unfold execOp;simp[iJ,V3,newVar,newRow,hu,eu]) g hf hl
  ·cases h
  ·rename_i v hne hx
   simp only[oI]at h
   subst h
   have hr:=hop hp hx
   have hc:=mQ g (show RA w st.hp env v (a.eval x)from hr) (fun e=>hne e)
   exact CI (cs:= [a.eval x]) (e:=e) (by unfold execOp;simp[iJ,V3,newVar,newRow,hc]) g hf ⟨hr,trivial⟩
  ·cases h
 |alloc t=>
  simp only[quiet]at h
  split at h
  ·rename_i z tg fo hk
   simp only[oI]at h
   subst h
   have hC:=C t
   rw[hk]at hC
   obtain⟨fs,hu,hi,h1,_⟩:=hC
   refine CI (cs:=z) (e:=t) ?_ g hf (Gr h1)
   unfold execOp
   cases hq:P.info? t with
   |none=>simp[hq]at hi
   |some i=>
    simp[hq]at hi
    simp[iJ,Instr.alloc,zeroValue,typeInfo,hq,hi.2,newVar,newRow,eu]
  ·cases h
 |load t x=>
  simp only[quiet]at h
  split at h
  ·rename_i n off hx
   obtain⟨_,b,hb,hu⟩:=hop hp hx
   split at h
   ·rename_i c hl
    obtain⟨b',cs,e,Eb,hh,hc⟩:=g.obj n _ hl
    have hbb:b=b':=by
     rw[Eb]at hb
     simpa using hb.symm
    subst hbb
    have Bh:w.rangeAt b 0 cs:=by simpa using Vy hh
    split at h
    ·rename_i z tg fo hk
     split at h
     ·rename_i l hs
      simp only[gr,oI]at h
      subst h
      have hC:=C t
      rw[hk]at hC
      obtain⟨k1,k2⟩:=VS hc hs
      exact wp_load_row iJ hC hu (by have:=pK (k:=z.length) (j:=off) Bh;rwa [eE]at this) k2 k1
     ·cases h
    ·cases h
    ·rename_i k1 k2
     split at h
     ·rename_i v hs
      simp only[gr,oI]at h
      subst h
      obtain⟨u,q1,q2⟩:=hc.at (Kx hs)
      refine sP iJ (C t) ?_ ?_ hu (by have:=pL Bh q1;rwa [eE]at this) (RA.VF q2)
      ·intro z tg fo hz;exact k1 z tg fo hz
      ·exact k2
     ·cases h
   ·cases h
  ·rename_i gt y off hx
   obtain⟨b,o',cs,fp,hu,_,Bh,hE,_,hd⟩:=hop hp hx
   have hc:=VT hE hd
   split at h
   ·rename_i z tg fo hk
    split at h
    ·rename_i l hs
     simp only[gr,oI]at h
     subst h
     have hC:=C t
     rw[hk]at hC
     obtain⟨k1,k2⟩:=VS hc hs
     exact wp_load_row iJ hC hu (pK Bh) k2 k1
    ·cases h
   ·cases h
   ·rename_i k1 k2
    split at h
    ·rename_i v hs
     simp only[gr,oI]at h
     subst h
     obtain⟨u,q1,q2⟩:=hc.at (Kx hs)
     refine sP iJ (C t) ?_ ?_ hu (pL Bh q1) q2
     ·intro z tg fo hz;exact k1 z tg fo hz
     ·exact k2
    ·cases h
  ·rename_i n gt y off hx
   obtain⟨⟨tA,lA,hl⟩,b,o',cs,fp,hu,hb,Bh,hE,hd⟩:=hop hp hx
   have hR:=reads gt hE
   split at h
   ·rename_i z tg fo hk
    split at h
    ·rename_i l hs
     simp only[gr,oI]at h
     subst h
     have hC:=C t
     rw[hk]at hC
     obtain⟨f',r1,r2,r3,r4⟩:=dM.sub hR hs
     exact wp_load_row iJ hC hu (pK Bh) r4 (Ra hl r1 (r2.nodup hd.1) (fun x hx=>hd.2.1 x (r2.subset hx)))
    ·cases h
   ·cases h
   ·rename_i k1 k2
    split at h
    ·rename_i v hs
     simp only[gr,oI]at h
     subst h
     obtain⟨u,f',q1,q2,q3⟩:=dM.at hR hs
     refine sP iJ (C t) ?_ ?_ hu (pL Bh q1) (KB hl q2 (q3.nodup hd.1) (fun x hx=>hd.2.1 x (q3.subset hx)) (by simp))
     ·intro z tg fo hz;exact k1 z tg fo hz
     ·exact k2
    ·cases h
  ·rename_i n i off hx
   obtain⟨tA,lA,hlA,b,o',len,cap,EN,hu⟩:=hop hp hx
   split at h
   ·rename_i gt l hl
    rw[hl]at hlA
    simp only[oI,Obj.arr.injEq]at hlA
    obtain⟨rfl,_⟩:=hlA
    split at h
    ·rename_i z tg fo hk
     split at h
     ·rename_i c hs
      simp only[oI]at h
      subst h
      have hi:i<l.length:=hv _ (aP.2 rfl)
      obtain⟨b2,o2,age,cs,f,Tq,hb,Bh,hE,hd⟩:=Gt g hl hi
      rw[Tq]at EN
      simp only[cK,oI,eZ,and_true]at EN
      obtain⟨⟨rfl,rfl⟩,rfl,rfl⟩:=EN
      have hC:=C t
      rw[hk]at hC
      obtain⟨f',r1,r2,r3,r4⟩:=dM.sub (reads gt hE) hs
      refine wp_load_row iJ hC hu (pK Bh) r4 (Q9 hl hi Tq hb r1 ((r2.trans hd).nodup (RO.own (g.obj _ _ hl)).nodup) (fun x hx=>hd.subset (r2.subset hx)) (fun j v hj=> ?_) (pK Bh))
      rw[r3,cE]at hj
      split at hj
      ·rw[cJ]at hj;rw[Bf];exact hj
      ·cases hj
     ·cases h
    ·cases h
    ·rename_i k1 k2
     split at h
     ·rename_i v hs
      simp only[oI]at h
      subst h
      have hi:i<l.length:=hv _ (aP.2 rfl)
      obtain⟨b2,o2,age,cs,f,Tq,hb,Bh,hE,hd⟩:=Gt g hl hi
      rw[Tq]at EN
      simp only[cK,oI,eZ,and_true]at EN
      obtain⟨⟨rfl,rfl⟩,rfl,rfl⟩:=EN
      obtain⟨u,f',q1,q2,q3⟩:=dM.at (reads gt hE) hs
      refine sP iJ (C t) ?_ ?_ hu (pL Bh q1) (KB hl q2 ((q3.trans hd).nodup (RO.own (g.obj _ _ hl)).nodup) (fun x hx=>hd.subset (q3.subset hx)) ?_)
      ·intro z tg fo hz;exact k1 z tg fo hz
      ·exact k2
      ·rintro i' off' hio
       simp only[oI,pI]at hio
       obtain⟨rfl,rfl⟩:=hio
       exact⟨b2,o2,_,age,hi,hs,Tq,hb,pL Bh q1⟩
     ·cases h
   ·cases h
  ·cases h
 |binOp op t x y t'=>
  simp only[quiet]at h
  split at h
  ·rename_i k m k' m' h1 h2
   split at h
   ·rename_i vc v hb
    simp only[oI]at h
    subst h
    have hx:=(hop hp h1).lit
    have hy:=(hop hp h2).lit
    obtain⟨q1,q2⟩:=ZY (P:=P) (w:=w) hb hv (t:=t) (X:=x) (Y:=y)
    refine fH (u:=v) ?_ ⟨rfl,q2⟩
    unfold execOp
    simp only[iJ,hx,hy]
    rw[cF,q1]
    rfl
   ·cases h
  ·rename_i m m' h1 h2
   split at h
   ·rename_i vc v hb
    simp only[oI]at h
    subst h
    have hx:=(hop hp h1).lit
    have hy:=(hop hp h2).lit
    obtain⟨q1,q2⟩:=Z0 (P:=P) (w:=w) hb hv (t:=t) (X:=x) (Y:=y)
    refine fH (u:=v) ?_ ⟨rfl,q2⟩
    unfold execOp
    simp only[iJ,hx,hy]
    rw[cF,q1]
    rfl
   ·cases h
  ·rename_i m m' h1 h2
   have hx:=(hop hp h1).lit
   have hy:=(hop hp h2).lit
   have hC:=C t
   split at h
   ·rename_i hk
    rw[hk]at hC
    simp only[gr,oI]at h
    subst h
    refine fH (u:= .bool (m==m')) ?_ ⟨rfl,rfl⟩
    unfold execOp
    simp only[iJ,hx,hy]
    have he:(Op.equal t (.bool m) (.bool m')).run P w= .ok (m==m') w:=Bg hC
    simp[eqGuard,binOp,he]
   ·rename_i hk
    rw[hk]at hC
    simp only[gr,oI]at h
    subst h
    refine fH (u:= .bool (m !=m')) ?_ ⟨rfl,rfl⟩
    unfold execOp
    simp only[iJ,hx,hy]
    have he:(Op.equal t (.bool m) (.bool m')).run P w= .ok (m==m') w:=Bg hC
    simp[eqGuard,binOp,he]
    cases m<;>cases m'<;>rfl
   ·cases h
  ·cases h
 |unOp op t x=>
  cases op with
  |not=>
   simp only[quiet]at h
   split at h
   ·rename_i b hx
    simp only[gr,oI]at h
    subst h
    have hx:=(hop hp hx).lit
    refine fH (u:= .bool (!b)) ?_ ⟨rfl,rfl⟩
    unfold execOp
    simp[iJ,hx,Op.unary]
   ·cases h
  |neg=>
   simp only[quiet]at h
   split at h
   ·rename_i k n hx
    simp only[gr,oI]at h
    subst h
    have hx:=(hop hp hx).lit
    refine fH (u:= .int k (k.wrap (0-n))) ?_ ⟨rfl,rfl⟩
    unfold execOp
    simp[iJ,hx,Op.unary,Op.intArith]
   ·cases h
  |_=>simp[quiet]at h
 |convert s t x=>
  simp only[quiet]at h
  split at h
  ·rename_i k n k1 k2 hx hk1 hk2
   simp only[gr,oI]at h
   subst h
   have hx:=(hop hp hx).lit
   have c1:=C s
   have c2:=C t
   rw[hk1]at c1
   rw[hk2]at c2
   refine fH (u:= .int k2 (k2.wrap n)) ?_ ⟨rfl,rfl⟩
   unfold execOp
   simp[iJ,hx,convert,run_underlying (show P.underlying s=_ from c1),run_underlying (show P.underlying t=_ from c2),Conv.intToInt]
  ·rename_i v g' e hx hk1 hk2
   split at h
   ·rename_i l V4 hl
    simp only[gr,oI]at h
    subst h
    have c1:=C s
    have c2:=C t
    have c3:=C e
    rw[hk1]at c1
    rw[hk2]at c2
    rw[V4]at c3
    have:=To g (hop hp hx) hl c1.1 c3 c2
    refine fH (u:= .string (IB l)) ?_ ⟨rfl,rfl⟩
    unfold execOp
    simp only[iJ,cF,this,bN,cL]
   ·cases h
  ·cases h
 |slice t x lo hi mx=>
  cases mx with
  |some mx=>
   cases lo with
   |some _=>simp[quiet]at h
   |none=>
    cases hi with
    |none=>simp[quiet]at h
    |some hi=>
     simp only[quiet]at h
     split at h
     case h_2=>cases h
     rename_i gt e hk
     have hC:=C t
     rw[hk]at hC
     split at h
     case h_2=>cases h
     rename_i n n1 n2 hx h1 h2
     split at h
     case h_2=>cases h
     rename_i t' l hl
     split at h
     case h_2=>cases h
     rename_i hkk
     have hkk:=av hkk
     simp only[oI]at h
     subst h
     obtain⟨q0,q1,q2⟩:=hv _ (aP.2 rfl)
     obtain⟨hA,hu⟩:=hop hp hx
     have hs:=RO.sl (g.obj n _ hl)
     rw[←show a.eval x=(env n).v from hu]at hs
     obtain⟨oa,cap,EN,hc,hm,h3⟩:=id hs
     obtain⟨y1,k1,e1,e2⟩: ∃y k,some hi=some y∧a.eval y= .int k n1:=by
      rcases nv (hop hp) h1 with⟨h,_⟩|h
      ·cases h
      ·exact h
     obtain⟨y2,k2,e3,e4⟩: ∃y k,some mx=some y∧a.eval y= .int k n2:=by
      rcases nv (hop hp) h2 with⟨h,_⟩|h
      ·cases h
      ·exact h
     simp only[oI]at e1 e3
     subst e1;subst e3
     subst q1
     rw[EN]at hs
     obtain⟨je,r2,r3⟩:=adH hs (j:=n1.toNat) (q:=0*kk gt) (by omega) (by simp)
     have hrun:(execOp a.eval o).run P w= .ok (.value (.slice (if n1.toNat=0 then oa else oa.map (·.add (0*kk gt))) n1.toNat n1.toNat)) w:=by
      obtain⟨hun,hsz⟩:=hC
      cases hq:P.info? e with
      |none=>simp[hq]at hsz
      |some inf=>
       have hsz':inf.size=kk gt:=by simpa[hq]using hsz
       have c1:n1≤(cap:Int):=by omega
       have c2: ¬max n1 0<n1:=by omega
       unfold execOp
       simp[iJ,EN,e2,e4,c2,ir,rC,jC,j0,asIntOf,run_underlying hun,sizeOf,typeInfo,hq,hsz',q0,c1]
     have hlt:(l.take n1.toNat).length=n1.toNat:=by rw[bL];omega
     exact fH hrun ⟨hA,⟨je,r2,fun b hb=>bG (r3 b hb)⟩,fun _=>⟨_,by rw[hlt]⟩⟩
  |none=>
   simp only[quiet]at h
   split at h
   ·rename_i gt e hk
    have hC:=C t
    rw[hk]at hC
    split at h
    ·split at h
     ·rename_i n p' t' l n1 hx h1
      simp only[oI]at h
      subst h
      have hlo:n1=(l.length:Int):=hv _ (aP.2 rfl)
      obtain⟨hA,⟨fp,⟨oa,cap,hu,hc,hm,h3⟩,hnd,hd⟩,_⟩:=hop hp hx
      have hz:oa=none→cap=0:=by
       intro ho
       rcases h3 with⟨_,_,h4⟩| ⟨b,off,cu,h4,_⟩
       ·exact h4
       ·rw[ho]at h4;cases h4
      obtain⟨Zm,r1,r2⟩:=Mx (P:=P) (w:=w) iJ hC hu hc (nv (hop hp) h1) hlo
      refine fH r1 ⟨Zm,cap-l.length,rfl,aA _,by omega,fun ho=> ?_⟩
      rw[hz (r2 ho)];omega
     ·rename_i k n1 hx h1
      simp only[oI]at h
      subst h
      have hlo:n1=(k:Int):=hv _ (aP.2 rfl)
      obtain⟨oa,cap,hu,hc,hm,hz⟩:=hop hp hx
      obtain⟨Zm,r1,r2⟩:=Mx (P:=P) (w:=w) iJ hC hu hc (nv (hop hp) h1) hlo
      refine fH r1 ⟨Zm,cap-k,rfl,aA _,by omega,fun ho=> ?_⟩
      rw[hz (r2 ho)];omega
     ·cases h
    split at h
    ·rename_i t' l n1 hx h1
     split at h
     ·rename_i n2 h2
      split at h
      ·rename_i hkk
       have hkk:=av hkk
       simp only[oI]at h
       subst h
       obtain⟨q0,q1,q2⟩:=hv _ (aP.2 rfl)
       obtain⟨fp,hs,hd⟩:=hop hp hx
       obtain⟨u',je,r1,r2,r3⟩:=CK iJ hC hkk hs (nv (hop hp) h1) (nv (hop hp) h2) q0 q1 q2
       exact fH r1 ⟨je,r2,fun b hb=>hd b (r3.subset hb)⟩
      ·cases h
     ·cases h
    ·rename_i n p' t' l n1 hx h1
     split at h
     ·rename_i n2 h2
      split at h
      ·rename_i hkk
       have hkk:=av hkk
       simp only[oI]at h
       subst h
       obtain⟨q0,q1,q2⟩:=hv _ (aP.2 rfl)
       obtain⟨hA,⟨fp,hs,hnd,hd⟩,_⟩:=hop hp hx
       obtain⟨u',je,r1,r2,r3⟩:=CK iJ hC hkk hs (nv (hop hp) h1) (nv (hop hp) h2) q0 q1 q2
       exact fH r1 ⟨hA,⟨je,r2,r3.nodup hnd,fun b hb=>hd b (r3.subset hb)⟩,by simp⟩
      ·cases h
     ·cases h
    ·rename_i n n1 hx h1
     split at h
     ·rename_i t' l hl
      split at h
      ·rename_i n2 h2
       split at h
       ·rename_i hkk
        have hkk:=av hkk
        simp only[oI]at h
        subst h
        obtain⟨q0,q1,q2⟩:=hv _ (aP.2 rfl)
        obtain⟨hA,hu⟩:=hop hp hx
        have hs:=RO.sl (g.obj n _ hl)
        rw[←show a.eval x=(env n).v from hu]at hs
        obtain⟨u',je,r1,r2,r3⟩:=CK iJ hC hkk hs (nv (hop hp) h1) (nv (hop hp) h2) q0 q1 q2
        exact fH r1 ⟨hA,⟨je,r2,r3.nodup (RO.own (g.obj n _ hl)).nodup,fun b hb=>r3.subset hb⟩,by simp⟩
       ·cases h
      ·cases h
     ·cases h
    ·rename_i oa len cap n1 hx h1
     split at h
     ·rename_i n2 h2
      simp only[oI]at h
      subst h
      obtain⟨q0,q1,q2,q3⟩:=hv _ (aP.2 rfl)
      obtain⟨hu,_⟩:=hop hp hx
      exact fH (Q8 iJ hC hu (nv (hop hp) h1) (nv (hop hp) h2) q0 q1 q2 q3) ⟨rfl,rfl⟩
     ·cases h
    ·cases h
   ·rename_i hk
    have hC:=C t
    rw[hk]at hC
    split at h
    ·rename_i s n1 hx h1
     split at h
     ·rename_i n2 h2
      simp only[oI]at h
      subst h
      obtain⟨q0,q1,q2⟩:=hv _ (aP.2 rfl)
      exact KC iJ hC (hop hp hx).lit (nv (hop hp) h1) (nv (hop hp) h2) q0 q1 q2
     ·cases h
    ·cases h
   ·cases h
 |makeFunc fn first captured=>
  cases fn with
  |func f=>
   simp only[quiet]at h
   split at h
   ·rename_i x hf hc
    split at h
    ·rename_i n hx
     simp only[gr,oI]at h
     subst h
     obtain⟨hA,b,hb,hu⟩:=hop hp hx
     have e1:first= #[]:=by cases first;simp_all
     have e2:captured= #[x]:=by cases captured;simp_all
     refine fH (u:= .func (.func f) #[] #[.pointer (some ⟨b,0,none⟩)]) ?_ ⟨hA,b,hb,rfl⟩
     unfold execOp
     simp[iJ,Instr.makeFunc,e1,e2,hu]
    ·cases h
   ·cases h
  |_=>simp[quiet]at h
 |fieldAddr t x f=>
  simp only[quiet]at h
  split at h
  ·rename_i z tg fo hk
   have hC:=C t
   rw[hk]at hC
   split at h
   ·rename_i k hf'
    split at h
    ·rename_i n off hx
     simp only[gr,oI]at h
     subst h
     obtain⟨hc,b,hb,hu⟩:=hop hp hx
     exact qC iJ hC hf' hu ⟨hc,b,hb,rfl⟩
    ·rename_i gt y off hx
     simp only[gr,oI]at h
     subst h
     obtain⟨b,o',cs,fp,hu,k1⟩:=hop hp hx
     exact qC iJ hC hf' hu ⟨b,o',cs,fp,by rw[fB],k1⟩
    ·rename_i n i off hx
     simp only[gr,oI]at h
     subst h
     obtain⟨t',l,hl,b,o',len,cap,hb,hu⟩:=hop hp hx
     exact qC iJ hC hf' hu ⟨t',l,hl,b,o',len,cap,hb,by rw[fB]⟩
    ·rename_i n gt y off hx
     simp only[gr,oI]at h
     subst h
     obtain⟨hA,b,o',cs,fp,hu,k1,k2,k3,knd,k4,k5⟩:=hop hp hx
     refine qC iJ hC hf' hu ⟨hA,b,o',cs,fp,by rw[fB],k1,k2,k3,knd,k4,fun i o2 j hq=> ?_⟩
     obtain⟨l,u0,b0,tF,len,cap,j1,j2,j3,j4,j5⟩:=k5 i o2 j hq
     rw[hu]at j5
     simp only[Value.pointer.injEq,oI,eZ,and_true]at j5
     obtain⟨rfl,j5⟩:=j5
     exact⟨l,u0,b,tF,len,cap,j1,j2,j3,j4,by rw[j5,fB]⟩
    ·cases h
   ·cases h
  ·cases h
 |indexAddr t x i=>
  simp only[quiet]at h
  split at h
  ·rename_i gt e hk
   have hC:=C t
   rw[hk]at hC
   split at h
   ·rename_i t' l ik n hx hi
    split at h
    ·rename_i hkk
     have hkk:=av hkk
     simp only[oI]at h
     subst h
     obtain⟨h0,h1⟩:=hv _ (aP.2 rfl)
     have hx:=hop hp hx
     have hi:=(hop hp hi).lit
     obtain⟨b,off,len,cap,hu,hlt,hr⟩:=ZX hx h0 h1
     exact uY iJ hC hu hi h0 hlt (by rw[hkk];exact hr)
    ·cases h
   ·rename_i m ik n hx hi
    split at h
    ·rename_i t' l hl
     split at h
     ·rename_i hkk
      have hkk:=av hkk
      simp only[oI]at h
      subst h
      obtain⟨h0,h1⟩:=hv _ (aP.2 rfl)
      obtain⟨_,hu⟩:=hop hp hx
      have hi:=(hop hp hi).lit
      obtain⟨b,o',cap,cs,f,hs,_⟩:=Gt g hl (i:=n.toNat) (by omega)
      exact uY iJ hC (hu.trans hs) hi h0 h1 ⟨t',l,hl,b,o',_,cap,hs,by rw[hkk];simp⟩
     ·cases h
    ·cases h
   ·rename_i m p' t' l ik n hx hi
    split at h
    ·rename_i hkk
     have hkk:=av hkk
     simp only[oI]at h
     subst h
     obtain⟨h0,h1⟩:=hv _ (aP.2 rfl)
     have hx:=hop hp hx
     have hi:=(hop hp hi).lit
     obtain⟨b,off,len,cap,hu,hlt,hr⟩:=Z1 hx h0 h1
     exact uY iJ hC hu hi h0 hlt (by rw[hkk];exact hr)
    ·cases h
   ·cases h
  ·cases h
 |lookup t x y b=>
  cases b with
  |true=>simp[quiet]at h
  |false=>
   simp only[quiet]at h
   split at h
   ·rename_i hk
    have hC:=C t
    rw[hk]at hC
    obtain⟨kt,et,ht,hkt,hz,_⟩:=hC
    split at h
    ·rename_i n k hx hy
     split at h
     ·rename_i tg l0 hl
      split at h
      ·rename_i l hc
       simp only[gr,oI]at h
       subst h
       obtain⟨_,hu⟩:=hop hp hx
       have hy:=(hop hp hy).lit
       obtain⟨r,lx,h1,h2,h3⟩:=g.obj n _ hl
       rw[hc]at h1
       simp only[oI]at h1
       subst h1
       have UW:a.eval x= .map (some r):=by rw[hu,h2]
       refine fH (u:= .int .i64 (sI l k)) ?_ ⟨rfl,rfl⟩
       unfold execOp
       simp only[iJ,UW,hy,cF,cL,Gg ht hkt (hz w) h3,bN]
      ·cases h
     ·cases h
    ·cases h
   ·cases h
 |index t x i=>
  simp only[quiet]at h
  split at h
  ·rename_i hk
   have hC:=C t
   rw[hk]at hC
   split at h
   ·rename_i s k n hx hy
    simp only[oI]at h
    subst h
    have hx:=(hop hp hx).lit
    have hy:=(hop hp hy).lit
    obtain⟨h0,h1⟩:0≤n∧n<(s.size:Int):=hv _ (aP.2 rfl)
    have hlt:n.toNat<s.size:=by omega
    have hgd:s.data.toList.getD n.toNat 0=s[n.toNat]:=by
     have h2:n.toNat<s.data.toList.length:=by rw[Array.length_toList];exact hlt
     rw[ak,au h2]
     simp[ByteArray.getElem_eq_getElem_data]
    refine fH (u:= .int .u8 ((s.data.toList.getD n.toNat 0).toNat:Int)) ?_ ⟨rfl,rfl⟩
    unfold execOp
    simp only[iJ,hx,hy,cF,cL,run_index_string (P:=P) (w:=w) t s k n hC,dif_pos (And.intro h0 h1),bN,hgd]
   ·cases h
  ·cases h
 |makeMap t r=>
  cases r with
  |some _=>simp[quiet]at h
  |none=>
   simp only[quiet]at h
   split at h
   ·simp only[oI]at h
    subst h
    exact Tp (by unfold execOp;simp[iJ,Instr.makeMap])
   ·cases h
 |makeSlice t x y=>
  simp only[quiet]at h
  split at h
  ·rename_i gt e hk
   have hC:=C t
   rw[hk]at hC
   split at h
   ·rename_i k1 n1 k2 n2 hx hy
    simp only[oI]at h
    subst h
    have hE:OL P ty gt e:=hv _ (by simp)
    have hab:n1=n2:=hv _ (by simp)
    have h0:0≤n1:=hv _ (by simp)
    obtain⟨h1,h2⟩:n1.toNat*gl gt≤140737488355328∧n1.toNat≤maxLen:=hv _ (by simp)
    subst hab
    obtain⟨rfl,vQ⟩:=hE
    obtain⟨w',u,fp,r1,r2,r3⟩:=V0 (P:=P) (w:=w) (a:=a) iJ hC.1 vQ (hop hp hx).lit (hop hp hy).lit h0 h1 h2
    exact Jm r1 r2 r3
   ·cases h
  ·cases h
 |buildSlice t len parts=>
  simp only[quiet]at h
  split at h
  ·rename_i gt e hk
   have hC:=C t
   rw[hk]at hC
   split at h
   ·split at h
    case h_2=>cases h
    rename_i x hlen hps
    split at h
    case h_2=>cases h
    rename_i s hx
    split at h
    case h_2=>cases h
    rename_i c n hc
    split at h
    case h_2=>cases h
    rename_i vc y he hbig
    simp only[oI]at h
    subst h
    have hE:OL P ty gt e:=hv _ (by simp)
    obtain⟨rfl,vQ⟩:=hE
    have hs:=hop hp hx
    obtain⟨tA,lA,fpE,hl,OM,hnd,hsub⟩:=Rb g (Ph g hs hc) hc
    have hrd:=uW gt he (fun q hq=>hv q (by simp[hq])) OM
    have hlen:=av hlen
    subst hlen
    have hO0:=RO.own (g.obj n _ hl)
    have hO:Own _ w fpE:=⟨hnd,fun b hb=>hO0.ge b (hsub b hb),fun b hb=>hO0.kind b (hsub b hb)⟩
    have hfl:([fpE]:List (List Nat)).flatten=fpE:=by simp
    obtain⟨w',r1,r2,r3⟩:=yH (P:=P) (w:=w) (a:=a) iJ hC.1 vQ (by rw[zX];exact bT hbig) (by rw[hps];rfl) (aA _) (xs:= [y]) (cu:= [fpE]) (by rw[hps];rfl) (by rw[hps];rfl) rfl
     (fun i x' f hx' hf=>by
      cases i with
      |zero=>simp at hx' hf;subst hx';subst hf;exact⟨(0,x),by rw[hps];rfl,hrd⟩
      |succ i=>simp at hx') (by rw[hfl];exact hO)
    rw[hfl]at r3
    unfold iK
    rw[r1]
    refine⟨_,env,rfl,oC.none r2,⟨tA,lA,hl⟩,w.heap.size,fpE,lP.sl r3,fun ho=> ?_,hnd,hsub⟩
    have:=(g.ow ho).2
    omega
   split at h
   ·rename_i vc xs hlen hbig hb
    simp only[oI]at h
    subst h
    have hE:OL P ty gt e:=hv _ (by simp)
    obtain⟨rfl,vQ⟩:=hE
    obtain⟨q1,q2,q3⟩:=Jn g hp hb (fun q hq=>hv q (by simp[hq]))
    have hfl:(ey xs.length ([]:List Nat)).flatten= []:=by simp
    obtain⟨w',r1,r2,r3⟩:=yH (P:=P) (w:=w) (a:=a) iJ hC.1 vQ (bT hbig) (av hlen) (bh _) (xs:=xs) (cu:=ey xs.length []) q1 q2 (by simp)
     (fun i x f hx hf=>by
      obtain⟨p,h1,h2⟩:=q3 i x hx
      rw[iq]at hf
      split at hf
      ·simp only[oI]at hf;subst hf;exact⟨p,h1,h2⟩
      ·cases hf) (by rw[hfl];exact Own.nil _ _)
    exact Jm r1 r2 r3
   ·cases h
  ·cases h
 |build t parts=>
  simp only[quiet]at h
  split at h
  ·rename_i z tg fo hk
   have hC:=C t
   rw[hk]at hC
   obtain⟨fs,hu,hi,h1,_,places,Gw,rz⟩:=hC
   split at h
   ·rename_i c hb
    simp only[gr,oI]at h
    subst h
    cases hq:P.info? t with
    |none=>simp[hq]at hi
    |some inf=>
     simp[hq]at hi
     obtain⟨cs',h3,h4⟩:=Mz (st:=st) (zb:=zb) g hp (pl:=fun j=>places[j]?) rz hb (Gr h1)
     refine fH (u:= .agg (eU cs')) ?_ ⟨cs',rfl,h4⟩
     have hrun:=run_build (P:=P) w t (parts.map fun(q:Nat×Operand)=>(q.1,a.eval q.2)) (eU cs') (by
      unfold Program.built
      rw[hq,hu]
      simp only[hi.2,Gw]
      rw[mq]
      simpa[eu]using h3)
     unfold execOp
     simp only[iJ,cF,hrun,bN,cL]
   ·cases h
  ·cases h
 |nilCheck x=>
  simp only[quiet]at h
  split at h
  ·rename_i n off hx
   simp only[gr,oI]at h
   subst h
   obtain⟨hA,b,hb,hu⟩:=hop hp hx
   refine fH (u:=a.eval x) ?_ ⟨hA,b,hb,hu⟩
   unfold execOp
   simp[iJ,hu]
  ·rename_i n i off hx
   simp only[gr,oI]at h
   subst h
   obtain⟨t,l,hl,b,o',len,cap,hb,hu⟩:=hop hp hx
   refine fH (u:=a.eval x) ?_ ⟨t,l,hl,b,o',len,cap,hb,hu⟩
   unfold execOp
   simp[iJ,hu]
  ·cases h
 |extract x i=>
  cases x with
  |tmp t=>
   simp only[quiet]at h
   split at h
   ·rename_i l hl
    split at h
    ·rename_i x hx
     simp only[gr,oI]at h
     subst h
     obtain⟨us,hu,qN⟩:=g.slot t _ hl
     obtain⟨u,k1,k2⟩:=qN.at hx
     refine fH ?_ k2
     unfold execOp
     have hu':a.eval (.tmp t)= .tuple us.toArray:=hu
     simp[iJ,hu',Instr.extract,k1]
    ·cases h
   ·cases h
  |_=>simp[quiet]at h
 |call c=>
  obtain⟨callee,xs,ts⟩:=c
  cases callee with
  |value x=>
   cases x with
   |func f=>
    simp only[quiet]at h
    split at h
    ·rename_i as c h1 h2
     simp only[oI]at h
     obtain⟨own,rs⟩:=c
     have hvc:out.vc= [Sound ty P f as rs]:=by
      rw[←h]
      unfold outs
      dsimp only
      (repeat' split)<;>rfl
     exact Q3 iJ rfl (hv _ (by rw[hvc];simp)) hA g (Kw g hp h1) h hn
    ·cases h
   |tmp x=>
    simp only[quiet]at h
    split at h
    ·rename_i v hx
     split at h
     ·rename_i f hfn
      split at h
      ·rename_i as c h1 h2
       simp only[oI]at h
       obtain⟨own,rs⟩:=c
       have hvc:out.vc= [Sound ty P f as rs]:=by
        rw[←h]
        unfold outs
        dsimp only
        (repeat' split)<;>rfl
       exact Q3 iJ (Q6 (hop hp hx) hfn) (hv _ (by rw[hvc];simp)) hA g (Kw g hp h1) h hn
      ·cases h
     ·cases h
    ·cases h
   |_=>simp[quiet]at h
  |builtin b=>
   cases b with
   |append=>
    simp only[quiet]at h
    split at h
    case h_2=>cases h
    rename_i x y t1 t2 hkey hxl htl
    obtain rfl:xs= #[x,y]:=by cases xs;simp_all
    obtain rfl:ts= #[t1,t2]:=by cases ts;simp_all
    split at h
    case h_2=>cases h
    rename_i gt e htt hk
    have htt:=av htt
    subst htt
    split at h
    case h_2=>cases h
    rename_i n t l n2 pq t' l' hx hy
    split at h
    case h_2=>cases h
    rename_i la lb hnn hca hcb
    have hnn:=av hnn
    subst hnn
    simp only[oI]at h
    subst h
    obtain⟨ea,rfl⟩:=fL hca
    subst ea
    obtain⟨eb,rfl⟩:=fL hcb
    subst eb
    have hE:OL P ty t' e:=hv _ (by simp)
    obtain⟨b1,b2⟩:(l.length+l'.length)*gl t'≤140737488355328∧l.length+l'.length≤maxLen:=hv _ (by simp)
    obtain⟨rfl,vQ⟩:=hE
    have hC:=C t1
    rw[hk]at hC
    obtain⟨hA1,⟨fp,hs,hsub⟩,hcap⟩:=hop hp hx
    obtain⟨hA2,⟨Mp,zI,hnd,agh⟩,_⟩:=hop hp hy
    obtain⟨oa,hu⟩:=hcap rfl
    obtain⟨olds,fx,n1,n2,n3,n4,n5,_⟩:=tY (fP t') (iW t') hs
    obtain⟨news,fy,m1,m2,m3,m4,m5,_⟩:=tY (fP t') (iW t') zI
    rw[hu]at n1
    obtain⟨v',w',hrun,hres⟩:=Z3 (ty':=o.type) hC.1 vQ (mB t') (iW t') n1 n3 m1 m3 (Z2 (fP t') (iW t') m2 m3 m4) b2 b1
    have key:Below w.heap.size w w'∧RA w' st.hp env (.mix n false t' (l++l')) v':=by
     rcases hres with⟨h0,rfl,rfl⟩| ⟨hrow,V5⟩
     ·have e0:l'= []:=bR h0
      subst e0
      refine⟨jd _ _,hA1,⟨fp,?_,hsub⟩,fun hh=>by cases hh⟩
      rw[cW, ←hu];exact hs
     ·have Gi:Below w.heap.size w w':=⟨V5.os,V5.tape,V5.output,V5.size,fun b hb=>V5.block b hb (fun h=>by cases h)⟩
      have hkk:=iW t'
      refine⟨Gi,hA1,⟨_,adI (l:=l++l') (cu:=fx++fy) (by rw[aX];exact hrow) (by rw[aX,aX,n2,m2]) (fun i x f hx hf=> ?_),fun b hb=> ?_⟩,fun hh=>by cases hh⟩
      ·refine(fP t').below ?_ Gi
       by_cases hi:i<l.length
       ·rw[bP hi]at hx
        rw[bP (by omega)]at hf
        have h1:i*kk t'+kk t'≤olds.length:=by
         have:=bI (kk t') (show i+1≤l.length by omega)
         rw[cG]at this;omega
        rw[List.drop_append_of_le_length (by omega),List.take_append_of_le_length (by rw[bM];omega)]
        exact n4 i x f hx hf
       ·rw[bQ (by omega)]at hx
        rw[bQ (by omega),n2]at hf
        have h1:i*kk t'=olds.length+(i-l.length)*kk t':=by
         rw[n3, ←cG];congr 1;omega
        rw[h1,mh]
        have h2:olds.drop (olds.length+(i-l.length)*kk t')= []:=fK (by omega)
        rw[h2,eS,Nat.add_sub_cancel_left]
        exact m4 _ x f hx hf
      ·rcases aK.1 hb with hb|hb
       ·refine bg fun ho=> ?_
        have h1:=(g.ow ho).2
        have h2:=(hrow.lt b (by simpa using hb)).1
        omega
       ·rw[List.flatten_append]at hb
        rcases aK.1 hb with hb|hb
        ·exact hsub b (n5.subset hb)
        ·exact bG (agh b (m5.subset hb))
    unfold iK execOp
    simp only[iJ,resolve,invoke,builtin,cF,cL,bN,jV,cA,List.map_nil,hu,hrun]
    exact⟨v',env,rfl,oC.none key.1,key.2⟩
   |max=>
    simp only[quiet]at h
    split at h
    ·rename_i k x r hxs
     split at h
     ·rename_i y hy
      simp only[gr,oI]at h
      subst h
      have he:=Gu g hp hxs
      refine fH (u:= .int k y) ?_ ⟨rfl,rfl⟩
      have hf:=Gv (P:=P) (w:=w) (f:=Builtin.max2) (F:=ZS) (fun k x y=>rfl) hy
      unfold execOp
      simp[iJ,resolve,invoke,builtin,Builtin.max_,he,hf]
     ·cases h
    ·cases h
   |min=>
    simp only[quiet]at h
    split at h
    ·rename_i k x r hxs
     split at h
     ·rename_i y hy
      simp only[gr,oI]at h
      subst h
      have he:=Gu g hp hxs
      refine fH (u:= .int k y) ?_ ⟨rfl,rfl⟩
      have hf:=Gv (P:=P) (w:=w) (f:=Builtin.min2) (F:=CF) (fun k x y=>rfl) hy
      unfold execOp
      simp[iJ,resolve,invoke,builtin,Builtin.min_,he,hf]
     ·cases h
    ·cases h
   |len=>
    simp only[quiet]at h
    split at h
    ·rename_i x t hxl htl
     obtain rfl:xs= #[x]:=by cases xs;simp_all
     obtain rfl:ts= #[t]:=by cases ts;simp_all
     split at h
     ·rename_i v hx
      split at h
      ·rename_i n hn'
       simp only[gr,oI]at h
       subst h
       have hr:=hop hp hx
       have hC:=C t
       cases v with
       |sl t' l=>
        simp only[lenOf]at hn'
        split at hn'
        ·rename_i g' e' hk
         simp only[oI]at hn'
         subst hn'
         rw[hk]at hC
         obtain⟨fp,⟨oa,cap,hu,_⟩,_⟩:=hr
         exact Gl rfl iJ hC.1 hu (bG ⟨_,oa,cap,l.length,rfl,rfl,rfl⟩)
        ·cases hn'
       |own m=>
        simp only[lenOf]at hn'
        split at hn'
        ·rename_i g' e' hk
         rw[hk]at hC
         split at hn'
         ·rename_i t' l hl
          simp only[oI]at hn'
          subst hn'
          obtain⟨_,hu⟩:=hr
          obtain⟨oa,cap,hs,_⟩:=RO.sl (g.obj m _ hl)
          exact Gl rfl iJ hC.1 (hu.trans hs) (bG ⟨_,oa,cap,l.length,rfl,rfl,rfl⟩)
         ·cases hn'
        ·cases hn'
       |vw m p' t' l=>
        simp only[lenOf]at hn'
        split at hn'
        ·rename_i g' e' hk
         simp only[oI]at hn'
         subst hn'
         rw[hk]at hC
         obtain⟨_,⟨fp,⟨oa,cap,hu,_⟩,_⟩,_⟩:=hr
         exact Gl rfl iJ hC.1 hu (bG ⟨_,oa,cap,l.length,rfl,rfl,rfl⟩)
        ·cases hn'
       |lit v=>
        have hu:=(show ji w st.hp env (.a (.lit v)) _ from hr).lit
        simp only[lenOf]at hn'
        split at hn'
        ·rename_i heq;cases heq
        ·rename_i heq;cases heq
        ·rename_i heq;cases heq
        ·rename_i heq
         simp only[V.lit.injEq]at heq
         subst heq
         split at hn'
         ·rename_i g' e' hk
          simp only[oI]at hn'
          subst hn'
          rw[hk]at hC
          exact Gl rfl iJ hC.1 hu (bG ⟨_,none,0,0,rfl,rfl,rfl⟩)
         ·cases hn'
        ·rename_i s heq
         simp only[V.lit.injEq]at heq
         subst heq
         split at hn'
         ·rename_i hk
          simp only[oI]at hn'
          subst hn'
          rw[hk]at hC
          exact Gl rfl iJ hC hu (bg ⟨_,rfl,rfl,rfl⟩)
         ·cases hn'
        ·cases hn'
       |_=>simp[lenOf]at hn'
      ·cases h
     ·cases h
    ·cases h
   |_=>simp[quiet]at h
  |invoke _ _=>simp[quiet]at h
 |_=>simp[quiet]at h
end
end
section
variable{ty:Tag→Nat}
theorem ny{α:Type}{f:Nat×α→α}: ∀{l:List (Nat×α)} {s:Nat},look (l.map fun e=>(e.1,f e)) s=(look l s).map fun x=>f (s,x)
 | [],_=>rfl
 | (j,x)::r,s=>by
   by_cases h:s=j
   ·subst h;rw[cA,look_eq,look_eq];rfl
   ·rw[cA,bX h,bX h];exact ny
theorem Jo{tmps:Array Value}{d:Nat}{u:Value}{p:List (Nat×Bool)}(h:(p.any fun e=>bf e.1 d)=false):holds (tmps.setIfInBounds d u) p↔holds tmps p:=by
 have hne: ∀e,e∈p→d≠e.1:=by
  rintro e he rfl
  rw[bK]at h
  exact h e he (by simp)
 constructor
 ·intro hh e he
  have:=hh e he
  rwa [fE (hne e he)]at this
 ·intro hh e he
  rw[fE (hne e he)]
  exact hh e he
theorem sK.put{w:World}{hp:Hp}{env:Env}{tmps:Array Value}{d:Nat}{u y:Value}{x:SV}(hm:x.mentions d=false)(h:sK w hp env tmps x y):sK w hp env (tmps.setIfInBounds d u) x y:=by
 cases x with
 |one x=>exact h
 |zH l=>exact h
 |cond p x=>exact⟨fun hh=>h.1 ((Jo hm).1 hh),fun hh=>h.2 fun k=>hh ((Jo hm).2 k)⟩
theorem Good.agi{zb:eJ}{st:St}{tmps:Array Value}{w:World}{env:Env}(g:Good ty zb st tmps w env){d:Nat}(hd:d<tmps.size){v:SV}{u:Value}(hv:sK w st.hp env tmps v u)(hm:v.mentions d=false)(f:SV→SV)(hf: ∀s y,look st.sl s=some y→f y= .one (.a .any)∨(f y=y∧y.mentions d=false)):
  Good ty zb ⟨st.n,(d,v)::st.sl.map fun e=>(e.1,f e.2),st.hp⟩ (tmps.setIfInBounds d u) w env:=by
 refine⟨g.obj,g.lR,fun s x hl=> ?_,g.dom,g.pins⟩
 by_cases hs:s=d
 ·subst hs
  have hl:look ((s,v)::_) s=some x:=hl
  rw[look_eq]at hl
  simp only[oI]at hl
  subst hl
  have:(tmps.setIfInBounds s u).getD s undef=u:=by
   rw[aa,Array.getElem?_setIfInBounds_self_of_lt hd];rfl
  rw[this]
  exact hv.put hm
 ·have hl:look ((d,v)::_) s=some x:=hl
  rw[bX hs,ny (α:=SV) (f:=fun e:Nat×SV=>f e.2)]at hl
  cases hq:look st.sl s with
  |none=>rw[hq]at hl;cases hl
  |some y=>
   rw[hq]at hl
   simp only[dz,oI]at hl
   subst hl
   have hgd:(tmps.setIfInBounds d u).getD s undef=tmps.getD s undef:=by
    rw[aa,aa,fE (Ne.symm hs)]
   rw[hgd]
   show sK w st.hp env _ (f y) _
   rcases hf s y hq with h| ⟨h,hm'⟩
   ·rw[h];trivial
   ·rw[h];exact(g.slot s y hq).put hm'
theorem Good.put{zb:eJ}{st:St}{tmps:Array Value}{w:World}{env:Env}(g:Good ty zb st tmps w env){d:Nat}(hd:d<tmps.size){v:SV}{u:Value}(hv:sK w st.hp env tmps v u)(hm:v.mentions d=false):
  Good ty zb (st.put (some d) v) (tmps.setIfInBounds d u) w env:=by
 unfold St.put
 dsimp only
 split
 ·rename_i hno
  have:=g.agi hd hv hm id (fun s y hl=>bg ⟨rfl,by
   rw[bK]at hno
   simpa using hno _ (gM hl)⟩)
  simpa using this
 ·refine g.agi hd hv hm (SV.VG d) fun s y hl=> ?_
  unfold SV.VG
  split
  ·exact bG rfl
  ·rename_i hm';exact bg ⟨rfl,hm'⟩
theorem tZ{zb:eJ}{st:St}{a:Act}{w:World}{env:Env}(g:Good ty zb st a.tmps w env){dst:Option Nat}(hd: ∀d,dst=some d→d<a.tmps.size){v:SV}{u:Value}(hv:sK w st.hp env a.tmps v u)(hm: ∀d,dst=some d→v.mentions d=false):
  Good ty zb (st.put dst v) (a.put dst u).tmps w env:=by
 cases dst with
 |none=>exact g
 |some d=>exact g.put (hd d rfl) hv (hm d rfl)
theorem l6(a:Act)(dst:Option Nat)(u:Value):(a.put dst u).tmps.size=a.tmps.size:=by
 cases dst<;>simp[Act.put]
theorem Bj(st:St)(d:Option Nat)(v:SV):(st.put d v).n=st.n:=by
 unfold St.put
 split
 ·split<;>rfl
 ·rfl
theorem adO(st:St)(d:Option Nat)(v:SV):(st.put d v).hp=st.hp:=by
 unfold St.put
 split
 ·split<;>rfl
 ·rfl
theorem put_defers(a:Act)(dst:Option Nat)(u:Value):(a.put dst u).defers=a.defers:=by
 cases dst<;>rfl
theorem Ab{ops:Array Oper}{o:Oper}{j:Nat}{x:Bool}(hg:o.guard=some (j,x)){q:Oper}(hj:ops[j]? =some q){d:Nat}(hd:q.dst=some d)(tmps:Array Value):
  lB o (yielded ops tmps)=true↔tmps[d]? =some (.bool x):=by
 simp only[lB,hg,yielded,hj,Option.bind_some,hd]
 constructor
 ·intro h
  have h:=eq_of_beq h
  split at h
  ·rename_i b hb
   simp at h
   rw[hb,h]
  ·cases h
 ·intro h
  rw[h];simp
theorem CN{zb:eJ}{st:St}{tmps:Array Value}{w:World}{env:Env}(g:Good ty zb st tmps w env){d:Nat}{p:List (Nat×Bool)}{b x:Bool}(hl:look st.sl d=some (.cond p (.a (.lit (.bool b)))))(h:tmps[d]? =some (.bool x)):holds tmps p∧b=x:=by
 have hs:=g.slot d _ hl
 rw[aa,h]at hs
 by_cases hh:holds tmps p
 ·have:=(hs.1 hh).lit
  simp at this
  exact⟨hh,this.symm⟩
 ·have:=hs.2 hh
  simp[undef]at this
theorem V6{zb:eJ}{st:St}{tmps:Array Value}{w:World}{env:Env}(g:Good ty zb st tmps w env){d:Nat}{b x:Bool}(hl:look st.sl d=some (.one (.a (.lit (.bool b)))))(h:tmps[d]? =some (.bool x)):b=x:=by
 have hs:=g.slot d _ hl
 rw[aa,h]at hs
 have:=(show ji w st.hp env (.a (.lit (.bool b))) (.bool x)from hs).lit
 simp at this
 exact this.symm
theorem Ft{zb:eJ}{st:St}{tmps:Array Value}{w:World}{env:Env}(g:Good ty zb st tmps w env): ∀{p:List (Nat×Bool)},holds tmps p→ ∀q,q∈hyps st p→q
 | [],_,q,hq=>by simp[hyps]at hq
 | (d,x)::r,h,q,hq=>by
   have h0:tmps[d]? =some (.bool x):=h (d,x) (by simp)
   have hr:holds tmps r:=fun e he=>h e (by simp[he])
   simp only[hyps]at hq
   split at hq
   ·rename_i b hl
    rcases aW.1 hq with rfl|hq
    ·exact V6 g hl h0
    ·exact Ft g hr q hq
   ·rename_i p' b hl
    rcases aW.1 hq with rfl|hq
    ·exact(CN g hl h0).2
    ·exact Ft g hr q hq
   ·exact Ft g hr q hq
theorem Rc: ∀{hs:List Prop} {q:Prop},rq hs q→(∀h,h∈hs→h)→q
 | [],_,h,_=>h
 |h'::r,q,h,hh=>Rc (hs:=r) (h (hh h' (by simp))) fun x hx=>hh x (by simp[hx])
section
variable{P:Program}{zb:eJ}{st st':St}{a:Act}{w:World}{Q:Exit→Act→World→Prop}{o:Oper}
def wo(P:Program)(ops:Array Oper)(o:Oper)(a:Act)(w:World)(K:Act→World→Prop)(Q:Exit→Act→World→Prop):Prop:=
 if lB o (yielded ops a.tmps)then o.wp P a w K Q∨(o.asks P a w∧LetsOut Q)else K (a.put o.dst undef) w
theorem mC{ops:Array Oper}(hg:o.guard=none){K:Act→World→Prop}(h:o.wp P a w K Q):wo P ops o a w K Q:=by
 unfold wo
 rw[if_pos (by simp[lB,hg])]
 exact .inl h
theorem Pk(iv:Inv ty zb st a w)(h:D8 st o.dst=true): ∀d,o.dst=some d→d<a.tmps.size:=by
 intro d hd
 rw[hd]at h
 rw[iv.size]
 exact bT h
theorem MC{Γ:Nat→TK}(C: ∀t,fD P t (Γ t)){gL:List (Nat×Nat)}{cr:List (Nat×CR)}{ops:List Oper}{vc:List Prop}{v2:SV}{os:Hp}(h:tU Γ (OL P ty) (Sound ty P) gL cr ops st o=some (vc,v2,os))(iv:Inv ty zb st a w)(hv: ∀q,q∈vc→q):
  wo P ops.toArray o a w (fun a' w'=>Inv ty zb (St.put ⟨st.n,st.sl,os++st.hp⟩ o.dst v2) a' w') Q:=by
 obtain⟨env,g⟩:=iv.good
 have hBz:=iv.kept.size
 simp only[tU]at h
 split at h
 ·rename_i m hd _ oD
  have zi:=Pk iv hd
  have hg:o.guard=none:=by
   cases hg:o.guard with
   |none=>rfl
   |some e=>
    obtain⟨j,x⟩:=e
    exfalso
    simp only[lQ,hg]at oD
    repeat' split at oD
    all_goals simp at oD
  split at h
  ·rename_i v1 v os hq
   split at h
   ·rename_i hf hn
    simp only[oI,pI]at h
    obtain⟨rfl,rfl,rfl⟩:=h
    refine mC hg (pN ?_ (MB (Q:=Q) C hq g (fun e he=>by simp at he) (iv.ID.now iv.kept) hv hf hn))
    rintro a' w' ⟨u,env',rfl,hN,hr⟩
    have g':=g.grow hBz hf hN
    have hnm: ∀d,o.dst=some d→v.mentions d=false:=by
     intro d _
     cases v with
     |one x=>rfl
     |zH l=>rfl
     |cond p x=>
      exfalso
      have: ∀(op:Op) (d m:Nat) (out:Out) (p:List (Nat×Bool)) (x:S1),quiet Γ (OL P ty) (Sound ty P) cr st [] d m op=some out→out.v≠ .cond p x:=by
       intro op d m out p x hh
       unfold quiet VH at hh
       repeat' split at hh
       all_goals first
        | (cases hh;done)
        | (simp only[gr,oI]at hh;subst hh;intro e;cases e;done)
        | (simp only[oI]at hh;subst hh;unfold outs;(repeat' split)<;>(intro e;cases e))
      exact this _ _ _ _ p x hq rfl
    refine⟨by rw[l6,Bj];exact iv.size,by rw[put_defers];exact iv.defers,iv.kept.trans (oB hN.below hBz),iv.ID,env',tZ g' zi hr hnm⟩
   ·cases h
  ·cases h
 ·rename_i m e p hd _ oD
  have zi:=Pk iv hd
  split at h
  ·rename_i hne
   split at h
   ·rename_i v1 v hq
    simp only[oI,pI]at h
    obtain⟨rfl,rfl,rfl⟩:=h
    have hmn: ∀d,o.dst=some d→(SV.cond (e::p) v).mentions d=false:=by
     intro d hdd
     show((e::p).any fun e=>bf e.1 d)=false
     rw[bK]at hne ⊢
     intro x hx hb
     have:=av hb
     exact hne x hx (by rw[hdd,this];simp)
    have fin: ∀{u:Value} {w':World},Below w.heap.size w w'→oC (ty:=ty) w w' st.hp [] env env→sK w' st.hp env a.tmps (.cond (e::p) v) u→Inv ty zb (st.put o.dst (.cond (e::p) v)) (a.put o.dst u) w':=by
     intro u w' hb hN hr
     have g':=g.grow (os:= []) hBz rfl hN
     exact⟨by rw[l6,Bj];exact iv.size,by rw[put_defers];exact iv.defers,iv.kept.trans (oB hb hBz),iv.ID,env,tZ g' zi hr hmn⟩
    have key: ∃j x q d,o.guard=some (j,x)∧ops[j]? =some q∧q.dst=some d∧(d,x)∈e::p∧(a.tmps[d]? =some (.bool x)→holds a.tmps (e::p)):=by
     unfold lQ at oD
     split at oD
     ·simp at oD
     ·rename_i j x hg
      split at oD
      ·rename_i q hj
       split at oD
       ·rename_i d Zx
        split at oD
        ·rename_i b hl
         simp only[oI]at oD
         refine⟨j,x,q,d,hg,hj,Zx,by rw[←oD];simp,fun hh=> ?_⟩
         rw[←oD]
         intro y hy
         simp at hy
         subst hy
         exact hh
        ·rename_i p' b hl
         simp only[oI]at oD
         refine⟨j,x,q,d,hg,hj,Zx,by rw[←oD];simp,fun hh=> ?_⟩
         rw[←oD]
         intro y hy
         rcases aW.1 hy with rfl|hy
         ·exact hh
         ·exact(CN g hl hh).1 y hy
        ·cases oD
       ·cases oD
      ·cases oD
    obtain⟨j,x,q,d,hg,hj,Zx,hmem,agk⟩:=key
    have hw:=Ab (ops:=ops.toArray) hg (by simpa using hj) Zx a.tmps
    unfold wo
    by_cases hb:a.tmps[d]? =some (.bool x)
    ·rw[if_pos (hw.2 hb)]
     have hp:=agk hb
     left
     refine pN ?_ (MB (Q:=Q) C hq g hp (iv.ID.now iv.kept) (fun z hz=> ?_) rfl rfl)
     ·rintro a' w' ⟨u,env',rfl,hN,hr⟩
      have he:env'=env:=funext fun n=>hN.old n rfl
      subst he
      exact fin hN.below hN ⟨fun _=>hr,fun hh=>absurd (fun y hy=>hp y hy) hh⟩
     ·exact Rc (hv _ (cj.2 ⟨z,hz,rfl⟩)) (Ft g hp)
    ·rw[if_neg (fun hh=>hb (hw.1 hh))]
     exact fin (jd _ _) (oC.none (jd _ _)) ⟨fun hh=>absurd (hh (d,x) hmem) hb,fun _=>rfl⟩
   ·cases h
  ·cases h
 ·cases h
theorem V7{Γ:Nat→TK}(C: ∀t,fD P t (Γ t)){gL:List (Nat×Nat)}{cr:List (Nat×CR)}{ops:List Oper}{vc:List Prop}(h:VI Γ (OL P ty) (Sound ty P) gL cr ops st o=some (vc,st'))(iv:Inv ty zb st a w)(hv: ∀q,q∈vc→q):
  wo P ops.toArray o a w (fun a' w'=>Inv ty zb st' a' w') Q:=by
 unfold VI at h
 split at h
 ·rename_i tO v os hq
  simp only[oI,pI]at h
  obtain⟨rfl,rfl⟩:=h
  exact MC C hq iv hv
 ·cases h
end
end
section
variable{ty:Tag→Nat}
def V.dead:V→V
 | .vw _ _ _ l=> .zf l.length
 |_=> .any
def V.cM(ks kv:List Nat)(v:V):V:=match v.name with
 |some m=>match ks.any (bf m)with
  |true=>v.dead
  |false=>match kv with
   | []=>v
   |kv=>match v.view with
    |some _=>match kv.any (bf m)with|true=>v.dead|false=>v
    |none=>v
 |none=>v
def S1.cM(ks kv:List Nat):S1→S1
 | .a v=> .a (v.cM ks kv)
 | .agg l=> .agg (l.map (V.cM ks kv))
def SV.cM(ks kv:List Nat):SV→SV
 | .one x=> .one (x.cM ks kv)
 | .zH l=> .zH (l.map (S1.cM ks kv))
 | .cond p x=> .cond p (x.cM ks kv)
def uM.cM(ks kv:List Nat):uM→uM
 | .of n=>match ks.any (bf n)||kv.any (bf n)with|true=> .gone|false=> .of n
 | .zg (some (n,i,o))=>match ks.any (bf n)||kv.any (bf n)with|true=> .zg none|false=> .zg (some (n,i,o))
 |s=>s
def Obj.cM(ks kv:List Nat):Obj→Obj
 | .box c=> .box (c.map (V.cM ks kv))
 | .arr t l=> .arr t l
 | .jc t l s=> .jc t l (s.cM ks kv)
def dQ(ks kv:List Nat)(hp:Hp):Hp:=(hp.filter fun e=> !ks.any (bf e.1)).map fun e=>(e.1,e.2.cM ks kv)
def pinned(ks:List Nat):Bool:=ks.any soft
theorem V.Pm{ks kv:List Nat}{v:V}:(v.cM ks kv).wZ (fun n=>n∉ks) (fun n=>n∉ks∧n∉kv):=by
 have hx: ∀{l:List Nat} {m:Nat},(l.any (bf m))=false→m∉l:=by
  intro l m h hm
  rw[bK]at h
  exact h m hm (by simp)
 have ach: ∀x:V,x.dead.wZ (fun n=>n∉ks) (fun n=>n∉ks∧n∉kv):=by
  intro x
  cases x<;>exact⟨fun _ h=>by simp[V.dead,V.name]at h,fun _ h=>by simp[V.dead,V.view]at h⟩
 unfold V.cM
 split
 ·rename_i m hm
  split
  ·exact ach v
  ·rename_i hk
   have hk:=hx hk
   have hn: ∀n,v.name=some n→n∉ks:=by
    intro n h;rw[hm]at h;simp only[oI]at h;subst h;exact hk
   split
   ·exact⟨hn,fun n h=>⟨hn n (V.tV h),by simp⟩⟩
   ·split
    ·split
     ·exact ach v
     ·rename_i hv
      have hv:=hx hv
      refine⟨hn,fun n h=>⟨hn n (V.tV h),?_⟩⟩
      have:=V.tV h
      rw[hm]at this;simp only[oI]at this;subst this;exact hv
    ·rename_i hnv
     exact⟨hn,fun n h=>by rw[hnv]at h;cases h⟩
 ·rename_i hm
  refine⟨fun n h=> ?_,fun n h=> ?_⟩
  ·rw[hm]at h;cases h
  ·have:=V.tV h;rw[hm]at this;cases this
theorem RA.dead{w:World}{hp:Hp}{env:Env}{v:V}{u:Value}(h:RA w hp env v u):RA w hp env v.dead u:=by
 cases v with
 |vw n p t l=>
  obtain⟨_,⟨fp,⟨oa,cap,rfl,hc,hm,h3⟩,_⟩,_⟩:=h
  refine⟨oa,cap,rfl,hc,hm,fun ho=> ?_⟩
  rcases h3 with⟨_,_,h4⟩| ⟨b,off,cu,h4,_⟩
  ·exact h4
  ·rw[ho]at h4;cases h4
 |_=>trivial
theorem RA.cM{w:World}{hp:Hp}{env:Env}{ks kv:List Nat}{v:V}{u:Value}(h:RA w hp env v u):RA w hp env (v.cM ks kv) u:=by
 unfold V.cM
 repeat' split
 all_goals first
  |exact h
  |exact h.dead
  |trivial
abbrev uc(ks kv:List Nat)(w:World)(hp:Hp)(env:Env)(w':World)(kg:Hp)(env':Env):Prop:=Step (fun n=>n∉ks) (fun n=>n∉ks∧n∉kv) w hp env w' kg env'
section
variable{ks kv:List Nat}{w w':World}{hp kg:Hp}{env env':Env}
theorem BE.kj(s:uc ks kv w hp env w' kg env'){r:uM}{t:Tag}{x:T t}{u:Value}(h:BE w hp env r t x u):BE w' kg env' (r.cM ks kv) t x u:=by
 cases r with
 |gone=>trivial
 |mp=>trivial
 |L4 u=>trivial
 |zg p=>
  have: ∃q,uM.cM ks kv (.zg p)= .zg q:=by
   unfold uM.cM
   split
   ·rename_i e;cases e
   ·split
    ·exact⟨_,rfl⟩
    ·exact⟨_,rfl⟩
   ·exact⟨_,rfl⟩
  obtain⟨q,hq⟩:=this
  rw[hq];trivial
 |rm=>exact BE.step s (r:= .rm) (fun n hn=>by cases hn) h
 |of n=>
  unfold uM.cM
  dsimp only
  split
  ·trivial
  ·rename_i hk
   rw[gm,bK,bK]at hk
   refine BE.step s (r:= .of n) (fun m hm=> ?_) h
   simp only[uM.name,oI]at hm
   subst hm
   exact⟨fun hm=>hk.1 n hm (by simp),fun hm=>hk.2 n hm (by simp)⟩
theorem RA.kj(s:uc ks kv w hp env w' kg env'){v:V}{u:Value}(h:RA w hp env v u):RA w' kg env' (v.cM ks kv) u:=
 RA.step s V.Pm h.cM
theorem cO.map{α β γ:Type}{R:α→β→Prop}{R':γ→β→Prop}{f:α→γ}: ∀{as:List α} {bs:List β},(∀a b,R a b→R' (f a) b)→cO R as bs→cO R' (as.map f) bs
 | [],[],_,_=>trivial
 |a::as,b::bs,h,⟨h1,h2⟩=>⟨h a b h1,cO.map h h2⟩
 | [],_::_,_,h=>h.elim
 |_::_,[],_,h=>h.elim
theorem ji.kj(s:uc ks kv w hp env w' kg env'){x:S1}{u:Value}(h:ji w hp env x u):ji w' kg env' (x.cM ks kv) u:=by
 cases x with
 |a v=>exact RA.kj s h
 |agg l=>obtain⟨cs,hu,hl⟩:=h;exact⟨cs,hu,hl.map fun a b hr=>RA.kj s hr⟩
theorem sK.kj(s:uc ks kv w hp env w' kg env'){tmps:Array Value}{x:SV}{u:Value}(h:sK w hp env tmps x u):sK w' kg env' tmps (x.cM ks kv) u:=by
 cases x with
 |one x=>exact ji.kj s h
 |zH l=>obtain⟨us,hu,hl⟩:=h;exact⟨us,hu,hl.map fun a b hr=>ji.kj s hr⟩
 |cond p x=>exact⟨fun hh=>ji.kj s (h.1 hh),h.2⟩
theorem Good.kj{zb:eJ}{st:St}{tmps:Array Value}(g:Good ty zb st tmps w env)(s:uc ks kv w st.hp env w' kg env')
  (ho: ∀n o,look kg n=some o→RO ty w' kg env' n o (env' n))(hd: ∀n m o o',n≠m→look kg n=some o→look kg m=some o'→ ∀b,b∈(env' n).fp→b∉(env' m).fp)
  (hm: ∀n o,look kg n=some o→ ∀b,b∈(env' n).fp→b∈zb.L∨zb.w.heap.size≤b)(hp: ∀n,ng n=true→(env' n).v=(zb.pv n).v∧ ∀b,b∈(env' n).fp→b∈(zb.pv n).fp):
  Good ty zb ⟨st.n,st.sl.map fun e=>(e.1,e.2.cM ks kv),kg⟩ tmps w' env':=by
 refine⟨ho,hd,fun t v hl=> ?_,hm,hp⟩
 have hl:look (st.sl.map fun e=>(e.1,e.2.cM ks kv)) t=some v:=hl
 rw[ny (α:=SV) (f:=fun e:Nat×SV=>e.2.cM ks kv)]at hl
 cases hq:look st.sl t with
 |none=>rw[hq]at hl;cases hl
 |some y=>
  rw[hq]at hl
  simp only[dz,oI]at hl
  subst hl
  exact sK.kj s (g.slot t y hq)
end
theorem c8{ks kv:List Nat}{hp:Hp}{n:Nat}:look (dQ ks kv hp) n=if n∈ks then none else(look hp n).map (Obj.cM ks kv):=by
 unfold dQ
 rw[ny (α:=Obj) (f:=fun e:Nat×Obj=>e.2.cM ks kv)]
 have:look (hp.filter fun e=> !ks.any (bf e.1)) n=if n∈ks then none else look hp n:=by
  induction hp with
  |nil=>simp[look]
  |cons e r ih=>
   obtain⟨j,x⟩:=e
   by_cases hj:j∈ks
   ·have:(ks.any (bf j))=true:=dV.2 ⟨j,hj,by simp⟩
    rw[ef (by simp[this]),ih]
    by_cases hn:n∈ks
    ·simp[hn]
    ·have:n≠j:=by rintro rfl;exact hn hj
     rw[bX this]
   ·have:(ks.any (bf j))=false:=bK.2 fun y hy hb=>hj (by have:=av hb;rw[this];exact hy)
    rw[dc (by simp[this])]
    by_cases hn:n=j
    ·subst hn;rw[look_eq,look_eq,if_neg hj]
    ·rw[bX hn,bX hn,ih]
 rw[this]
 split<;>rfl
theorem ud: ∀{l:List V},wY l=true→ ∀v,v∈l→v≠ .any
 |x::r,h,v,hv=>by
  cases x with
  |any=>simp[wY]at h
  |_=>
   rcases aW.1 hv with rfl|hv
   ·exact fun e=>by cases e
   ·exact ud (l:=r) (by simpa[wY]using h) v hv
def Gx(Γ:Nat→TK)(st:St):Op→Option St
 | .store t x y=>match jh st [] x,OK st [] y with
   |some (.a (.ptr n off)),some v=>match look st.hp n with
    |some (.box c)=>match Γ t,v with
     | .st z _ _, .agg l=>match bf l.length z.length&&wY l,IC c off l with
       |true,some c'=>some ⟨st.n,st.sl,(n, .box c')::st.hp⟩
       |_,_=>none
     | .st _ _ _, .a _=>none
     | .other,_=>none
     |_, .a .any=>none
     |_, .a v=>match IC c off [v]with
      |some c'=>some ⟨st.n,st.sl,(n, .box c')::st.hp⟩
      |none=>none
     |_,_=>none
    |_=>none
   |_,_=>none
 | .mapUpdate t m x y=>match Γ t with
   | .mp=>match jh st [] m,jh st [] x,jh st [] y with
     |some (.a (.yC n)),some (.a (.lit (.int .i64 k))),some (.a (.lit (.int .i64 v)))=>match look st.hp n with
      |some (.jc tg l .mp)=>match jX .int tg l with
       |some l=>some ⟨st.n,st.sl,(n, .jc .int (Ge l k v) .mp)::st.hp⟩
       |none=>none
      |_=>none
     |_,_,_=>none
   |_=>none
 |_=>none
section
variable{P:Program}{zb:eJ}{st st':St}{a:Act}{w:World}{env:Env}{Q:Exit→Act→World→Prop}{o:Oper}
theorem RA.one(g:Good ty zb st a.tmps w env){v:V}{u:Value}(h:RA w st.hp env v u)(hv:v≠ .any):u.oneCell'=true:=by
 cases v with
 |any=>exact absurd rfl hv
 |lit x=>obtain⟨rfl,h1⟩:=h;exact h1
 |sl t l=>obtain⟨fp,⟨oa,cap,rfl,_⟩,_⟩:=h;rfl
 |own n=>
  obtain⟨⟨t,l,hl⟩,rfl⟩:=h
  obtain⟨oa,cap,h,_⟩:=RO.sl (g.obj n _ hl)
  rw[h];rfl
 |ptr n off=>obtain⟨_,b,_,rfl⟩:=h;rfl
 |Fi f n=>obtain⟨_,b,_,rfl⟩:=h;rfl
 |zf k=>obtain⟨oa,cap,rfl,_⟩:=h;rfl
 |raw x=>obtain⟨rfl,h1⟩:=h;exact h1
 |vO v t l=>obtain⟨_,fp,⟨oa,cap,rfl,_⟩,_⟩:=h;rfl
 |rj n i off=>obtain⟨t,l,_,b,o,len,cap,_,rfl⟩:=h;rfl
 |ip t x off=>obtain⟨b,o,cs,fp,rfl,_⟩:=h;rfl
 |vw n p t l=>obtain⟨_,⟨fp,⟨oa,cap,rfl,_⟩,_⟩,_⟩:=h;rfl
 |Ir n t l=>obtain⟨_,b,fp,⟨oa,cap,rfl,_⟩,_⟩:=h;rfl
 |mix n c t l=>obtain⟨_,⟨fp,⟨oa,cap,rfl,_⟩,_⟩,_⟩:=h;rfl
 |yC n=>
  obtain⟨⟨t,l,s,hl⟩,rfl⟩:=h
  rcases RO.Gh (g.obj n _ hl)with⟨_,r,lx,_,h,_⟩| ⟨_,_,hv,_,_,⟨oa,cap,h,_⟩,_⟩| ⟨_,_,_,⟨oa,m,cap,h⟩,_⟩| ⟨_,_,us,hB,_⟩
  ·rw[h];rfl
  ·rw[hv,h];rfl
  ·rw[h];rfl
  ·obtain⟨oa,cap,h,_⟩:=hB.sl
   rw[h];rfl
 |Iq n p t x off=>obtain⟨_,b,o,cs,fp,rfl,_⟩:=h;rfl
theorem yI(g:Good ty zb st a.tmps w env): ∀{l:List V} {us:List Value},cO (RA w st.hp env) l us→(∀v,v∈l→v≠ .any)→ ∀u,u∈us→u.oneCell'=true
 |v::l,u::us,⟨h1,h2⟩,hn,x,hx=>by
  rcases aW.1 hx with rfl|hx
  ·exact RA.one g h1 (hn v (by simp))
  ·exact yI g h2 (fun y hy=>hn y (by simp[hy])) x hx
 | [],_::_,h,_,_,_=>h.elim
theorem Gy(g:Good ty zb st a.tmps w env){n:Nat}{c c':List V}(hl:look st.hp n=some (.box c)){b:Nat}{cs us:List Value}{e:TypeId}{off:Nat}(Eb:env n=⟨.pointer (some ⟨b,0,none⟩),[b]⟩)(hh:w.heap[b]? =some (.cells (eU cs) e (0,0)))
  (hlen:off+us.length≤cs.length)(hc:cO (RA w st.hp env) c' (cs.take off++(us++cs.drop (off+us.length)))):
  Good ty zb ⟨st.n,st.sl,(n, .box c')::st.hp⟩ a.tmps (w.setCells b off us) env:=by
 have hk: ∀x,x≠b→(w.setCells b off us).heap[x]? =w.heap[x]? :=fun x hx=>dP b us off w x hx
 have hlk: ∀m o,look ((n,Obj.box c')::st.hp) m=some o→(m=n∧o= .box c')∨(m≠n∧look st.hp m=some o):=by
  intro m o hm
  by_cases hmn:m=n
  ·subst hmn;rw[look_eq]at hm;simp only[oI]at hm;exact bG ⟨rfl,hm.symm⟩
  ·rw[bX hmn]at hm;exact bg ⟨hmn,hm⟩
 have how:Ow st.hp env b:=⟨n,_,hl,by rw[Eb];simp⟩
 have s:Step (fun _=>True) (fun _=>True) w st.hp env (w.setCells b off us) ((n, .box c')::st.hp) env:=by
  refine⟨fun x _ hx=>hk x (fun e=>hx (e▸how)),?_,?_,?_⟩
  ·rintro x _ ⟨m,o,h1,h2⟩
   rcases hlk m o h1 with⟨rfl,rfl⟩| ⟨_,h1⟩
   ·exact⟨m,_,hl,h2⟩
   ·exact⟨m,o,h1,h2⟩
  ·intro m o _ h1
   by_cases hmn:m=n
   ·subst hmn
    rw[hl]at h1
    simp only[oI]at h1
    subst h1
    exact⟨_,look_eq,trivial,rfl⟩
   ·exact⟨o,by rw[bX hmn];exact h1,by cases o<;>simp[Obj.like],rfl⟩
  ·intro m t l _ h1
   have hmn:m≠n:=by rintro rfl;rw[hl]at h1;cases h1
   refine⟨by rw[bX hmn];exact h1,rfl,fun x hx=>hk x ?_⟩
   rintro rfl
   exact g.lR m n _ _ hmn h1 hl x hx (by rw[Eb];simp)
 refine⟨fun m o hm=> ?_,fun m m' o o' hne h1 h2=> ?_,fun t v hv=>sK.step s (fun v _=>v.gD) (g.slot t v hv),fun m o hm b hb=> ?_,g.pins⟩
 ·rcases hlk m o hm with⟨rfl,rfl⟩| ⟨hmn,hm⟩
  ·refine⟨b,_,e,Eb,?_,hc.mono fun v u _ h=>RA.step s v.gD h⟩
   rw[F7 hh,sQ us cs off hlen]
  ·have hro:=g.obj m o hm
   refine hro.step s (Obj.gD _) fun x hx=>hk x ?_
   rintro rfl
   exact g.lR m n o _ hmn hm hl x hx (by rw[Eb];simp)
 ·rcases hlk m o h1 with⟨e1,e2⟩| ⟨_,k1⟩<;>rcases hlk m' o' h2 with⟨e3,e4⟩| ⟨_,k2⟩
  ·exact absurd (e1.trans e3.symm) hne
  ·exact g.lR m m' _ _ hne (e1▸hl) k2
  ·exact g.lR m m' _ _ hne k1 (e3▸hl)
  ·exact g.lR m m' _ _ hne k1 k2
 ·rcases hlk m o hm with⟨e1,_⟩| ⟨_,k1⟩
  ·subst e1;exact g.dom m _ hl b hb
  ·exact g.dom m o k1 b hb
theorem Bk{b:Nat}(hb:b∈zb.L∨zb.w.heap.size≤b){c:Array Value}{e:TypeId}(hh:w.heap[b]? =some (.cells c e (0,0)))(off:Nat)(us:List Value):Kept zb w (w.setCells b off us):=by
 have h0:=FX (B:=0) (w:=w) (jd 0 w) (aA b) off us
 refine⟨h0.os,h0.tape,h0.output,h0.size,fun x hx hn=>dP b us off w x ?_,fun x c' e' hx=> ?_⟩
 ·rintro rfl
  rcases hb with h|h
  ·exact hn h
  ·omega
 ·by_cases hxb:x=b
  ·subst hxb
   rw[hh]at hx
   simp only[oI,Go.Obj.cells.injEq,and_true]at hx
   obtain⟨rfl,rfl⟩:=hx
   obtain⟨c2,h1,h2⟩:=fN x e us off w c hh
   exact⟨c2,h1,h2⟩
  ·exact⟨c',by rw[dP b us off w x hxb];exact hx,rfl⟩
theorem qD{t b off:Nat}{v:Value}{us:List Value}(hv:v.cells=us.toArray)(ht:w.there b off us.length)(hi:(P.info? t).map (·.size)=some us.length)(h1: ∀u,u∈us→u.oneCell'=true):
  (storeVar t ⟨b,off,none⟩ v).run P w= .ok () (w.setCells b off us):=by
 have:=run_storeVar_mid (P:=P) w b off t us.toArray (by simpa using ht) (by simpa using hi) (all_oneCell_toArray h1)
 unfold storeVar at this ⊢
 rw[hv]
 exact this
theorem V8(g:Good ty zb st a.tmps w env){n:Nat}{l0 l':List Int}(hl:look st.hp n=some (.jc .int l0 .mp)){r:Nat}(Eb:env n=⟨.map (some r),[r]⟩){o0:Go.Obj}(hh:w.heap[r]? =some o0){es:Array MapEntry}{clock:Nat}(he:Kp es.toList l'):
  Good ty zb ⟨st.n,st.sl,(n, .jc .int l' .mp)::st.hp⟩ a.tmps {w with heap:=w.heap.setIfInBounds r (.map es clock)} env:=by
 have hk: ∀x,x≠r→(w.heap.setIfInBounds r (.map es clock))[x]? =w.heap[x]? :=fun x hx=>(mD hh).2 x hx
 have hlk: ∀m o,look ((n,Obj.jc .int l' .mp)::st.hp) m=some o→(m=n∧o= .jc .int l' .mp)∨(m≠n∧look st.hp m=some o):=by
  intro m o hm
  by_cases hmn:m=n
  ·subst hmn;rw[look_eq]at hm;simp only[oI]at hm;exact bG ⟨rfl,hm.symm⟩
  ·rw[bX hmn]at hm;exact bg ⟨hmn,hm⟩
 have how:Ow st.hp env r:=⟨n,_,hl,by rw[Eb];simp⟩
 have s:Step (fun _=>True) (fun _=>True) w st.hp env {w with heap:=w.heap.setIfInBounds r (.map es clock)} ((n, .jc .int l' .mp)::st.hp) env:=by
  refine⟨fun x _ hx=>hk x (fun e=>hx (e▸how)),?_,?_,?_⟩
  ·rintro x _ ⟨m,o,h1,h2⟩
   rcases hlk m o h1 with⟨rfl,rfl⟩| ⟨_,h1⟩
   ·exact⟨m,_,hl,h2⟩
   ·exact⟨m,o,h1,h2⟩
  ·intro m o _ h1
   by_cases hmn:m=n
   ·subst hmn
    rw[hl]at h1
    simp only[oI]at h1
    subst h1
    exact⟨_,look_eq,rfl,rfl⟩
   ·exact⟨o,by rw[bX hmn];exact h1,by cases o<;>simp[Obj.like],rfl⟩
  ·intro m t l _ h1
   have hmn:m≠n:=by rintro rfl;rw[hl]at h1;cases h1
   refine⟨by rw[bX hmn];exact h1,rfl,fun x hx=>hk x ?_⟩
   rintro rfl
   exact g.lR m n _ _ hmn h1 hl x hx (by rw[Eb];simp)
 refine⟨fun m o hm=> ?_,fun m m' o o' hne h1 h2=> ?_,fun t v hv=>sK.step s (fun v _=>v.gD) (g.slot t v hv),fun m o hm b hb=> ?_,g.pins⟩
 ·rcases hlk m o hm with⟨rfl,rfl⟩| ⟨hmn,hm⟩
  ·exact⟨r,l',rfl,Eb,es,clock,(mD hh).1,he⟩
  ·have hro:=g.obj m o hm
   refine hro.step s (Obj.gD _) fun x hx=>hk x ?_
   rintro rfl
   exact g.lR m n o _ hmn hm hl x hx (by rw[Eb];simp)
 ·rcases hlk m o h1 with⟨e1,e2⟩| ⟨_,k1⟩<;>rcases hlk m' o' h2 with⟨e3,e4⟩| ⟨_,k2⟩
  ·exact absurd (e1.trans e3.symm) hne
  ·exact g.lR m m' _ _ hne (e1▸hl) k2
  ·exact g.lR m m' _ _ hne k1 (e3▸hl)
  ·exact g.lR m m' _ _ hne k1 k2
 ·rcases hlk m o hm with⟨e1,_⟩| ⟨_,k1⟩
  ·subst e1;exact g.dom m _ hl b hb
  ·exact g.dom m o k1 b hb
theorem V9{r:Nat}(hb:r∈zb.L∨zb.w.heap.size≤r){es0 es:Array MapEntry}{c0 clock:Nat}(hh:w.heap[r]? =some (.map es0 c0)):Kept zb w {w with heap:=w.heap.setIfInBounds r (.map es clock)}:=by
 refine⟨rfl,rfl,rfl,by simp,fun x hx hn=>(mD hh).2 x ?_,fun x c' e' hx=>⟨c',?_,rfl⟩⟩
 ·rintro rfl
  rcases hb with h|h
  ·exact hn h
  ·omega
 ·rw[(mD hh).2 x (by rintro rfl;rw[hh]at hx;cases hx)];exact hx
theorem Tr{Γ:Nat→TK}(C: ∀t,fD P t (Γ t))(Z: ∀t,(∀z tg fo,Γ t≠ .st z tg fo)→Γ t≠ .other→(P.info? t).map (·.size)=some 1)(h:Gx Γ st o.op=some st')(g:Good ty zb st a.tmps w env):
  o.wp P a w (fun a' w'=>a'=a.put o.dst undef∧Kept zb w w'∧Good ty zb st' a.tmps w' env∧st'.n=st.n∧st'.sl=st.sl) Q:=by
 have hop: ∀{x v},jh st [] x=some v→ji w st.hp env v (a.eval x):=fun hx=>gu g (fun e he=>by simp at he) hx
 have hor: ∀{x v},OK st [] x=some v→ji w st.hp env v (a.eval x):=fun hx=>zW g (fun e he=>by simp at he) hx
 generalize iJ:o.op=op at h
 cases op with
 |mapUpdate t m x y=>
  simp only[Gx]at h
  split at h
  case h_2=>cases h
  rename_i hk
  have hC:=C t
  rw[hk]at hC
  obtain⟨kt,et,ht,hkt,_,_⟩:=hC
  split at h
  case h_2=>cases h
  rename_i n k v hm hx hy
  split at h
  case h_2=>cases h
  rename_i tg l0 hl
  split at h
  case h_2=>cases h
  rename_i l hc
  simp only[oI]at h
  obtain⟨e1,e2⟩:=fL hc
  subst e1
  subst e2
  obtain⟨_,hu⟩:=hop hm
  have hx:=(hop hx).lit
  have hy:=(hop hy).lit
  obtain⟨r,lx,h1,h2,h3⟩:=g.obj n _ hl
  rw[hc]at h1
  simp only[oI]at h1
  subst h1
  obtain⟨es,clock,q1,q2,es0,c0,q3⟩:=A6 (x:=k) (y:=v) ht hkt h3
  have UW:a.eval m= .map (some r):=by rw[hu,h2]
  have hM:=g.dom n _ hl r (by rw[h2];simp)
  subst h
  unfold iK execOp
  simp only[iJ,UW,hx,hy,q1,cF,cL,bN]
  exact⟨by trivial,V9 hM q3,V8 g hl h2 q3 q2,by trivial,by trivial⟩
 |store t x y=>
  simp only[Gx]at h
  split at h
  ·rename_i n off v hx hy
   have hx:=hop hx
   have hy:=hor hy
   split at h
   ·rename_i c hl
    obtain⟨_,b,hb,hu⟩:=hx
    obtain⟨b',cs,e,Eb,hh,hc⟩:=g.obj n _ hl
    have hM:=g.dom n _ hl b' (by rw[Eb];simp)
    have hbb:b=b':=by rw[Eb]at hb;simpa using hb.symm
    subst hbb
    have fin: ∀{us:List Value} {c':List V},(a.eval y).cells=us.toArray→(P.info? t).map (·.size)=some us.length→(∀u,u∈us→u.oneCell'=true)→off+us.length≤cs.length→cO (RA w st.hp env) c' (cs.take off++(us++cs.drop (off+us.length)))→st'=⟨st.n,st.sl,(n, .box c')::st.hp⟩→
      o.wp P a w (fun a' w'=>a'=a.put o.dst undef∧Kept zb w w'∧Good ty zb st' a.tmps w' env∧st'.n=st.n∧st'.sl=st.sl) Q:=by
     intro us c' h1 h2 h3 h4 h5 h6
     subst h6
     unfold iK execOp
     simp only[iJ,hu,ve,j9,cF,cL,bN,qD h1 (Kh hh off us.length h4) h2 h3]
     exact⟨by trivial,Bk hM hh off us,Gy g hl Eb hh h4 h5,by trivial,by trivial⟩
    split at h
    ·rename_i z tg fo l hk _
     split at h
     ·rename_i c' hlen hs
      simp only[oI]at h
      obtain⟨us,V1,ON⟩:=hy
      obtain⟨k1,k2⟩:=KA hc ON hs
      have hC:=C t
      rw[hk]at hC
      obtain⟨fs,_,hi,_⟩:=hC
      simp only[aj]at hlen
      have oc:=av hlen.1
      refine fin (us:=us) (by rw[V1];rfl) ?_ ?_ k1 k2 h.symm
      ·rw[ON.len,oc]
       cases hq:P.info? t with
       |none=>simp[hq]at hi
       |some i=>simp[hq]at hi;simp[hi.1]
      ·exact yI g ON (ud hlen.2)
     ·cases h
    ·cases h
    ·cases h
    ·cases h
    ·rename_i v k1 k2 k3 _
     split at h
     ·rename_i c' hs
      simp only[oI]at h
      obtain⟨q1,q2⟩:=KA (vs:= [v]) (us:= [a.eval y]) hc ⟨hy,trivial⟩ hs
      have hne:v≠ .any:=fun e=>k1 e
      refine fin (us:= [a.eval y]) (mQ g hy hne) (Z t (fun z tg fo hz=>k2 z tg fo hz) k3) ?_ q1 q2 h.symm
      intro u hu'
      rw[aP.1 hu']
      exact RA.one g hy hne
     ·cases h
    ·cases h
   ·cases h
  ·cases h
 |_=>simp[Gx]at h
end
end
section
variable{ty:Tag→Nat}
theorem Bl{α:Type}{k:Nat}{E:ER α}(G:jA k E)(hk:0<k){w:World}{u:Value}{l:List α}{fp:List Nat}(h:Sl k E w u l fp):
  ∃(news:List Value) (fx:List (List Nat)),Src w u l.length news∧fx.length=l.length∧news.length=l.length*k∧(∀i x f,l[i]? =some x→fx[i]? =some f→E w ((news.drop (i*k)).take k) x f)∧fx.flatten.Sublist fp:=by
 obtain⟨news,fx,h1,h2,h3,h4,h5,_⟩:=tY G hk h
 exact⟨news,fx,h1,h2,h3,h4,h5⟩
theorem uM.MD{ks kv:List Nat}{r:uM}(h:r.br):(r.cM ks kv).br:=by
 cases r with
 |mp=>exact h.elim
 |L4 u=>exact h.elim
 |zg p=>exact h.elim
 |gone=>trivial
 |rm=>trivial
 |of n=>unfold uM.cM;dsimp only;split<;>trivial
theorem CG.kj{ks kv:List Nat}{w w':World}{hp kg:Hp}{env env':Env}(s:uc ks kv w hp env w' kg env'){n:Nat}{t:Tag}{l:List (T t)}{p:Option (Nat×Nat×Nat)}{co:CO}(hk: ∀b,b∈co.fp→w'.heap[b]? =w.heap[b]?)(h:CG ty w hp env t l p co):RO ty w' kg env' n (.jc t l ((uM.zg p).cM ks kv)) co:=by
 have hnone:CG ty w' kg env' t l none co:=⟨h.1.agree hk,h.2.1,fun _ _ _ e=>by cases e⟩
 cases p with
 |none=>exact hnone
 |some e=>
  obtain⟨m,i,o⟩:=e
  unfold uM.cM
  dsimp only
  split
  ·exact hnone
  ·rename_i hn
   rw[gm,bK,bK]at hn
   refine CG.step s (fun n hm=> ?_) hk h
   simp only[uM.name,oI]at hm
   subst hm
   exact⟨fun hm=>hn.1 _ hm (by simp),fun hm=>hn.2 _ hm (by simp)⟩
theorem RO.kj{ks kv:List Nat}{w w':World}{hp kg:Hp}{env env':Env}(s:uc ks kv w hp env w' kg env'){n:Nat}{o:Obj}{co:CO}
  (hk: ∀b,b∈co.fp→w'.heap[b]? =w.heap[b]?)(h:RO ty w hp env n o co):RO ty w' kg env' n (o.cM ks kv) co:=by
 cases o with
 |box c=>
  obtain⟨b,cs,e,rfl,hh,hc⟩:=h
  exact⟨b,cs,e,rfl,by rw[hk b (by simp)];exact hh,hc.map fun a u hr=>RA.kj s hr⟩
 |arr t l=>exact RO.agree h hk
 |jc t l r=>
  rcases RO.Gh h with⟨rfl,h⟩| ⟨u,rfl,h⟩| ⟨p,rfl,h⟩| ⟨hr,h1,us,hB,h2,h3⟩
  ·exact Mo.agree h hk
  ·exact Kt.step s hk h
  ·exact CG.kj s hk h
  ·exact RO.Tl (uM.MD hr) ⟨h1,us,lP.agree A9 hB hk,h2,fun i x u hx hu=>BE.kj s (h3 i x u hx hu)⟩
def St.gone(st:St)(ks:List Nat)(d:Nat)(t:Tag)(l:List (T t)):St:=
 match ks with
 | []=>⟨st.n,st.sl,(d, .arr t l)::st.hp⟩
 |ks=>⟨st.n,st.sl.map fun e=>(e.1,e.2.cM ks []),(d, .arr t l)::dQ ks [] st.hp⟩
theorem V.lC(v:V):v.cM [] []=v:=by
 unfold V.cM;split<;>simp
theorem S1.lC(x:S1):x.cM [] []=x:=by
 cases x with
 |a v=>simp[S1.cM,V.lC]
 |agg l=>simp only[S1.cM,S1.agg.injEq];rw[fj (g:=id) fun v _=>V.lC v,rB]
theorem SV.lC(x:SV):x.cM [] []=x:=by
 cases x with
 |one x=>simp[SV.cM,S1.lC]
 |zH l=>simp only[SV.cM,SV.zH.injEq];rw[fj (g:=id) fun v _=>S1.lC v,rB]
 |cond p x=>simp[SV.cM,S1.lC]
theorem Pn(hp:Hp):dQ [] [] hp=hp:=by
 unfold dQ
 rw[List.filter_eq_self.2 (by simp),fj (g:=id),rB]
 rintro⟨n,o⟩ _
 cases o with
 |box c=>simp only[Obj.cM,id];rw[fj (g:=id) fun v _=>V.lC v,rB]
 |arr t l=>rfl
 |jc t l s=>cases s with
  |zg p=>cases p<;>rfl
  |_=>rfl
theorem St.gone_eq(st:St)(ks:List Nat)(d:Nat)(t:Tag)(l:List (T t)):st.gone ks d t l=⟨st.n,st.sl.map fun e=>(e.1,e.2.cM ks []),(d, .arr t l)::dQ ks [] st.hp⟩:=by
 unfold St.gone
 split
 ·rw[Pn,fj (g:=id),rB]
  rintro⟨n,x⟩ _
  simp[SV.lC]
 ·rfl
section
variable{P:Program}{zb:eJ}{st st':St}{a:Act}{w:World}{env:Env}{Q:Exit→Act→World→Prop}{o:Oper}
theorem rF{ks:List Nat}(h:pinned ks=false){n:Nat}(hn:n∈ks):soft n=false:=by
 unfold pinned at h
 rw[bK]at h
 simpa using h n hn
theorem CP(g:Good ty zb st a.tmps w env)(hB:zb.w.heap.size≤w.heap.size){ks:List Nat}(hpk:pinned ks=false){d:Nat}(hdp:ng d=false)(hd:look (dQ ks [] st.hp) d=none){v v':Value}{w':World}{ob:Obj}{fp fx je:List Nat}
  (iV: ∀b,b∈fp++fx→ ∃i o,i∈ks∧look st.hp i=some o∧b∈(env i).fp)(Ec: ∀b,v.ownBlock=some b→b∈fp)
  (hRO: ∀env':Env,env' d=⟨v',je⟩→uc ks [] w st.hp env w' ((d,ob)::dQ ks [] st.hp) env'→RO ty w' ((d,ob)::dQ ks [] st.hp) env' d ob ⟨v',je⟩)(hg:w.grownBy w' v.ownBlock)(hsub: ∀b,b∈je→b∈fp∨b∈fx∨b=w.heap.size):
  ∃env',Good ty zb ⟨st.n,st.sl.map fun e=>(e.1,e.2.cM ks []),(d,ob)::dQ ks [] st.hp⟩ a.tmps w' env'∧(env' d).v=v'∧(∀n,n≠d→env' n=env n)∧(env' d).fp=je:=by
 refine⟨fun n=>if n=d then⟨v',je⟩else env n,?_,by simp,fun n hn=>by simp[hn],by simp⟩
 have hlk: ∀m o,look ((d,ob)::dQ ks [] st.hp) m=some o→(m=d∧o=ob)∨(m≠d∧m∉ks∧ ∃o',look st.hp m=some o'∧o=o'.cM ks []):=by
  intro m o hm
  by_cases kK:m=d
  ·subst kK;rw[look_eq]at hm;simp only[oI]at hm;exact bG ⟨rfl,hm.symm⟩
  ·rw[bX kK,c8]at hm
   split at hm
   ·cases hm
   ·rename_i hks
    cases hq:look st.hp m with
    |none=>rw[hq]at hm;cases hm
    |some o'=>rw[hq]at hm;simp only[dz,oI]at hm;exact bg ⟨kK,hks,o',rfl,hm.symm⟩
 have how: ∀b,b∈je→b<w.heap.size→ ∃i o,i∈ks∧look st.hp i=some o∧b∈(env i).fp:=by
  intro b hb hlt
  rcases hsub b hb with h|h|h
  ·exact iV b (aM _ h)
  ·exact iV b (aH _ h)
  ·omega
 have hnd: ∀m o,m∉ks→look st.hp m=some o→m≠d:=by
  rintro m o hks h1 rfl
  rw[c8,if_neg hks,h1]at hd
  cases hd
 have hst: ∀m o,m∉ks→look st.hp m=some o→ ∀b,b∈(env m).fp→w'.heap[b]? =w.heap[b]? :=by
  intro m o hks h3 b hb
  refine hg.block b ((g.obj m o h3).zS b hb) fun e=> ?_
  obtain⟨i,oi,hi,h5,h6⟩:=iV b (aM _ (Ec b e.symm))
  exact g.lR m i _ _ (fun e=>hks (e▸hi)) h3 h5 b hb h6
 have s:uc ks [] w st.hp env w' ((d,ob)::dQ ks [] st.hp) (fun n=>if n=d then⟨v',je⟩else env n):=by
  refine⟨fun b hb hno=>hg.block b hb fun e=> ?_,?_,?_,?_⟩
  ·obtain⟨i,o',_,h1,h2⟩:=iV b (aM _ (Ec b e.symm))
   exact hno ⟨i,o',h1,h2⟩
  ·rintro b hb ⟨m,o',h1,h2⟩
   rcases hlk m o' h1 with⟨rfl,_⟩| ⟨kK,hks,AW,h3,rfl⟩
   ·simp at h2
    obtain⟨i,o',_,h3,h4⟩:=how b h2 hb
    exact⟨i,o',h3,h4⟩
   ·simp[kK]at h2
    exact⟨m,AW,h3,h2⟩
  ·intro m o' hks h1
   have kK:=hnd m o' hks h1
   refine⟨o'.cM ks [],by rw[bX kK,c8,if_neg hks,h1];rfl,by cases o'<;>simp[Obj.like,Obj.cM],by simp[kK]⟩
  ·rintro m t' l' ⟨hks,_⟩ h1
   have kK:=hnd m _ hks h1
   exact⟨by rw[bX kK,c8,if_neg hks,h1];rfl,by simp[kK],hst m _ hks h1⟩
 refine g.kj s (fun m o' hm=> ?_) (fun m m' o1 o2 hne h1 h2 b hb hb'=> ?_) (fun m o' hm b hb=> ?_) (fun m hm=> ?_)
 ·rcases hlk m o' hm with⟨e1,e2⟩| ⟨kK,hks,AW,h3,rfl⟩
  ·rw[e1,e2]
   simp only[if_true]
   exact hRO _ (by simp) s
  ·simp only[if_neg kK]
   have hro:=g.obj m AW h3
   exact hro.kj s (hst m AW hks h3)
 ·rcases hlk m o1 h1 with⟨e1,_⟩| ⟨kK,hks,q1,h3,_⟩<;>rcases hlk m' o2 h2 with⟨e2,_⟩| ⟨EO,Pp,q2,h4,_⟩
  ·exact hne (e1.trans e2.symm)
  ·simp only[if_pos e1]at hb
   simp only[if_neg EO]at hb'
   have hlt:=(g.obj m' q2 h4).zS b hb'
   obtain⟨i,oi,hi,h5,h6⟩:=how b hb hlt
   exact g.lR m' i _ _ (fun e=>Pp (e▸hi)) h4 h5 b hb' h6
  ·simp only[if_pos e2]at hb'
   simp only[if_neg kK]at hb
   have hlt:=(g.obj m q1 h3).zS b hb
   obtain⟨i,oi,hi,h5,h6⟩:=how b hb' hlt
   exact g.lR m i _ _ (fun e=>hks (e▸hi)) h3 h5 b hb h6
  ·simp only[if_neg kK]at hb
   simp only[if_neg EO]at hb'
   exact g.lR m m' _ _ hne h3 h4 b hb hb'
 ·rcases hlk m o' hm with⟨e1,_⟩| ⟨kK,hks,q1,h3,_⟩
  ·simp only[if_pos e1]at hb
   by_cases hlt:b<w.heap.size
   ·obtain⟨i,oi,hi,h5,h6⟩:=how b hb hlt
    exact g.dom i oi h5 b h6
   ·exact bg (by omega)
  ·simp only[if_neg kK]at hb
   exact g.dom m q1 h3 b hb
 ·have:m≠d:=by rintro rfl;rw[hdp]at hm;cases hm
  simp only[if_neg this]
  exact g.pins m hm
theorem CQ(g:Good ty zb st a.tmps w env)(hB:zb.w.heap.size≤w.heap.size){ks:List Nat}(hpk:pinned ks=false){d:Nat}(hdp:ng d=false)(hd:look (dQ ks [] st.hp) d=none){v v':Value}{w':World}{t:Tag}{l:List (T t)}{fp fx je:List Nat}
  (iV: ∀b,b∈fp++fx→ ∃i o,i∈ks∧look st.hp i=some o∧b∈(env i).fp)(Ec: ∀b,v.ownBlock=some b→b∈fp)
  (hB':lP (kk t) (rd t) 0 (ty t) w' v' l je)(hg:w.grownBy w' v.ownBlock)(hsub: ∀b,b∈je→b∈fp∨b∈fx∨b=w.heap.size):
  ∃env',Good ty zb ⟨st.n,st.sl.map fun e=>(e.1,e.2.cM ks []),(d, .arr t l)::dQ ks [] st.hp⟩ a.tmps w' env'∧(env' d).v=v'∧(∀n,n≠d→env' n=env n)∧(env' d).fp=je:=
 CP g hB hpk hdp hd iV Ec (fun _ _ _=>RO.Jg hB') hg hsub
theorem Bm(g:Good ty zb st a.tmps w env)(hB:zb.w.heap.size≤w.heap.size){ks:List Nat}(hpk:pinned ks=false){d:Nat}(hdp:ng d=false)(hd:look (dQ ks [] st.hp) d=none){v v':Value}{w':World}{t:Tag}{l:List (T t)}{fp fx je:List Nat}
  (iV: ∀b,b∈fp++fx→ ∃i o,i∈ks∧look st.hp i=some o∧b∈(env i).fp)(Ec: ∀b,v.ownBlock=some b→b∈fp)
  (hB':lP (kk t) (rd t) 0 (ty t) w' v' l je)(hg:w.grownBy w' v.ownBlock)(hsub: ∀b,b∈je→b∈fp∨b∈fx∨b=w.heap.size):
  ∃env',Good ty zb ⟨st.n,st.sl.map fun e=>(e.1,e.2.cM ks []),(d, .arr t l)::dQ ks [] st.hp⟩ a.tmps w' env'∧(env' d).v=v':=by
 obtain⟨env',h1,h2,_⟩:=CQ g hB hpk hdp hd iV Ec hB' hg hsub
 exact⟨env',h1,h2⟩
end
def Gz(st:St)(t:Tag):S1→Option (List (T t)×List Nat)
 | .a (.own n)=>match look st.hp n with
   |some (.arr t' l)=>match jX t t' l with|some l=>some (l,[n])|none=>none
   |_=>none
 | .a (.lit (.slice none 0 0))=>some ([],[])
 |_=>none
def KE(st:St)(t:Tag):S1→Option (List (T t)×List Nat)
 | .a (.own n)=>match look st.hp n with
   |some (.arr t' l)=>match jX t t' l with|some l=>some (l,match flat t with|true=> []|false=> [n])|none=>none
   |_=>none
 | .a (.sl t' l)=>match flat t,jX t t' l with
   |true,some l=>some (l,[])
   |false,some l=>match l with| []=>some ([],[])|_=>none
   |_,_=>none
 | .a (.vw n _ t' l)=>match jX t t' l with
   |some l=>some (l,match flat t with|true=> []|false=> [n])
   |none=>none
 | .a (.Ir n t' l)=>match jX t t' l with
   |some l=>some (l,[n])
   |none=>none
 | .a (.lit (.slice none 0 0))=>some ([],[])
 | .a (.zf 0)=>some ([],[])
 |_=>none
def qE{α:Type}:List α→List α→List α
 | [],l=>l
 | [x],l=>x::l
 |k,l=>k++l
theorem gI{α:Type}(k l:List α):qE k l=k++l:=by
 unfold qE;split<;>rfl
def Bn(k m:List Nat):Bool:=k.all fun x=> !m.any fun y=>bf x y
def Pq(P:Program)(ty:Tag→Nat)(Γ:Nat→TK)(st:St)(m0:Nat):Op→Option (List Prop×St×SV)
 | .call ⟨.builtin .append,xs,ts⟩=>match xs.toList,ts.toList with
   | [s,x],[t1,t2]=>match Γ t1,bf t1 t2 with
     | .sl t e,true=>match bf e (ty t),jh st [] s,jh st [] x with
       |true,some vs,some vx=>match Gz st t vs,KE st t vx with
        |some (l,k),some (lx,m)=>match Bn k m&& !pinned (qE k m)&& !ng m0,look (dQ (qE k m) [] st.hp) m0 with
         |true,none=>some ([El P ty t,(l.length+lx.length)*gl t≤140737488355328∧l.length+lx.length≤maxLen],
           st.gone (qE k m) m0 t (l++lx), .one (.a (.own m0)))
         |_,_=>none
        |_,_=>none
       |_,_,_=>none
     |_,_=>none
   |_,_=>none
 |_=>none
section
variable{P:Program}{zb:eJ}{st:St}{a:Act}{w:World}{env:Env}{Q:Exit→Act→World→Prop}{o:Oper}
theorem CS(g:Good ty zb st a.tmps w env){t:Tag}{x:S1}{u:Value}{l:List (T t)}{k:List Nat}(hr:ji w st.hp env x u)(h:Gz st t x=some (l,k)):
  pinned k=false→ ∃fp,lP (kk t) (rd t) 0 (ty t) w u l fp∧(∀b,b∈fp→ ∃i o,i∈k∧look st.hp i=some o∧b∈(env i).fp)
  :=by
 intro hpk
 unfold Gz at h
 split at h
 ·rename_i n
  split at h
  ·rename_i t' l' hl
   split at h
   ·rename_i l2 hc
    simp only[oI,pI]at h
    obtain⟨rfl,rfl⟩:=h
    obtain⟨e,rfl⟩:=fL hc
    subst e
    obtain⟨_,rfl⟩:=hr
    exact⟨(env n).fp,RO.Zr (rF hpk (by simp)) (g.obj n _ hl),fun b hb=>⟨n,_,by simp,hl,hb⟩⟩
   ·cases h
  ·cases h
 ·simp only[oI,pI]at h
  obtain⟨rfl,rfl⟩:=h
  have hu:=(show ji w st.hp env (.a (.lit Kr)) u from hr).lit
  subst hu
  exact⟨[],lP.nil _ _ _ _ _,by simp⟩
 ·cases h
theorem GA{t:Tag}(hf:flat t=true){u:Value}{l:List (T t)}{fp:List Nat}(hs:Sl (kk t) (rd t) w u l fp):
  ∃(news:List Value) (fx:List (List Nat)),Src w u l.length news∧fx.length=l.length∧news.length=l.length*kk t∧(∀i x f,l[i]? =some x→fx[i]? =some f→rd t w ((news.drop (i*kk t)).take (kk t)) x f)∧fx.flatten= []:=by
 obtain⟨news,fx,h1,h2,h3,h4,h5⟩:=Bl (fP t) (iW t) hs
 refine⟨news,fx,h1,h2,h3,h4,?_⟩
 rw[List.flatten_eq_nil_iff]
 intro f hf'
 obtain⟨i,hi⟩:=eW hf'
 have hil:i<l.length:=by have:=(aI.1 hi).1;omega
 exact ZO t hf (h4 i _ f (au hil) hi)
theorem Jp(g:Good ty zb st a.tmps w env){t:Tag}{x:S1}{u:Value}{l:List (T t)}{k:List Nat}(hr:ji w st.hp env x u)(h:KE st t x=some (l,k)):
  ∃(news:List Value) (fx:List (List Nat)),Src w u l.length news∧fx.length=l.length∧news.length=l.length*kk t∧(∀i x f,l[i]? =some x→fx[i]? =some f→rd t w ((news.drop (i*kk t)).take (kk t)) x f)∧
   (∀b,b∈fx.flatten→ ∃i o,i∈k∧look st.hp i=some o∧b∈(env i).fp)∧Own 0 w fx.flatten:=by
 unfold KE at h
 split at h
 ·rename_i n
  split at h
  ·rename_i t' l' hl
   split at h
   ·rename_i l2 hc
    simp only[oI,pI]at h
    obtain⟨rfl,hk⟩:=h
    obtain⟨e,rfl⟩:=fL hc
    subst e
    obtain⟨_,rfl⟩:=hr
    have hb:=RO.sl (g.obj n _ hl)
    split at hk
    ·rename_i hf
     subst hk
     obtain⟨news,fx,h1,h2,h3,h4,h5⟩:=GA hf hb
     exact⟨news,fx,h1,h2,h3,h4,by simp[h5],by rw[h5];exact Own.nil _ _⟩
    ·subst hk
     obtain⟨news,fx,h1,h2,h3,h4,h5⟩:=Bl (fP t') (iW t') hb
     have ho:=RO.own (g.obj n _ hl)
     exact⟨news,fx,h1,h2,h3,h4,fun b hb=>⟨n,_,by simp,hl,h5.subset hb⟩,⟨h5.nodup ho.nodup,fun b hb=>ho.ge b (h5.subset hb),fun b hb=>ho.kind b (h5.subset hb)⟩⟩
   ·cases h
  ·cases h
 ·rename_i t' l'
  split at h
  ·rename_i l2 hf hc
   simp only[oI,pI]at h
   obtain⟨rfl,rfl⟩:=h
   obtain⟨e,rfl⟩:=fL hc
   subst e
   obtain⟨fp,hs,_⟩:=hr
   obtain⟨news,fx,h1,h2,h3,h4,h5⟩:=GA hf hs
   exact⟨news,fx,h1,h2,h3,h4,by simp[h5],by rw[h5];exact Own.nil _ _⟩
  ·rename_i l2 hf hc
   split at h
   ·simp only[oI,pI]at h
    obtain⟨rfl,rfl⟩:=h
    obtain⟨e,he⟩:=fL hc
    subst e
    obtain rfl:l'= []:=he.symm
    obtain⟨fp,hs,_⟩:=hr
    obtain⟨news,fx,h1,h2,h3,h4,h5⟩:=Bl (fP t') (iW t') hs
    have FT:fx= []:=bR h2
    subst FT
    exact⟨news,[],h1,rfl,h3,by simp,by simp,Own.nil _ _⟩
   ·cases h
  ·cases h
 ·rename_i n _ t' l'
  split at h
  ·rename_i l2 hc
   simp only[oI,pI]at h
   obtain⟨rfl,hk⟩:=h
   obtain⟨e,rfl⟩:=fL hc
   subst e
   obtain⟨⟨tA,lA,hl⟩,⟨fp,hs,hnd,hsub⟩,_⟩:=hr
   split at hk
   ·rename_i hf
    subst hk
    obtain⟨news,fx,h1,h2,h3,h4,h5⟩:=GA hf hs
    exact⟨news,fx,h1,h2,h3,h4,by simp[h5],by rw[h5];exact Own.nil _ _⟩
   ·subst hk
    obtain⟨news,fx,h1,h2,h3,h4,h5⟩:=Bl (fP t') (iW t') hs
    have ho:=RO.own (g.obj n _ hl)
    exact⟨news,fx,h1,h2,h3,h4,fun b hb=>⟨n,_,by simp,hl,hsub b (h5.subset hb)⟩,⟨h5.nodup hnd,fun b _=>aA _,fun b hb=>ho.kind b (hsub b (h5.subset hb))⟩⟩
  ·cases h
 ·rename_i n t' l'
  split at h
  ·rename_i l2 hc
   simp only[oI,pI]at h
   obtain⟨rfl,rfl⟩:=h
   obtain⟨e,rfl⟩:=fL hc
   subst e
   obtain⟨⟨tA,lA,hl⟩,b,fp,hs,hb,hnd,hsub⟩:=hr
   obtain⟨news,fx,h1,h2,h3,h4,_,h5⟩:=tY (fP t') (iW t') hs
   have h5:=h5 b fp rfl
   have ho:=RO.own (g.obj n _ hl)
   exact⟨news,fx,h1,h2,h3,h4,fun c hc=>⟨n,_,by simp,hl,hsub c (by rw[←h5];exact hc)⟩,⟨by rw[h5];exact hnd,fun c _=>aA _,fun c hc=>ho.kind c (hsub c (by rw[←h5];exact hc))⟩⟩
  ·cases h
 ·simp only[oI,pI]at h
  obtain⟨rfl,rfl⟩:=h
  have hu:=(show ji w st.hp env (.a (.lit Kr)) u from hr).lit
  subst hu
  exact⟨[],[],bG ⟨rfl,rfl,rfl⟩,rfl,by simp,by simp,by simp,Own.nil _ _⟩
 ·simp only[oI,pI]at h
  obtain⟨rfl,rfl⟩:=h
  obtain⟨oa,cap,rfl,_,_,hz⟩:=hr
  refine⟨[],[],?_,rfl,by simp,by simp,by simp,Own.nil _ _⟩
  cases oa with
  |none=>exact bG ⟨by simp[hz rfl],rfl,rfl⟩
  |some a=>exact bg ⟨a,cap,rfl,by simp⟩
 ·cases h
theorem aaa{Γ:Nat→TK}(C: ∀t,fD P t (Γ t)){m0:Nat}{vc:List Prop}{st':St}{v:SV}(h:Pq P ty Γ st m0 o.op=some (vc,st',v))(g:Good ty zb st a.tmps w env)(hB:zb.w.heap.size≤w.heap.size)(hv: ∀q,q∈vc→q):
  o.wp P a w (fun a' w'=> ∃u env',a'=a.put o.dst u∧Kept zb w w'∧Good ty zb st' a.tmps w' env'∧st'.n=st.n∧sK w' st'.hp env' a.tmps v u) Q:=by
 have hop: ∀{x v},jh st [] x=some v→ji w st.hp env v (a.eval x):=fun hx=>gu g (fun e he=>by simp at he) hx
 generalize iJ:o.op=op at h
 cases op with
 |call c=>
  obtain⟨callee,xs,ts⟩:=c
  cases callee with
  |builtin b=>
   cases b with
   |append=>
    simp only[Pq]at h
    split at h
    ·rename_i s x t1 t2 hxl htl
     obtain rfl:xs= #[s,x]:=by cases xs;simp_all
     obtain rfl:ts= #[t1,t2]:=by cases ts;simp_all
     split at h
     ·rename_i t e hk Ac
      have Ac:=av Ac
      subst Ac
      split at h
      ·rename_i vs vx he hs hx
       have he:=av he
       split at h
       ·rename_i l k lx m hds hsr
        split at h
        ·rename_i hno hlk
         simp only[aj,bp]at hno
         obtain⟨⟨hno,hpk⟩,Gw⟩:=hno
         rw[gI]at hpk
         have adU:pinned k=false:=by
          unfold pinned at hpk ⊢
          rw[w8,gm]at hpk
          exact hpk.1
         simp only[oI,pI,gI]at h
         rw[gI]at hlk
         obtain⟨rfl,h2,rfl⟩:=h
         rw[St.gone_eq]at h2
         subst h2
         have vQ:El P ty t:=hv _ (by simp)
         obtain⟨ck,dS⟩:(l.length+lx.length)*gl t≤140737488355328∧l.length+lx.length≤maxLen:=hv _ (by simp)
         obtain⟨fp,hD,wL⟩:=CS g (hop hs) hds adU
         obtain⟨news,fx,n1,n2,n3,n4,n5,n6⟩:=Jp g (hop hx) hsr
         have hC:=C t1
         rw[hk]at hC
         have S5:Own 0 w (fp++fx.flatten):=by
          have ho:=hD.own
          refine⟨aY.2 ⟨ho.nodup,n6.nodup,?_⟩,fun b hb=> ?_,fun b hb=> ?_⟩
          ·rintro b hb c hc rfl
           obtain⟨i,oi,hi,h1,h2⟩:=wL b hb
           obtain⟨j,oj,hj,h3,h4⟩:=n5 b hc
           have hij:i≠j:=by
            rintro rfl
            simp only[Bn,bq,bp,bK]at hno
            exact hno i hi i hj (by simp)
           exact g.lR i j _ _ hij h1 h3 b h2 h4
          ·rcases aK.1 hb with hb|hb
           ·exact ho.ge b hb
           ·exact n6.ge b hb
          ·rcases aK.1 hb with hb|hb
           ·exact ho.kind b hb
           ·exact n6.kind b hb
         refine Fh s x t1 iJ (fP t) (iW t) 0 (ty t) (iH t) (gl t) (by rw[←he];exact hC.1) vQ (mB t) _ l fp rfl hD _ rfl lx news fx n1 n2 n3 n4 S5 dS ck (aA _) ?_
         intro v' w' je k1 k2 k3 k4 k5 _
         obtain⟨env',hg',GB⟩:=Bm (ty:=ty) g hB (ks:=k++m) hpk Gw hlk (v:=a.eval s) (fp:=fp) (fx:=fx.flatten)
          (by
           intro b hb
           rcases aK.1 hb with hb|hb
           ·obtain⟨i,oi,hi,h1⟩:=wL b hb;exact⟨i,oi,aM _ hi,h1⟩
           ·obtain⟨i,oi,hi,h1⟩:=n5 b hb;exact⟨i,oi,aH _ hi,h1⟩)
          (by
           intro b hb
           obtain⟨xs,cu,_,_,_,iV,_⟩:=hD
           rw[iV,hb];simp)
          k1 k2 k4
         refine⟨v',env',rfl,⟨k2.os,k2.tape,k2.output,k2.size,fun b hb hn=>k2.block b (by omega) fun e=> ?_,k5⟩,hg',rfl,⟨t,_,look_eq⟩,GB.symm⟩
         have Pr:b∈fp:=by
          obtain⟨xs,cu,_,_,_,iV,_⟩:=hD
          rw[iV, ←e];simp
         obtain⟨i,oi,hi,h1,h2⟩:=wL b Pr
         rcases g.dom i oi h1 b h2 with h|h
         ·exact hn h
         ·omega
        ·cases h
       ·cases h
      ·cases h
     ·cases h
    ·cases h
   |_=>simp[Pq]at h
  |_=>simp[Pq]at h
 |_=>simp[Pq]at h
end
end
section
variable{ty:Tag→Nat}
def takes(st:St):List V→Option (List V×List Nat)
 | []=>some ([],[])
 | .lit v::r=>match takes st r with|some (c,k)=>some (.lit v::c,k)|none=>none
 | .own n::r=>match look st.hp n,takes st r with
   |some (.arr t l),some (c,k)=>some (.sl t l::c,n::k)
   |_,_=>none
 |_=>none
def GC(st:St)(g:Tag):Nat→List (Nat×Operand)→Option (List Prop×List (T g)×List Nat)
 |_,[]=>some ([],[],[])
 |i,(j,x)::r=>match bf i j,jh st [] x with
  |true,some s=>match takes st (cellsOf s)with
   |some (c,k)=>match enc g c,GC st g (i+1) r with
    |some (vc,y),some (vcs,ys,ks)=>some (vc++vcs,y::ys,k++ks)
    |_,_=>none
   |none=>none
  |_,_=>none
def mE(st:St):List V→Option (List V×List Nat)
 | []=>some ([],[])
 | .lit v::r=>match mE st r with|some (c,k)=>some (.lit v::c,k)|none=>none
 | .own n::r=>match look st.hp n,mE st r with
   |some (.arr t l),some (c,k)=>some (.sl t l::c,n::k)
   |_,_=>none
 | .vw n _ t l::r=>match look st.hp n,mE st r with
   |some (.arr _ _),some (c,k)=>some (.sl t l::c,n::k)
   |_,_=>none
 |_=>none
def Bo(st:St)(g:Tag):Nat→List (Nat×Operand)→Option (List Prop×List (T g)×List Nat)
 |_,[]=>some ([],[],[])
 |i,(j,x)::r=>match bf i j,jh st [] x with
  |true,some s=>match mE st (cellsOf s)with
   |some (c,k)=>match enc g c,Bo st g (i+1) r with
    |some (vc,y),some (vcs,ys,ks)=>some (vc++vcs,y::ys,k++ks)
    |_,_=>none
   |none=>none
  |_,_=>none
def tG:List Nat→Bool
 | []=>true
 |n::r=> !(r.any fun m=>bf n m)&&tG r
def GD(P:Program)(ty:Tag→Nat)(Γ:Nat→TK)(st:St)(m0:Nat):Op→Option (List Prop×St×SV)
 | .buildSlice t len parts=>match Γ t with
   | .sl g e=>match bf e (ty g),bf parts.toList.length len,mm (len*kk g) 16777216,Bo st g 0 parts.toList with
     |true,true,true,some (vc,xs,ks)=>match tG ks&& !pinned ks&& !ng m0,look (dQ ks [] st.hp) m0 with
      |true,none=>some (El P ty g::vc,st.gone ks m0 g xs, .one (.a (.own m0)))
      |_,_=>none
     |_,_,_,_=>none
   |_=>none
 |_=>none
theorem mR: ∀{l:List Nat},tG l=true→l.Nodup
 | [],_=>tC
 |n::r,h=>by
  simp only[tG,aj,bp,bK]at h
  exact b9.2 ⟨fun hm=>h.1 n hm (by simp),mR h.2⟩
section
variable{P:Program}{zb:eJ}{st:St}{a:Act}{w:World}{env:Env}{Q:Exit→Act→World→Prop}{o:Oper}
theorem Bp(g:Good ty zb st a.tmps w env): ∀{l c:List V} {k:List Nat} {us:List Value},cO (RA w st.hp env) l us→takes st l=some (c,k)→k.Nodup→
  ∃fp,dM w c us fp∧Own 0 w fp∧ ∀b,b∈fp→ ∃i o,i∈k∧look st.hp i=some o∧b∈(env i).fp
 | [],c,k,us,hr,h,_=>by
   simp only[takes,oI,pI]at h
   obtain⟨rfl,rfl⟩:=h
   cases us with
   |nil=>exact⟨[],rfl,Own.nil _ _,by simp⟩
   |cons _ _=>exact hr.elim
 |v::r,c,k,us,hr,h,hnd=>by
  cases us with
  |nil=>exact hr.elim
  |cons u us=>
   cases v with
   |lit x=>
    simp only[takes]at h
    split at h
    ·rename_i c' k' h'
     simp only[oI,pI]at h
     obtain⟨rfl,rfl⟩:=h
     obtain⟨fp,h1,h2,h3⟩:=Bp g hr.2 h' hnd
     obtain⟨e1,e2⟩:=hr.1
     exact⟨fp,⟨[],fp,⟨e1,e2,rfl⟩,h1,rfl⟩,h2,h3⟩
    ·cases h
   |own n=>
    simp only[takes]at h
    split at h
    ·rename_i t l c' k' hl h'
     simp only[oI,pI]at h
     obtain⟨rfl,rfl⟩:=h
     obtain⟨hn1,hn2⟩:=b9.1 hnd
     obtain⟨fp,h1,h2,h3⟩:=Bp g hr.2 h' hn2
     obtain⟨_,rfl⟩:=hr.1
     have hb:=RO.sl (g.obj n _ hl)
     have ho:=RO.own (g.obj n _ hl)
     refine⟨(env n).fp++fp,⟨_,_,hb,h1,rfl⟩,⟨aY.2 ⟨ho.nodup,h2.nodup,?_⟩,fun b hb=> ?_,fun b hb=> ?_⟩,fun b hb=> ?_⟩
     ·rintro b hb x hx rfl
      obtain⟨i,o,hi,h4,h5⟩:=h3 b hx
      exact g.lR n i _ _ (fun e=>hn1 (e▸hi)) hl h4 b hb h5
     ·rcases aK.1 hb with hb|hb
      ·exact ho.ge b hb
      ·exact h2.ge b hb
     ·rcases aK.1 hb with hb|hb
      ·exact ho.kind b hb
      ·exact h2.kind b hb
     ·rcases aK.1 hb with hb|hb
      ·exact⟨n,_,by simp,hl,hb⟩
      ·obtain⟨i,o,hi,h4,h5⟩:=h3 b hb
       exact⟨i,o,aJ _ hi,h4,h5⟩
    ·cases h
   |_=>simp[takes]at h
theorem mF(g:Good ty zb st a.tmps w env){s:S1}{u:Value}(hr:ji w st.hp env s u)(hn:wY (cellsOf s)=true):cO (RA w st.hp env) (cellsOf s) u.cells.toList:=by
 cases s with
 |a v=>
  have:=mQ g (show RA w st.hp env v u from hr) (ud hn v (by simp[cellsOf]))
  rw[this]
  exact⟨hr,trivial⟩
 |agg l=>
  obtain⟨cs,rfl,hl⟩:=hr
  exact hl
theorem jk{st:St}: ∀{l c:List V} {k:List Nat},takes st l=some (c,k)→wY l=true
 | [],_,_,_=>rfl
 |v::r,c,k,h=>by
  cases v with
  |lit x=>
   simp only[takes]at h
   split at h
   ·rename_i h';exact jk (l:=r) h'
   ·cases h
  |own n=>
   simp only[takes]at h
   split at h
   ·rename_i h';exact jk (l:=r) h'
   ·cases h
  |_=>simp[takes]at h
theorem yJ(g:Good ty zb st a.tmps w env): ∀{l c:List V} {k:List Nat} {us:List Value},cO (RA w st.hp env) l us→mE st l=some (c,k)→k.Nodup→
  ∃fp,dM w c us fp∧Own 0 w fp∧ ∀b,b∈fp→ ∃i o,i∈k∧look st.hp i=some o∧b∈(env i).fp
 | [],c,k,us,hr,h,_=>by
   simp only[mE,oI,pI]at h
   obtain⟨rfl,rfl⟩:=h
   cases us with
   |nil=>exact⟨[],rfl,Own.nil _ _,by simp⟩
   |cons _ _=>exact hr.elim
 |v::r,c,k,us,hr,h,hnd=>by
  cases us with
  |nil=>exact hr.elim
  |cons u us=>
   cases v with
   |lit x=>
    simp only[mE]at h
    split at h
    ·rename_i c' k' h'
     simp only[oI,pI]at h
     obtain⟨rfl,rfl⟩:=h
     obtain⟨fp,h1,h2,h3⟩:=yJ g hr.2 h' hnd
     obtain⟨e1,e2⟩:=hr.1
     exact⟨fp,⟨[],fp,⟨e1,e2,rfl⟩,h1,rfl⟩,h2,h3⟩
    ·cases h
   |own n=>
    simp only[mE]at h
    split at h
    ·rename_i t l c' k' hl h'
     simp only[oI,pI]at h
     obtain⟨rfl,rfl⟩:=h
     obtain⟨hn1,hn2⟩:=b9.1 hnd
     obtain⟨fp,h1,h2,h3⟩:=yJ g hr.2 h' hn2
     obtain⟨_,rfl⟩:=hr.1
     have hb:=RO.sl (g.obj n _ hl)
     have ho:=RO.own (g.obj n _ hl)
     refine⟨(env n).fp++fp,⟨_,_,hb,h1,rfl⟩,⟨aY.2 ⟨ho.nodup,h2.nodup,?_⟩,fun b hb=> ?_,fun b hb=> ?_⟩,fun b hb=> ?_⟩
     ·rintro b hb x hx rfl
      obtain⟨i,o,hi,h4,h5⟩:=h3 b hx
      exact g.lR n i _ _ (fun e=>hn1 (e▸hi)) hl h4 b hb h5
     ·rcases aK.1 hb with hb|hb
      ·exact ho.ge b hb
      ·exact h2.ge b hb
     ·rcases aK.1 hb with hb|hb
      ·exact ho.kind b hb
      ·exact h2.kind b hb
     ·rcases aK.1 hb with hb|hb
      ·exact⟨n,_,by simp,hl,hb⟩
      ·obtain⟨i,o,hi,h4,h5⟩:=h3 b hb
       exact⟨i,o,aJ _ hi,h4,h5⟩
    ·cases h
   |vw n p t l=>
    simp only[mE]at h
    split at h
    ·rename_i t0 l0 c' k' hl h'
     simp only[oI,pI]at h
     obtain⟨rfl,rfl⟩:=h
     obtain⟨hn1,hn2⟩:=b9.1 hnd
     obtain⟨fp,h1,h2,h3⟩:=yJ g hr.2 h' hn2
     obtain⟨_,⟨fv,hs,hnv,hsub⟩,_⟩:=hr.1
     have ho:=RO.own (g.obj n _ hl)
     refine⟨fv++fp,⟨_,_,hs,h1,rfl⟩,⟨aY.2 ⟨hnv,h2.nodup,?_⟩,fun b hb=> ?_,fun b hb=> ?_⟩,fun b hb=> ?_⟩
     ·rintro b hb x hx rfl
      obtain⟨i,o,hi,h4,h5⟩:=h3 b hx
      exact g.lR n i _ _ (fun e=>hn1 (e▸hi)) hl h4 b (hsub b hb) h5
     ·rcases aK.1 hb with hb|hb
      ·exact ho.ge b (hsub b hb)
      ·exact h2.ge b hb
     ·rcases aK.1 hb with hb|hb
      ·exact ho.kind b (hsub b hb)
      ·exact h2.kind b hb
     ·rcases aK.1 hb with hb|hb
      ·exact⟨n,_,by simp,hl,hsub b hb⟩
      ·obtain⟨i,o,hi,h4,h5⟩:=h3 b hb
       exact⟨i,o,aJ _ hi,h4,h5⟩
    ·cases h
   |_=>simp[mE]at h
theorem qF{st:St}: ∀{l c:List V} {k:List Nat},mE st l=some (c,k)→wY l=true
 | [],_,_,_=>rfl
 |v::r,c,k,h=>by
  cases v with
  |lit x=>
   simp only[mE]at h
   split at h
   ·rename_i h';exact qF (l:=r) h'
   ·cases h
  |own n=>
   simp only[mE]at h
   split at h
   ·rename_i h';exact qF (l:=r) h'
   ·cases h
  |vw n p t l=>
   simp only[mE]at h
   split at h
   ·rename_i h';exact qF (l:=r) h'
   ·cases h
  |_=>simp[mE]at h
theorem GF(g:Good ty zb st a.tmps w env){t:Tag}: ∀{ps:List (Nat×Operand)} {i:Nat} {vc:List Prop} {xs:List (T t)} {ks:List Nat},Bo st t i ps=some (vc,xs,ks)→ks.Nodup→(∀q,q∈vc→q)→
  (ps.map fun p=>(p.1,a.eval p.2))=zh i (ps.map fun p=>a.eval p.2)∧xs.length=ps.length∧ ∃cu:List (List Nat),cu.length=xs.length∧
   (∀(i:Nat) (x:T t) (f:List Nat),xs[i]? =some x→cu[i]? =some f→ ∃p:Nat×Operand,ps[i]? =some p∧rd t w (a.eval p.2).cells.toList x f)∧Own 0 w cu.flatten∧ ∀b,b∈cu.flatten→ ∃i o,i∈ks∧look st.hp i=some o∧b∈(env i).fp
 | [],i,vc,xs,ks,h,_,_=>by
   simp only[Bo,oI,pI]at h
   obtain⟨rfl,rfl,rfl⟩:=h
   exact⟨rfl,rfl,[],rfl,by simp,Own.nil _ _,by simp⟩
 | (j,x)::r,i,vc,xs,ks,h,hnd,hv=>by
   simp only[Bo]at h
   split at h
   ·rename_i s hij hx
    have hij:=av hij
    subst hij
    split at h
    ·rename_i c k hc
     split at h
     ·rename_i tO y vcs ys ks1 he hb
      simp only[oI,pI]at h
      obtain⟨rfl,rfl,rfl⟩:=h
      obtain⟨hn1,hn2,Zu⟩:=aY.1 hnd
      obtain⟨q1,q2,cu,q3,q4,q5,q6⟩:=GF g hb hn2 (fun q hq=>hv q (aH _ hq))
      obtain⟨fp,r1,r2,r3⟩:=yJ g (mF g (gu g (fun e he=>by simp at he) hx) (qF hc)) hc hn1
      have hE:=uW t he (fun q hq=>hv q (aM _ hq)) r1
      refine⟨by simp[zh,q1],by simp[q2],fp::cu,by simp[q3],?_,⟨?_,?_,?_⟩,?_⟩
      ·intro i' x' f hx' hf
       cases i' with
       |zero=>simp at hx' hf;subst hx';subst hf;exact⟨(i,x),rfl,hE⟩
       |succ n=>simp at hx' hf;obtain⟨p,h1,h2⟩:=q4 n x' f hx' hf;exact⟨p,by simpa using h1,h2⟩
      ·rw[bO]
       refine aY.2 ⟨r2.nodup,q5.nodup,?_⟩
       rintro b hb z hz rfl
       obtain⟨n,o1,h1,h2,h3⟩:=r3 b hb
       obtain⟨m,o2,h4,h5,h6⟩:=q6 b hz
       exact g.lR n m _ _ (fun e=>Zu n h1 m h4 e) h2 h5 b h3 h6
      ·intro b hb
       rw[bO]at hb
       rcases aK.1 hb with hb|hb
       ·exact r2.ge b hb
       ·exact q5.ge b hb
      ·intro b hb
       rw[bO]at hb
       rcases aK.1 hb with hb|hb
       ·exact r2.kind b hb
       ·exact q5.kind b hb
      ·intro b hb
       rw[bO]at hb
       rcases aK.1 hb with hb|hb
       ·obtain⟨n,o1,h1,h2,h3⟩:=r3 b hb;exact⟨n,o1,aM _ h1,h2,h3⟩
       ·obtain⟨n,o1,h1,h2,h3⟩:=q6 b hb;exact⟨n,o1,aH _ h1,h2,h3⟩
     ·cases h
    ·cases h
   ·cases h
theorem Tt{Γ:Nat→TK}(C: ∀t,fD P t (Γ t)){m0:Nat}{vc:List Prop}{st':St}{v:SV}(h:GD P ty Γ st m0 o.op=some (vc,st',v))(g:Good ty zb st a.tmps w env)(hB:zb.w.heap.size≤w.heap.size)(hv: ∀q,q∈vc→q):
  o.wp P a w (fun a' w'=> ∃u env',a'=a.put o.dst u∧Kept zb w w'∧Good ty zb st' a.tmps w' env'∧st'.n=st.n∧sK w' st'.hp env' a.tmps v u) Q:=by
 generalize iJ:o.op=op at h
 cases op with
 |buildSlice t len parts=>
  simp only[GD]at h
  split at h
  ·rename_i gt e hk
   split at h
   ·rename_i tO xs ks he hlen hbig hb
    have he:=av he
    split at h
    ·rename_i hnd hlk
     simp only[aj,bp]at hnd
     obtain⟨⟨hnd,hpk⟩,Gw⟩:=hnd
     simp only[oI,pI]at h
     obtain⟨rfl,h2,rfl⟩:=h
     rw[St.gone_eq]at h2
     subst h2
     have vQ:El P ty gt:=hv _ (by simp)
     obtain⟨q1,q2,cu,q3,q4,q5,q6⟩:=GF g hb (mR hnd) (fun q hq=>hv q (by simp[hq]))
     have hC:=C t
     rw[hk,he]at hC
     obtain⟨w',r1,r2,r3⟩:=yH (P:=P) (w:=w) (a:=a) iJ hC.1 vQ (bT hbig) (av hlen) (aA _) q1 q2 q3 q4 q5
     obtain⟨env',hg',GB⟩:=Bm (ty:=ty) g hB (ks:=ks) hpk Gw hlk (v:=Kr) (fp:= []) (fx:=cu.flatten) (by simpa using q6) (by intro b hb;cases hb) r3
      ⟨r2.os,r2.tape,r2.output,r2.size,fun b hb _=>r2.block b hb⟩ (by
       intro b hb
       rcases aW.1 hb with h|h
       ·exact bg (bg h)
       ·exact bg (bG h))
     unfold iK
     rw[r1]
     exact⟨_,env',rfl,oB r2 hB,hg',rfl,⟨gt,_,look_eq⟩,GB.symm⟩
    ·cases h
   ·cases h
  ·cases h
 |_=>simp[GD]at h
end
end
section
variable{ty:Tag→Nat}
theorem sS{w:World}{b o:Nat}{x y:List Value}(hx:w.rangeAt b o x)(hy:w.rangeAt b (o+x.length) y):w.rangeAt b o (x++y):=by
 intro j v hv
 by_cases hj:j<x.length
 ·rw[bP hj]at hv;exact hx j v hv
 ·rw[bQ (by omega)]at hv
  have:=hy _ v hv
  rwa [show o+x.length+(j-x.length)=o+j by omega]at this
theorem Bq{w:World}{b o n:Nat}{cs:List Value}(h:w.rangeAt b o cs):w.rangeAt b o (cs.take n):=by
 intro j v hv
 rw[cE]at hv
 split at hv
 ·exact h j v hv
 ·cases hv
theorem Br{w:World}{b o n:Nat}{cs:List Value}(h:w.rangeAt b o cs):w.rangeAt b (o+n) (cs.drop n):=by
 intro j v hv
 rw[cJ]at hv
 have:=h _ v hv
 rwa [show o+n+j=o+(n+j)by omega]
theorem w9{w:World}{b o off:Nat}{cs us:List Value}(h:w.rangeAt b o cs)(hl:off+us.length≤cs.length)(ht:w.there b (o+off) us.length):
  (w.setCells b (o+off) us).rangeAt b o (cs.take off++(us++cs.drop (off+us.length))):=by
 have l1:(cs.take off).length=off:=by rw[bL];omega
 refine sS (dI (Bq h) _ _ _ (bg (bG (by rw[l1];exact bh _)))) ?_
 rw[l1]
 refine sS (World.rangeAt_setCells_same w b _ us ht) ?_
 rw[fB]
 exact dI (Br h) _ _ _ (bg (bg (by omega)))
theorem dM.adV{w:World}{x y z:List V}{us vs ts:List Value}{f g h:List Nat}(a:dM w x us f)(b:dM w y vs g)(c:dM w z ts h):dM w (x++(y++z)) (us++(vs++ts)) (f++(g++h)):=dM.app a (dM.app b c)
theorem dM.split{w:World}: ∀(n:Nat) {c:List V} {cs:List Value} {f:List Nat},dM w c cs f→ ∃f1 f2,f=f1++f2∧dM w (c.take n) (cs.take n) f1∧dM w (c.drop n) (cs.drop n) f2
 |0,c,cs,f,h=>⟨[],f,rfl,by simp[dM],by simpa using h⟩
 |n+1,[],[],f,h=>⟨[],f,rfl,by simp[dM],by simpa using h⟩
 |n+1,v::r,u::us,f,⟨f1,f2,h1,h2,e⟩=>by
  obtain⟨g1,g2,k1,k2,k3⟩:=dM.split n h2
  exact⟨f1++g1,g2,by rw[e,k1,b7],⟨f1,g1,h1,k2,rfl⟩,by simpa using k3⟩
 |_+1,[],_::_,_,h=>h.elim
 |_+1,_::_,[],_,h=>h.elim
theorem dM.IC{w:World}{c d vs:List V}{cs us:List Value}{f g:List Nat}{off:Nat}(h:dM w c cs f)(hv:dM w vs us g)(hs:G.IC c off vs=some d):
  ∃f1 f2 f3,f=f1++(f2++f3)∧dM w d (cs.take off++(us++cs.drop (off+us.length))) (f1++(g++f3))∧off+us.length≤cs.length:=by
 unfold G.IC at hs
 split at hs
 ·rename_i hb
  have hb:=bT hb
  simp only[oI]at hs
  subst hs
  obtain⟨f1,f',e1,k1,k2⟩:=dM.split off h
  obtain⟨f2,f3,e2,_,k4⟩:=dM.split us.length k2
  have h1:=h.len
  have h2:=hv.len
  refine⟨f1,f2,f3,by rw[e1,e2],?_,by omega⟩
  have:=dM.adV k1 hv k4
  rw[lY,lY]at this
  rw[←h2]
  exact this
 ·cases hs
theorem xe{cu:List (List Nat)}{i:Nat}{f':List Nat}{b:Nat}(h:b∈(cu.set i f').flatten):b∈f'∨ ∃j f,j≠i∧cu[j]? =some f∧b∈f:=by
 obtain⟨f,hf,hb⟩:=mg.1 h
 obtain⟨j,hj⟩:=eW hf
 by_cases hji:j=i
 ·subst hji
  have hlt:=(aI.1 hj).1
  rw[bH]at hlt
  rw[eY hlt]at hj
  simp only[oI]at hj
  subst hj
  exact bG hb
 ·rw[hY (Ne.symm hji)]at hj
  exact bg ⟨j,f,hji,hj,hb⟩
theorem tH{cu:List (List Nat)}{i:Nat}{f':List Nat}(h:cu.flatten.Nodup)(hf:f'.Nodup)(hd: ∀j f,j≠i→cu[j]? =some f→ ∀b,b∈f→b∉f'):(cu.set i f').flatten.Nodup:=by
 have h1:=gO.1 h
 refine gO.2 ⟨fun l hl=> ?_,?_⟩
 ·obtain⟨j,hj⟩:=eW hl
  by_cases hji:j=i
  ·subst hji
   have hlt:=(aI.1 hj).1
   rw[bH]at hlt
   rw[eY hlt]at hj
   simp only[oI]at hj
   subst hj
   exact hf
  ·rw[hY (Ne.symm hji)]at hj
   exact h1.1 _ (dF hj)
 ·have h2:=l7.1 h1.2
  rw[l7]
  intro p q hp hq hpq x hx y hy e
  subst e
  rw[bH]at hp hq
  rw[List.getElem_set]at hx hy
  split at hx<;>split at hy
  ·omega
  ·rename_i e1 e2
   subst e1
   exact hd q _ (by omega) (au hq) x hy hx
  ·rename_i e1 e2
   subst e2
   exact hd p _ (by omega) (au hp) x hx hy
  ·exact h2 p q hp hq hpq x hx x hy rfl
theorem CT{α:Type}{k:Nat}{E:ER α}(G:jA k E){w w':World}{b off:Nat}{l:List α}{cu:List (List Nat)}(h:sM k E w b off l cu){i:Nat}{x':α}{f':List Nat}{cs':List Value}
  (hr:w'.rangeAt b (off+i*k) cs')(hE:E w' cs' x' f')(ho: ∀j cs,j≠i→cs.length=k→w.rangeAt b (off+j*k) cs→w'.rangeAt b (off+j*k) cs)(ha: ∀j f,j≠i→cu[j]? =some f→Agree w w' f):
  sM k E w' b off (l.set i x') (cu.set i f'):=by
 refine⟨by rw[bH,bH];exact h.1,fun j y fy hy qA=> ?_⟩
 by_cases hj:i=j
 ·subst hj
  have hi:=(aI.1 hy).1
  rw[bH]at hi
  have hi2:=(aI.1 qA).1
  rw[bH]at hi2
  rw[eY hi]at hy
  rw[eY hi2]at qA
  simp only[oI]at hy qA
  subst hy;subst qA
  exact⟨cs',hr,hE⟩
 ·rw[hY hj]at hy qA
  obtain⟨cy,hry,QO⟩:=h.2 j y fy hy qA
  exact⟨cy,ho j cy (Ne.symm hj) (G.len QO) hry,G.agree QO (ha j fy (Ne.symm hj) qA)⟩
theorem adW{α:Type}{k:Nat}{E:ER α}(G:jA k E){e:Nat}{w w':World}{v:Value}{l l':List α}{fp je:List Nat}(h:lP k E 0 e w v l fp)(hs:Shape w w')(h':Sl k E w' v l' je)(ho:Own 0 w' je)(hsub: ∀b,b∈je→b∈fp):
  ∃Mp,lP k E 0 e w' v l' Mp∧ ∀b,b∈Mp→b∈fp:=by
 rcases h.parts with⟨rfl,rfl,rfl⟩| ⟨g,o,n,c,cu,rfl,hn,hnm,Ad,KG,rfl⟩
 ·obtain⟨oa,cap,hv,_,_,h3⟩:=h'
  simp only[cK]at hv
  obtain⟨rfl,hl,rfl⟩:=hv
  have:l'= []:=bR hl.symm
  subst this
  exact⟨[],lP.nil _ _ _ _ _,by simp⟩
 ·obtain⟨oa,cap,hv,hc,hm,h3⟩:=h'
  simp only[cK]at hv
  obtain⟨rfl,hl,rfl⟩:=hv
  obtain⟨c',hs1,zI⟩:=hs g c e Ad
  rcases h3 with⟨rfl,rfl,_⟩| ⟨b,off,Tu,hb,aiP,rfl,hE⟩
  ·rw[hl]
   refine⟨[g],mT G (l:= []) (cu:= []) hs1 (by rw[zI];exact KG) (aA _) hm ⟨rfl,by simp⟩ ⟨by simp,by simp,fun b hb=> ?_⟩,by simp⟩
   simp only[jW,aP]at hb
   exact⟨_,_,by rw[hb];exact hs1⟩
  ·simp only[oI,eZ,and_true]at hb
   obtain⟨rfl,rfl⟩:=hb
   rw[hl]
   exact⟨_,mT G hs1 (by rw[zI];exact KG) hc hm hE ho,hsub⟩
def fits:TK→S1→Bool
 | .st z _ _, .agg c=>bf c.length z.length
 | .st _ _ _,_=>false
 | .other,_=>false
 |_, .a _=>true
 |_,_=>false
theorem ME{k:TK}{c:List V}(h:fits k (.agg c)=true): ∃z tg fo,k= .st z tg fo∧bf c.length z.length=true:=by
 cases k with
 |st z tg fo=>exact⟨z,tg,fo,rfl,h⟩
 |_=>cases h
theorem Bs{k:TK}{v:V}(h:fits k (.a v)=true):(∀z tg fo,k≠ .st z tg fo)∧k≠ .other:=by
 cases k with
 |st z tg fo=>cases h
 |other=>cases h
 |_=>exact⟨fun _ _ _ e=>(by cases e),fun e=>(by cases e)⟩
def St.Pt(st:St)(ms:List Nat)(n:Nat)(t:Tag)(l:List (T t)):St:=⟨st.n,st.sl.map fun e=>(e.1,e.2.cM ms [n]),(n, .arr t l)::dQ ms [n] st.hp⟩
def MF(n:Nat)(ms:List Nat):Bool:=tG (n::ms)&& !pinned ms&&(match ms with| []=>true|_=> !ng n)
def aac(Γ:Nat→TK)(st:St):Op→Option (List Prop×St)
 | .store t x y=>match jh st [] x,jh st [] y with
   |some (.a (.rj n i off)),some v=>match look st.hp n with
    |some (.arr g l)=>match fits (Γ t) v,takes st (cellsOf v)with
     |true,some (c,ms)=>match IC (dec g (l.getD i (aO g))) off c with
      |some d=>match enc g d,MF n ms with
       |some (vc,y'),true=>some ((i<l.length)::vc,st.Pt ms n g (l.set i y'))
       |_,_=>none
      |none=>none
     |_,_=>none
    |_=>none
   |_,_=>none
 |_=>none
section
variable{P:Program}{zb:eJ}{st st':St}{a:Act}{w:World}{env:Env}{Q:Exit→Act→World→Prop}{o:Oper}
theorem Ed(g:Good ty zb st a.tmps w env){n:Nat}{t:Tag}{l l':List (T t)}(hl:look st.hp n=some (.arr t l)){ms:List Nat}(hok:MF n ms=true){w':World}{je fx:List Nat}
  (FT: ∀b,b∈fx→ ∃i o,i∈ms∧look st.hp i=some o∧b∈(env i).fp)(hsub: ∀b,b∈je→b∈(env n).fp∨b∈fx)(MG:ng n=true→ ∀b,b∈je→b∈(env n).fp)
  (hk: ∀b,b∉(env n).fp→b∉fx→b<w.heap.size→w'.heap[b]? =w.heap[b]?)(aiQ:pH ty w' n t l' ⟨(env n).v,je⟩):
  ∃env',Good ty zb (st.Pt ms n t l') a.tmps w' env'∧(env' n).v=(env n).v:=by
 simp only[MF,aj,bp]at hok
 obtain⟨⟨hnd,hpk⟩,hpn⟩:=hok
 have hnd:=mR hnd
 have hnm:n∉ms:=(b9.1 hnd).1
 refine⟨fun m=>if m=n then⟨(env n).v,je⟩else env m,?_,by simp⟩
 have hlk: ∀m o,look ((n,Obj.arr t l')::dQ ms [n] st.hp) m=some o→(m=n∧o= .arr t l')∨(m≠n∧m∉ms∧ ∃o',look st.hp m=some o'∧o=o'.cM ms [n]):=by
  intro m o hm
  by_cases kK:m=n
  ·subst kK;rw[look_eq]at hm;simp only[oI]at hm;exact bG ⟨rfl,hm.symm⟩
  ·rw[bX kK,c8]at hm
   split at hm
   ·cases hm
   ·rename_i hks
    cases hq:look st.hp m with
    |none=>rw[hq]at hm;cases hm
    |some o'=>rw[hq]at hm;simp only[dz,oI]at hm;exact bg ⟨kK,hks,o',rfl,hm.symm⟩
 have how: ∀b,b∈je→ ∃i o,(i=n∨i∈ms)∧look st.hp i=some o∧b∈(env i).fp:=by
  intro b hb
  rcases hsub b hb with h|h
  ·exact⟨n,_,bG rfl,hl,h⟩
  ·obtain⟨i,o,h1,h2,h3⟩:=FT b h;exact⟨i,o,bg h1,h2,h3⟩
 have hst: ∀m o,m≠n→m∉ms→look st.hp m=some o→ ∀b,b∈(env m).fp→w'.heap[b]? =w.heap[b]? :=by
  intro m o hmn hks h3 b hb
  refine hk b (fun h=>g.lR m n _ _ hmn h3 hl b hb h) (fun h=> ?_) ((g.obj m o h3).zS b hb)
  obtain⟨i,oi,hi,h5,h6⟩:=FT b h
  exact g.lR m i _ _ (fun e=>hks (e▸hi)) h3 h5 b hb h6
 have s:uc ms [n] w st.hp env w' ((n, .arr t l')::dQ ms [n] st.hp) (fun m=>if m=n then⟨(env n).v,je⟩else env m):=by
  refine⟨fun b hb hno=>hk b (fun h=>hno ⟨n,_,hl,h⟩) (fun h=> ?_) hb,?_,?_,?_⟩
  ·obtain⟨i,oi,hi,h5,h6⟩:=FT b h
   exact hno ⟨i,oi,h5,h6⟩
  ·rintro b hb ⟨m,o',h1,h2⟩
   rcases hlk m o' h1 with⟨rfl,rfl⟩| ⟨kK,hks,AW,h3,rfl⟩
   ·simp at h2
    obtain⟨i,o',_,h3,h4⟩:=how b h2
    exact⟨i,o',h3,h4⟩
   ·simp[kK]at h2
    exact⟨m,AW,h3,h2⟩
  ·intro m o' hks h1
   by_cases hmn:m=n
   ·subst hmn
    rw[hl]at h1
    simp only[oI]at h1
    subst h1
    exact⟨_,look_eq,rfl,by simp⟩
   ·exact⟨o'.cM ms [n],by rw[bX hmn,c8,if_neg hks,h1];rfl,by cases o'<;>simp[Obj.like,Obj.cM],by simp[hmn]⟩
  ·rintro m t' l2 ⟨hks,hmn⟩ h1
   have hmn:m≠n:=by simpa using hmn
   exact⟨by rw[bX hmn,c8,if_neg hks,h1];rfl,by simp[hmn],hst m _ hmn hks h1⟩
 refine g.kj s (fun m o' hm=> ?_) (fun m m' o1 o2 hne h1 h2 b hb hb'=> ?_) (fun m o' hm b hb=> ?_) (fun m hm=> ?_)
 ·rcases hlk m o' hm with⟨rfl,rfl⟩| ⟨kK,hks,AW,h3,rfl⟩
  ·simp only[if_true];exact aiQ
  ·simp only[if_neg kK]
   exact(g.obj m AW h3).kj s (hst m AW kK hks h3)
 ·rcases hlk m o1 h1 with⟨e1,_⟩| ⟨kK,hks,q1,h3,_⟩<;>rcases hlk m' o2 h2 with⟨e2,_⟩| ⟨EO,Pp,q2,h4,_⟩
  ·exact hne (e1.trans e2.symm)
  ·simp only[if_pos e1]at hb
   simp only[if_neg EO]at hb'
   obtain⟨i,oi,hi,h5,h6⟩:=how b hb
   refine g.lR m' i _ _ (fun e=> ?_) h4 h5 b hb' h6
   rcases hi with hi|hi
   ·exact EO (e.trans hi)
   ·exact Pp (e▸hi)
  ·simp only[if_pos e2]at hb'
   simp only[if_neg kK]at hb
   obtain⟨i,oi,hi,h5,h6⟩:=how b hb'
   refine g.lR m i _ _ (fun e=> ?_) h3 h5 b hb h6
   rcases hi with hi|hi
   ·exact kK (e.trans hi)
   ·exact hks (e▸hi)
  ·simp only[if_neg kK]at hb
   simp only[if_neg EO]at hb'
   exact g.lR m m' _ _ hne h3 h4 b hb hb'
 ·rcases hlk m o' hm with⟨e1,_⟩| ⟨kK,hks,q1,h3,_⟩
  ·simp only[if_pos e1]at hb
   obtain⟨i,oi,_,h5,h6⟩:=how b hb
   exact g.dom i oi h5 b h6
  ·simp only[if_neg kK]at hb
   exact g.dom m q1 h3 b hb
 ·by_cases hmn:m=n
  ·subst hmn
   simp only[if_true]
   exact⟨(g.pins m hm).1,fun b hb=>(g.pins m hm).2 b (MG hm b hb)⟩
  ·simp only[if_neg hmn]
   exact g.pins m hm
theorem aad{Γ:Nat→TK}(C: ∀t,fD P t (Γ t))(Z: ∀t,(∀z tg fo,Γ t≠ .st z tg fo)→Γ t≠ .other→(P.info? t).map (·.size)=some 1){vc:List Prop}(h:aac Γ st o.op=some (vc,st'))(g:Good ty zb st a.tmps w env)(hv: ∀q,q∈vc→q):
  o.wp P a w (fun a' w'=> ∃env',a'=a.put o.dst undef∧Kept zb w w'∧Good ty zb st' a.tmps w' env'∧st'.n=st.n) Q:=by
 have hop: ∀{x v},jh st [] x=some v→ji w st.hp env v (a.eval x):=fun hx=>gu g (fun e he=>by simp at he) hx
 generalize iJ:o.op=op at h
 cases op with
 |store t x y=>
  simp only[aac]at h
  split at h
  ·rename_i n i off v hx hy
   have hx:=hop hx
   have hy:=hop hy
   split at h
   ·rename_i gt l hl
    split at h
    ·rename_i c ms hfit UZ
     split at h
     ·rename_i d hs
      split at h
      ·rename_i tO y' he hok
       simp only[oI,pI]at h
       obtain⟨rfl,rfl⟩:=h
       have hi:i<l.length:=hv _ (by simp)
       have agl:=hok
       simp only[MF,aj,bp]at agl
       obtain⟨⟨hnd,hpk⟩,hpn⟩:=agl
       have hnd:=mR hnd
       have hnm:n∉ms:=(b9.1 hnd).1
       obtain⟨t1,l1,hl1,b2,o2,adY,aae,EN,hu⟩:=hx
       rw[hl]at hl1
       simp only[oI,Obj.arr.injEq]at hl1
       obtain⟨rfl,_⟩:=hl1
       have hro:=g.obj n _ hl
       obtain⟨oa,cap,tI,Ad,KG,h3⟩:=RO.sl hro
       have hown:=RO.own hro
       rcases h3 with⟨rfl,_⟩| ⟨b,o1,cu,Pu,dS,iV,hE⟩
       ·simp at hi
       rw[tI,Pu]at EN
       simp only[cK,oI,eZ,and_true]at EN
       obtain⟨⟨rfl,rfl⟩,rfl,rfl⟩:=EN
       have Wb:l[i]? =some (l.getD i (aO gt)):=by rw[ak,au hi];rfl
       obtain⟨f,hf⟩:=kG hE.1 Wb
       obtain⟨cs,Bh,Zy⟩:=hE.2 _ _ f Wb hf
       have hlen:=(fP gt).len Zy
       rw[iV]at hown
       have vf:=b9.1 hown.nodup
       obtain⟨fx,OM,hox,FT⟩:=Bp g (mF g hy (jk UZ)) UZ (b9.1 hnd).2
       obtain⟨f1,f2,f3,Q4,hrd,hlo⟩:=dM.IC (reads gt Zy) OM hs
       have hEn:=uW gt he (fun q hq=>hv q (by simp[hq])) hrd
       have hsz:(P.info? t).map (·.size)=some (a.eval y).cells.toList.length∧ ∀u,u∈(a.eval y).cells.toList→u.oneCell'=true:=by
        refine⟨?_,yI g (mF g hy (jk UZ)) (ud (jk UZ))⟩
        cases v with
        |agg c'=>
         have hk: ∃z tg fo,Γ t= .st z tg fo∧bf c'.length z.length=true:=by
          exact ME hfit
         obtain⟨z,tg,fo,hk,hfit⟩:=hk
         have hC:=C t
         rw[hk]at hC
         obtain⟨fs,_,hi2,_⟩:=hC
         obtain⟨us,V1,ON⟩:=hy
         have:=av hfit
         have Wc:=ON.len
         rw[V1]
         cases hq:P.info? t with
         |none=>simp[hq]at hi2
         |some inf=>simp[hq]at hi2;simp[hi2.1,eu,Wc,this]
        |a v'=>
         have hk:(∀z tg fo,Γ t≠ .st z tg fo)∧Γ t≠ .other:=by
          exact Bs hfit
         have hne:v'≠ .any:=by rintro rfl;simp[cellsOf,takes]at UZ
         have:=mQ g (show RA w st.hp env v' (a.eval y)from hy) hne
         rw[this]
         exact Z t hk.1 hk.2
       obtain⟨cb,eb,vg⟩:=hown.kind b (by simp)
       have QN:w.there b (o1+i*kk gt+off) (a.eval y).cells.toList.length:=by
        refine Kh vg _ _ ?_
        have zZ:o1+i*kk gt+cs.length≤cb.size:=by
         have hk0:=iW gt
         have:=Bh (cs.length-1) _ (au (by omega))
         rw[F6 vg]at this
         have:=(cY.1 this).1
         omega
        omega
       have hkeep: ∀x,x≠b→(w.setCells b (o1+i*kk gt+off) (a.eval y).cells.toList).heap[x]? =w.heap[x]? :=fun x hx=>dP b _ _ w x hx
       have L5: ∀x,x∈fx→x≠b:=by
        rintro x hx rfl
        obtain⟨m,om,hm,h5,h6⟩:=FT x hx
        exact g.lR n m _ _ (fun e=>hnm (e▸hm)) hl h5 x (by rw[iV];simp) h6
       have Pr: ∀x,x∈cu.flatten→x≠b:=fun x hx e=>vf.1 (e▸hx)
       have zJ: ∀x,x∈f1++(fx++f3)→x∈f∨x∈fx:=by
        intro x hx
        rw[Q4]
        rcases aK.1 hx with hx|hx
        ·exact bG (aM _ hx)
        ·rcases aK.1 hx with hx|hx
         ·exact bg hx
         ·exact bG (aH _ (aH _ hx))
       have adD: ∀x,x∈f1++(fx++f3)→x≠b:=by
        intro x hx
        rcases zJ x hx with h|h
        ·exact Pr x (dU hf h)
        ·exact L5 x h
       have S6:Agree w (w.setCells b (o1+i*kk gt+off) (a.eval y).cells.toList) (f1++(fx++f3)):=fun x hx=>hkeep x (adD x hx)
       have KH:=CT (fP gt) (w':=w.setCells b (o1+i*kk gt+off) (a.eval y).cells.toList) hE (i:=i) (x':=y') (f':=f1++(fx++f3))
        (w9 Bh hlo QN) ((fP gt).agree hEn S6)
        (fun j cs' hj zZ hr=>dI hr _ _ _ (bg (by
         rw[zZ]
         rcases mS j i with h1|h1
         ·left
          have:=bI (kk gt) (show j+1≤i by omega)
          rw[cG]at this;omega
         ·right
          have:=bI (kk gt) (show i+1≤j by omega)
          rw[cG]at this;omega)))
        (fun j f' _ hf' x hx=>hkeep x (Pr x (dU hf' hx)))
       have Wd:(f1++(fx++f3)).Nodup:=by
        have h1:=(gO.1 vf.2).1 f (dF hf)
        rw[Q4]at h1
        obtain⟨h2,h3,h4⟩:=aY.1 h1
        obtain⟨_,h6,_⟩:=aY.1 h3
        have hap: ∀x,x∈fx→x∉f:=by
         intro x hx hxf
         obtain⟨m,om,hm,h5,h7⟩:=FT x hx
         exact g.lR n m _ _ (fun e=>hnm (e▸hm)) hl h5 x (by rw[iV];exact aJ _ (dU hf hxf)) h7
        rw[Q4]at hap
        refine aY.2 ⟨h2,aY.2 ⟨hox.nodup,h6,?_⟩,?_⟩
        ·rintro x hx z hz rfl
         exact hap x hx (by simp[hz])
        ·rintro x hx z hz rfl
         rcases aK.1 hz with hz|hz
         ·exact hap x hz (by simp[hx])
         ·exact h4 x hx x (by simp[hz]) rfl
       have hmem: ∀x,x∈(cu.set i (f1++(fx++f3))).flatten→x∈cu.flatten∨x∈fx:=by
        intro x hx
        rcases xe hx with h| ⟨j,f',_,hj,h⟩
        ·rcases zJ x h with h|h
         ·exact bG (dU hf h)
         ·exact bg h
        ·exact bG (dU hj h)
       have Zz:Own 0 (w.setCells b (o1+i*kk gt+off) (a.eval y).cells.toList) (b::(cu.set i (f1++(fx++f3))).flatten):=by
        refine⟨b9.2 ⟨fun hm=> ?_,tH vf.2 Wd fun j f' hj hf' x hx hx'=> ?_⟩,fun _ _=>aA _,fun x hx=> ?_⟩
        ·rcases hmem b hm with h|h
         ·exact vf.1 h
         ·exact L5 b h rfl
        ·rcases zJ x hx' with h|h
         ·exact yK vf.2 hf' hf hj x hx h
         ·obtain⟨m,om,hm,h5,h7⟩:=FT x h
          exact g.lR n m _ _ (fun e=>hnm (e▸hm)) hl h5 x (by rw[iV];exact aJ _ (dU hf' hx)) h7
        ·rcases aW.1 hx with rfl|hx
         ·obtain⟨c',q1,_⟩:=fN x eb (a.eval y).cells.toList (o1+i*kk gt+off) w cb vg
          exact⟨_,_,q1⟩
         ·rcases hmem x hx with h|h
          ·rw[hkeep x (Pr x h)];exact hown.kind x (aJ _ h)
          ·rw[hkeep x (L5 x h)];exact hox.kind x h
       have We:Sl (kk gt) (rd gt) (w.setCells b (o1+i*kk gt+off) (a.eval y).cells.toList) (env n).v (l.set i y') (b::(cu.set i (f1++(fx++f3))).flatten):=by
        refine⟨some ⟨b,o1,none⟩,cap,by rw[tI,Pu,bH],by rw[bH];exact Ad,KG,bg ⟨b,o1,_,rfl,?_,rfl,KH⟩⟩
        exact dS.set vg _ _
       have hM:=g.dom n _ hl b (by rw[iV];simp)
       have Wf:=Bk hM vg (o1+i*kk gt+off) (a.eval y).cells.toList
       have hrun:(storeVar t ⟨b,o1+i*kk gt+off,none⟩ (a.eval y)).run P w= .ok () (w.setCells b (o1+i*kk gt+off) (a.eval y).cells.toList):=qD (by simp) QN hsz.1 hsz.2
       have aiR: ∃je,(∀x,x∈je→x∈(env n).fp∨x∈fx)∧(ng n=true→ ∀x,x∈je→x∈(env n).fp)∧pH ty (w.setCells b (o1+i*kk gt+off) (a.eval y).cells.toList) n gt (l.set i y') ⟨(env n).v,je⟩:=by
        have hall: ∀x,x∈b::(cu.set i (f1++(fx++f3))).flatten→x∈(env n).fp∨x∈fx:=by
         intro x hx
         rw[iV]
         rcases aW.1 hx with rfl|hx
         ·exact bG (by simp)
         ·rcases hmem x hx with h|h
          ·exact bG (aJ _ h)
          ·exact bg h
        cases hp:soft n with
        |true=>
         refine⟨_,hall,fun hpt x hx=> ?_,by unfold pH;rw[hp];exact⟨We,Zz⟩⟩
         rcases hall x hx with h|h
         ·exact h
         ·obtain⟨m,om,hm,_⟩:=FT x h
          cases ms with
          |nil=>simp at hm
          |cons _ _=>rw[hpt]at hpn;simp at hpn
        |false=>
         have hB:=RO.Zr hp hro
         have hB2:lP (kk gt) (rd gt) 0 (ty gt) (w.setCells b (o1+i*kk gt+off) (a.eval y).cells.toList) (env n).v (l.set i y') (b::(cu.set i (f1++(fx++f3))).flatten):=by
          rcases hB.parts with⟨h1,rfl,_⟩| ⟨g0,o0,n0,cc,ad0,h1,hn0,Tv,q1,q2,_⟩
          ·simp at hi
          ·rw[tI,Pu]at h1
           simp only[cK,oI,eZ,and_true,true_and]at h1
           obtain⟨⟨rfl,rfl⟩,rfl⟩:=h1
           obtain⟨cc',q3,q4⟩:=fN b (ty gt) (a.eval y).cells.toList (o1+i*kk gt+off) w cc q1
           rw[tI,Pu, ←bH (as:=l) (i:=i) (a:=y')]
           exact mT (fP gt) q3 (by rw[q4];exact q2) (by rw[bH];exact Ad) KG KH Zz
         refine⟨_,hall,?_,?_⟩
         ·intro h;rw[VP hp]at h;cases h
         ·unfold pH;rw[hp];exact hB2
       obtain⟨je,k1,k2,k3⟩:=aiR
       obtain⟨env',hg',GB⟩:=Ed g hl hok (w':=w.setCells b (o1+i*kk gt+off) (a.eval y).cells.toList) FT k1 k2 (fun x hx _ _=>hkeep x (fun e=>hx (by rw[e,iV];simp))) k3
       unfold iK execOp
       simp only[iJ,hu,ve,j9,cF,cL,bN,hrun]
       exact⟨env',rfl,Wf,hg',rfl⟩
      ·cases h
     ·cases h
    ·cases h
   ·cases h
  ·cases h
 |_=>simp[aac]at h
end
end
section
variable{ty:Tag→Nat}
def RF(w:World):List V→List Value→List (List Nat)→Prop
 | [],[],cu=>cu= []
 |v::vs,u::us,cu=> ∃f g,RI w v u f∧RF w vs us g∧cu=f::g
 |_,_,_=>False
def Ee(w:World):List S1→List Value→List (List Nat)→Prop
 | [],[],cu=>cu= []
 | .a v::as,u::us,cu=> ∃f g,RI w v u f∧Ee w as us g∧cu=f::g
 | .agg l::as,u::us,cu=> ∃cs f g,u= .agg cs.toArray∧RF w l cs f∧Ee w as us g∧cu=f++g
 |_,_,_=>False
def Tw:List (List Nat)→List (List Nat)→Prop
 | [],[]=>True
 |f::r,g::s=>(∀b,b∈f→b∈g)∧Tw r s
 |_,_=>False
def KI(P:Program)(f:FuncId)(as as':List S1)(v:Value):Prop:=
 (∀(args:Array Value) (w:World),(callFunc f args).run P w= .ok (.enter f args) w)∧
 ∀w us cu,Ko w→(∀b,O8 b→b∉cu.flatten)→Ee w as us cu→Own 0 w cu.flatten→Calls P f us.toArray w fun e w'=> ∃Tu,e= .returned v∧Kept ⟨w,cu.flatten,fun _=>⟨v,[]⟩⟩ w w'∧Ee w' as' us Tu∧Own 0 w' Tu.flatten∧Tw Tu cu
def St.upd(st:St)(os:Hp):St:=⟨st.n,st.sl.map fun e=>(e.1,e.2.cM [] (os.map gV)),os++dQ [] (os.map gV) st.hp⟩
theorem Tx{os:Hp}{n:Nat}:n∈os.map gV↔look os n≠none:=by
 induction os with
 |nil=>simp[look]
 |cons e r ih=>
  obtain⟨j,x⟩:=e
  by_cases h:n=j
  ·subst h;simp[look_eq]
  ·rw[bX h, ←ih];simp[h]
section
variable{P:Program}{zb:eJ}{st st':St}{a:Act}{w:World}{env:Env}{Q:Exit→Act→World→Prop}{o:Oper}
theorem MH(g:Good ty zb st a.tmps w env){os:Hp}(hos: ∀n o,look os n=some o→ ∃t l l',look st.hp n=some (.arr t l)∧o= .arr t l'){w':World}{fpn:Nat→List Nat}
  (hsub: ∀n o,look os n=some o→ ∀b,b∈fpn n→b∈(env n).fp)(hk: ∀b,b<w.heap.size→(∀n o,look os n=some o→b∉(env n).fp)→w'.heap[b]? =w.heap[b]?)
  (hro: ∀n t l',look os n=some (.arr t l')→pH ty w' n t l' ⟨(env n).v,fpn n⟩):
  ∃env',Good ty zb (st.upd os) a.tmps w' env'∧ ∀n,(env' n).v=(env n).v:=by
 refine⟨fun m=>match look os m with|some _=>⟨(env m).v,fpn m⟩|none=>env m,?_,fun n=>by dsimp only;split<;>rfl⟩
 have hlk: ∀m o,look (os++dQ [] (os.map gV) st.hp) m=some o→(look os m=some o)∨(look os m=none∧ ∃o',look st.hp m=some o'∧o=o'.cM [] (os.map gV)):=by
  intro m o hm
  cases hq:look os m with
  |some x=>rw[eL hq]at hm;exact bG hm
  |none=>
   rw[cQ hq,c8,if_neg (by simp)]at hm
   cases OO:look st.hp m with
   |none=>rw[OO]at hm;cases hm
   |some o'=>rw[OO]at hm;simp only[dz,oI]at hm;exact bg ⟨rfl,o',rfl,hm.symm⟩
 have hst: ∀m o,look os m=none→look st.hp m=some o→ ∀b,b∈(env m).fp→w'.heap[b]? =w.heap[b]? :=by
  intro m o hm h3 b hb
  refine hk b ((g.obj m o h3).zS b hb) fun n o' hn h=> ?_
  obtain⟨t,l,l',h4,_⟩:=hos n o' hn
  exact g.lR m n _ _ (fun e=>by rw[e,hn]at hm;cases hm) h3 h4 b hb h
 have iV: ∀m o,look (os++dQ [] (os.map gV) st.hp) m=some o→ ∀b,b∈(match look os m with|some _=>(⟨(env m).v,fpn m⟩:CO)|none=>env m).fp→b∈(env m).fp∧ ∃o',look st.hp m=some o':=by
  intro m o hm b hb
  rcases hlk m o hm with h| ⟨h,o',h2,_⟩
  ·rw[h]at hb
   obtain⟨t,l,l',h4,_⟩:=hos m o h
   exact⟨hsub m o h b hb,_,h4⟩
  ·rw[h]at hb
   exact⟨hb,o',h2⟩
 have s:uc [] (os.map gV) w st.hp env w' (os++dQ [] (os.map gV) st.hp) (fun m=>match look os m with|some _=>⟨(env m).v,fpn m⟩|none=>env m):=by
  refine⟨fun b hb hno=>hk b hb fun n o hn h=> ?_,?_,?_,?_⟩
  ·obtain⟨t,l,l',h4,_⟩:=hos n o hn
   exact hno ⟨n,_,h4,h⟩
  ·rintro b hb ⟨m,o',h1,h2⟩
   obtain⟨h3,o2,h4⟩:=iV m o' h1 b h2
   exact⟨m,o2,h4,h3⟩
  ·intro m o' _ h1
   cases hq:look os m with
   |some x=>
    obtain⟨t,l,l',h4,rfl⟩:=hos m x hq
    rw[h4]at h1
    simp only[oI]at h1
    subst h1
    exact⟨_,eL hq,rfl,rfl⟩
   |none=>
    exact⟨o'.cM [] (os.map gV),by rw[cQ hq,c8,if_neg (by simp),h1];rfl,by cases o'<;>simp[Obj.like,Obj.cM],rfl⟩
  ·rintro m t' l2 ⟨_,hmn⟩ h1
   have hq:look os m=none:=by
    cases hq:look os m with
    |none=>rfl
    |some x=>exact absurd (Tx.2 (by rw[hq];simp)) hmn
   exact⟨by rw[cQ hq,c8,if_neg (by simp),h1];rfl,by simp[hq],hst m _ hq h1⟩
 refine g.kj s (fun m o' hm=> ?_) (fun m m' o1 o2 hne h1 h2 b hb hb'=> ?_) (fun m o' hm b hb=> ?_) (fun m hm=> ?_)
 ·rcases hlk m o' hm with h| ⟨h,AW,h3,rfl⟩
  ·obtain⟨t,l,l',h4,rfl⟩:=hos m o' h
   simp only[h]
   exact hro m t l' h
  ·simp only[h]
   exact(g.obj m AW h3).kj s (hst m AW h h3)
 ·obtain⟨h3,q1,h4⟩:=iV m o1 h1 b hb
  obtain⟨h5,q2,h6⟩:=iV m' o2 h2 b hb'
  exact g.lR m m' _ _ hne h4 h6 b h3 h5
 ·obtain⟨h3,q1,h4⟩:=iV m o' hm b hb
  exact g.dom m q1 h4 b h3
 ·refine⟨?_,fun b hb=> ?_⟩
  ·have:=(g.pins m hm).1
   split<;>exact this
  ·cases hq:look os m with
   |none=>simp only[hq]at hb;exact(g.pins m hm).2 b hb
   |some x=>simp only[hq]at hb;exact(g.pins m hm).2 b (hsub m x hq b hb)
theorem GG{n:Nat}{t:Tag}{l l':List (T t)}{co:CO}{je:List Nat}{w':World}{hp:Hp}(h:RO ty w hp env n (.arr t l) co)(hs:Shape w w')(h':Sl (kk t) (rd t) w' co.v l' je)(ho:Own 0 w' je)(hsub: ∀b,b∈je→b∈co.fp):
  ∃Mp,pH ty w' n t l' ⟨co.v,Mp⟩∧ ∀b,b∈Mp→b∈co.fp:=by
 unfold pH
 cases hp:soft n with
 |true=>exact⟨je,⟨h',ho⟩,hsub⟩
 |false=>exact adW (fP t) (RO.Zr hp h) hs h' ho hsub
end
def Ty(st:St)(tg:Option Tag):V→Option V
 | .own n=>match look st.hp n with|some (.arr t l)=>some (.sl t l)|_=>none
 | .lit (.slice none 0 0)=>match tg with|some t=>some (.sl t [])|none=>none
 | .lit (.slice _ _ _)=>none
 | .lit v=>some (.lit v)
 |_=>none
def MI(st:St):List (Option Tag)→List V→Option (List V)
 |_,[]=>some []
 |tg,v::r=>match Ty st (match tg with|t::_=>t| []=>none) v,MI st (match tg with|_::ts=>ts| []=> []) r with
  |some x,some y=>some (x::y)
  |_,_=>none
def Wg(st:St)(k:TK):S1→Option S1
 | .a v=>match Ty st (match k with| .sl t _=>some t|_=>none) v with|some x=>some (.a x)|none=>none
 | .agg l=>match MI st (match k with| .st _ tg _=>tg|_=> []) l with|some x=>some (.agg x)|none=>none
def xg(Γ:Nat→TK)(st:St):List Operand→List Nat→Option (List S1×List S1)
 | [],_=>some ([],[])
 |x::r,t=>match jh st [] x with
  |some v=>match Wg st (match t with|t::_=>Γ t| []=> .other) v,xg Γ st r (match t with|_::ts=>ts| []=> [])with
   |some y,some (vs,ys)=>some (v::vs,y::ys)
   |_,_=>none
  |none=>none
def back(st:St):List V→List V→Option Hp
 | [],[]=>some []
 | .own n::r, .sl t' l'::s=>match look st.hp n,back st r s with
   |some (.arr t _),some os=>match jX t t' l' with|some l'=>some ((n, .arr t l')::os)|none=>none
   |_,_=>none
 | .lit _::r,_::s=>back st r s
 |_,_=>none
def eio(P:Program)(ty:Tag→Nat)(Γ:Nat→TK)(cr:List (Nat×CR))(st:St)(d:Option Nat):Op→Option (List Prop×St×SV)
 | .call ⟨.value (.func f),xs,ts⟩=>match xg Γ st xs.toList ts.toList,look cr (d.getD 0+100000)with
   |some (vs,as),some ⟨_, .a (.lit v)::as'⟩=>match back st (vs.flatMap cellsOf) (as'.flatMap cellsOf),v.oneCell' with
    |some os,true=>match kf os with
     |true=>some ([KI P f as as' v],st.upd os, .one (.a (.lit v)))
     |false=>none
    |_,_=>none
   |_,_=>none
 |_=>none
def Bt(st:St):List Operand→Option (List S1)
 | []=>some []
 |x::r=>match jh st [] x,Bt st r with
  |some (.a (.lit (.slice _ _ _))),_=>none
  |some (.a (.lit v)),some ys=>some (.a (.lit v)::ys)
  |_,_=>none
def eiv(P:Program)(ty:Tag→Nat)(cr:List (Nat×CR))(st:St)(d:Option Nat):Op→Option (List Prop×St×SV)
 | .call ⟨.value (.func f),xs,_⟩=>match xs.toList with
   |x::r=>match jh st [] x,Bt st r,look cr (d.getD 0+200000)with
    |some (.a (.vw n (some (i,off)) t l)),some ls,some ⟨_, .a (.lit v):: .a (.sl t' l')::ls'⟩=>match look st.hp n,jX t t' l',v.oneCell' with
     |some (.arr g l0),some l',true=>match IC (dec g (l0.getD i (aO g))) off [.sl t l']with
      |some c=>match enc g c with
       |some (vc,x')=>some (KI P f (.a (.sl t l)::ls) (.a (.sl t l')::ls') v::vc,st.upd [(n, .arr g (l0.set i x'))], .one (.a (.lit v)))
       |none=>none
      |none=>none
     |_,_,_=>none
    |_,_,_=>none
   | []=>none
 |_=>none
section
variable{P:Program}{zb:eJ}{st st':St}{a:Act}{w:World}{env:Env}{Q:Exit→Act→World→Prop}{o:Oper}
theorem RI.cells{v:V}{u:Value}{f:List Nat}(h:RI w v u f):u.cells= #[u]:=by
 cases v with
 |lit x=>obtain⟨rfl,h1,_⟩:=h;cases u<;>simp_all [eu,ew]
 |sl t l=>obtain⟨oa,cap,rfl,_⟩:=h;rfl
 |_=>exact h.elim
theorem RF.app{w:World}: ∀{x y:List V} {us vs:List Value} {f g:List (List Nat)},RF w x us f→RF w y vs g→RF w (x++y) (us++vs) (f++g)
 | [],_,[],_,_,_,h,k=>by rw[show _=_ from h];exact k
 |_::_,_,_::_,_,_,_,⟨f1,f2,h1,h2,e⟩,k=>⟨f1,f2++_,h1,RF.app h2 k,by rw[e,List.cons_append]⟩
 | [],_,_::_,_,_,_,h,_=>h.elim
 |_::_,_,[],_,_,_,h,_=>h.elim
theorem Ae{w:World}: ∀{as:List S1} {us:List Value} {cu:List (List Nat)},Ee w as us cu→RF w (as.flatMap cellsOf) (us.flatMap fun u=>u.cells.toList) cu
 | [],[],_,h=>h
 | .a v::as,u::us,_,⟨f,g,h1,h2,e⟩=>by
   have:=RF.app (x:= [v]) (us:= [u]) (f:= [f]) ⟨f,[],h1,rfl,rfl⟩ (Ae h2)
   rw[cZ,cZ,RI.cells h1,e]
   exact this
 | .agg l::as,u::us,_,⟨cs,f,g,hu,h1,h2,e⟩=>by
   rw[cZ,cZ,hu,e]
   exact RF.app h1 (Ae h2)
 | [],_::_,_,h=>h.elim
 | .a _::_,[],_,h=>h.elim
 | .agg _::_,[],_,h=>h.elim
def KJ(env:Env):V→List Nat
 | .own n=>(env n).fp
 |_=> []
theorem Rd(g:Good ty zb st a.tmps w env){tg:Option Tag}{v x:V}{u:Value}(hr:RA w st.hp env v u)(h:Ty st tg v=some x):RI w x u (KJ env v):=by
 cases v with
 |own n=>
  simp only[Ty]at h
  split at h
  ·rename_i t l hl
   simp only[oI]at h
   subst h
   obtain⟨_,rfl⟩:=hr
   exact RO.sl (g.obj n _ hl)
  ·cases h
 |lit v=>
  obtain⟨rfl,h1⟩:=hr
  simp only[Ty]at h
  split at h
  ·rename_i heq;cases heq
  ·rename_i heq
   simp only[V.lit.injEq]at heq
   subst heq
   split at h
   ·simp only[oI]at h
    subst h
    exact⟨none,0,rfl,bh _,aA _,bG ⟨rfl,rfl,rfl⟩⟩
   ·cases h
  ·cases h
  ·rename_i heq
   simp only[V.lit.injEq]at heq
   subst heq
   simp only[oI]at h
   subst h
   exact⟨rfl,h1,rfl⟩
  ·cases h
 |_=>simp[Ty]at h
theorem MJ(g:Good ty zb st a.tmps w env): ∀{vs:List V} {tg:List (Option Tag)} {xs:List V} {us:List Value},cO (RA w st.hp env) vs us→MI st tg vs=some xs→RF w xs us (vs.map (KJ env))
 | [],tg,xs,us,hr,h=>by
   simp only[MI,oI]at h
   subst h
   cases us with
   |nil=>rfl
   |cons _ _=>exact hr.elim
 |v::r,tg,xs,us,hr,h=>by
  cases us with
  |nil=>exact hr.elim
  |cons u us=>
   simp only[MI]at h
   split at h
   ·rename_i x y h1 h2
    simp only[oI]at h
    subst h
    exact⟨_,_,Rd g hr.1 h1,MJ g hr.2 h2,rfl⟩
   ·cases h
theorem Ef{Γ:Nat→TK}(g:Good ty zb st a.tmps w env): ∀{xs:List Operand} {ts:List Nat} {vs as:List S1},xg Γ st xs ts=some (vs,as)→
  Ee w as (xs.map a.eval) ((vs.flatMap cellsOf).map (KJ env))∧cO (RA w st.hp env) (vs.flatMap cellsOf) ((xs.map a.eval).flatMap fun u=>u.cells.toList)
 | [],ts,vs,as,h=>by
   simp only[xg,oI,pI]at h
   obtain⟨rfl,rfl⟩:=h
   exact⟨rfl,trivial⟩
 |x::r,ts,vs,as,h=>by
  simp only[xg]at h
  split at h
  ·rename_i v hx
   split at h
   ·rename_i y vs' ys h1 h2
    simp only[oI,pI]at h
    obtain⟨rfl,rfl⟩:=h
    have Fq:=gu g (fun e he=>by simp at he) hx
    obtain⟨k1,k2⟩:=Ef g h2
    cases v with
    |a v=>
     simp only[Wg]at h1
     split at h1
     ·rename_i x' hl
      simp only[oI]at h1
      subst h1
      have OM:=Rd g Fq hl
      refine⟨⟨_,_,OM,k1,rfl⟩,?_⟩
      rw[cA,cZ,cZ,RI.cells OM]
      exact⟨Fq,k2⟩
     ·cases h1
    |agg l=>
     simp only[Wg]at h1
     split at h1
     ·rename_i x' hl
      simp only[oI]at h1
      subst h1
      obtain⟨cs,hu,qN⟩:=Fq
      refine⟨⟨cs,_,_,hu,MJ g qN hl,k1,by rw[cZ,eI];rfl⟩,?_⟩
      rw[cA,cZ,cZ,hu]
      exact cO.app qN k2
     ·cases h1
   ·cases h
  ·cases h
theorem KK(g:Good ty zb st a.tmps w env){w':World}: ∀{vs as:List V} {us:List Value} {cu:List (List Nat)} {os:Hp},back st vs as=some os→cO (RA w st.hp env) vs us→RF w' as us cu→Tw cu (vs.map (KJ env))→Own 0 w' cu.flatten→kf os=true→
  (∀b,b∈(vs.map (KJ env)).flatten→ ∃n o,look os n=some o∧b∈(env n).fp)∧
  (∀n o,look os n=some o→(∃t l l' je,look st.hp n=some (.arr t l)∧o= .arr t l'∧Sl (kk t) (rd t) w' (env n).v l' je∧Own 0 w' je∧ ∀b,b∈je→b∈(env n).fp)∧ ∀b,b∈(env n).fp→b∈(vs.map (KJ env)).flatten)∧
  ((vs.map (KJ env)).flatten.Nodup)
 | [],[],us,cu,os,h,_,_,_,_,_=>by
   simp only[back,oI]at h
   subst h
   exact⟨by simp,by simp[look],by simp⟩
 | .own n::r, .sl t' l'::s,us,cu,os,h,hr,hf,hsub,hown,hnd=>by
   cases us with
   |nil=>exact hr.elim
   |cons u us=>
    obtain⟨f,fr,h1,h2,rfl⟩:=hf
    simp only[back]at h
    split at h
    ·rename_i t l os' hl hb
     split at h
     ·rename_i l2 hc
      simp only[oI]at h
      subst h
      obtain⟨e,rfl⟩:=fL hc
      subst e
      simp only[kf,aj]at hnd
      rw[bO]at hown
      obtain⟨hn1,hn2,Zu⟩:=aY.1 hown.nodup
      have o1:Own 0 w' f:=⟨hn1,fun _ _=>aA _,fun b hb=>hown.kind b (aM _ hb)⟩
      have o2:Own 0 w' fr.flatten:=⟨hn2,fun _ _=>aA _,fun b hb=>hown.kind b (aH _ hb)⟩
      obtain⟨q1,q2,q3⟩:=KK g hb hr.2 h2 hsub.2 o2 hnd.2
      have hu:u=(env n).v:=hr.1.2
      have hno:look os' n=none:=by
       cases hq:look os' n with
       |none=>rfl
       |some x=>simp[hq]at hnd
      refine⟨fun b hb=> ?_,fun m o hm=> ?_,?_⟩
      ·rw[cA,bO]at hb
       rcases aK.1 hb with hb|hb
       ·exact⟨n,_,look_eq,hb⟩
       ·obtain⟨m,o,h3,h4⟩:=q1 b hb
        have hmn:m≠n:=by rintro rfl;rw[hno]at h3;cases h3
        exact⟨m,o,by rw[bX hmn];exact h3,h4⟩
      ·by_cases hmn:m=n
       ·subst hmn
        rw[look_eq]at hm
        simp only[oI]at hm
        exact⟨⟨t',l,l',f,hl,hm.symm,by rw[←hu];exact h1,o1,hsub.1⟩,fun b hb=>by rw[cA,bO];exact aM _ hb⟩
       ·rw[bX hmn]at hm
        obtain⟨h3,h4⟩:=q2 m o hm
        exact⟨h3,fun b hb=>by rw[cA,bO];exact aH _ (h4 b hb)⟩
      ·rw[cA,bO]
       refine aY.2 ⟨(RO.own (g.obj n _ hl)).nodup,q3,?_⟩
       rintro b hb c hc rfl
       obtain⟨m,o,h3,h4⟩:=q1 b hc
       have hmn:n≠m:=by rintro rfl;rw[hno]at h3;cases h3
       obtain⟨⟨t2,l2,_,_,h5,_⟩,_⟩:=q2 m o h3
       exact g.lR n m _ _ hmn hl h5 b hb h4
     ·cases h
    ·cases h
 | .lit x::r,y::s,us,cu,os,h,hr,hf,hsub,hown,hnd=>by
   cases us with
   |nil=>exact hr.elim
   |cons u us=>
    obtain⟨f,fr,h1,h2,rfl⟩:=hf
    simp only[back]at h
    rw[bO]at hown
    obtain⟨_,hn2,_⟩:=aY.1 hown.nodup
    obtain⟨q1,q2,q3⟩:=KK g h hr.2 h2 hsub.2 ⟨hn2,fun _ _=>aA _,fun b hb=>hown.kind b (aH _ hb)⟩ hnd
    exact⟨q1,q2,q3⟩
 | .own _::_, .lit _::_,_,_,_,h,_,_,_,_,_=>by simp[back]at h
 | .own _::_, .any::_,_,_,_,h,_,_,_,_,_=>by simp[back]at h
 | .own _::_, .own _::_,_,_,_,h,_,_,_,_,_=>by simp[back]at h
 | .own _::_, .ptr _ _::_,_,_,_,h,_,_,_,_,_=>by simp[back]at h
 | .own _::_, .rj _ _ _::_,_,_,_,h,_,_,_,_,_=>by simp[back]at h
 | .own _::_, .ip _ _ _::_,_,_,_,h,_,_,_,_,_=>by simp[back]at h
 | .own _::_, .vw _ _ _ _::_,_,_,_,h,_,_,_,_,_=>by simp[back]at h
 | .own _::_, .Iq _ _ _ _ _::_,_,_,_,h,_,_,_,_,_=>by simp[back]at h
 | .own _::_, .Ir _ _ _::_,_,_,_,h,_,_,_,_,_=>by simp[back]at h
 | .own _::_, .mix _ _ _ _::_,_,_,_,h,_,_,_,_,_=>by simp[back]at h
 | .own _::_, .yC _::_,_,_,_,h,_,_,_,_,_=>by simp[back]at h
 | .own _::_, .Fi _ _::_,_,_,_,h,_,_,_,_,_=>by simp[back]at h
 | .own _::_, .zf _::_,_,_,_,h,_,_,_,_,_=>by simp[back]at h
 | .own _::_, .raw _::_,_,_,_,h,_,_,_,_,_=>by simp[back]at h
 | .own _::_, .vO _ _ _::_,_,_,_,h,_,_,_,_,_=>by simp[back]at h
 | .own _::_,[],_,_,_,h,_,_,_,_,_=>by simp[back]at h
 | .lit _::_,[],_,_,_,h,_,_,_,_,_=>by simp[back]at h
 | [],_::_,_,_,_,h,_,_,_,_,_=>by simp[back]at h
 | .any::_,_,_,_,_,h,_,_,_,_,_=>by simp[back]at h
 | .sl _ _::_,_,_,_,_,h,_,_,_,_,_=>by simp[back]at h
 | .ptr _ _::_,_,_,_,_,h,_,_,_,_,_=>by simp[back]at h
 | .rj _ _ _::_,_,_,_,_,h,_,_,_,_,_=>by simp[back]at h
 | .ip _ _ _::_,_,_,_,_,h,_,_,_,_,_=>by simp[back]at h
 | .vw _ _ _ _::_,_,_,_,_,h,_,_,_,_,_=>by simp[back]at h
 | .Iq _ _ _ _ _::_,_,_,_,_,h,_,_,_,_,_=>by simp[back]at h
 | .Ir _ _ _::_,_,_,_,_,h,_,_,_,_,_=>by simp[back]at h
 | .mix _ _ _ _::_,_,_,_,_,h,_,_,_,_,_=>by simp[back]at h
 | .yC _::_,_,_,_,_,h,_,_,_,_,_=>by simp[back]at h
 | .Fi _ _::_,_,_,_,_,h,_,_,_,_,_=>by simp[back]at h
 | .zf _::_,_,_,_,_,h,_,_,_,_,_=>by simp[back]at h
 | .raw _::_,_,_,_,_,h,_,_,_,_,_=>by simp[back]at h
 | .vO _ _ _::_,_,_,_,_,h,_,_,_,_,_=>by simp[back]at h
theorem GH(g:Good ty zb st a.tmps w env): ∀{vs as:List V} {os:Hp},back st vs as=some os→kf os=true→
  Own 0 w (vs.map (KJ env)).flatten∧(∀b,b∈(vs.map (KJ env)).flatten→ ∃n o o',look os n=some o∧look st.hp n=some o'∧b∈(env n).fp)
 | [],[],os,h,_=>⟨Own.nil _ _,by simp⟩
 | .own n::r, .sl t' l'::s,os,h,hnd=>by
   simp only[back]at h
   split at h
   ·rename_i t l os' hl hb
    split at h
    ·rename_i l2 hc
     simp only[oI]at h
     subst h
     simp only[kf,aj]at hnd
     obtain⟨q1,q2⟩:=GH g hb hnd.2
     have hno:look os' n=none:=by
      cases hq:look os' n with
      |none=>rfl
      |some x=>simp[hq]at hnd
     have ho:=RO.own (g.obj n _ hl)
     rw[cA,bO]
     refine⟨⟨aY.2 ⟨ho.nodup,q1.nodup,?_⟩,fun _ _=>aA _,fun b hb=> ?_⟩,fun b hb=> ?_⟩
     ·rintro b hb c L2 rfl
      obtain⟨m,o,o',h3,h5,h4⟩:=q2 b L2
      have hmn:n≠m:=by rintro rfl;rw[hno]at h3;cases h3
      exact g.lR n m _ _ hmn hl h5 b hb h4
     ·rcases aK.1 hb with hb|hb
      ·exact ho.kind b hb
      ·exact q1.kind b hb
     ·rcases aK.1 hb with hb|hb
      ·exact⟨n,_,_,look_eq,hl,hb⟩
      ·obtain⟨m,o,o',h3,h5,h4⟩:=q2 b hb
       have hmn:m≠n:=by rintro rfl;rw[hno]at h3;cases h3
       exact⟨m,o,o',by rw[bX hmn];exact h3,h5,h4⟩
    ·cases h
   ·cases h
 | .lit x::r,y::s,os,h,hnd=>by
   simp only[back]at h
   have q:=GH g h hnd
   exact q
 | .own _::_, .lit _::_,_,h,_=>by simp[back]at h
 | .own _::_, .any::_,_,h,_=>by simp[back]at h
 | .own _::_, .own _::_,_,h,_=>by simp[back]at h
 | .own _::_, .ptr _ _::_,_,h,_=>by simp[back]at h
 | .own _::_, .rj _ _ _::_,_,h,_=>by simp[back]at h
 | .own _::_, .ip _ _ _::_,_,h,_=>by simp[back]at h
 | .own _::_, .vw _ _ _ _::_,_,h,_=>by simp[back]at h
 | .own _::_, .Iq _ _ _ _ _::_,_,h,_=>by simp[back]at h
 | .own _::_, .Ir _ _ _::_,_,h,_=>by simp[back]at h
 | .own _::_, .mix _ _ _ _::_,_,h,_=>by simp[back]at h
 | .own _::_, .yC _::_,_,h,_=>by simp[back]at h
 | .own _::_, .Fi _ _::_,_,h,_=>by simp[back]at h
 | .own _::_, .zf _::_,_,h,_=>by simp[back]at h
 | .own _::_, .raw _::_,_,h,_=>by simp[back]at h
 | .own _::_, .vO _ _ _::_,_,h,_=>by simp[back]at h
 | .own _::_,[],_,h,_=>by simp[back]at h
 | .lit _::_,[],_,h,_=>by simp[back]at h
 | [],_::_,_,h,_=>by simp[back]at h
 | .any::_,_,_,h,_=>by simp[back]at h
 | .sl _ _::_,_,_,h,_=>by simp[back]at h
 | .ptr _ _::_,_,_,h,_=>by simp[back]at h
 | .rj _ _ _::_,_,_,h,_=>by simp[back]at h
 | .ip _ _ _::_,_,_,h,_=>by simp[back]at h
 | .vw _ _ _ _::_,_,_,h,_=>by simp[back]at h
 | .Iq _ _ _ _ _::_,_,_,h,_=>by simp[back]at h
 | .Ir _ _ _::_,_,_,h,_=>by simp[back]at h
 | .mix _ _ _ _::_,_,_,h,_=>by simp[back]at h
 | .yC _::_,_,_,h,_=>by simp[back]at h
 | .Fi _ _::_,_,_,h,_=>by simp[back]at h
 | .zf _::_,_,_,h,_=>by simp[back]at h
 | .raw _::_,_,_,h,_=>by simp[back]at h
 | .vO _ _ _::_,_,_,h,_=>by simp[back]at h
theorem Kept.ad2{L:List Nat}{pv:Nat→CO}{w':World}(h:Kept ⟨w,L,pv⟩ w w')(hB:zb.w.heap.size≤w.heap.size)(hL: ∀b,b∈L→b∈zb.L∨zb.w.heap.size≤b):Kept zb w w':=
 ⟨h.os,h.tape,h.output,h.size,fun b hb hn=>h.block b (Nat.lt_of_lt_of_le hb hB) fun hm=>(hL b hm).elim hn fun h=>by omega,h.shape⟩
theorem Jq{f:FuncId}{xs:Array Operand}{ts:Array TypeId}(ho:o.op= .call ⟨.value (.func f),xs,ts⟩)(hS: ∀(args:Array Value) (w:World),(callFunc f args).run P w= .ok (.enter f args) w):
  (execOp a.eval o).run P w= .ok (.enter f (xs.toList.map a.eval).toArray) w:=by
 have hx:xs.map a.eval=(xs.toList.map a.eval).toArray:=by rw[←jV]
 rw[←hx]
 have h0:a.eval (.func f)= .func (.func f) #[] #[]:=rfl
 unfold execOp
 simp[ho,resolve,invoke,qi,h0,hS]
theorem ad3{Γ:Nat→TK}{cr:List (Nat×CR)}{vc:List Prop}{v:SV}{d:Option Nat}(h:eio P ty Γ cr st d o.op=some (vc,st',v))(g:Good ty zb st a.tmps w env)(hB:zb.w.heap.size≤w.heap.size)(hA:Ku zb)(hN:Ko w)(hv: ∀q,q∈vc→q):
  o.wp P a w (fun a' w'=> ∃u env',a'=a.put o.dst u∧Kept zb w w'∧Good ty zb st' a.tmps w' env'∧st'.n=st.n∧sK w' st'.hp env' a.tmps v u) Q:=by
 generalize iJ:o.op=op at h
 unfold eio at h
 split at h
 ·rename_i f xs ts
  split at h
  ·rename_i vs as own v0 as' hl hcr
   split at h
   ·rename_i os hb h1
    split at h
    ·rename_i hnd
     simp only[oI,pI]at h
     obtain⟨rfl,rfl,rfl⟩:=h
     obtain⟨hS1,hS2⟩:KI P f as as' v0:=hv _ (by simp)
     obtain⟨q1,q2⟩:=Ef g hl
     obtain⟨q3,q4⟩:=GH g hb hnd
     unfold iK
     rw[Jq iJ hS1]
     simp only[Gp]
     refine(hS2 w _ _ hN (fun b h0 hb=>by obtain⟨n,o,o',_,hl',Tz⟩:=q4 b hb;exact hA.free (g.dom n o' hl' b Tz) h0) q1 q3).mono ?_
     rintro e w' ⟨Tu,rfl,hk,ha,hown,hsub⟩
     obtain⟨r1,r2,_⟩:=KK g hb q2 (Ae ha) hsub hown hnd
     have iV: ∀n, ∃Mp, ∀t l',look os n=some (.arr t l')→pH ty w' n t l' ⟨(env n).v,Mp⟩∧ ∀b,b∈Mp→b∈(env n).fp:=by
      intro n
      cases hq:look os n with
      |none=>exact⟨[],fun _ _ h=>by cases h⟩
      |some o'=>
       obtain⟨⟨t,l,l',je,h3,rfl,h5,h6,h7⟩,_⟩:=r2 n o' hq
       obtain⟨Mp,k1,k2⟩:=GG (hp:=st.hp) (g.obj n _ h3) hk.shape h5 h6 h7
       refine⟨Mp,fun t2 l2 h=> ?_⟩
       simp only[oI,Obj.arr.injEq]at h
       obtain⟨rfl,h⟩:=h
       cases h
       exact⟨k1,k2⟩
     obtain⟨env',hg',GB⟩:=MH g (os:=os) (w':=w') (fpn:=fun n=>Classical.choose (iV n))
      (fun n o' hn=>by
       obtain⟨⟨t,l,l',je,h3,h4,_⟩,_⟩:=r2 n o' hn
       exact⟨t,l,l',h3,h4⟩)
      (fun n o' hn b hb'=>by
       obtain⟨⟨t,l,l',je,h3,rfl,_⟩,_⟩:=r2 n o' hn
       exact(Classical.choose_spec (iV n) t l' hn).2 b hb')
      (fun b hlt hno=>hk.block b hlt fun hm=>by
       obtain⟨n,o',h3,h4⟩:=r1 b hm
       exact hno n o' h3 h4)
      (fun n t l' hn=>(Classical.choose_spec (iV n) t l' hn).1)
     refine⟨v0,env',rfl,hk.ad2 hB fun b hm=> ?_,hg',rfl,rfl,h1⟩
     obtain⟨n,o1,o2,h3,h4,h5⟩:=q4 b hm
     exact g.dom n o2 h4 b h5
    ·cases h
   ·cases h
  ·cases h
 ·cases h
theorem GI(g:Good ty zb st a.tmps w env): ∀{xs:List Operand} {as:List S1},Bt st xs=some as→Ee w as (xs.map a.eval) (as.map fun _=> [])
 | [],as,h=>by
   simp only[Bt,oI]at h
   subst h;rfl
 |x::r,as,h=>by
  simp only[Bt]at h
  split at h
  ·cases h
  ·rename_i v ys hne hx h2
   simp only[oI]at h
   subst h
   obtain⟨h3,h4⟩:=gu g (fun e he=>by simp at he) hx
   exact⟨[],_,⟨h3,h4,rfl⟩,GI g h2,rfl⟩
  ·cases h
theorem GJ{n i off:Nat}{t:Tag}{l l2:List (T t)}{u0:Value}{gt:Tag}{l0:List (T gt)}{c:List V}{x':T gt}{tO:List Prop}{pv:Nat→CO}(g:Good ty zb st a.tmps w env)(hB:zb.w.heap.size≤w.heap.size)
  (Zv:RV w st.hp env n (some (i,off)) t l u0)(hl:look st.hp n=some (.arr gt l0))(hs:IC (dec gt (l0.getD i (aO gt))) off [.sl t l2]=some c)(he:enc gt c=some (tO,x'))(hv: ∀q,q∈tO→q):
  ∃fv,RI w (.sl t l) u0 fv∧(∀y,y∈fv→y∈zb.L∨zb.w.heap.size≤y)∧Own 0 w fv∧ ∀w' EP,Kept ⟨w,fv,pv⟩ w w'→RI w' (.sl t l2) u0 EP→Own 0 w' EP→(∀y,y∈EP→y∈fv)→ ∃env',Kept zb w w'∧Good ty zb (st.upd [(n, .arr gt (l0.set i x'))]) a.tmps w' env':=by
 obtain⟨_,_,Wh⟩:=Zv
 obtain⟨t1,l1,b2,o2,adY,aae,hl1,hi,Pv,TA,IE,hcell⟩:=Wh i off rfl
 rw[hl]at hl1
 simp only[oI,Obj.arr.injEq]at hl1
 obtain⟨rfl,hl1⟩:=hl1
 cases hl1
 have hro:=g.obj n _ hl
 obtain⟨oa,cap,tI,Ad,KG,h3⟩:=RO.sl hro
 have hown:=RO.own hro
 rcases h3 with⟨rfl,_⟩| ⟨b,o1,cu,Pu,dS,iV,hE⟩
 ·simp at hi
 rw[tI,Pu]at TA
 simp only[cK,oI,eZ,and_true]at TA
 obtain⟨⟨rfl,rfl⟩,rfl,rfl⟩:=TA
 have Wb:l0[i]? =some (l0.getD i (aO gt)):=by rw[ak,au hi];rfl
 obtain⟨fe,hf⟩:=kG hE.1 Wb
 obtain⟨cs,Bh,Zy⟩:=hE.2 _ _ fe Wb hf
 rw[iV]at hown
 have vf:=b9.1 hown.nodup
 have hR:=reads gt Zy
 obtain⟨f1,f',hfe,k1,k2⟩:=dM.split off hR
 have zi: ∃r',(dec gt (l0.getD i (aO gt))).drop off= .sl t l::r':=by
  rw[Bf]at Pv
  have hlt:=(aI.1 Pv).1
  rw[dK hlt]
  have:=(aI.1 Pv).2
  rw[this]
  exact⟨_,rfl⟩
 obtain⟨r',zi⟩:=zi
 rw[zi]at k2
 have GK: ∃u us,cs.drop off=u::us:=by
  cases hq:cs.drop off with
  |nil=>rw[hq]at k2;exact k2.elim
  |cons u us=>exact⟨u,us,rfl⟩
 obtain⟨u,us,GK⟩:=GK
 rw[GK]at k2
 obtain⟨fv,f3,OM,Wi,hf'⟩:=k2
 have huc:cs[off]? =some u:=by
  have:=congrArg (fun l=>l[0]?) GK
  simpa using this
 have hue:u0=u:=by
  have:=Bh off u huc
  rw[hcell]at this
  simpa using this
 rw[hue]at hcell ⊢
 have Jr: ∀y,y∈fv→y∈fe:=fun y hy=>by rw[hfe,hf'];simp[hy]
 have agq:=(gO.1 vf.2).1 fe (dF hf)
 rw[hfe,hf']at agq
 obtain⟨n1,n2,n3⟩:=aY.1 agq
 obtain⟨n4,n5,n6⟩:=aY.1 n2
 have Wj:Own 0 w fv:=⟨n4,fun _ _=>aA _,fun y hy=>hown.kind y (aJ _ (dU hf (Jr y hy)))⟩
 refine⟨fv,OM,fun y hy=>g.dom n _ hl y (by rw[iV];exact aJ _ (dU hf (Jr y hy))),Wj,?_⟩
 intro w' EP hk ad4 Pw Px
 have m1:=Pw.nodup
 have hkeep: ∀y,y<w.heap.size→y∉fv→w'.heap[y]? =w.heap[y]? :=fun y hy hn=>hk.block y hy hn
 have Pr: ∀y,y∈cu.flatten→y≠b:=fun y hy e=>vf.1 (e▸hy)
 have TB: ∀y,y∈cu.flatten→y<w.heap.size:=fun y hy=>hown.lt y (aJ _ hy)
 have hkb:w'.heap[b]? =w.heap[b]? :=hkeep b dS.lt fun hm=>vf.1 (dU hf (Jr b hm))
 have hrg: ∀{o:Nat} {cs:List Value},w.rangeAt b o cs→w'.rangeAt b o cs:=by
  intro o cs hr j v hv
  rw[World.cell?_of_block (w:=w) (a:=⟨b,_,none⟩) hkb];exact hr j v hv
 have ag1:Agree w w' f1:=fun y hy=>hkeep y (TB y (dU hf (by rw[hfe];simp[hy]))) fun hm=>n3 y hy y (by simp[hm]) rfl
 have ag3:Agree w w' f3:=fun y hy=>hkeep y (TB y (dU hf (by rw[hfe,hf'];simp[hy]))) fun hm=>n6 y hm y hy rfl
 have Wk: ∀{c:List V} {us:List Value} {f:List Nat},dM w c us f→Agree w w' f→dM w' c us f:=by
  intro c
  induction c with
  |nil=>intro us f h _;cases us with
   |nil=>exact h
   |cons _ _=>exact h.elim
  |cons v r ih=>
   intro us f h ha
   cases us with
   |nil=>exact h.elim
   |cons u us=>
    obtain⟨f1,f2,h1,h2,rfl⟩:=h
    refine⟨f1,f2,?_,ih h2 (ha.sub fun y hy=>aH _ hy),rfl⟩
    cases v with
    |lit x=>exact h1
    |sl t l=>exact Sl.agree (fP t) h1 (ha.sub fun y hy=>aM _ hy)
    |_=>exact h1.elim
 have L2:c=(dec gt (l0.getD i (aO gt))).take off++([.sl t l2]++r'):=by
  unfold IC at hs
  split at hs
  ·simp only[oI]at hs
   rw[←hs]
   congr 2
   have:(dec gt (l0.getD i (aO gt))).drop (off+ [V.sl t l2].length)=((dec gt (l0.getD i (aO gt))).drop off).drop 1:=by rw[lY];rfl
   rw[this,zi];rfl
  ·cases hs
 have aiU:cs=cs.take off++([u]++us):=by
  have:=(jg off cs).symm
  rw[GK]at this
  exact this
 have hrd:dM w' c cs (f1++(EP++f3)):=by
  rw[L2,aiU]
  refine dM.adV (Wk k1 ag1) (y:= [.sl t l2]) (vs:= [u]) ?_ (Wk Wi ag3)
  exact⟨EP,[],ad4,rfl,by simp⟩
 have hEn:=uW gt he (fun q hq=>hv q hq) hrd
 have zJ: ∀y,y∈f1++(EP++f3)→y∈fe:=by
  intro y hy
  rw[hfe,hf']
  simp only[aK]at hy ⊢
  rcases hy with hy|hy|hy
  ·exact bG hy
  ·exact bg (bG (Px y hy))
  ·exact bg (bg hy)
 have KH:=CT (fP gt) (w':=w') hE (i:=i) (x':=x') (f':=f1++(EP++f3)) (hrg Bh) hEn (fun j cs' _ _ hr=>hrg hr)
  (fun j f' hj hf' y hy=>hkeep y (TB y (dU hf' hy)) fun hm=>yK vf.2 hf' hf hj y hy (Jr y hm))
 have hmem: ∀y,y∈(cu.set i (f1++(EP++f3))).flatten→y∈cu.flatten:=by
  intro y hy
  rcases xe hy with h| ⟨j,f',_,hj,h⟩
  ·exact dU hf (zJ y h)
  ·exact dU hj h
 have Zz:Own 0 w' (b::(cu.set i (f1++(EP++f3))).flatten):=by
  refine⟨b9.2 ⟨fun hm=>vf.1 (hmem b hm),tH vf.2 ?_ fun j f' hj hf' y hy hy'=>yK vf.2 hf' hf hj y hy (zJ y hy')⟩,fun _ _=>aA _,fun y hy=> ?_⟩
  ·refine aY.2 ⟨n1,aY.2 ⟨m1,n5,fun y hy z hz e=>n6 y (Px y hy) z hz e⟩,fun y hy z hz e=> ?_⟩
   rcases aK.1 hz with hz|hz
   ·exact n3 y hy z (by simp[Px z hz]) e
   ·exact n3 y hy z (by simp[hz]) e
  ·obtain⟨cb,eb,vg⟩:=hown.kind y (by
    rcases aW.1 hy with rfl|hy
    ·simp
    ·exact aJ _ (hmem y hy))
   obtain⟨cb',h5,_⟩:=hk.shape y cb eb vg
   exact⟨_,_,h5⟩
 have We:Sl (kk gt) (rd gt) w' (env n).v (l0.set i x') (b::(cu.set i (f1++(EP++f3))).flatten):=by
  refine⟨some ⟨b,o1,none⟩,cap,by rw[tI,Pu,bH],by rw[bH];exact Ad,KG,bg ⟨b,o1,_,rfl,dS.agree hkb,rfl,KH⟩⟩
 obtain⟨Mp,w1,w2⟩:=GG (hp:=st.hp) hro hk.shape We Zz (fun y hy=>by
  rw[iV]
  rcases aW.1 hy with rfl|hy
  ·simp
  ·exact aJ _ (hmem y hy))
 have hlk: ∀m o',look [(n,Obj.arr gt (l0.set i x'))] m=some o'→m=n∧o'= .arr gt (l0.set i x'):=by
  intro m o' hm
  by_cases hmn:m=n
  ·subst hmn;rw[look_eq]at hm;simp only[oI]at hm;exact⟨rfl,hm.symm⟩
  ·rw[bX hmn]at hm;cases hm
 obtain⟨env',hg',GB⟩:=MH g (os:= [(n, .arr gt (l0.set i x'))]) (w':=w') (fpn:=fun _=>Mp)
  (fun m o' hm=>by obtain⟨rfl,rfl⟩:=hlk m o' hm;exact⟨_,_,_,hl,rfl⟩)
  (fun m o' hm y hy=>by obtain⟨rfl,_⟩:=hlk m o' hm;exact w2 y hy)
  (fun y hlt hno=>hkeep y hlt fun hm=>hno n _ look_eq (by rw[iV];exact aJ _ (dU hf (Jr y hm))))
  (fun m t2 l3 hm=>by
   obtain⟨rfl,h5⟩:=hlk m _ hm
   simp only[Obj.arr.injEq]at h5
   obtain⟨rfl,h5⟩:=h5
   cases h5
   exact w1)
 refine⟨env',hk.ad2 hB fun y hm=> ?_,hg'⟩
 exact g.dom n _ hl y (by rw[iV];exact aJ _ (dU hf (Jr y hm)))
theorem ad5{Γ:Nat→TK}{cr:List (Nat×CR)}{vc:List Prop}{v:SV}{d:Option Nat}(h:eiv P ty cr st d o.op=some (vc,st',v))(g:Good ty zb st a.tmps w env)(hB:zb.w.heap.size≤w.heap.size)(hA:Ku zb)(hN:Ko w)(hv: ∀q,q∈vc→q):
  o.wp P a w (fun a' w'=> ∃u env',a'=a.put o.dst u∧Kept zb w w'∧Good ty zb st' a.tmps w' env'∧st'.n=st.n∧sK w' st'.hp env' a.tmps v u) Q:=by
 generalize iJ:o.op=op at h
 unfold eiv at h
 split at h
 ·rename_i f xs ts
  split at h
  ·rename_i x r hxs
   split at h
   ·rename_i n i off t l ls own v0 t' l' ls' hx hls hcr
    split at h
    ·rename_i gt l0 l2 hl hc hv0
     split at h
     ·rename_i c hs
      split at h
      ·rename_i tO x' he
       simp only[oI,pI]at h
       obtain⟨rfl,rfl,rfl⟩:=h
       obtain⟨hS1,hS2⟩:KI P f (.a (.sl t l)::ls) (.a (.sl t l2)::ls') v0:=hv _ (by simp)
       obtain⟨fv,OM,ags,Wj,Wl⟩:=GJ (pv:=fun _=>⟨v0,[]⟩) g hB (gu g (fun e he=>by simp at he) hx) hl hs he (fun q hq=>hv q (by simp[hq]))
       have vS:((fv::ls.map fun _=>([]:List Nat))).flatten=fv:=by
        rw[bO]
        have:(ls.map fun _=>([]:List Nat)).flatten= []:=by simp
        rw[this,cW]
       unfold iK
       rw[Jq iJ hS1]
       simp only[Gp]
       rw[hxs,cA]
       have hargs:Ee w (.a (.sl t l)::ls) (a.eval x::r.map a.eval) (fv::ls.map fun _=> []):=⟨fv,_,OM,GI g hls,rfl⟩
       refine(hS2 w _ (fv::ls.map fun _=> []) hN (by rw[vS];exact fun b h0 hb=>hA.free (ags b hb) h0) hargs (by rw[vS];exact Wj)).mono ?_
       rintro e w' ⟨Tu,rfl,hk,⟨EP,fr,ad4,_,rfl⟩,GL,hsub⟩
       rw[vS]at hk
       rw[bO]at GL
       obtain⟨m1,_,_⟩:=aY.1 GL.nodup
       have Pw:Own 0 w' EP:=⟨m1,fun _ _=>aA _,fun y hy=>GL.kind y (aM _ hy)⟩
       obtain⟨env',hk2,hg'⟩:=Wl w' EP hk ad4 Pw hsub.1
       exact⟨v0,env',rfl,hk2,hg',rfl,rfl,hv0⟩
      ·cases h
     ·cases h
    ·cases h
   ·cases h
  ·cases h
 ·cases h
def evs(Γ:Nat→TK)(st:St):Op→Option (List Prop×St)
 | .store t x y=>match jh st [] x,jh st [] y with
   |some (.a (.Iq n (some (i,o2,j)) tg _ off)),some v=>match look st.hp n with
    |some (.arr g l0)=>match fits (Γ t) v,takes st (cellsOf v),A7 (dec g (l0.getD i (aO g))) o2 with
     |true,some (cv,[]),some (.sl t' l')=>match jX tg t' l' with
      |some l=>match IC (dec tg (l.getD j (aO tg))) off cv with
       |some d=>match enc tg d with
        |some (vc2,y')=>match IC (dec g (l0.getD i (aO g))) o2 [.sl tg (l.set j y')]with
         |some c=>match enc g c with
          |some (tO,x')=>some (tO++vc2,st.upd [(n, .arr g (l0.set i x'))])
          |none=>none
         |none=>none
        |none=>none
       |none=>none
      |none=>none
     |_,_,_=>none
    |_=>none
   |_,_=>none
 |_=>none
theorem ad6{Γ:Nat→TK}(C: ∀t,fD P t (Γ t))(Z: ∀t,(∀z tg fo,Γ t≠ .st z tg fo)→Γ t≠ .other→(P.info? t).map (·.size)=some 1){vc:List Prop}(h:evs Γ st o.op=some (vc,st'))(g:Good ty zb st a.tmps w env)(hB:zb.w.heap.size≤w.heap.size)(hv: ∀q,q∈vc→q):
  o.wp P a w (fun a' w'=> ∃env',a'=a.put o.dst undef∧Kept zb w w'∧Good ty zb st' a.tmps w' env'∧st'.n=st.n) Q:=by
 have hop: ∀{x v},jh st [] x=some v→ji w st.hp env v (a.eval x):=fun hx=>gu g (fun e he=>by simp at he) hx
 generalize iJ:o.op=op at h
 cases op with
 |store t x y=>
  simp only[evs]at h
  split at h
  case h_2=>cases h
  rename_i n i o2 j tg xx off v hx hy
  have hx:=hop hx
  have hy:=hop hy
  split at h
  case h_2=>cases h
  rename_i gt l0 hl
  split at h
  case h_2=>cases h
  rename_i cv t' l' hfit UZ MK
  split at h
  case h_2=>cases h
  rename_i l hcast
  split at h
  case h_2=>cases h
  rename_i d hs1
  split at h
  case h_2=>cases h
  rename_i vc2 y' he1
  split at h
  case h_2=>cases h
  rename_i c zI
  split at h
  case h_2=>cases h
  rename_i tO x' IF
  simp only[oI,pI]at h
  obtain⟨rfl,rfl⟩:=h
  obtain⟨_,_,_,_,_,_,_,_,_,_,_,hpos⟩:=hx
  obtain⟨l3,u0,b0,tF,len,cap,Zv,hj,_,hu0,hu⟩:=hpos i o2 j rfl
  have Wc:l3=l:=by
   obtain⟨_,_,hpv⟩:=Zv
   obtain⟨t1,l1,_,_,_,_,hl1,_,hel,_⟩:=hpv i o2 rfl
   rw[hl]at hl1
   simp only[oI,Obj.arr.injEq]at hl1
   obtain⟨rfl,hl1⟩:=hl1
   cases hl1
   rw[hel]at MK
   simp only[oI,V.sl.injEq]at MK
   obtain⟨rfl,MK⟩:=MK
   cases MK
   obtain⟨e,rfl⟩:=fL hcast
   rfl
  subst Wc
  obtain⟨fv,OM,_,hown,Wl⟩:=GJ (pv:=fun _=>⟨u0,[]⟩) g hB Zv hl zI IF (fun q hq=>hv q (by simp[hq]))
  obtain⟨oa,aae,tI,Ad,KG,h3⟩:=OM
  rcases h3 with⟨rfl,_⟩| ⟨b,o1,cu,Pu,dS,iV,hE⟩
  ·simp at hj
  rw[hu0,Pu]at tI
  simp only[cK,oI,eZ,and_true]at tI
  obtain⟨⟨rfl,rfl⟩,rfl,rfl⟩:=tI
  have Wb:l3[j]? =some (l3.getD j (aO tg)):=by rw[ak,au hj];rfl
  obtain⟨f,hf⟩:=kG hE.1 Wb
  obtain⟨cs,Bh,Zy⟩:=hE.2 _ _ f Wb hf
  have hlen:=(fP tg).len Zy
  rw[iV]at hown
  have vf:=b9.1 hown.nodup
  obtain⟨fx,hrx,hox,FT⟩:=Bp g (mF g hy (jk UZ)) UZ tC
  have aiW:fx= []:=by
   cases fx with
   |nil=>rfl
   |cons y r=>obtain⟨m,_,hm,_⟩:=FT y (by simp);simp at hm
  subst aiW
  obtain⟨f1,f2,f3,Q4,hrd,hlo⟩:=dM.IC (reads tg Zy) hrx hs1
  have hEn:=uW tg he1 (fun q hq=>hv q (by simp[hq])) hrd
  have hsz:(P.info? t).map (·.size)=some (a.eval y).cells.toList.length∧ ∀u,u∈(a.eval y).cells.toList→u.oneCell'=true:=by
   refine⟨?_,yI g (mF g hy (jk UZ)) (ud (jk UZ))⟩
   cases v with
   |agg c'=>
    obtain⟨z,tg',fo,hk,hfit⟩:=ME hfit
    have hC:=C t
    rw[hk]at hC
    obtain⟨fs,_,hi2,_⟩:=hC
    obtain⟨us,V1,ON⟩:=hy
    have:=av hfit
    have Wc:=ON.len
    rw[V1]
    cases hq:P.info? t with
    |none=>simp[hq]at hi2
    |some inf=>simp[hq]at hi2;simp[hi2.1,eu,Wc,this]
   |a v'=>
    have hk:=Bs hfit
    have hne:v'≠ .any:=by rintro rfl;simp[cellsOf,takes]at UZ
    have:=mQ g (show RA w st.hp env v' (a.eval y)from hy) hne
    rw[this]
    exact Z t hk.1 hk.2
  obtain⟨cb,eb,vg⟩:=hown.kind b0 (by simp)
  have QN:w.there b0 (tF+j*kk tg+off) (a.eval y).cells.toList.length:=by
   refine Kh vg _ _ ?_
   have zZ:tF+j*kk tg+cs.length≤cb.size:=by
    have hk0:=iW tg
    have:=Bh (cs.length-1) _ (au (by omega))
    rw[F6 vg]at this
    have:=(cY.1 this).1
    omega
   omega
  have hkeep: ∀x,x≠b0→(w.setCells b0 (tF+j*kk tg+off) (a.eval y).cells.toList).heap[x]? =w.heap[x]? :=fun x hx=>dP b0 _ _ w x hx
  have Pr: ∀x,x∈cu.flatten→x≠b0:=fun x hx e=>vf.1 (e▸hx)
  have zJ: ∀x,x∈f1++([]++f3)→x∈f:=by
   intro x hx
   rw[Q4]
   rcases aK.1 hx with hx|hx
   ·exact aM _ hx
   ·rw[eS]at hx;exact aH _ (aH _ hx)
  have S6:Agree w (w.setCells b0 (tF+j*kk tg+off) (a.eval y).cells.toList) (f1++([]++f3)):=fun x hx=>hkeep x (Pr x (dU hf (zJ x hx)))
  have KH:=CT (fP tg) (w':=w.setCells b0 (tF+j*kk tg+off) (a.eval y).cells.toList) hE (i:=j) (x':=y') (f':=f1++([]++f3))
   (w9 Bh hlo QN) ((fP tg).agree hEn S6)
   (fun j1 cs' hj1 zZ hr=>dI hr _ _ _ (bg (by
    rw[zZ]
    rcases mS j1 j with h1|h1
    ·left
     have:=bI (kk tg) (show j1+1≤j by omega)
     rw[cG]at this;omega
    ·right
     have:=bI (kk tg) (show j+1≤j1 by omega)
     rw[cG]at this;omega)))
   (fun j1 f' _ hf' x hx=>hkeep x (Pr x (dU hf' hx)))
  have Wd:(f1++([]++f3)).Nodup:=by
   have h1:=(gO.1 vf.2).1 f (dF hf)
   rw[Q4]at h1
   obtain⟨h2,h3,h4⟩:=aY.1 h1
   obtain⟨_,h6,_⟩:=aY.1 h3
   rw[eS]
   exact aY.2 ⟨h2,h6,fun x hx z hz=>h4 x hx z (aH _ hz)⟩
  have hmem: ∀x,x∈(cu.set j (f1++([]++f3))).flatten→x∈cu.flatten:=by
   intro x hx
   rcases xe hx with h| ⟨j1,f',_,hj1,h⟩
   ·exact dU hf (zJ x h)
   ·exact dU hj1 h
  have Zz:Own 0 (w.setCells b0 (tF+j*kk tg+off) (a.eval y).cells.toList) (b0::(cu.set j (f1++([]++f3))).flatten):=by
   refine⟨b9.2 ⟨fun hm=>vf.1 (hmem b0 hm),tH vf.2 Wd fun j1 f' hj1 hf' x hx hx'=>yK vf.2 hf' hf hj1 x hx (zJ x hx')⟩,fun _ _=>aA _,fun x hx=> ?_⟩
   rcases aW.1 hx with rfl|hx
   ·obtain⟨c',q1,_⟩:=fN x eb (a.eval y).cells.toList (tF+j*kk tg+off) w cb vg
    exact⟨_,_,q1⟩
   ·rw[hkeep x (Pr x (hmem x hx))];exact hown.kind x (aJ _ (hmem x hx))
  have Wf:Kept ⟨w,fv,fun _=>⟨u0,[]⟩⟩ w (w.setCells b0 (tF+j*kk tg+off) (a.eval y).cells.toList):=
   Bk (zb:=⟨w,fv,fun _=>⟨u0,[]⟩⟩) (bG (by rw[iV];simp)) vg _ _
  have hrun:(storeVar t ⟨b0,tF+j*kk tg+off,none⟩ (a.eval y)).run P w= .ok () (w.setCells b0 (tF+j*kk tg+off) (a.eval y).cells.toList):=qD (by simp) QN hsz.1 hsz.2
  obtain⟨env',hk2,hg'⟩:=Wl _ (b0::(cu.set j (f1++([]++f3))).flatten) Wf
   ⟨some ⟨b0,tF,none⟩,cap,by rw[hu0,bH],by rw[bH];exact Ad,KG,bg ⟨b0,tF,_,rfl,dS.set vg _ _,rfl,KH⟩⟩ Zz
   (fun y hy=>by
    rw[iV]
    rcases aW.1 hy with rfl|hy
    ·simp
    ·exact aJ _ (hmem y hy))
  unfold iK execOp
  simp only[iJ,hu,ve,j9,cF,cL,bN,hrun]
  exact⟨env',rfl,hk2,hg',rfl⟩
 |_=>simp[evs]at h
end
end
section
variable{ty:Tag→Nat}
def fzs(st:St):List V→Option (List V×List Nat)
 | []=>some ([],[])
 | .lit (.slice _ _ _)::_=>none
 | .lit v::r=>match fzs st r with|some (c,k)=>some (.lit v::c,k)|none=>none
 | .sl t l::r=>match fzs st r with|some (c,k)=>some (.sl t l::c,k)|none=>none
 | .own n::r=>match look st.hp n,fzs st r with
   |some (.arr t l),some (c,k)=>some (.sl t l::c,n::k)
   |_,_=>none
 |_=>none
def GM(st:St)(g:Tag):Nat→List (Nat×Operand)→Option (List Prop×List (T g)×List Nat)
 |_,[]=>some ([],[],[])
 |i,(j,x)::r=>match bf i j,jh st [] x with
  |true,some s=>match fzs st (cellsOf s)with
   |some (c,k)=>match enc g c,GM st g (i+1) r with
    |some (vc,y),some (vcs,ys,ks)=>some (vc++vcs,y::ys,k++ks)
    |_,_=>none
   |none=>none
  |_,_=>none
def efz(P:Program)(ty:Tag→Nat)(Γ:Nat→TK)(st:St):Op→Option (List Prop×St×SV)
 | .buildSlice t len parts=>match Γ t with
   | .sl g e=>match bf e (ty g),bf parts.toList.length len,mm (len*kk g) 16777216,GM st g 0 parts.toList with
     |true,true,true,some (vc,xs,ks)=>match tG ks&& !pinned ks with
      |true=>some (El P ty g::vc,⟨st.n,st.sl.map fun e=>(e.1,e.2.cM ks []),dQ ks [] st.hp⟩, .one (.a (.sl g xs)))
      |_=>none
     |_,_,_,_=>none
   |_=>none
 |_=>none
section
variable{P:Program}{zb:eJ}{st:St}{a:Act}{w:World}{env:Env}{Q:Exit→Act→World→Prop}{o:Oper}
theorem yL{st:St}: ∀{l c:List V} {k:List Nat},fzs st l=some (c,k)→wY l=true
 | [],_,_,_=>rfl
 |v::r,c,k,h=>by
  unfold fzs at h
  split at h
  ·rename_i he;cases he
  ·cases h
  ·rename_i x r' _ he
   simp only[cx]at he
   obtain⟨rfl,rfl⟩:=he
   split at h
   ·rename_i h';have h2:=yL h';exact h2
   ·cases h
  ·rename_i t l r' he
   simp only[cx]at he
   obtain⟨rfl,rfl⟩:=he
   split at h
   ·rename_i h';have h2:=yL h';exact h2
   ·cases h
  ·rename_i n r' he
   simp only[cx]at he
   obtain⟨rfl,rfl⟩:=he
   split at h
   ·rename_i h';have h2:=yL h';exact h2
   ·cases h
  ·cases h
theorem KL(g:Good ty zb st a.tmps w env): ∀{l c:List V} {k:List Nat} {us:List Value},cO (RA w st.hp env) l us→fzs st l=some (c,k)→
  ∃fp,dM w c us fp∧ ∀b,b∈fp→b<w.heap.size∧(¬Ow st.hp env b∨ ∃i o,i∈k∧look st.hp i=some o∧b∈(env i).fp)
 | [],c,k,us,hr,h=>by
   simp only[fzs,oI,pI]at h
   obtain⟨rfl,rfl⟩:=h
   cases us with
   |nil=>exact⟨[],rfl,by simp⟩
   |cons _ _=>exact hr.elim
 |v::r,c,k,us,hr,h=>by
  cases us with
  |nil=>exact hr.elim
  |cons u us=>
   unfold fzs at h
   split at h
   ·rename_i he;cases he
   ·cases h
   ·rename_i x r' _ he
    simp only[cx]at he
    obtain⟨rfl,rfl⟩:=he
    split at h
    ·rename_i c' k' h'
     simp only[oI,pI]at h
     obtain⟨rfl,rfl⟩:=h
     obtain⟨fp,h1,h3⟩:=KL g hr.2 h'
     obtain⟨e1,e2⟩:=hr.1
     exact⟨fp,⟨[],fp,⟨e1,e2,rfl⟩,h1,rfl⟩,h3⟩
    ·cases h
   ·rename_i t l r' he
    simp only[cx]at he
    obtain⟨rfl,rfl⟩:=he
    split at h
    ·rename_i c' k' h'
     simp only[oI,pI]at h
     obtain⟨rfl,rfl⟩:=h
     obtain⟨fp,h1,h3⟩:=KL g hr.2 h'
     obtain⟨f0,k1,k2⟩:=hr.1
     refine⟨f0++fp,⟨f0,fp,k1,h1,rfl⟩,fun b hb=> ?_⟩
     rcases aK.1 hb with hb|hb
     ·exact⟨Sl.lt (fP t) k1 b hb,bG (k2 b hb)⟩
     ·exact h3 b hb
    ·cases h
   ·rename_i n r' he
    simp only[cx]at he
    obtain⟨rfl,rfl⟩:=he
    split at h
    ·rename_i t l c' k' hl h'
     simp only[oI,pI]at h
     obtain⟨rfl,rfl⟩:=h
     obtain⟨fp,h1,h3⟩:=KL g hr.2 h'
     obtain⟨_,rfl⟩:=hr.1
     have hb:=RO.sl (g.obj n _ hl)
     refine⟨(env n).fp++fp,⟨_,_,hb,h1,rfl⟩,fun b hb=> ?_⟩
     rcases aK.1 hb with hb|hb
     ·exact⟨(g.obj n _ hl).zS b hb,bg ⟨n,_,by simp,hl,hb⟩⟩
     ·obtain⟨q1,q2⟩:=h3 b hb
      refine⟨q1,q2.imp id ?_⟩
      rintro⟨i,o,hi,h4,h5⟩
      exact⟨i,o,aJ _ hi,h4,h5⟩
    ·cases h
   ·cases h
theorem Js(g:Good ty zb st a.tmps w env){t:Tag}: ∀{ps:List (Nat×Operand)} {i:Nat} {vc:List Prop} {xs:List (T t)} {ks:List Nat},GM st t i ps=some (vc,xs,ks)→(∀q,q∈vc→q)→
  (ps.map fun p=>(p.1,a.eval p.2))=zh i (ps.map fun p=>a.eval p.2)∧xs.length=ps.length∧ ∃cu:List (List Nat),cu.length=xs.length∧
   (∀(i:Nat) (x:T t) (f:List Nat),xs[i]? =some x→cu[i]? =some f→ ∃p:Nat×Operand,ps[i]? =some p∧rd t w (a.eval p.2).cells.toList x f)∧ ∀b,b∈cu.flatten→b<w.heap.size∧(¬Ow st.hp env b∨ ∃i o,i∈ks∧look st.hp i=some o∧b∈(env i).fp)
 | [],i,vc,xs,ks,h,_=>by
   simp only[GM,oI,pI]at h
   obtain⟨rfl,rfl,rfl⟩:=h
   exact⟨rfl,rfl,[],rfl,by simp,by simp⟩
 | (j,x)::r,i,vc,xs,ks,h,hv=>by
   simp only[GM]at h
   split at h
   ·rename_i s hij hx
    have hij:=av hij
    subst hij
    split at h
    ·rename_i c k hc
     split at h
     ·rename_i tO y vcs ys ks1 he hb
      simp only[oI,pI]at h
      obtain⟨rfl,rfl,rfl⟩:=h
      obtain⟨q1,q2,cu,q3,q4,q6⟩:=Js g hb (fun q hq=>hv q (aH _ hq))
      obtain⟨fp,r1,r3⟩:=KL g (mF g (gu g (fun e he=>by simp at he) hx) (yL hc)) hc
      have hE:=uW t he (fun q hq=>hv q (aM _ hq)) r1
      refine⟨by simp[zh,q1],by simp[q2],fp::cu,by simp[q3],?_,?_⟩
      ·intro i' x' f hx' hf
       cases i' with
       |zero=>simp at hx' hf;subst hx';subst hf;exact⟨(i,x),rfl,hE⟩
       |succ n=>simp at hx' hf;obtain⟨p,h1,h2⟩:=q4 n x' f hx' hf;exact⟨p,by simpa using h1,h2⟩
      ·intro b hb
       rw[bO]at hb
       rcases aK.1 hb with hb|hb
       ·obtain⟨z1,z2⟩:=r3 b hb
        exact⟨z1,z2.imp id fun⟨n,o1,h1,h2,h3⟩=>⟨n,o1,aM _ h1,h2,h3⟩⟩
       ·obtain⟨z1,z2⟩:=q6 b hb
        exact⟨z1,z2.imp id fun⟨n,o1,h1,h2,h3⟩=>⟨n,o1,aH _ h1,h2,h3⟩⟩
     ·cases h
    ·cases h
   ·cases h
theorem run_frozen{t len:Nat}{parts:Array (Nat×Operand)}(ho:o.op= .buildSlice t len parts){g:Tag}(hu:P.underlying t=some (.slice (ty g)))(vQ:El P ty g)(hbig:len*kk g≤16777216)(hlen:parts.toList.length=len)
  {xs:List (T g)}{cu:List (List Nat)}(q1:(parts.toList.map fun p=>(p.1,a.eval p.2))=zh 0 (parts.toList.map fun p=>a.eval p.2))(q2:xs.length=parts.toList.length)(q3:cu.length=xs.length)
  (q4: ∀(i:Nat) (x:T g) (f:List Nat),xs[i]? =some x→cu[i]? =some f→ ∃p:Nat×Operand,parts.toList[i]? =some p∧rd g w (a.eval p.2).cells.toList x f):
  ∃w',(execOp a.eval o).run P w= .ok (.value (.slice (some ⟨w.heap.size,0,none⟩) len len)) w'∧Below w.heap.size w w'∧Sl (kk g) (rd g) w' (.slice (some ⟨w.heap.size,0,none⟩) len len) xs (w.heap.size::cu.flatten):=by
 have hkp:=iW g
 have zZ: ∀v,v∈(parts.toList.map fun p=>a.eval p.2)→v.cells.size=kk g:=by
  intro v hv
  obtain⟨i,hi⟩:=eW hv
  have hil:i<xs.length:=by have:=(aI.1 hi).1;simp at this;rw[q2];simpa using this
  have hfl:i<cu.length:=by omega
  obtain⟨p,h1,h2⟩:=q4 i xs[i] cu[i] (au hil) (au hfl)
  rw[dN,h1]at hi
  simp at hi
  subst hi
  simpa using(fP g).len h2
 cases hq:P.info? (ty g)with
 |none=>simp[El,hq]at vQ
 |some inf=>
  simp[El,hq]at vQ
  obtain⟨z1,z2,z3⟩:=vQ
  let zs:List Value:=(bA (len*kk g)).map fun j=>(if len*kk g=0 then #[]else(iH g).cells)[j % (if len*kk g=0 then #[]else(iH g).cells).size]!
  have hzl:zs.length=len*kk g:=by simp[zs]
  have hf:=Gq (k:=kk g) (parts.toList.map fun p=>a.eval p.2) 0 zs zZ (by rw[hzl,bw,hlen,eE])
  rw[Ea,lZ,eS]at hf
  have hrun:(execOp a.eval o).run P w= .ok (.value (.slice (some ⟨w.heap.size,0,none⟩) len len)) (w.alloc (.cells (eU ((parts.toList.map fun p=>a.eval p.2).flatMap fun v=>v.cells.toList)) (ty g) (0,0))):=by
   unfold execOp
   have rz:(parts.map fun(p:Nat×Operand)=>(p.1,a.eval p.2)).toList=zh 0 (parts.toList.map fun p=>a.eval p.2):=by
    rw[mq];exact q1
   have hzs:((Pd (len*kk g)).map fun j=>(if len*kk g=0 then #[]else(iH g).cells)[j % (if len*kk g=0 then #[]else(iH g).cells).size]!)=eU zs:=by
    simp only[zs]
    apply CJ
    simp
   have hze:(sizeOf (ty g)).run P w= .ok (kk g) w:=by simp[sizeOf,typeInfo,hq,z2]
   simp only[ho,EK,cF,run_underlying hu,bN,hze]
   rw[if_neg (by omega)]
   by_cases hz0:len*kk g=0
   ·simp only[if_pos hz0]at hzs ⊢
    simp only[cF,cL,bN]
    rw[hzs,rz,hf]
    simp[newRow]
   ·have hzv:(zeroValue (ty g)).run P w= .ok (iH g) w:=by simp[zeroValue,typeInfo,hq,z1]
    simp only[if_neg hz0]at hzs ⊢
    simp only[cF,hzv,cL,bN]
    rw[hzs,rz,hf]
    simp[newRow]
  have hps:((parts.toList.map fun p=>a.eval p.2).flatMap fun v=>v.cells.toList)=((parts.toList.map fun p=>(a.eval p.2).cells.toList).flatMap id):=by
   simp[EL]
  have VX: ∀v,v∈(parts.toList.map fun p=>(a.eval p.2).cells.toList)→v.length=kk g:=by
   intro v hv
   obtain⟨p,hp,rfl⟩:=cj.1 hv
   simpa using zZ _ (cj.2 ⟨p,hp,rfl⟩)
  have Jk:=w7 VX
  rw[bw,hlen]at Jk
  have hb0:Below w.heap.size w (w.alloc (.cells (eU ((parts.toList.map fun p=>a.eval p.2).flatMap fun v=>v.cells.toList)) (ty g) (0,0))):=(jd _ _).alloc (bh _) _
  have agv:=tR (w:=w) (o:= .cells (eU ((parts.toList.map fun p=>a.eval p.2).flatMap fun v=>v.cells.toList)) (ty g) (0,0)) (k:=w.heap.size) rfl
  refine⟨_,hrun,hb0,some ⟨w.heap.size,0,none⟩,len,by rw[q2,hlen],by rw[q2,hlen];exact bh _,?_,bg ⟨w.heap.size,0,cu,rfl,⟨_,_,_,agv,by simp only[iF];rw[hps];omega⟩,rfl,q3,?_⟩⟩
  ·unfold maxLen;have:=va len hkp;omega
  ·intro i x f hx Q4
   obtain⟨p,h1,h2⟩:=q4 i x f hx Q4
   have hkey:(((parts.toList.map fun p=>a.eval p.2).flatMap fun v=>v.cells.toList).drop (i*kk g)).take (kk g)=(a.eval p.2).cells.toList:=by
    rw[hps];exact w6 VX (by rw[dN,h1];rfl)
   refine⟨_,QZ agv _ _ fun j v hv=> ?_,(fP g).below h2 hb0⟩
   rw[←hkey]at hv
   rw[cE]at hv
   split at hv
   ·rw[cJ]at hv
    rw[eE,List.getElem?_toArray]
    exact hv
   ·cases hv
theorem TC(g:Good ty zb st a.tmps w env){ks:List Nat}{w':World}(hb:Below w.heap.size w w'):Good ty zb ⟨st.n,st.sl.map fun e=>(e.1,e.2.cM ks []),dQ ks [] st.hp⟩ a.tmps w' env:=by
 have hlk: ∀m o,look (dQ ks [] st.hp) m=some o→m∉ks∧ ∃o',look st.hp m=some o'∧o=o'.cM ks []:=by
  intro m o hm
  rw[c8]at hm
  split at hm
  ·cases hm
  ·rename_i hks
   cases hq:look st.hp m with
   |none=>rw[hq]at hm;cases hm
   |some o'=>rw[hq]at hm;simp only[dz,oI]at hm;exact⟨hks,o',rfl,hm.symm⟩
 have s:uc ks [] w st.hp env w' (dQ ks [] st.hp) env:=by
  refine⟨fun b hlt _=>hb.block b hlt,?_,?_,?_⟩
  ·rintro b hlt ⟨m,o',h1,h2⟩
   obtain⟨_,AW,h3,rfl⟩:=hlk m o' h1
   exact⟨m,AW,h3,h2⟩
  ·intro m o' hks h1
   exact⟨o'.cM ks [],by rw[c8,if_neg hks,h1];rfl,by cases o'<;>simp[Obj.like,Obj.cM],rfl⟩
  ·rintro m t' l' ⟨hks,_⟩ h1
   exact⟨by rw[c8,if_neg hks,h1];rfl,rfl,fun b IE=>hb.block b ((g.obj m _ h1).zS b IE)⟩
 refine g.kj s (fun m o' hm=> ?_) (fun m m' o1 o2 hne h1 h2 b IE hb'=> ?_) (fun m o' hm b IE=> ?_) g.pins
 ·obtain⟨hks,AW,h3,rfl⟩:=hlk m o' hm
  exact(g.obj m AW h3).kj s fun b IE=>hb.block b ((g.obj m AW h3).zS b IE)
 ·obtain⟨_,q1,h3,_⟩:=hlk m o1 h1
  obtain⟨_,q2,h4,_⟩:=hlk m' o2 h2
  exact g.lR m m' _ _ hne h3 h4 b IE hb'
 ·obtain⟨_,q1,h3,_⟩:=hlk m o' hm
  exact g.dom m q1 h3 b IE
theorem ad7{Γ:Nat→TK}(C: ∀t,fD P t (Γ t)){vc:List Prop}{st':St}{v:SV}(h:efz P ty Γ st o.op=some (vc,st',v))(g:Good ty zb st a.tmps w env)(hB:zb.w.heap.size≤w.heap.size)(hv: ∀q,q∈vc→q):
  o.wp P a w (fun a' w'=> ∃u env',a'=a.put o.dst u∧Kept zb w w'∧Good ty zb st' a.tmps w' env'∧st'.n=st.n∧sK w' st'.hp env' a.tmps v u) Q:=by
 generalize iJ:o.op=op at h
 cases op with
 |buildSlice t len parts=>
  simp only[efz]at h
  split at h
  ·rename_i gt e hk
   split at h
   ·rename_i tO xs ks he hlen hbig hb
    have he:=av he
    split at h
    ·rename_i hnd
     simp only[oI,pI]at h
     obtain⟨rfl,rfl,rfl⟩:=h
     have vQ:El P ty gt:=hv _ (by simp)
     obtain⟨q1,q2,cu,q3,q4,q6⟩:=Js g hb (fun q hq=>hv q (by simp[hq]))
     have hC:=C t
     rw[hk,he]at hC
     obtain⟨w',r1,r2,r3⟩:=run_frozen (P:=P) (w:=w) (a:=a) iJ hC.1 vQ (bT hbig) (av hlen) q1 q2 q3 q4
     have hg':=TC g (ks:=ks) r2
     unfold iK
     rw[r1]
     refine⟨_,env,rfl,oB r2 hB,hg',rfl,_,r3,?_⟩
     rintro b IE ⟨m,o',h1,h2⟩
     rw[c8]at h1
     split at h1
     ·cases h1
     ·rename_i hks
      cases hq:look st.hp m with
      |none=>rw[hq]at h1;cases h1
      |some AW=>
       have hlt:=(g.obj m AW hq).zS b h2
       rcases aW.1 IE with rfl|IE
       ·omega
       ·rcases(q6 b IE).2 with h3| ⟨i,oi,hi,h4,h5⟩
        ·exact h3 ⟨m,AW,hq,h2⟩
        ·exact g.lR m i _ _ (fun e=>hks (e▸hi)) hq h4 b h2 h5
    ·cases h
   ·cases h
  ·cases h
 |_=>simp[efz]at h
end
end
section
variable{ty:Tag→Nat}
def inv:List (Nat×Nat)→Nat→Option Nat
 | [],_=>none
 | (n,m)::r,k=>match bf k m with|true=>some n|false=>inv r k
def V.toF(ρ:List (Nat×Nat)):V→V
 | .lit v=> .lit v
 | .sl t l=> .sl t l
 | .own m=>match inv ρ m with|some n=> .own n|none=> .any
 | .ptr m o=>match inv ρ m with|some n=> .ptr n o|none=> .any
 | .Fi f m=>match inv ρ m with|some n=> .Fi f n|none=> .any
 | .vO v t l=> .vO v t l
 |_=> .any
def Obj.toF(ρ:List (Nat×Nat)):Obj→Obj
 | .box c=> .box (c.map (V.toF ρ))
 | .arr t l=> .arr t l
 | .jc t l .mp=> .jc t l .mp
 | .jc t l (.L4 u)=> .jc t l (.L4 u)
 | .jc t l (.zg _)=> .jc t l (.zg none)
 | .jc t l _=> .jc t l .gone
def Bu(st:St)(ρ:List (Nat×Nat)):List (Nat×Nat)→Option Hp
 | []=>some []
 | (n,m)::r=>match look st.hp m, !ng m||ng n, !soft m||soft n,Bu st ρ r with
   |some o,true,true,some h=>some ((n,o.toF ρ)::h)
   |_,_,_,_=>none
def aah(st:St)(ρ:List (Nat×Nat))(tg:Option Tag)(v:V):Option V:=match v.name with
 |some m=>match inv ρ m with
  |some n=>match v with
   | .own _=>some (.own n)
   | .ptr _ o=>some (.ptr n o)
   | .Fi f _=>some (.Fi f n)
   |_=>none
  |none=>match v with
   | .mix _ _ _ _=>none
   | .yC _=>none
   |v=>rm st tg v
 |none=>rm st tg v
def ML(st:St)(ρ:List (Nat×Nat)):List (Option Tag)→List V→Option (List V)
 |_,[]=>some []
 |tg,v::r=>match aah st ρ (match tg with|t::_=>t| []=>none) v,ML st ρ (match tg with|_::ts=>ts| []=> []) r with
  |some x,some y=>some (x::y)
  |_,_=>none
def V.ack:V→Bool
 | .vO _ _ _=>true
 |_=>false
def ad8(st:St)(ρ:List (Nat×Nat))(k:TK):S1→Option S1
 | .a v=>match v.ack with
   |true=>some (.a v)
   |false=>match aah st ρ (match k with| .sl t _=>some t|_=>none) v with|some x=>some (.a x)|none=>none
 | .agg l=>match ML st ρ (match k with| .st _ tg _=>tg|_=> []) l with|some x=>some (.agg x)|none=>none
def MM(Γ:Nat→TK)(st:St)(ρ:List (Nat×Nat)):List Operand→List Nat→Option (List S1)
 | [],_=>some []
 |x::r,t=>match OK st [] x with
  |some v=>match ad8 st ρ (match t with|t::_=>Γ t| []=> .other) v,MM Γ st ρ r (match t with|_::ts=>ts| []=> [])with
   |some y,some ys=>some (y::ys)
   |_,_=>none
  |none=>none
def KM(st:St)(ρ:List (Nat×Nat))(x:Operand):Option (FuncId×List S1):=match jh st [] x with
 |some (.a (.Fi f m))=>match inv ρ m with|some n=>some (f,[.a (.ptr n 0)])|none=>none
 |some v=>match ZR v with|some f=>some (f,[])|none=>none
 |none=>none
def ad9:List V→Option (List (Nat×Nat))
 | []=>some []
 | .ptr n m::r=>match ad9 r with|some l=>some ((n,m)::l)|none=>none
 |_=>none
def agw:List V→Option (List Nat)
 | []=>some []
 | .own n::r=>match agw r with|some l=>some (n::l)|none=>none
 |_=>none
def Wm:List Nat→List S1→Option Hp
 | [],[]=>some []
 |n::ns, .a (.sl t l)::r=>match Wm ns r with|some h=>some ((n, .arr t l)::h)|none=>none
 |n::ns, .agg c::r=>match Wm ns r with|some h=>some ((n, .box c)::h)|none=>none
 |_,_=>none
def knV:List V→Option V
 | []=>none
 | .vO v t l::_=>some (.vO v t l)
 |_::r=>knV r
def knX(st:St):List Operand→Option V
 | []=>none
 |x::r=>match OK st [] x with
  |some (.a v)=>match v.ack with|true=>some v|false=>knX st r
  |_=>knX st r
def knR(st:St):List (Nat×Nat)→Option V
 | []=>none
 | (_,m)::r=>match look st.hp m with
   |some (.box c)=>match knV c with|some v=>some v|none=>knR st r
   |_=>knR st r
def knS(st:St)(xs:List Operand)(ρ:List (Nat×Nat)):Option V:=match knX st xs with|some v=>some v|none=>knR st ρ
def MN(kn:Option V):V→List Prop
 | .vO v _ _=>match kn with
   |some (.vO u _ _)=> [v=u]
   |_=> [False]
 |_=> []
def Wn(kn:Option V):List V→List Prop
 | []=> []
 |v::r=>qE (MN kn v) (Wn kn r)
def Py(kn:Option V):Hp→List Prop
 | []=> []
 | (_, .box c)::r=>qE (Wn kn c) (Py kn r)
 |_::r=>Py kn r
def V.toA(kn:Option V)(ρ:List (Nat×Nat)):V→Option V
 | .vO _ _ _=>kn
 | .any=>some .any
 | .lit v=>some (.lit v)
 | .own n=>match look ρ n with|some m=>some (.own m)|none=>none
 | .ptr n o=>match look ρ n with|some m=>some (.ptr m o)|none=>none
 |_=>none
def toAs(kn:Option V)(ρ:List (Nat×Nat)):List V→Option (List V)
 | []=>some []
 |v::r=>match v.toA kn ρ,toAs kn ρ r with|some x,some y=>some (x::y)|_,_=>none
def S1.toA(ρ:List (Nat×Nat)):S1→Option S1
 | .a v=>match v.toA none ρ with|some x=>some (.a x)|none=>none
 | .agg l=>match toAs none ρ l with|some x=>some (.agg x)|none=>none
def rsH(ρ:List (Nat×Nat)):List S1→Option (List S1)
 | []=>some []
 |v::r=>match v.toA ρ,rsH ρ r with|some x,some y=>some (x::y)|_,_=>none
def Obj.toA(kn:Option V)(ρ:List (Nat×Nat)):Obj→Option Obj
 | .box c=>match toAs kn ρ c with|some x=>some (.box x)|none=>none
 | .arr t l=>some (.arr t l)
 | .jc _ _ _=>none
def GN(kn:Option V)(ρ:List (Nat×Nat)):Hp→Option (List (Nat×Nat×Obj))
 | []=>some []
 | (n,o)::r=>match look ρ n,o.toA kn ρ,GN kn ρ r with
   |some m,some o',some h=>match !ng m||ng n, !soft n||soft m with|true,true=>some ((n,m,o')::h)|_,_=>none
   |_,_,_=>none
def GO:Option Obj→Bool
 |some (.box _)=>true
 |_=>false
def MP(ty:Tag→Nat)(w:World)(hp:Hp)(env:Env):Prop:=(∀n o,look hp n=some o→RO ty w hp env n o (env n))∧ ∀n m o o',n≠m→look hp n=some o→look hp m=some o'→ ∀b,b∈(env n).fp→b∉(env m).fp
def Bv(hp:Hp)(env:Env):List Nat:=hp.flatMap fun e=>(env e.1).fp
def agz(w:World)(hp:Hp)(env:Env)(rs:List S1)(u:Value):Prop:=match rs with
 | [r]=>ji w hp env r u
 |rs=> ∃us,u= .tuple us.toArray∧cO (ji w hp env) rs us
def rG(ty:Tag→Nat)(P:Program)(f:FuncId)(kE:Hp)(as:List S1)(iT:Hp)(rs:List S1):Prop:=
 (∀(args:Array Value) (w:World),(callFunc f args).run P w= .ok (.enter f args) w)∧
 ∀w env us,Ko w→(∀b,O8 b→b∉Bv kE env)→MP ty w kE env→cO (ji w kE env) as us→Calls P f us.toArray w fun e w'=> ∃env' u,e= .returned u∧Kept ⟨w,Bv kE env,env⟩ w w'∧MP ty w' iT env'∧
  (∀n o,look iT n=some o→ ∀b,b∈(env' n).fp→b∈Bv kE env∨w.heap.size≤b)∧(∀n,ng n=true→(env' n).v=(env n).v∧ ∀b,b∈(env' n).fp→b∈(env n).fp)∧agz w' iT env' rs u
def dw{ty:Tag→Nat}{P:Program}{f:FuncId}{xs rs:List S1}(_:Sound ty P f xs rs):List S1:=rs
def KN{ty:Tag→Nat}{P:Program}{f:FuncId}{kE:Hp}{xs:List S1}{iT:Hp}{rs:List S1}(_:rG ty P f kE xs iT rs):List S1:=rs
def obS:Obj→S1
 | .box c=> .agg c
 | .arr t l=> .a (.sl t l)
 | .jc _ _ _=> .agg []
def KO{ty:Tag→Nat}{P:Program}{f:FuncId}{kE:Hp}{xs:List S1}{iT:Hp}{rs:List S1}(_:rG ty P f kE xs iT rs):List S1:= .agg (iT.map fun e=> .own e.1)::iT.map fun e=>obS e.2
def Fu(B:List (Nat×Nat×Obj)):Hp:=B.map fun e=>(e.2.1,e.2.2)
def IG:List (Nat×Nat×Obj)→Nat→Option Nat
 | [],_=>none
 | (n,m,_)::r,k=>match bf k m with|true=>some n|false=>IG r k
def GP(kv ks:List Nat)(hp:Hp):Hp:=(hp.filter fun e=> !kv.any (bf e.1)).map fun e=>(e.1,e.2.cM ks kv)
def KP(hp:Hp):Hp→Bool
 | []=>true
 | (m,_)::r=>(match look hp m with|none=>true|some _=>false)&&KP hp r
def Wo(P:Program)(ty:Tag→Nat)(Γ:Nat→TK)(cr:List (Nat×CR))(st:St)(d:Option Nat):Op→Option (List Prop×St×SV)
 | .call ⟨.value x,xs,ts⟩=>match look cr (d.getD 99999+700000),look cr (d.getD 99999+800000)with
   |some ⟨_, .agg a:: .agg b:: .agg c::os⟩,some ⟨_,rs⟩=>match ad9 a,ad9 b,agw c with
    |some ρ0,some ρ1,some ns=>match Wm ns os,Bu st ρ0 ρ0,KM st ρ0 x,MM Γ st ρ0 xs.toList ts.toList with
     |some iT,some kE,some (f,ex),some as=>match GN (knS st xs.toList ρ0) (ρ0++ρ1) iT,rsH (ρ0++ρ1) rs with
      |some B,some rsA=>match tG ((ρ0++ρ1).map gV)&&tG (ρ0.map fI)&&kf iT&&kf (Fu B)&&KP (GP (ρ0.map fI) ((ρ0.filter fun e=> !ng e.1).map fI) st.hp) (Fu B)&&ρ0.all (fun e=> !ng e.1|| (GO (look kE e.1)&&GO (look iT e.1)))&&ρ1.all (fun e=> !ng e.2)with
       |true=>some (rG ty P f kE (qE as ex) iT rs::Py (knS st xs.toList ρ0) iT,⟨st.n,st.sl.map fun e=>(e.1,e.2.cM ((ρ0.filter fun e=> !ng e.1).map fI) (ρ0.map fI)),Fu B++GP (ρ0.map fI) ((ρ0.filter fun e=> !ng e.1).map fI) st.hp⟩,match rsA with| [r]=> .one r|l=> .zH l)
       |false=>none
      |_,_=>none
     |_,_,_,_=>none
    |_,_,_=>none
   |_,_=>none
 |_=>none
theorem qG: ∀{ρ:List (Nat×Nat)} {m n:Nat},inv ρ m=some n→(n,m)∈ρ
 | (a,b)::r,m,n,h=>by
   simp only[inv]at h
   split at h
   ·rename_i hb
    have:=av hb
    simp only[oI]at h
    subst h;subst this;simp
   ·exact aJ _ (qG h)
theorem MQ: ∀{ρ:List (Nat×Nat)} {m:Nat},inv ρ m=none→m∉ρ.map fI
 | [],_,_=>by simp
 | (a,b)::r,m,h=>by
   simp only[inv]at h
   split at h
   ·cases h
   ·rename_i hb
    have hne:m≠b:=fun e=>by rw[e,Nat.beq_refl]at hb;cases hb
    have:=MQ h
    simp only[cA,aW,not_or]
    exact⟨hne,this⟩
theorem iB{α:Type}: ∀{l:List (Nat×α)} {n:Nat} {x:α},(l.map gV).Nodup→(n,x)∈l→look l n=some x
 | (j,y)::r,n,x,hnd,h=>by
   obtain⟨h1,h2⟩:=b9.1 hnd
   rcases aW.1 h with h'|h'
   ·simp only[pI]at h'
    obtain⟨rfl,rfl⟩:=h'
    exact look_eq
   ·have hne:n≠j:=fun e=>h1 (cj.2 ⟨(n,x),h',e⟩)
    rw[bX hne];exact iB h2 h'
theorem yM: ∀{l:Hp},kf l=true→(l.map gV).Nodup
 | [],_=>tC
 | (n,x)::r,h=>by
   simp only[kf,aj]at h
   refine b9.2 ⟨fun hm=> ?_,yM h.2⟩
   obtain⟨e,he,rfl⟩:=cj.1 hm
   have:=iB (yM h.2) (show(e.1,e.2)∈r from he)
   rw[this]at h;simp at h
theorem qO: ∀{B:List (Nat×Nat×Obj)} {m:Nat} {o:Obj},look (Fu B) m=some o→ ∃n,(n,m,o)∈B∧IG B m=some n
 | (n,k,x)::r,m,o,h=>by
   have h:look ((k,x)::Fu r) m=some o:=h
   by_cases hm:m=k
   ·subst hm
    rw[look_eq]at h
    simp only[oI]at h
    subst h
    exact⟨n,by simp,by simp[IG]⟩
   ·rw[bX hm]at h
    obtain⟨n',h1,h2⟩:=qO h
    refine⟨n',aJ _ h1,?_⟩
    simp only[IG]
    cases hb:bf m k with
    |true=>exact absurd (av hb) hm
    |false=>exact h2
theorem Jt: ∀{B:List (Nat×Nat×Obj)} {m:Nat},look (Fu B) m=none→IG B m=none
 | [],_,_=>rfl
 | (n,k,x)::r,m,h=>by
   have h:look ((k,x)::Fu r) m=none:=h
   have hm:m≠k:=by rintro rfl;rw[look_eq]at h;cases h
   rw[bX hm]at h
   simp only[IG]
   cases hb:bf m k with
   |true=>exact absurd (av hb) hm
   |false=>exact Jt h
theorem oF{kn:Option V}{ρ:List (Nat×Nat)}: ∀{hp:Hp} {B:List (Nat×Nat×Obj)},GN kn ρ hp=some B→ ∀n m o',(n,m,o')∈B→ ∃o,(n,o)∈hp∧look ρ n=some m∧o.toA kn ρ=some o'∧(ng m=true→ng n=true)∧(soft n=true→soft m=true)
 | [],B,h,n,m,o',hm=>by
   simp only[GN,oI]at h
   subst h;cases hm
 | (k,x)::r,B,h,n,m,o',hm=>by
   simp only[GN]at h
   split at h
   ·rename_i m1 o1 h1 e1 e2 e3
    split at h
    ·rename_i hp hs
     simp only[oI]at h
     subst h
     rcases aW.1 hm with h|h
     ·simp only[pI]at h
      obtain⟨rfl,rfl,rfl⟩:=h
      refine⟨x,by simp,e1,e2,fun hn=> ?_,fun hn=> ?_⟩
      ·rw[hn]at hp;simpa using hp
      ·rw[hn]at hs;simpa using hs
     ·obtain⟨o,q1,q2⟩:=oF e3 n m o' h
      exact⟨o,aJ _ q1,q2⟩
    ·cases h
   ·cases h
theorem Ju{kn:Option V}{ρ:List (Nat×Nat)}: ∀{hp:Hp} {B:List (Nat×Nat×Obj)},GN kn ρ hp=some B→ ∀n o,(n,o)∈hp→ ∃m o',(n,m,o')∈B∧look ρ n=some m∧o.toA kn ρ=some o'
 | [],B,h,n,o,hm=>by cases hm
 | (k,x)::r,B,h,n,o,hm=>by
   simp only[GN]at h
   split at h
   ·rename_i m1 o1 h1 e1 e2 e3
    split at h
    ·simp only[oI]at h
     subst h
     rcases aW.1 hm with h|h
     ·simp only[pI]at h
      obtain⟨rfl,rfl⟩:=h
      exact⟨m1,o1,by simp,e1,e2⟩
     ·obtain⟨m,o',q1,q2⟩:=Ju e3 n o h
      exact⟨m,o',aJ _ q1,q2⟩
    ·cases h
   ·cases h
theorem Jv{st:St}{ρ:List (Nat×Nat)}: ∀{r:List (Nat×Nat)} {hp:Hp},Bu st ρ r=some hp→(∀n o,(n,o)∈hp→ ∃m x,(n,m)∈r∧look st.hp m=some x∧o=x.toF ρ∧(ng m=true→ng n=true)∧(soft m=true→soft n=true))∧ ∀n m,(n,m)∈r→ ∃x,look st.hp m=some x∧(n,x.toF ρ)∈hp
 | [],hp,h=>by
   simp only[Bu,oI]at h
   subst h
   exact⟨(fun n o hm=>nomatch hm),(fun n m hm=>nomatch hm)⟩
 | (k,j)::r,hp,h=>by
   simp only[Bu]at h
   split at h
   ·rename_i x h' e1 e2 e3 e4
    simp only[oI]at h
    subst h
    obtain⟨q1,q2⟩:=Jv e4
    refine⟨fun n o hm=> ?_,fun n m hm=> ?_⟩
    ·rcases aW.1 hm with h|h
     ·simp only[pI]at h
      obtain⟨rfl,rfl⟩:=h
      exact⟨j,x,by simp,e1,rfl,fun hs=>by rw[hs]at e2;simpa using e2,fun hs=>by rw[hs]at e3;simpa using e3⟩
     ·obtain⟨m,y,p1,p2⟩:=q1 n o h
      exact⟨m,y,aJ _ p1,p2⟩
    ·rcases aW.1 hm with h|h
     ·simp only[pI]at h
      obtain⟨rfl,rfl⟩:=h
      exact⟨x,e1,by simp⟩
     ·obtain⟨y,p1,p2⟩:=q2 n m h
      exact⟨y,p1,aJ _ p2⟩
   ·cases h
theorem CU{st:St}{ρ:List (Nat×Nat)}: ∀{r:List (Nat×Nat)} {hp:Hp},Bu st ρ r=some hp→hp.map gV=r.map gV
 | [],hp,h=>by simp only[Bu,oI]at h;subst h;rfl
 | (k,j)::r,hp,h=>by
   simp only[Bu]at h
   split at h
   ·rename_i e4
    simp only[oI]at h
    subst h
    rw[cA,cA,CU e4]
   ·cases h
theorem vh{kv ks:List Nat}{hp:Hp}{n:Nat}:look (GP kv ks hp) n=if n∈kv then none else(look hp n).map (Obj.cM ks kv):=by
 unfold GP
 rw[ny (α:=Obj) (f:=fun e:Nat×Obj=>e.2.cM ks kv)]
 have:look (hp.filter fun e=> !kv.any (bf e.1)) n=if n∈kv then none else look hp n:=by
  induction hp with
  |nil=>simp[look]
  |cons e r ih=>
   obtain⟨j,x⟩:=e
   by_cases hj:j∈kv
   ·have:(kv.any (bf j))=true:=dV.2 ⟨j,hj,by simp⟩
    rw[ef (by simp[this]),ih]
    by_cases hn:n∈kv
    ·simp[hn]
    ·have:n≠j:=by rintro rfl;exact hn hj
     rw[if_neg hn,if_neg hn,bX this]
   ·have:(kv.any (bf j))=false:=by
     rw[bK]
     intro y hy hb
     exact hj (by rw[av hb];exact hy)
    rw[dc (by simp[this])]
    by_cases hnj:n=j
    ·subst hnj;rw[look_eq,if_neg hj,look_eq]
    ·rw[bX hnj,bX hnj,ih]
 rw[this]
 split<;>simp
theorem Jw{hp:Hp}: ∀{l:Hp},KP hp l=true→ ∀m o,look l m=some o→look hp m=none
 | (k,x)::r,h,m,o,hl=>by
   simp only[KP,aj]at h
   by_cases hm:m=k
   ·subst hm
    cases hq:look hp m with
    |none=>rfl
    |some y=>rw[hq]at h;simp at h
   ·rw[bX hm]at hl;exact Jw h.2 m o hl
theorem Wp{w:World}{hp:Hp}{env:Env}: ∀{c:List V} {us:List Value} {x:V},cO (RA w hp env) c us→knV c=some x→ ∃u t l,x= .vO u t l∧RA w hp env x u
 | [],_,_,_,h=>by cases h
 |v::r,us,x,hr,h=>by
  cases us with
  |nil=>exact hr.elim
  |cons u us=>
   cases v with
   |vO v t l=>
    simp only[knV,oI]at h
    subst h
    have h1:=hr.1
    obtain⟨hu,_⟩:=h1
    subst hu
    exact⟨_,t,l,rfl,hr.1⟩
   |_=>exact Wp hr.2 h
theorem Pz{zb:eJ}{st:St}{a:Act}{w:World}{env:Env}(g:Good ty zb st a.tmps w env): ∀{xs:List Operand} {x:V},knX st xs=some x→ ∃u t l,x= .vO u t l∧RA w st.hp env x u
 | [],_,h=>by cases h
 |y::r,x,h=>by
  simp only[knX]at h
  split at h
  ·rename_i v hv
   split at h
   ·rename_i hl
    simp only[oI]at h
    subst h
    have hr:=zW g (fun e he=>by simp at he) hv
    cases v with
    |vO v t l=>
     have h1:RA w st.hp env (.vO v t l) (a.eval y):=hr
     obtain⟨hu,_⟩:=h1
     refine⟨v,t,l,rfl,?_⟩
     have h2:RA w st.hp env (.vO v t l) (a.eval y):=hr
     rw[hu]at h2
     exact h2
    |_=>cases hl
   ·exact Pz g h
  ·exact Pz g h
theorem PA{zb:eJ}{st:St}{tmps:Array Value}{w:World}{env:Env}(g:Good ty zb st tmps w env): ∀{ρ:List (Nat×Nat)} {x:V},knR st ρ=some x→ ∃u t l,x= .vO u t l∧RA w st.hp env x u
 | [],_,h=>by cases h
 | (n,m)::r,x,h=>by
   simp only[knR]at h
   split at h
   ·rename_i c hc
    split at h
    ·rename_i v hv
     simp only[oI]at h
     subst h
     obtain⟨b,cs,e,_,_,h3⟩:=g.obj m _ hc
     exact Wp h3 hv
    ·exact PA g h
   ·exact PA g h
theorem aeb{zb:eJ}{st:St}{a:Act}{w:World}{env:Env}(g:Good ty zb st a.tmps w env){xs:List Operand}{ρ:List (Nat×Nat)}{x:V}(h:knS st xs ρ=some x): ∃u t l,x= .vO u t l∧RA w st.hp env x u:=by
 unfold knS at h
 split at h
 ·rename_i v hv
  simp only[oI]at h
  subst h
  exact Pz g hv
 ·exact PA g h
theorem MR{kn:Option V}: ∀{c:List V} {v:V},v∈c→ ∀q,q∈MN kn v→q∈Wn kn c
 |x::r,v,hv,q,hq=>by
  simp only[Wn,gI]
  rcases aW.1 hv with rfl|hv
  ·exact aM _ hq
  ·exact aH _ (MR hv q hq)
theorem MS{kn:Option V}: ∀{hp:Hp} {n:Nat} {c:List V},(n, .box c)∈hp→ ∀q,q∈Wn kn c→q∈Py kn hp
 | (m,o)::r,n,c,h,q,hq=>by
   rcases aW.1 h with h|h
   ·simp only[pI]at h
    obtain⟨_,rfl⟩:=h
    simp only[Py,gI]
    exact aM _ hq
   ·have:=MS h q hq
    cases o with
    |box d=>simp only[Py,gI];exact aH _ this
    |_=>exact this
end
section
variable{ty:Tag→Nat}
def Bw(env:Env)(ρ:List (Nat×Nat)):Env:=fun n=>match look ρ n with|some m=>env m|none=>⟨Kr,[]⟩
section
variable{P:Program}{zb:eJ}{st st':St}{a:Act}{w:World}{env:Env}{Q:Exit→Act→World→Prop}{o:Oper}{ρ:List (Nat×Nat)}{kE:Hp}
structure Bx(st:St)(env:Env)(ρ:List (Nat×Nat))(kE:Hp):Prop where
 at_: ∀n m,(n,m)∈ρ→look ρ n=some m
 obj: ∀n m,(n,m)∈ρ→ ∃x,look st.hp m=some x∧look kE n=some (x.toF ρ)
 back: ∀n o,look kE n=some o→ ∃m x,(n,m)∈ρ∧look st.hp m=some x∧o=x.toF ρ∧(ng m=true→ng n=true)∧(soft m=true→soft n=true)
 uniq:(ρ.map fI).Nodup
theorem Bx.of{st:St}{env:Env}{kE:Hp}(h:Bu st ρ ρ=some kE)(h1:(ρ.map gV).Nodup)(h2:(ρ.map fI).Nodup):Bx st env ρ kE:=by
 obtain⟨q1,q2⟩:=Jv h
 have hnd:(kE.map gV).Nodup:=by rw[CU h];exact h1
 refine⟨fun n m hm=>iB h1 hm,fun n m hm=> ?_,fun n o hl=> ?_,h2⟩
 ·obtain⟨x,p1,p2⟩:=q2 n m hm
  exact⟨x,p1,iB hnd p2⟩
 ·obtain⟨m,x,p1,p2,p3,p4⟩:=q1 n o (gM hl)
  exact⟨m,x,p1,p2,p3,p4⟩
theorem Bx.en(L:Bx st env ρ kE){n m:Nat}(h:(n,m)∈ρ):Bw env ρ n=env m:=by unfold Bw;rw[L.at_ n m h]
theorem Bx.ow(L:Bx st env ρ kE){b:Nat}(h:Ow kE (Bw env ρ) b): ∃n m x,(n,m)∈ρ∧look st.hp m=some x∧b∈(env m).fp:=by
 obtain⟨n,o,h1,h2⟩:=h
 obtain⟨m,x,p1,p2,_⟩:=L.back n o h1
 rw[L.en p1]at h2
 exact⟨n,m,x,p1,p2,h2⟩
theorem Re: ∀{ρ:List (Nat×Nat)} {n n' m:Nat},(ρ.map fI).Nodup→(n,m)∈ρ→(n',m)∈ρ→n=n'
 | (a,b)::r,n,n',m,hnd,h1,h2=>by
   obtain⟨q1,q2⟩:=b9.1 hnd
   rcases aW.1 h1 with e1|e1<;>rcases aW.1 h2 with e2|e2
   ·rw[pI]at e1 e2;rw[e1.1,e2.1]
   ·rw[pI]at e1;exact absurd (cj.2 ⟨_,e2,e1.2⟩) q1
   ·rw[pI]at e2;exact absurd (cj.2 ⟨_,e1,e2.2⟩) q1
   ·exact Re q2 e1 e2
theorem toF_ok(L:Bx st env ρ kE){v:V}{u:Value}(h:RA w st.hp env v u):RA w kE (Bw env ρ) (v.toF ρ) u:=by
 cases v with
 |lit x=>exact h
 |sl t l=>
  obtain⟨fp,h1,h2⟩:=h
  refine⟨fp,h1,fun b hb ho=>h2 b hb ?_⟩
  obtain⟨n,m,x,_,p2,p3⟩:=L.ow ho
  exact⟨m,x,p2,p3⟩
 |own m=>
  simp only[V.toF]
  split
  ·rename_i n hn
   obtain⟨⟨t,l,hl⟩,hu⟩:=h
   obtain⟨x,p1,p2⟩:=L.obj n m (qG hn)
   rw[hl]at p1
   simp only[oI]at p1
   subst p1
   exact⟨⟨t,l,p2⟩,by rw[L.en (qG hn)];exact hu⟩
  ·trivial
 |ptr m off=>
  simp only[V.toF]
  split
  ·rename_i n hn
   obtain⟨⟨c,hl⟩,hu⟩:=h
   obtain⟨x,p1,p2⟩:=L.obj n m (qG hn)
   rw[hl]at p1
   simp only[oI]at p1
   subst p1
   exact⟨⟨_,p2⟩,by rw[L.en (qG hn)];exact hu⟩
  ·trivial
 |Fi f m=>
  simp only[V.toF]
  split
  ·rename_i n hn
   obtain⟨⟨c,hl⟩,hu⟩:=h
   obtain⟨x,p1,p2⟩:=L.obj n m (qG hn)
   rw[hl]at p1
   simp only[oI]at p1
   subst p1
   exact⟨⟨_,p2⟩,by rw[L.en (qG hn)];exact hu⟩
  ·trivial
 |vO v t l=>
  obtain⟨hu,fp,h1,h2⟩:=h
  refine⟨hu,fp,h1,fun b hb ho=>h2 b hb ?_⟩
  obtain⟨n,m,x,_,p2,p3⟩:=L.ow ho
  exact⟨m,x,p2,p3⟩
 |_=>trivial
theorem Rf{w:World}{hp kg:Hp}{env env':Env}{n m:Nat}{t:Tag}{l:List (T t)}{co:CO}(hs:soft m=true→soft n=true)(h:RO ty w hp env m (.arr t l) co):RO ty w kg env' n (.arr t l) co:=by
 cases hm:soft m with
 |false=>exact RO.Jg (RO.Zr hm h)
 |true=>exact RO.VL (hs hm) (RO.sl h) (RO.own h)
theorem TD(g:Good ty zb st a.tmps w env)(L:Bx st env ρ kE):MP ty w kE (Bw env ρ):=by
 refine⟨fun n o hl=> ?_,fun n n' o o' hne h1 h2 b hb hb'=> ?_⟩
 ·obtain⟨m,x,p1,p2,rfl,_,p4⟩:=L.back n o hl
  rw[L.en p1]
  have hro:=g.obj m x p2
  cases x with
  |arr t l=>exact Rf p4 hro
  |box c=>
   obtain⟨b,cs,e,h1,h2,h3⟩:=hro
   exact⟨b,cs,e,h1,h2,h3.map fun x y hr=>toF_ok L hr⟩
  |jc t l s=>
   rcases RO.Gh hro with⟨rfl,h⟩| ⟨u,rfl,h1,h2,fp,h3,h4⟩| ⟨p,rfl,h⟩| ⟨hr,h1,us,hB,h2,_⟩
   ·exact h
   ·refine⟨h1,h2,fp,h3,h4.imp id fun⟨c,e1,e2⟩=>⟨c,e1,fun ho=> ?_⟩⟩
    obtain⟨n',m',x',p1',p2',p3'⟩:=L.ow ho
    exact e2 ⟨m',x',p2',p3'⟩
   ·exact⟨h.1,h.2.1,fun _ _ _ e=>by cases e⟩
   ·have e:(Obj.jc t l s).toF ρ= .jc t l .gone:=by cases s<;>first|rfl|exact hr.elim
    rw[e]
    exact⟨h1,us,hB,h2,fun _ _ _ _ _=>trivial⟩
 ·obtain⟨m,x,p1,p2,_⟩:=L.back n o h1
  obtain⟨m',x',p1',p2',_⟩:=L.back n' o' h2
  rw[L.en p1]at hb
  rw[L.en p1']at hb'
  refine g.lR m m' x x' (fun e=> ?_) p2 p2' b hb hb'
  subst e
  exact hne (Re L.uniq p1 p1')
theorem Rg(g:Good ty zb st a.tmps w env)(L:Bx st env ρ kE){tg:Option Tag}{v v':V}{u:Value}(h:RA w st.hp env v u)(hf:aah st ρ tg v=some v'):RA w kE (Bw env ρ) v' u:=by
 have agA:(∀n c t l,v≠ .mix n c t l)→(∀n,v≠ .yC n)→(∀m,v.name=some m→inv ρ m=none)→rm st tg v=some v'→RA w kE (Bw env ρ) v' u:=by
  intro UT hbw hno hi
  have agB: ∀{m:Nat} {x:Obj},v.name=some m→look st.hp m=some x→ ∀b,b∈(env m).fp→ ¬Ow kE (Bw env ρ) b:=by
   intro m x hm hl b hb ho
   obtain⟨n,m',x',p1,p2,p3⟩:=L.ow ho
   have hne:m≠m':=by
    rintro rfl
    exact MQ (hno m hm) (cj.2 ⟨_,p1,rfl⟩)
   exact g.lR m m' x x' hne hl p2 b hb p3
  cases v with
  |sl t l=>
   simp only[rm,oI]at hi
   subst hi
   exact toF_ok L h
  |own m=>
   simp only[rm]at hi
   split at hi
   ·rename_i t l hl
    simp only[oI]at hi
    subst hi
    obtain⟨_,hu⟩:=h
    refine⟨(env m).fp,?_,agB rfl hl⟩
    rw[hu];exact RO.sl (g.obj m _ hl)
   ·cases hi
  |vw m p t l=>
   simp only[rm,oI]at hi
   subst hi
   obtain⟨⟨tA,lA,hl⟩,⟨fp,hs,_,hsub⟩,_⟩:=h
   exact⟨fp,hs,fun b hb=>agB rfl hl b (hsub b hb)⟩
  |lit x=>
   unfold rm at hi
   split at hi
   ·rename_i he;cases he
   ·rename_i he;cases he
   ·rename_i he;cases he
   ·rename_i he;cases he
   ·rename_i he;cases he
   ·rename_i he
    simp only[V.lit.injEq]at he
    subst he
    obtain⟨hu,_⟩:=h
    split at hi
    ·simp only[oI]at hi
     subst hi
     refine⟨[],?_,by simp⟩
     rw[hu]
     exact⟨none,0,rfl,bh _,aA _,bG ⟨rfl,rfl,rfl⟩⟩
    ·cases hi
   ·cases hi
   ·rename_i he
    simp only[V.lit.injEq]at he
    subst he
    simp only[oI]at hi
    subst hi
    exact h
   ·cases hi
  |mix n c t l=>exact absurd rfl (UT n c t l)
  |yC n=>exact absurd rfl (hbw n)
  |_=>simp[rm]at hi
 unfold aah at hf
 split at hf
 ·rename_i m hm
  split at hf
  ·rename_i n hn
   have hF:=toF_ok L h
   split at hf
   ·rename_i m'
    simp only[V.name,oI]at hm
    subst hm
    simp only[oI]at hf
    subst hf
    simpa only[V.toF,hn]using hF
   ·rename_i m' off
    simp only[V.name,oI]at hm
    subst hm
    simp only[oI]at hf
    subst hf
    simpa only[V.toF,hn]using hF
   ·rename_i f m'
    simp only[V.name,oI]at hm
    subst hm
    simp only[oI]at hf
    subst hf
    simpa only[V.toF,hn]using hF
   ·cases hf
  ·rename_i hn
   split at hf
   ·cases hf
   ·cases hf
   ·rename_i h1 h2
    exact agA (fun n c t l e=>h1 n c t l e) (fun n e=>h2 n e) (fun k hk=>by rw[hm]at hk;simp only[oI]at hk;subst hk;exact hn) hf
 ·rename_i hm
  exact agA (fun n c t l e=>by rw[e]at hm;cases hm) (fun n e=>by rw[e]at hm;cases hm) (fun k hk=>by rw[hm]at hk;cases hk) hf
theorem MT(g:Good ty zb st a.tmps w env)(L:Bx st env ρ kE): ∀{vs vs':List V} {tg:List (Option Tag)} {us:List Value},cO (RA w st.hp env) vs us→ML st ρ tg vs=some vs'→cO (RA w kE (Bw env ρ)) vs' us
 | [],vs',tg,us,h,hf=>by
   simp only[ML,oI]at hf
   subst hf
   cases us with
   |nil=>trivial
   |cons _ _=>exact h.elim
 |v::r,vs',tg,us,h,hf=>by
  cases us with
  |nil=>exact h.elim
  |cons u us=>
   simp only[ML]at hf
   split at hf
   ·rename_i x y h1 h2
    simp only[oI]at hf
    subst hf
    exact⟨Rg g L h.1 h1,MT g L h.2 h2⟩
   ·cases hf
theorem MU(g:Good ty zb st a.tmps w env)(L:Bx st env ρ kE){Γ:Nat→TK}: ∀{xs:List Operand} {ts:List Nat} {as:List S1},MM Γ st ρ xs ts=some as→cO (ji w kE (Bw env ρ)) as (xs.map a.eval)
 | [],_,as,h=>by
   simp only[MM,oI]at h
   subst h;trivial
 |x::r,ts,as,h=>by
  simp only[MM]at h
  split at h
  ·rename_i v hv
   split at h
   ·rename_i y ys h1 h2
    simp only[oI]at h
    subst h
    have hr:=zW g (fun e he=>by simp at he) hv
    refine⟨?_,MU g L h2⟩
    cases v with
    |a v=>
     simp only[ad8]at h1
     split at h1
     ·rename_i hl
      simp only[oI]at h1
      subst h1
      cases v with
      |vO v t l=>exact toF_ok L (v:= .vO v t l) hr
      |_=>cases hl
     ·split at h1
      ·rename_i z hz
       simp only[oI]at h1
       subst h1
       exact Rg g L hr hz
      ·cases h1
    |agg l=>
     simp only[ad8]at h1
     split at h1
     ·rename_i z hz
      simp only[oI]at h1
      subst h1
      obtain⟨cs,hu,hl⟩:=hr
      exact⟨cs,hu,MT g L hl hz⟩
     ·cases h1
   ·cases h
  ·cases h
theorem cO.append{α β:Type}{R:α→β→Prop}: ∀{as as':List α} {bs bs':List β},cO R as bs→cO R as' bs'→cO R (as++as') (bs++bs'):=cO.app
theorem PB(g:Good ty zb st a.tmps w env)(L:Bx st env ρ kE){x:Operand}{xs:Array Operand}{ts:Array TypeId}(ho:o.op= .call ⟨.value x,xs,ts⟩){f:FuncId}{ex:List S1}(h:KM st ρ x=some (f,ex))(hS: ∀(args:Array Value) (w:World),(callFunc f args).run P w= .ok (.enter f args) w):
  ∃us,(execOp a.eval o).run P w= .ok (.enter f (xs.toList.map a.eval++us).toArray) w∧cO (ji w kE (Bw env ρ)) ex us:=by
 have hx:xs.map a.eval=(xs.toList.map a.eval).toArray:=by rw[←jV]
 unfold KM at h
 split at h
 ·rename_i f' m hv
  split at h
  ·rename_i n hn
   simp only[oI,pI]at h
   obtain⟨rfl,rfl⟩:=h
   have hr:=gu g (fun e he=>by simp at he) hv
   have hA:RA w st.hp env (.Fi f' m) (a.eval x):=hr
   obtain⟨⟨c,hl⟩,b,hb,hu⟩:=hA
   refine⟨[.pointer (some ⟨b,0,none⟩)],?_,?_,trivial⟩
   ·unfold execOp
    simp[ho,resolve,invoke,qi,hu,hS]
    rw[hx];simp
   ·obtain⟨y,p1,p2⟩:=L.obj n m (qG hn)
    rw[hl]at p1
    simp only[oI]at p1
    subst p1
    exact⟨⟨_,p2⟩,b,by rw[L.en (qG hn)];exact hb,rfl⟩
  ·cases h
 ·rename_i v _ hv
  split at h
  ·rename_i f' hf
   simp only[oI,pI]at h
   obtain⟨rfl,rfl⟩:=h
   have h0:=Q6 (gu g (fun e he=>by simp at he) hv) hf
   refine⟨[],?_,trivial⟩
   unfold execOp
   simp[ho,resolve,invoke,qi,h0,hS]
   exact hx
  ·cases h
 ·cases h
theorem toA_ok{w:World}{iT TF:Hp}{rH env':Env}{ρ:List (Nat×Nat)}{kn kn':Option V}(hn: ∀n m,look ρ n=some m→ ∀o,look iT n=some o→(∃o',look TF m=some o'∧o.toA kn' ρ=some o')∧env' m=rH n)(hK: ∀x,kn=some x→ ∃u t l,x= .vO u t l∧RA w TF env' x u){v v':V}{u:Value}(hP: ∀q,q∈MN kn v→q)(h:RA w iT rH v u)(hv:v.toA kn ρ=some v'):RA w TF env' v' u:=by
 cases v with
 |any=>simp only[V.toA,oI]at hv;subst hv;trivial
 |lit x=>simp only[V.toA,oI]at hv;subst hv;exact h
 |vO v t l=>
  simp only[V.toA]at hv
  obtain⟨u0,t0,l0,rfl,h0⟩:=hK _ hv
  subst hv
  have e:=hP (v=u0) (by simp[MN])
  obtain⟨hu,_⟩:=h
  rw[hu,e]
  exact h0
 |own n=>
  simp only[V.toA]at hv
  split at hv
  ·rename_i m hm
   simp only[oI]at hv
   subst hv
   obtain⟨⟨t,l,hl⟩,hu⟩:=h
   obtain⟨⟨o',q1,q2⟩,q3⟩:=hn n m hm _ hl
   simp only[Obj.toA,oI]at q2
   subst q2
   exact⟨⟨t,l,q1⟩,by rw[q3];exact hu⟩
  ·cases hv
 |ptr n off=>
  simp only[V.toA]at hv
  split at hv
  ·rename_i m hm
   simp only[oI]at hv
   subst hv
   obtain⟨⟨c,hl⟩,hu⟩:=h
   obtain⟨⟨o',q1,q2⟩,q3⟩:=hn n m hm _ hl
   simp only[Obj.toA]at q2
   split at q2
   ·simp only[oI]at q2
    subst q2
    exact⟨⟨_,q1⟩,by rw[q3];exact hu⟩
   ·cases q2
  ·cases hv
 |_=>simp[V.toA]at hv
theorem toAs_ok{w:World}{iT TF:Hp}{rH env':Env}{ρ:List (Nat×Nat)}{kn kn':Option V}(hn: ∀n m,look ρ n=some m→ ∀o,look iT n=some o→(∃o',look TF m=some o'∧o.toA kn' ρ=some o')∧env' m=rH n)(hK: ∀x,kn=some x→ ∃u t l,x= .vO u t l∧RA w TF env' x u): ∀{vs vs':List V} {us:List Value},(∀v,v∈vs→ ∀q,q∈MN kn v→q)→cO (RA w iT rH) vs us→toAs kn ρ vs=some vs'→cO (RA w TF env') vs' us
 | [],vs',us,_,h,hv=>by
   simp only[toAs,oI]at hv
   subst hv
   cases us with
   |nil=>trivial
   |cons _ _=>exact h.elim
 |v::r,vs',us,hP,h,hv=>by
  cases us with
  |nil=>exact h.elim
  |cons u us=>
   simp only[toAs]at hv
   split at hv
   ·rename_i x y h1 h2
    simp only[oI]at hv
    subst hv
    exact⟨toA_ok hn hK (hP v (by simp)) h.1 h1,toAs_ok hn hK (fun z hz=>hP z (aJ _ hz)) h.2 h2⟩
   ·cases hv
theorem toA_none{kn:Option V}{ρ:List (Nat×Nat)}{v v':V}(hk:kn=none)(h:v.toA kn ρ=some v'): ∀q,q∈MN kn v→q:=by
 subst hk
 cases v with
 |vO v t l=>simp[V.toA]at h
 |_=>intro q hq;simp[MN]at hq
theorem toAs_none{ρ:List (Nat×Nat)}: ∀{vs vs':List V},toAs none ρ vs=some vs'→ ∀v,v∈vs→ ∀q,q∈MN none v→q
 |x::r,vs',h,v,hv=>by
  simp only[toAs]at h
  split at h
  ·rename_i h1 h2
   rcases aW.1 hv with rfl|hv
   ·exact toA_none rfl h1
   ·exact toAs_none h2 v hv
  ·cases h
theorem Wq{w:World}{iT TF:Hp}{rH env':Env}{ρ:List (Nat×Nat)}{kn':Option V}(hn: ∀n m,look ρ n=some m→ ∀o,look iT n=some o→(∃o',look TF m=some o'∧o.toA kn' ρ=some o')∧env' m=rH n){v v':S1}{u:Value}(h:ji w iT rH v u)(hv:v.toA ρ=some v'):ji w TF env' v' u:=by
 cases v with
 |a v=>
  simp only[S1.toA]at hv
  split at hv
  ·rename_i x hx
   simp only[oI]at hv
   subst hv
   exact toA_ok (kn:=none) hn (fun _ h=>by cases h) (toA_none rfl hx) h hx
  ·cases hv
 |agg l=>
  simp only[S1.toA]at hv
  split at hv
  ·rename_i x hx
   simp only[oI]at hv
   subst hv
   obtain⟨cs,hu,hl⟩:=h
   exact⟨cs,hu,toAs_ok (kn:=none) hn (fun _ h=>by cases h) (toAs_none hx) hl hx⟩
  ·cases hv
theorem PC{w:World}{iT TF:Hp}{rH env':Env}{ρ:List (Nat×Nat)}{kn':Option V}(hn: ∀n m,look ρ n=some m→ ∀o,look iT n=some o→(∃o',look TF m=some o'∧o.toA kn' ρ=some o')∧env' m=rH n): ∀{vs vs':List S1} {us:List Value},cO (ji w iT rH) vs us→rsH ρ vs=some vs'→cO (ji w TF env') vs' us
 | [],vs',us,h,hv=>by
   simp only[rsH,oI]at hv
   subst hv
   cases us with
   |nil=>trivial
   |cons _ _=>exact h.elim
 |v::r,vs',us,h,hv=>by
  cases us with
  |nil=>exact h.elim
  |cons u us=>
   simp only[rsH]at hv
   split at hv
   ·rename_i x y h1 h2
    simp only[oI]at hv
    subst hv
    exact⟨Wq hn h.1 h1,PC hn h.2 h2⟩
   ·cases hv
theorem Rh{ρ:List (Nat×Nat)}: ∀{vs vs':List S1},rsH ρ vs=some vs'→vs'.length=vs.length
 | [],vs',h=>by simp only[rsH,oI]at h;subst h;rfl
 |v::r,vs',h=>by
  simp only[rsH]at h
  split at h
  ·rename_i x y h1 h2
   simp only[oI]at h
   subst h
   rw[bY,bY,Rh h2]
  ·cases h
theorem aak{Γ:Nat→TK}{cr:List (Nat×CR)}{d:Option Nat}{vc:List Prop}{v:SV}(h:Wo P ty Γ cr st d o.op=some (vc,st',v))(g:Good ty zb st a.tmps w env)(hB:zb.w.heap.size≤w.heap.size)(hA:Ku zb)(hN:Ko w)(hv: ∀q,q∈vc→q):
  (∀k,v.mentions k=false)∧o.wp P a w (fun a' w'=> ∃u env',a'=a.put o.dst u∧Kept zb w w'∧Good ty zb st' a.tmps w' env'∧st'.n=st.n∧sK w' st'.hp env' a.tmps v u) Q:=by
 generalize iJ:o.op=op at h
 cases op with
 |call c=>
  obtain⟨callee,xs,ts⟩:=c
  cases callee with
  |value x=>
   simp only[Wo]at h
   split at h
   case h_2=>cases h
   rename_i _ ca cb cc os _ rs _ _
   split at h
   case h_2=>cases h
   rename_i ρ0 ρ1 ns _ _ _
   split at h
   case h_2=>cases h
   rename_i iT kE f ex as _ acn aiY hargs
   split at h
   case h_2=>cases h
   rename_i B rsA GQ Fq
   split at h
   case h_2=>cases h
   rename_i agC
   simp only[aj]at agC
   obtain⟨⟨⟨⟨⟨⟨c1,c2⟩,c3⟩,c4⟩,c5⟩,c6⟩,c7⟩:=agC
   simp only[oI,pI,gI]at h
   obtain⟨rfl,rfl,rfl⟩:=h
   have hS:rG ty P f kE (as++ex) iT rs:=hv _ (List.mem_cons_self ..)
   have aiZ: ∀q,q∈Py (knS st xs.toList ρ0) iT→q:=fun q hq=>hv q (aJ _ hq)
   have Wr:=mR c1
   rw[eI]at Wr
   have agD:=(aY.1 Wr).1
   have L:Bx st env ρ0 kE:=Bx.of acn agD (mR c2)
   refine⟨fun k=>by split<;>rfl,?_⟩
   have aal: ∀b,b∈Bv kE (Bw env ρ0)→ ∃m x,m∈ρ0.map fI∧look st.hp m=some x∧b∈(env m).fp:=by
    intro b hb
    obtain⟨e,he,Tz⟩:=List.mem_flatMap.1 hb
    have ai0:(kE.map gV).Nodup:=by rw[CU acn];exact agD
    obtain⟨m,x,p1,p2,_⟩:=L.back e.1 e.2 (iB ai0 he)
    rw[L.en p1]at Tz
    exact⟨m,x,cj.2 ⟨_,p1,rfl⟩,p2,Tz⟩
   have hLz: ∀b,b∈Bv kE (Bw env ρ0)→b∈zb.L∨zb.w.heap.size≤b:=by
    intro b hb
    obtain⟨m,x,_,p2,p3⟩:=aal b hb
    exact g.dom m x p2 b p3
   obtain⟨us,hrun,hex⟩:=PB (P:=P) g L iJ aiY hS.1
   unfold iK
   rw[hrun]
   simp only[Gp]
   refine(hS.2 w (Bw env ρ0) _ hN (fun b h0 hb=>hA.free (hLz b hb) h0) (TD g L) (cO.app (MU g L hargs) hex)).mono ?_
   rintro e w' ⟨rH,u,rfl,hK,⟨hG1,hG2⟩,iV,MG,hres⟩
   have agE: ∀n m,(n,m)∈ρ0→look (ρ0++ρ1) n=some m:=fun n m hm=>iB (by rw[eI];exact Wr) (aM _ hm)
   have aec:=yM c3
   have agF:=yM c4
   have ai2: ∀{n m n':Nat} {o1 o2:Obj},(n,m,o1)∈B→(n',m,o2)∈B→n=n':=by
    intro n m n' o1 o2 h1 h2
    have: ∀{B:List (Nat×Nat×Obj)},((Fu B).map gV).Nodup→(n,m,o1)∈B→(n',m,o2)∈B→n=n':=by
     intro B
     induction B with
     |nil=>intro _ h;cases h
     |cons x r ih=>
      intro hnd h1 h2
      obtain⟨q1,q2⟩:=b9.1 (show((x.2.1)::(Fu r).map gV).Nodup from hnd)
      have hin: ∀{k:Nat} {o:Obj},(k,m,o)∈r→m∈(Fu r).map gV:=fun h=>cj.2 ⟨(m,_),cj.2 ⟨_,h,rfl⟩,rfl⟩
      rcases aW.1 h1 with e1|e1<;>rcases aW.1 h2 with e2|e2
      ·rw[←e1]at e2;simp only[pI]at e2;exact e2.1.symm
      ·rw[←e1]at q1;exact absurd (hin e2) q1
      ·rw[←e2]at q1;exact absurd (hin e1) q1
      ·exact ih q2 e1 e2
    exact this agF h1 h2
   have agG: ∀{n m:Nat} {o':Obj},(n,m,o')∈B→look (Fu B) m=some o'∧IG B m=some n:=by
    intro n m o' hm
    have h1:look (Fu B) m=some o':=iB agF (cj.2 ⟨_,hm,rfl⟩)
    obtain⟨n',h2,h3⟩:=qO h1
    rw[ai2 hm h2]
    exact⟨h1,h3⟩
   let env':Env:=fun m=>match IG B m with|some n=>rH n|none=>env m
   have MV: ∀{n m:Nat} {o':Obj},(n,m,o')∈B→env' m=rH n:=by
    intro n m o' hm
    show(match IG B m with|some n=>rH n|none=>env m)=rH n
    rw[(agG hm).2]
   have Ri: ∀{m:Nat},look (Fu B) m=none→env' m=env m:=by
    intro m hm
    show(match IG B m with|some n=>rH n|none=>env m)=env m
    rw[Jt hm]
   have hn: ∀n m,look (ρ0++ρ1) n=some m→ ∀o,look iT n=some o→(∃o',look (Fu B) m=some o'∧o.toA (knS st xs.toList ρ0) (ρ0++ρ1)=some o')∧env' m=rH n:=by
    intro n m hm o hl
    obtain⟨m',o',q1,q2,q3⟩:=Ju GQ n o (gM hl)
    rw[hm]at q2
    simp only[oI]at q2
    subst q2
    exact⟨⟨o',(agG q1).1,q3⟩,MV q1⟩
   have hfr:=Jw c5
   have hlk: ∀m o,look (Fu B++GP (ρ0.map fI) ((ρ0.filter fun e=> !ng e.1).map fI) st.hp) m=some o→(∃n o1,look (Fu B) m=some o∧look iT n=some o1∧o1.toA (knS st xs.toList ρ0) (ρ0++ρ1)=some o∧env' m=rH n∧(ng m=true→ng n=true)∧(soft n=true→soft m=true))∨(look (Fu B) m=none∧m∉ρ0.map fI∧ ∃x,look st.hp m=some x∧o=x.cM ((ρ0.filter fun e=> !ng e.1).map fI) (ρ0.map fI)∧env' m=env m):=by
    intro m o hm
    cases hq:look (Fu B) m with
    |some o2=>
     rw[eL hq]at hm
     simp only[oI]at hm
     subst hm
     obtain⟨n,h1,_⟩:=qO hq
     obtain⟨o1,p1,p2,p3,p4,p5⟩:=oF GQ n m _ h1
     exact bG ⟨n,o1,rfl,iB aec p1,p3,MV h1,p4,p5⟩
    |none=>
     rw[cQ hq,vh]at hm
     split at hm
     ·cases hm
     ·rename_i hnk
      cases hx:look st.hp m with
      |none=>rw[hx]at hm;cases hm
      |some x=>
       rw[hx]at hm
       simp only[dz,oI]at hm
       exact bg ⟨rfl,hnk,x,rfl,hm.symm,Ri hq⟩
   have hold: ∀m x,m∉ρ0.map fI→look st.hp m=some x→look (Fu B) m=none:=by
    intro m x hnk hx
    cases hq:look (Fu B) m with
    |none=>rfl
    |some o2=>
     have:=hfr m o2 hq
     rw[vh,if_neg hnk,hx]at this
     cases this
   have hst: ∀m x,m∉ρ0.map fI→look st.hp m=some x→ ∀b,b∈(env m).fp→w'.heap[b]? =w.heap[b]? :=by
    intro m x hnk hx b hb
    refine hK.block b ((g.obj m x hx).zS b hb) fun hL=> ?_
    obtain⟨m',x',p1,p2,p3⟩:=aal b hL
    exact g.lR m m' x x' (fun e=>hnk (e▸p1)) hx p2 b hb p3
   have hnew: ∀{m n:Nat} {o1:Obj},look iT n=some o1→ ∀b,b∈(rH n).fp→b<w.heap.size→ ∃m' x',m'∈ρ0.map fI∧look st.hp m'=some x'∧b∈(env m').fp:=by
    intro m n o1 hl b hb hlt
    rcases iV n o1 hl b hb with h|h
    ·exact aal b h
    ·omega
   have s:uc ((ρ0.filter fun e=> !ng e.1).map fI) (ρ0.map fI) w st.hp env w' (Fu B++GP (ρ0.map fI) ((ρ0.filter fun e=> !ng e.1).map fI) st.hp) env':=by
    refine⟨fun b hb hno=>hK.block b hb fun hL=> ?_,?_,?_,?_⟩
    ·obtain⟨m,x,_,p2,p3⟩:=aal b hL
     exact hno ⟨m,x,p2,p3⟩
    ·rintro b hb ⟨m,o',h1,h2⟩
     rcases hlk m o' h1 with⟨n,o1,_,q2,_,q4,_⟩| ⟨_,_,x,q3,_,q5⟩
     ·rw[q4]at h2
      obtain⟨m',x',_,p2,p3⟩:=hnew (m:=m) q2 b h2 hb
      exact⟨m',x',p2,p3⟩
     ·rw[q5]at h2
      exact⟨m,x,q3,h2⟩
    ·intro m o' hks h1
     by_cases hkv:m∈ρ0.map fI
     ·obtain⟨e,he,rfl⟩:=cj.1 hkv
      have hpe:ng e.1=true:=by
       cases hp:ng e.1 with
       |true=>rfl
       |false=>exact absurd (cj.2 ⟨e,List.mem_filter.2 ⟨he,by simp[hp]⟩,rfl⟩) hks
      have L5:=bq.1 c6 e he
      rw[hpe]at L5
      simp only[Bool.not_true,Bd,aj]at L5
      obtain⟨x,p1,p2⟩:=L.obj e.1 e.2 he
      rw[h1]at p1
      simp only[oI]at p1
      subst p1
      rw[p2]at L5
      cases hq1:look iT e.1 with
      |none=>rw[hq1]at L5;simp[GO]at L5
      |some o1=>
       rw[hq1]at L5
       obtain⟨⟨o2,q1,q2⟩,q3⟩:=hn e.1 e.2 (agE e.1 e.2 he) o1 hq1
       refine⟨o2,eL q1,?_,by rw[q3,(MG e.1 hpe).1,L.en he]⟩
       cases o' with
       |arr t l=>simp[Obj.toF,GO]at L5
       |jc t l s=>cases s<;>simp[Obj.toF,GO]at L5
       |box c=>
        cases o1 with
        |arr t l=>simp[GO]at L5
        |jc t l s=>simp[GO]at L5
        |box c1=>
         simp only[Obj.toA]at q2
         split at q2
         ·simp only[oI]at q2;subst q2;trivial
         ·cases q2
     ·have hno:=hold m o' hkv h1
      refine⟨o'.cM _ _,by rw[cQ hno,vh,if_neg hkv,h1];rfl,by cases o'<;>simp[Obj.like,Obj.cM],by rw[Ri hno]⟩
    ·rintro m t' l' ⟨_,hkv⟩ h1
     have hno:=hold m _ hkv h1
     refine⟨by rw[cQ hno,vh,if_neg hkv,h1];rfl,Ri hno,hst m _ hkv h1⟩
   have Ws:=g.kj s (fun m o' hm=> ?_) (fun m m' o1 o2 hne h1 h2 b hb hb'=> ?_) (fun m o' hm b hb=> ?_) (fun m hm=> ?_)
   ·refine⟨u,env',rfl,Kept.ad2 hK hB hLz,Ws,by first|trivial|rfl,?_⟩
    have h1: ∀{hp:Hp},(∀m o,look (Fu B) m=some o→look hp m=some o)→(∀n m,look (ρ0++ρ1) n=some m→ ∀o,look iT n=some o→(∃o',look hp m=some o'∧o.toA (knS st xs.toList ρ0) (ρ0++ρ1)=some o')∧env' m=rH n):=by
     intro hp hh n m hm o hl
     obtain⟨⟨o',p1,p2⟩,p3⟩:=hn n m hm o hl
     exact⟨⟨o',hh m o' p1,p2⟩,p3⟩
    have h2:=h1 (hp:=Fu B++GP (ρ0.map fI) ((ρ0.filter fun e=> !ng e.1).map fI) st.hp) (fun m o hm=>eL hm)
    have hlen:=Rh Fq
    match rs,rsA,Fq,hres,hlen with
    | [r],[ra],Fq,hres,_=>
      simp only[rsH]at Fq
      split at Fq
      ·rename_i x y e1 e2
       simp only[oI,cx]at e2 Fq
       obtain⟨rfl,_⟩:=Fq
       exact Wq h2 hres e1
      ·cases Fq
    | [],[],Fq,⟨us',hu,hall⟩,_=>exact⟨us',hu,PC h2 hall Fq⟩
    |r1::r2::r,x1::x2::xr,Fq,⟨us',hu,hall⟩,_=>exact⟨us',hu,PC h2 hall Fq⟩
    | [],_::_,_,_,hl=>cases hl
    | [_],[],_,_,hl=>cases hl
    | [_],_::_::_,_,_,hl=>simp at hl
    |_::_::_,[],_,_,hl=>simp at hl
    |_::_::_,[_],_,_,hl=>simp at hl
   ·rcases hlk m o' hm with⟨n,o1,q1,q2,q3,q4,_,q6⟩| ⟨q1,q2,x,q3,rfl,q5⟩
    ·rw[q4]
     have hro:=hG1 n o1 q2
     cases o1 with
     |arr t l=>
      simp only[Obj.toA,oI]at q3
      subst q3
      exact Rf q6 hro
     |jc t l s=>cases q3
     |box c=>
      simp only[Obj.toA]at q3
      split at q3
      ·rename_i c' L2
       simp only[oI]at q3
       subst q3
       obtain⟨b,cs,e,h1,h2,h3⟩:=hro
       refine⟨b,cs,e,h1,h2,toAs_ok (kn':=knS st xs.toList ρ0) (iT:=iT) (rH:=rH) ?_ (fun y hy=> ?_) (fun y hy q hq=>aiZ q (MS (gM q2) q (MR hy q hq))) h3 L2⟩
       ·intro n m hm o hl
        obtain⟨⟨o',p1,p2⟩,p3⟩:=hn n m hm o hl
        exact⟨⟨o',eL p1,p2⟩,p3⟩
       ·obtain⟨u0,t0,l0,e0,h0⟩:=aeb g hy
        subst e0
        exact⟨u0,t0,l0,rfl,RA.kj s h0⟩
      ·cases q3
    ·rw[q5]
     exact(g.obj m x q3).kj s (hst m x q2 q3)
   ·rcases hlk m o1 h1 with⟨n,p1,q1,q2,q3,q4,_⟩| ⟨q1,q2,x,q3,_,q5⟩<;>rcases hlk m' o2 h2 with⟨n',p1',q1',q2',q3',q4',_⟩| ⟨q1',q2',x',q3',_,q5'⟩
    ·rw[q4]at hb
     rw[q4']at hb'
     obtain⟨k1,k2,k3⟩:=qO q1
     obtain⟨k1',k2',k3'⟩:=qO q1'
     have e1:=MV k2
     have e2:=MV k2'
     have ai6:k1≠k1':=by
      rintro rfl
      obtain⟨_,_,z1,_⟩:=oF GQ _ _ _ k2
      obtain⟨_,_,z2,_⟩:=oF GQ _ _ _ k2'
      rw[z1]at z2
      simp only[oI]at z2
      exact hne z2
     rw[q4]at e1
     rw[q4']at e2
     rw[e1]at hb
     rw[e2]at hb'
     obtain⟨y1,z1,_⟩:=oF GQ _ _ _ k2
     obtain⟨y2,z2,_⟩:=oF GQ _ _ _ k2'
     exact hG2 k1 k1' y1 y2 ai6 (iB aec z1) (iB aec z2) b hb hb'
    ·rw[q4]at hb
     rw[q5']at hb'
     have hlt:=(g.obj m' x' q3').zS b hb'
     obtain⟨k,y,p1,p2,p3⟩:=hnew (m:=m) q2 b hb hlt
     exact g.lR m' k x' y (fun e=>q2' (e▸p1)) q3' p2 b hb' p3
    ·rw[q5]at hb
     rw[q4']at hb'
     have hlt:=(g.obj m x q3).zS b hb
     obtain⟨k,y,p1,p2,p3⟩:=hnew (m:=m') q2' b hb' hlt
     exact g.lR m k x y (fun e=>q2 (e▸p1)) q3 p2 b hb p3
    ·rw[q5]at hb
     rw[q5']at hb'
     exact g.lR m m' x x' hne q3 q3' b hb hb'
   ·rcases hlk m o' hm with⟨n,p1,q1,q2,q3,q4,_⟩| ⟨q1,q2,x,q3,_,q5⟩
    ·rw[q4]at hb
     rcases iV n p1 q2 b hb with h|h
     ·exact hLz b h
     ·exact bg (by omega)
    ·rw[q5]at hb
     exact g.dom m x q3 b hb
   ·cases hq:look (Fu B) m with
    |none=>rw[Ri hq];exact g.pins m hm
    |some o2=>
     obtain⟨n,h1,_⟩:=qO hq
     obtain⟨_,_,p2,_,p4,_⟩:=oF GQ n m _ h1
     have hpn:=p4 hm
     have hin:(n,m)∈ρ0:=by
      rcases aK.1 (gM p2)with h|h
      ·exact h
      ·have:=bq.1 c7 _ h
       simp only[hm]at this;cases this
     rw[MV h1]
     obtain⟨k1,k2⟩:=MG n hpn
     rw[L.en hin]at k1 k2
     obtain⟨j1,j2⟩:=g.pins m hm
     exact⟨k1.trans j1,fun b hb=>j2 b (k2 b hb)⟩
  |_=>simp[Wo]at h
 |_=>simp[Wo]at h
end
end
section
variable{ty:Tag→Nat}
def agH(hp:Hp)(n m:Nat)(t:Tag)(l:List (T t))(r:uM:= .rm):Hp:=(m, .jc t l r)::dQ [n] [] hp
def apx:S1→Option ((t:Tag)×List (T t)×uM)
 | .a (.sl t l)=>some ⟨t,l, .rm⟩
 | .a (.Ir q t l)=>some ⟨t,l, .of q⟩
 |_=>none
def Wt:uM→uM→Nat→Bool
 | .rm, .rm,_=>true
 | .of q, .of q',n=>match bf q q',bf q n with|true,false=>true|_,_=>false
 |_,_,_=>false
theorem Wu{r r':uM}{n:Nat}(h:Wt r r' n=true):r=r'∧r.cM [n] []=r∧r.br:=by
 cases r with
 |gone=>cases r'<;>cases h
 |mp=>cases r'<;>cases h
 |L4 u=>cases r'<;>cases h
 |zg p=>cases r'<;>cases h
 |rm=>cases r' with
  |rm=>exact⟨rfl,rfl,trivial⟩
  |_=>cases h
 |of q=>cases r' with
  |of q'=>
   simp only[Wt]at h
   split at h
   ·rename_i h1 h2
    refine⟨by rw[av h1],?_,trivial⟩
    simp[uM.cM,h2]
   ·cases h
  |_=>cases h
def PD(P:Program)(ty:Tag→Nat)(Γ:Nat→TK)(st:St)(m0:Nat):Op→Option (List Prop×St×SV)
 | .call ⟨.builtin .append,xs,ts⟩=>match xs.toList,ts.toList with
   | [s,x],[t1,t2]=>match Γ t1,bf t1 t2 with
     | .sl t e,true=>match bf e (ty t),bf (kk t) 1,jh st [] s,(jh st [] x).bind apx with
       |true,true,some (.a (.yC n)),some ⟨t2',lx,r⟩=>match look st.hp n,jX t t2' lx with
        |some (.jc t' l r'),some lx=>match jX t t' l,pinned [n],ng m0,look (dQ [n] [] st.hp) m0,Wt r r' n with
         |some l,false,false,none,true=>some ([El P ty t,(l.length+lx.length)*gl t≤140737488355328∧l.length+lx.length≤maxLen],
           ⟨st.n,st.sl.map fun e=>(e.1,e.2.cM [n] []),agH st.hp n m0 t (l++lx) r⟩, .one (.a (.yC m0)))
         |_,_,_,_,_=>none
        |_,_=>none
       |_,_,_,_=>none
     |_,_=>none
   |_,_=>none
 |_=>none
section
variable{P:Program}{zb:eJ}{st st':St}{a:Act}{w:World}{env:Env}{Q:Exit→Act→World→Prop}{o:Oper}
theorem Eg{α β:Type}(l:List α):(l.map fun _=>([]:List β)).flatten= []:=by
 induction l with
 |nil=>rfl
 |cons _ _ ih=>simpa using ih
theorem aan{Γ:Nat→TK}(C: ∀t,fD P t (Γ t)){m0:Nat}{vc:List Prop}{v:SV}(h:PD P ty Γ st m0 o.op=some (vc,st',v))(g:Good ty zb st a.tmps w env)(hB:zb.w.heap.size≤w.heap.size)(hv: ∀q,q∈vc→q):
  o.wp P a w (fun a' w'=> ∃u env',a'=a.put o.dst u∧Kept zb w w'∧Good ty zb st' a.tmps w' env'∧st'.n=st.n∧sK w' st'.hp env' a.tmps v u) Q:=by
 have hop: ∀{x v},jh st [] x=some v→ji w st.hp env v (a.eval x):=fun hx=>gu g (fun e he=>by simp at he) hx
 generalize iJ:o.op=op at h
 cases op with
 |call c=>
  obtain⟨callee,xs,ts⟩:=c
  cases callee with
  |builtin b=>
   cases b with
   |append=>
    simp only[PD]at h
    split at h
    case h_2=>cases h
    rename_i s x t1 t2 hxl htl
    obtain rfl:xs= #[s,x]:=by cases xs;simp_all
    obtain rfl:ts= #[t1,t2]:=by cases ts;simp_all
    split at h
    case h_2=>cases h
    rename_i t e hk Ac
    have Ac:=av Ac
    subst Ac
    split at h
    case h_2=>cases h
    rename_i n t2' ZA r he hk1 hs hx
    have he:=av he
    have hk1:=av hk1
    split at h
    case h_2=>cases h
    rename_i t' l0 r' lx hl hcx
    split at h
    case h_2=>cases h
    rename_i l zZ hpk Gw hlk hbk
    obtain⟨rfl,hkr,hmp⟩:=Wu hbk
    obtain⟨sx,hox,hx⟩:=Option.bind_eq_some_iff.1 hx
    simp only[oI,pI]at h
    obtain⟨rfl,rfl,rfl⟩:=h
    obtain⟨e1,rfl⟩:=fL hcx
    subst e1
    obtain⟨e2,rfl⟩:=fL zZ
    subst e2
    have vQ:El P ty t':=hv _ (by simp)
    obtain⟨ck,dS⟩:(l0.length+ZA.length)*gl t'≤140737488355328∧l0.length+ZA.length≤maxLen:=hv _ (by simp)
    obtain⟨_,hu⟩:=hop hs
    obtain⟨fpx,hsx,hnx⟩: ∃fp,Sl (kk t') (rd t') w (a.eval x) ZA fp∧ ∀(t:Tag) (y:T t) (u:Value) (f:List Nat),(∀b,b∈f→b∈fp)→rd t w [u] y f→BE w st.hp env r t y u:=by
     have hr:=hop hox
     unfold apx at hx
     split at hx
     ·simp only[oI,Sigma.mk.injEq]at hx
      obtain⟨rfl,hx⟩:=hx
      obtain⟨rfl,rfl⟩:=Prod.mk.inj (eq_of_heq hx)
      obtain⟨fp,h1,h2⟩:=hr
      exact⟨fp,h1,fun t y u f hf hr=>⟨f,hr,fun b hb=>h2 b (hf b hb)⟩⟩
     ·simp only[oI,Sigma.mk.injEq]at hx
      obtain⟨rfl,hx⟩:=hx
      obtain⟨rfl,rfl⟩:=Prod.mk.inj (eq_of_heq hx)
      obtain⟨h0,b0,fp,h1,h2,_,h3⟩:=hr
      refine⟨_,h1,fun t y u f hf hr=>⟨h0,f,hr,fun b hb=> ?_⟩⟩
      rcases aW.1 (hf b hb)with rfl|h
      ·exact bg h2
      ·exact bG (h3 b h)
     ·cases hx
    obtain⟨_,us,hBl,ON,Tz⟩:VK ty w st.hp env t' l0 r (env n):=by
     rcases RO.Gh (g.obj n _ hl)with⟨rfl,_⟩| ⟨u,rfl,_⟩| ⟨p,rfl,_⟩| ⟨_,h⟩
     ·exact hmp.elim
     ·exact hmp.elim
     ·exact hmp.elim
     ·exact h
    obtain⟨news,fx,n1,n2,n3,n4,n5⟩:=Bl (fP t') (iW t') hsx
    rw[hk1]at n3 n4
    have hC:=C t1
    rw[hk]at hC
    have hone: ∀(i:Nat) (y:Value),news[i]? =some y→y.oneCell'=true∧ ∀x,ZA[i]? =some x→BE w st.hp env r t' x y:=by
     intro i y hy
     have hi:i<news.length:=(aI.1 hy).1
     have hx':ZA[i]? =some (ZA[i]'(by omega)):=au (by omega)
     have hf':fx[i]? =some (fx[i]'(by omega)):=au (by omega)
     have hr:=n4 i _ _ hx' hf'
     have hch:(news.drop (i*1)).take 1= [y]:=by
      rw[PF,dK hi]
      have:news[i]=y:=(aI.1 hy).2
      rw[this];rfl
     rw[hch]at hr
     refine⟨(fP t').one hr y (by simp),fun x hx=> ?_⟩
     rw[hx']at hx
     simp only[oI]at hx
     subst hx
     exact hnx _ _ _ _ (fun b hb=>n5.subset (mg.2 ⟨_,List.getElem_mem _,hb⟩)) hr
    have hB0:lP 1 VJ 0 (ty t') w (a.eval s) us (env n).fp:=by rw[hu];exact hBl
    have Vi:(P.info? (ty t')).map (fun i=>(i.zero,i.size,i.bytes))=some (some (iH t'),1,gl t'):=by rw[←hk1];exact vQ
    refine Fh s x t1 iJ A9 (by decide) 0 (ty t') (iH t') (gl t') (by rw[←he];exact hC.1) Vi (by rw[←hk1];exact mB t') _ us (env n).fp rfl hB0 _ rfl news news (news.map fun _=> [])
     (by rw[show news.length=ZA.length by omega];exact n1) (by simp) (by omega) (fun i y f hy hf=> ?_) (by rw[Eg,cW];exact hBl.own) (by rw[ON,show news.length=ZA.length by omega];exact dS) (by rw[ON,show news.length=ZA.length by omega];exact ck) (aA _) ?_
    ·have hi:i<news.length:=(aI.1 hy).1
     have hf0:f= []:=by
      rw[dN,hy]at hf
      simpa using hf.symm
     subst hf0
     refine⟨?_,rfl,(hone i y hy).1⟩
     rw[PF,dK hi]
     have:news[i]=y:=(aI.1 hy).2
     rw[this];rfl
    ·intro v' w' je k1 k2 k3 k4 k5 _
     have Ec: ∀b,(a.eval s).ownBlock=some b→b∈(env n).fp:=by
      intro b hb
      obtain⟨xs,cu,_,_,_,iV,_⟩:=hB0
      rw[iV,hb];simp
     obtain⟨env',hg',GB,_,_⟩:=CP (ty:=ty) g hB (ks:= [n]) hpk Gw hlk (v:=a.eval s) (v':=v') (ob:= .jc t' (l0++ZA) r) (fp:=(env n).fp) (fx:= []) (je:=je)
      (by
       intro b hb
       rw[cW]at hb
       exact⟨n,_,by simp,hl,hb⟩)
      Ec
      (by
       intro ai8 hd s2
       refine RO.Tl hmp ⟨hk1,us++news,k1,by rw[aX,aX,ON];omega,fun i x u hx UW=> ?_⟩
       by_cases hi:i<l0.length
       ·rw[bP hi]at hx
        rw[bP (by omega)]at UW
        have hbt:=BE.kj s2 (r:=r) (Tz i x u hx UW);rw[hkr]at hbt;exact hbt
       ·rw[bQ (by omega)]at hx
        rw[bQ (by omega),ON]at UW
        have hbt:=BE.kj s2 (r:=r) ((hone _ u UW).2 x hx);rw[hkr]at hbt;exact hbt)
      k2 (by intro b hb;rcases k4 b hb with h|h|h
             ·exact bG h
             ·rw[Eg]at h;cases h
             ·exact bg (bg h))
     refine⟨v',env',rfl,⟨k2.os,k2.tape,k2.output,k2.size,fun b hb hn=>k2.block b (by omega) fun e=> ?_,k5⟩,hg',rfl,⟨t',_,_,look_eq⟩,GB.symm⟩
     rcases g.dom n _ hl b (Ec b e.symm)with h|h
     ·exact hn h
     ·omega
   |_=>simp[PD]at h
  |_=>simp[PD]at h
 |_=>simp[PD]at h
end
def aco:Hp→Option (Nat×(t:Tag)×List (T t)×Value)
 | []=>none
 | (n, .jc t l (.L4 u))::_=>some (n,⟨t,l,u⟩)
 |_::r=>aco r
def Wv(hp:Hp)(n:Nat)(t:Tag):Option (List (T t)×Value):=match look hp n with
 |some (.jc t' l (.L4 u))=>match jX t t' l with|some l=>some (l,u)|none=>none
 |_=>none
def ai9(hp:Hp):Option Nat:=match aco hp with|some (n,_)=>some n|none=>none
def aap(P:Program)(ty:Tag→Nat)(Γ:Nat→TK)(st:St)(m0:Nat):Op→Option (List Prop×St×SV)
 | .call ⟨.builtin .append,xs,ts⟩=>match xs.toList,ts.toList with
   | [s,x],[t1,t2]=>match Γ t1,bf t1 t2 with
     | .sl t e,true=>match bf e (ty t),jh st [] s,jh st [] x,ai9 st.hp with
       |true,some vs,some (.a (.raw u)),some n=>match Gz st t vs,Wv st.hp n t with
        |some (l,k),some (lx,u')=>match Bn k [n]&& !pinned (qE k [n])&& !ng m0,look (dQ (qE k [n]) [] st.hp) m0 with
         |true,none=>some ([u=u',El P ty t,(l.length+lx.length)*gl t≤140737488355328∧l.length+lx.length≤maxLen],
           st.gone (qE k [n]) m0 t (l++lx), .one (.a (.own m0)))
         |_,_=>none
        |_,_=>none
       |_,_,_,_=>none
     |_,_=>none
   |_,_=>none
 |_=>none
theorem Ww{zb:eJ}{st:St}{tmps:Array Value}{w:World}{env:Env}(g:Good ty zb st tmps w env){t:Tag}{n:Nat}{l:List (T t)}{u:Value}(h:Wv st.hp n t=some (l,u)):
  ∃(news:List Value) (fx:List (List Nat)),Src w u l.length news∧fx.length=l.length∧news.length=l.length*kk t∧(∀i x f,l[i]? =some x→fx[i]? =some f→rd t w ((news.drop (i*kk t)).take (kk t)) x f)∧
   (∀b,b∈fx.flatten→ ∃i o,i∈ [n]∧look st.hp i=some o∧b∈(env i).fp)∧Own 0 w fx.flatten:=by
 unfold Wv at h
 split at h
 case h_2=>cases h
 rename_i t' l' u' hl
 split at h
 case h_2=>cases h
 rename_i l2 hc
 simp only[oI,pI]at h
 obtain⟨rfl,rfl⟩:=h
 obtain⟨e,rfl⟩:=fL hc
 subst e
 obtain⟨_,ho,fp,hs,h2⟩:Kt w st.hp env t' l' u' (env n):=by
  rcases RO.Gh (g.obj n _ hl)with⟨h,_⟩| ⟨u,h,hh⟩| ⟨p,h,_⟩| ⟨h,_⟩
  ·cases h
  ·cases h;exact hh
  ·cases h
  ·exact h.elim
 obtain⟨news,fx,h1,h3,h4,h5,h6,h7⟩:=tY (fP t') (iW t') hs
 have FT:fx.flatten=(env n).fp:=by
  rcases h2 with⟨rfl,h2⟩| ⟨b,rfl,_⟩
  ·rw[h2];exact List.sublist_nil.1 h6
  ·exact h7 b _ rfl
 exact⟨news,fx,h1,h3,h4,h5,fun b hb=>⟨n,_,by simp,hl,by rw[←FT];exact hb⟩,by rw[FT];exact ho⟩
section
variable{P:Program}{zb:eJ}{st:St}{a:Act}{w:World}{env:Env}{Q:Exit→Act→World→Prop}{o:Oper}
theorem aaq{Γ:Nat→TK}(C: ∀t,fD P t (Γ t)){m0:Nat}{vc:List Prop}{st':St}{v:SV}(h:aap P ty Γ st m0 o.op=some (vc,st',v))(g:Good ty zb st a.tmps w env)(hB:zb.w.heap.size≤w.heap.size)(hv: ∀q,q∈vc→q):
  o.wp P a w (fun a' w'=> ∃u env',a'=a.put o.dst u∧Kept zb w w'∧Good ty zb st' a.tmps w' env'∧st'.n=st.n∧sK w' st'.hp env' a.tmps v u) Q:=by
 have hop: ∀{x v},jh st [] x=some v→ji w st.hp env v (a.eval x):=fun hx=>gu g (fun e he=>by simp at he) hx
 generalize iJ:o.op=op at h
 unfold aap at h
 split at h
 case h_2=>cases h
 rename_i xs ts
 split at h
 case h_2=>cases h
 rename_i s x t1 t2 hxl htl
 obtain rfl:xs= #[s,x]:=by cases xs;simp_all
 obtain rfl:ts= #[t1,t2]:=by cases ts;simp_all
 split at h
 case h_2=>cases h
 rename_i t e hk Ac
 have Ac:=av Ac
 subst Ac
 split at h
 case h_2=>cases h
 rename_i vs ux n he hs hx hbn
 have he:=av he
 split at h
 case h_2=>cases h
 rename_i l k lx u' hds hsr
 split at h
 case h_2=>cases h
 rename_i hno hlk
 simp only[aj,bp]at hno
 obtain⟨⟨hno,hpk⟩,Gw⟩:=hno
 rw[gI]at hpk
 have adU:pinned k=false:=by
  unfold pinned at hpk ⊢
  rw[w8,gm]at hpk
  exact hpk.1
 simp only[oI,pI,gI]at h
 rw[gI]at hlk
 obtain⟨rfl,h2,rfl⟩:=h
 rw[St.gone_eq]at h2
 subst h2
 have huu:ux=u':=hv _ (by simp)
 subst huu
 have vQ:El P ty t:=hv _ (by simp)
 obtain⟨ck,dS⟩:(l.length+lx.length)*gl t≤140737488355328∧l.length+lx.length≤maxLen:=hv _ (by simp)
 obtain⟨fp,hD,wL⟩:=CS g (hop hs) hds adU
 obtain⟨news,fx,n1,n2,n3,n4,n5,n6⟩:=Ww g hsr
 obtain⟨hue,_⟩:=hop hx
 rw[←hue]at n1
 have hC:=C t1
 rw[hk]at hC
 have S5:Own 0 w (fp++fx.flatten):=by
  have ho:=hD.own
  refine⟨aY.2 ⟨ho.nodup,n6.nodup,?_⟩,fun b hb=> ?_,fun b hb=> ?_⟩
  ·rintro b hb c hc rfl
   obtain⟨i,oi,hi,h1,h2⟩:=wL b hb
   obtain⟨j,oj,hj,h3,h4⟩:=n5 b hc
   have hij:i≠j:=by
    rintro rfl
    simp only[Bn,bq,bp,bK]at hno
    exact hno i hi i hj (by simp)
   exact g.lR i j _ _ hij h1 h3 b h2 h4
  ·rcases aK.1 hb with hb|hb
   ·exact ho.ge b hb
   ·exact n6.ge b hb
  ·rcases aK.1 hb with hb|hb
   ·exact ho.kind b hb
   ·exact n6.kind b hb
 refine Fh s x t1 iJ (fP t) (iW t) 0 (ty t) (iH t) (gl t) (by rw[←he];exact hC.1) vQ (mB t) _ l fp rfl hD _ rfl lx news fx n1 n2 n3 n4 S5 dS ck (aA _) ?_
 intro v' w' je k1 k2 k3 k4 k5 _
 obtain⟨env',hg',GB⟩:=Bm (ty:=ty) g hB (ks:=k++ [n]) hpk Gw hlk (v:=a.eval s) (fp:=fp) (fx:=fx.flatten)
  (by
   intro b hb
   rcases aK.1 hb with hb|hb
   ·obtain⟨i,oi,hi,h1⟩:=wL b hb;exact⟨i,oi,aM _ hi,h1⟩
   ·obtain⟨i,oi,hi,h1⟩:=n5 b hb;exact⟨i,oi,aH _ hi,h1⟩)
  (by
   intro b hb
   obtain⟨xs,cu,_,_,_,iV,_⟩:=hD
   rw[iV,hb];simp)
  k1 k2 k4
 refine⟨v',env',rfl,⟨k2.os,k2.tape,k2.output,k2.size,fun b hb hn=>k2.block b (by omega) fun e=> ?_,k5⟩,hg',rfl,⟨t,_,look_eq⟩,GB.symm⟩
 have Pr:b∈fp:=by
  obtain⟨xs,cu,_,_,_,iV,_⟩:=hD
  rw[iV, ←e];simp
 obtain⟨i,oi,hi,h1,h2⟩:=wL b Pr
 rcases g.dom i oi h1 b h2 with h|h
 ·exact hn h
 ·omega
end
theorem Wx{t:Tag}{w:World}{e:Nat}{v:Value}{l:List (T t)}{fp:List Nat}(h:lP (kk t) (rd t) 0 e w v l fp){j:Nat}(hj:j≤l.length):
  ∃oa cap,v= .slice oa l.length cap∧l.length≤cap∧ ∃je,lP (kk t) (rd t) 0 e w (UR oa cap (kk t) j l.length) (l.drop j) je∧ ∀b,b∈je→b∈fp:=by
 have ho:=h.own
 obtain⟨oa,cap,hv,hc,hm,h3⟩:=h.sl
 refine⟨oa,cap,hv,hc,?_⟩
 rcases h.parts with⟨rfl,rfl,rfl⟩| ⟨g,o,n,c,ad0,Tq,hn,hnm,q1,q2,agJ⟩
 ·simp only[cK]at hv
  obtain⟨rfl,_,rfl⟩:=hv
  obtain rfl:j=0:=by simpa using hj
  exact⟨[],lP.nil _ _ _ _ _,by simp⟩
 ·rw[Tq]at hv
  simp only[cK,true_and]at hv
  obtain⟨rfl,rfl⟩:=hv
  have hnil:n=j→ ∃je,lP (kk t) (rd t) 0 e w (UR (some ⟨g,o,none⟩) n (kk t) j l.length) (l.drop j) je∧ ∀b,b∈je→b∈fp:=by
   rintro rfl
   have e0:l.drop n= []:=fK hn
   have e1:l.length=n:=by omega
   refine⟨[g],?_,fun b hb=>by rw[agJ];rw[aP.1 hb];simp⟩
   rw[e0]
   have:UR (some ⟨g,o,none⟩) n (kk t) n l.length= .slice (some ⟨g,o,none⟩) ([]:List (T t)).length 0:=by
    unfold UR;rw[if_pos rfl,e1,Nat.sub_self];rfl
   rw[this]
   refine mT (fP t) (cu:= []) q1 (by omega) (aA _) (aA _) ⟨rfl,by simp⟩ ⟨by simp,by simp,fun b hb=> ?_⟩
   simp only[jW,aP]at hb
   exact⟨_,_,by rw[hb];exact q1⟩
  by_cases hcn:n=j
  ·exact hnil hcn
  ·rcases h3 with⟨rfl,_,_⟩| ⟨b,off,cu,hb,aiP,iV,hE⟩
   ·refine⟨[g],?_,fun b hb=>by rw[agJ];rw[aP.1 hb];simp⟩
    obtain rfl:j=0:=by simpa using hj
    have:UR (some ⟨g,o,none⟩) n (kk t) 0 ([]:List (T t)).length= .slice (some ⟨g,o,none⟩) ([]:List (T t)).length n:=by
     unfold UR;rw[if_neg hcn];simp[eM]
    rw[this]
    refine mT (fP t) (cu:= []) q1 q2 (aA _) hm ⟨rfl,by simp⟩ ⟨by simp,by simp,fun b hb=> ?_⟩
    simp only[jW,aP]at hb
    exact⟨_,_,by rw[hb];exact q1⟩
   ·simp only[oI,eZ,and_true]at hb
    obtain⟨rfl,rfl⟩:=hb
    have hsub: ∀b,b∈g::(cu.drop j).flatten→b∈fp:=by
     intro b hb
     rw[iV]
     rcases aW.1 hb with rfl|hb
     ·simp
     ·exact aJ _ ((sR (tX j cu)).subset hb)
    have qN:l.length-j=(l.drop j).length:=by simp
    refine⟨g::(cu.drop j).flatten,?_,hsub⟩
    have:UR (some ⟨g,o,none⟩) n (kk t) j l.length= .slice (some ⟨g,o+j*kk t,none⟩) (l.drop j).length (n-j):=by
     unfold UR;rw[if_neg hcn,qN];simp[eM]
    rw[this]
    refine mT (fP t) q1 ?_ (by rw[←qN];omega) (by omega) ⟨by simp[hE.1],fun i x f hx hf=> ?_⟩ ?_
    ·have h5:j*kk t≤n*kk t:=bI _ (by omega)
     rw[Nat.sub_mul];omega
    ·rw[cJ]at hx hf
     obtain⟨cs,k1,k2⟩:=hE.2 _ x f hx hf
     exact⟨cs,by rw[fB, ←cG];exact k1,k2⟩
    ·rw[iV]at ho
     have hss:(g::(cu.drop j).flatten).Sublist (g::cu.flatten):=wm _ (sR (tX j cu))
     exact⟨hss.nodup ho.nodup,fun b hb=>ho.ge b (hss.subset hb),fun b hb=>ho.kind b (hss.subset hb)⟩
def aar(Γ:Nat→TK)(cr:List (Nat×CR))(st:St)(m0:Nat)(d:Option Nat):Op→Option (List Prop×St×SV)
 | .slice t x (some lo) none none=>match d,Γ t with
   |some dd, .sl g _=>match(look cr (dd+600000)).isSome,jh st [] x,Tj st [] lo with
    |true,some (.a (.own n)),some (_,lo)=>match look st.hp n with
     |some (.arr t' l)=>match bf (kk g) (kk t'),pinned [n],ng m0,look (dQ [n] [] st.hp) m0 with
      |true,false,false,none=>some ([0≤lo∧lo≤(l.length:Int)],st.gone [n] m0 t' (l.drop lo.toNat), .one (.a (.own m0)))
      |_,_,_,_=>none
     |_=>none
    |_,_,_=>none
   |_,_=>none
 |_=>none
section
variable{P:Program}{zb:eJ}{st:St}{a:Act}{w:World}{env:Env}{Q:Exit→Act→World→Prop}{o:Oper}
theorem aas{Γ:Nat→TK}(C: ∀t,fD P t (Γ t)){cr:List (Nat×CR)}{m0:Nat}{d:Option Nat}{vc:List Prop}{st':St}{v:SV}(h:aar Γ cr st m0 d o.op=some (vc,st',v))(g:Good ty zb st a.tmps w env)(hB:zb.w.heap.size≤w.heap.size)(hv: ∀q,q∈vc→q):
  o.wp P a w (fun a' w'=> ∃u env',a'=a.put o.dst u∧Kept zb w w'∧Good ty zb st' a.tmps w' env'∧st'.n=st.n∧sK w' st'.hp env' a.tmps v u) Q:=by
 have hop: ∀{x v},jh st [] x=some v→ji w st.hp env v (a.eval x):=fun hx=>gu g (fun e he=>by simp at he) hx
 generalize iJ:o.op=op at h
 unfold aar at h
 split at h
 case h_2=>cases h
 rename_i t x lo
 split at h
 case h_2=>cases h
 rename_i dd gt e hk
 split at h
 case h_2=>cases h
 rename_i n kk0 j hkey hx hlo
 split at h
 case h_2=>cases h
 rename_i t' l hl
 split at h
 case h_2=>cases h
 rename_i hkk hpk Gw hlk
 have hkk:=av hkk
 simp only[oI,pI]at h
 obtain⟨rfl,h2,rfl⟩:=h
 rw[St.gone_eq]at h2
 subst h2
 obtain⟨q0,q1⟩:=hv _ (aP.2 rfl)
 have hC:=C t
 rw[hk]at hC
 obtain⟨_,hu⟩:=hop hx
 have hBl:=RO.Zr (rF hpk (by simp)) (g.obj n _ hl)
 obtain⟨oa,cap,EN,hcap,je,hB',hsub⟩:=Wx hBl (j:=j.toNat) (by omega)
 have hex:a.eval x= .slice oa l.length cap:=by rw[←EN];exact hu
 have aja:a.eval lo= .int kk0 j:=by
  unfold Tj at hlo
  split at hlo
  ·rename_i k i hq
   simp only[oI,pI]at hlo
   obtain⟨rfl,rfl⟩:=hlo
   exact(hop hq).lit
  ·cases hlo
 have hrun:=Q8 (P:=P) (w:=w) iJ hC hex (n1:=j) (n2:=(l.length:Int)) (bg ⟨lo,kk0,rfl,aja⟩) (bG ⟨rfl,rfl⟩) q0 q1 (Int.le_refl _) hcap
 have Ec: ∀b,(env n).v.ownBlock=some b→b∈(env n).fp:=by
  intro b hb
  obtain⟨xs,cu,_,_,_,iV,_⟩:=hBl
  rw[iV,hb];simp
 obtain⟨env',hg',GB,_,_⟩:=CQ (ty:=ty) g hB (ks:= [n]) hpk Gw hlk (v:=(env n).v) (w':=w) (fp:=(env n).fp) (fx:= [])
  (by
   intro b hb
   rw[cW]at hb
   exact⟨n,_,by simp,hl,hb⟩) Ec hB' ⟨rfl,rfl,rfl,bh _,fun _ _ _=>rfl⟩ (fun b hb=>bG (hsub b hb))
 unfold iK
 rw[hrun]
 refine⟨_,env',rfl,Kept.refl _ _,hg',rfl,⟨t',_,look_eq⟩,?_⟩
 rw[GB,hkk]
 rfl
end
end
end Go.Proofs.YtkcegdacbddipaaGreat.G
