/- Steps. -/
import Derived.Laws.OwnMore
import Derived.Test.YtaalpcnbbldlaaaGreatDoorR7
open Array renaming ext'→Tb,foldl_toList→Il,getD_eq_getD_getElem?→ak,getElem?_eq_some_iff→dZ,getElem?_setIfInBounds_ne→iF,mk→gN,range→abM,replicate→sI,toList_map→qO,toList_zipIdx→GK
open Bool renaming and_eq_true→an,false_or→AU,not_eq_true'→bO,or_eq_false_iff→jI
open Go.Addr renaming add_mid→jL
open Go.Addr.mk renaming injEq→j6
open Go.Builtin renaming append_→hY,firstCells→ou,lenOf→nr
open Go.Instr renaming box→akW,buildSlice→Nj,fill→wW,slice→xy,sliceAt→kX,sliceBound→nQ,sliceBounds→mS,storeAt→Iq,sureAddr→qz
open Go.Oper renaming wp→nv,wp_mono→uW
open Go.Region renaming wanted→j7
open Go.Result renaming andThen_ok→cC
open Go.RowKit.Below renaming refl→jH
open Go.Sem renaming run_bind→dS,run_pure→eu
open Go.Value renaming cells→oP,int→zI,oneCell'→Gg,ownBlock→k9
open Go.Value.slice renaming injEq→eZ
open Go.World renaming rangeAt_setCells_apart→ga
open List renaming all_eq_true→bE,any_eq_false→cq,any_eq_true→fF,append_assoc→bU,append_nil→cW,drop_append→vM,drop_drop→uH,drop_eq_getElem_cons→gP,drop_eq_nil_of_le→lQ,drop_zero→ju,eq_nil_of_length_eq_zero→ck,ext_getElem?→zL,filter_cons_of_neg→ez,filter_cons_of_pos→dV,flatMap_cons→fP,flatMap_map→Nk,flatten_cons→dM,getD_eq_getElem?_getD→aq,getElem?_append_left→dQ,getElem?_append_right→dm,getElem?_drop→dc,getElem?_eq_getElem→az,getElem?_eq_none→jh,getElem?_eq_some_iff→aU,getElem?_map→ec,getElem?_of_mem→gR,getElem?_range→xu,getElem?_replicate→kW,getElem?_set_ne→mO,getElem?_set_self→jR,getElem?_take→dH,length_append→aQ,length_cons→bp,length_drop→cV,length_map→bt,length_set→bX,length_take→ct,map_append→gj,map_congr_left→gD,map_cons→cg,map_id→tY,map_toArray→vL,mem_append→bg,mem_append_left→bl,mem_append_right→aW,mem_cons→bh,mem_cons_of_mem→aE,mem_flatMap→kL,mem_flatten→nP,mem_map→bQ,mem_of_getElem?→eT,mem_singleton→aV,nil_append→eM,nil_sublist→BZ,nodup_append→bM,nodup_cons→dx,nodup_nil→zj,pairwise_flatten→kB,pairwise_iff_getElem→qB,range→bK,replicate→ew,size_toArray→mR,sublist_append_right→qA,sublist_cons_self→og,sublist_flatten_of_mem→xA,take_append→Ni,take_append_drop→mg,take_of_length_le→aD,take_sublist→KD,take_zero→jv
open List.Sublist renaming append→xw,cons_cons→Xe,refl→lq
open List.cons renaming injEq→cP
open Nat renaming add_assoc→gC,add_mul→cM,add_zero→ia,beq→bH,ble→kV,eq_of_beq_eq_true→aG,le_mul_of_pos_right→AV,le_of_ble_eq_true→bV,le_refl→aS,lt_or_ge→uX,mul_comm→kg,mul_le_mul_right→cG,mul_one→lF,one_mul→mH,zero_add→dB,zero_le→aY,zero_mul→oO
open Option renaming map_none→xz,map_some→eN
open Or renaming inl→bP,inr→bw
open Prod renaming fst→kG,snd→iL
namespace Go.Proofs.YtaalpcnbbldlaaaGreatDoor.G
set_option linter.all false
open Go.RowKit L D
section
variable{ty:Tag→Nat}
theorem yF: ∀(vs:List Value) (cs:List Value) (o:Nat),o+vs.length≤cs.length→splice (gN cs) o vs=gN (cs.take o++(vs++cs.drop (o+vs.length)))
 | [],cs,o,h=>by simp[splice,mg]
 |v::r,cs,o,h=>by
  simp only[bp]at h;have e0:cs.set o v=cs.take o++v::cs.drop (o+1):=by
   rw[List.set_eq_take_append_cons_drop,if_pos aJ]
  have hl:(cs.take o).length=o:=by rw[ct];omega
  have t1:(cs.take o++v::cs.drop (o+1)).take (o+1)=cs.take o++ [v]:=by
   rw[Ni,hl,show o+1-o=1 by omega,aD (by rw[hl];omega)];rfl
  have t2:(cs.take o++v::cs.drop (o+1)).drop (o+1+r.length)=cs.drop (o+1+r.length):=by
   rw[vM,hl,show o+1+r.length-o=r.length+1 by omega,List.drop_succ_cons,uH,lQ (as:=cs.take o) (by rw[hl];omega),eM]
  rw[splice,List.setIfInBounds_toArray,yF r _ _ XC,e0,t1,t2,bU,bp,show o+(r.length+1)=o+1+r.length by omega];rfl
theorem US{R:V→Value→Prop}{c c' vs:List V}{cs us:List Value}{off:Nat}(h:dG R c cs)(hv:dG R vs us)(hs:spl c off vs=some c'):off+us.length≤cs.length∧dG R c' (cs.take off++(us++cs.drop (off+us.length))):=by
 unfold spl at hs;split at hs
 ·rename_i hb;have hb:=bV hb;simp only[oI]at hs;subst hs;have h1:=h.len;have h2:=hv.len;refine⟨aJ,dG.app (h.take off) (dG.app hv ?_)⟩;rw[h2];exact h.drop _
 ·cases hs
theorem AT(off:Nat): ∀(l:List Value) (n:Nat) (c:Array Value),(l.zipIdx n).foldl (fun cs (p:Value×Nat)=>cs.setIfInBounds (off+p.2) p.1) c=splice c (off+n) l
 | [],_,_=>rfl
 |v::r,n,c=>by rw[List.zipIdx_cons,List.foldl_cons,AT off r (n+1)];rfl
def FC:Nat→List Value→List (Nat×Value)
 |_,[]=> []
 |i,v::r=>(i,v)::FC (i+1) r
theorem Pd{k:Nat}: ∀(ps:List Value) (i:Nat) (cells:List Value),(∀v,v∈ps→v.cells.size=k)→cells.length=(i+ps.length)*k→
  wW (fun i=>some (i*k,k)) (gN cells) (FC i ps)=some (gN (cells.take (i*k)++ps.flatMap fun v=>v.cells.toList))
 | [],i,cells,_,h=>by
   rw[FC,wW,aD (by rw[h];simp)];simp
 |v::r,i,cells,hk,h=>by
  have hv:=hk v fI;have hlen:i*k+k≤cells.length:=by
   rw[h,bp,show i+(r.length+1)=(i+1)+r.length by omega,cM (i+1),cM i 1,mH];omega
  rw[FC,wW];simp only[hv,ne_eq,not_true_eq_false,decide_false,AU,mR];rw[if_neg XC];have akR:(v.cells.zipIdx.foldl (fun cs (x:Value×Nat)=>cs.setIfInBounds (i*k+x.2) x.1) (gN cells))=splice (gN cells) (i*k) v.cells.toList:=by
   rw[←Il,GK,AT,ia]
  have hsz:v.cells.toList.length=k:=by simpa using hv
  have:=yF v.cells.toList cells (i*k) aJ;show wW _ (v.cells.zipIdx.foldl (fun cs (x:Value×Nat)=>cs.setIfInBounds (i*k+x.2) x.1) (gN cells)) _=_
  rw[akR,this,Pd r (i+1) _ (fun u hu=>hk u (by simp[hu])) (by
   simp only[aQ,ct,cV,hsz];rw[h,bp]at*;have:(i+1+r.length)*k=(i+(r.length+1))*k:=by congr 1;omega
   rw[this];omega)]
  have h1:(i+1)*k=i*k+k:=by rw[cM,mH]
  have t:((cells.take (i*k))++(v.cells.toList++cells.drop (i*k+v.cells.toList.length))).take ((i+1)*k)=cells.take (i*k)++v.cells.toList:=by
   rw[←bU];exact List.take_left' (by rw[aQ,ct,hsz,h1];omega)
  rw[t,fP,bU]
theorem Dd{k:Nat}: ∀{ps:List (List Value)} {i:Nat} {c:List Value},(∀v,v∈ps→v.length=k)→ps[i]? =some c→(((ps.flatMap id).drop (i*k)).take k)=c
 |p::r,0,c,hk,h=>by
  simp at h;subst h;have:=hk p fI;rw[fP,oO,ju,Ni];simp[←this]
 |p::r,i+1,c,hk,h=>by
  have hp:=hk p fI;rw[fP,vM,show(id p).length=k from hp,lQ (by rw[show(id p).length=k from hp,cM];omega),eM,show(i+1)*k-k=i*k by rw[cM];omega];exact Dd (fun v hv=>hk v (by simp[hv])) Fy
theorem De{k:Nat}: ∀{ps:List (List Value)},(∀v,v∈ps→v.length=k)→(ps.flatMap id).length=ps.length*k
 | [],_=>by simp
 |p::r,hh=>by
  rw[fP,aQ,De fun v hv=>hh v (by simp[hv]),show(id p).length=k from hh p fI,bp,cM];omega
section
variable{P:Program}{a:Act}{w:World}{o:Oper}
theorem E5{t len:Nat}{parts:Array (Nat×Operand)}(ho:o.op= .buildSlice t len parts){g:Tag}(hu:P.underlying t=some (.slice (ty g)))(BY:El P ty g)(hbig:len*kk g≤16777216)(hlen:parts.toList.length=len){lo:Nat}(hlo:lo≤w.heap.size)
  {xs:List (T g)}{eS:List (List Nat)}(q1:(parts.toList.map fun p=>(p.1,a.eval p.2))=FC 0 (parts.toList.map fun p=>a.eval p.2))(q2:xs.length=parts.toList.length)(q3:eS.length=xs.length)
  (q4: ∀(i:Nat) (x:T g) (f:List Nat),xs[i]? =some x→eS[i]? =some f→ ∃p:Nat×Operand,parts.toList[i]? =some p∧rd g w (a.eval p.2).cells.toList x f)(q5:Own lo w eS.flatten):
  ∃w',(execOp a.eval o).run P w= .ok (.value (.slice (some ⟨w.heap.size,0,none⟩) len len)) w'∧Below w.heap.size w w'∧qN (kk g) (rd g) lo (ty g) w' (.slice (some ⟨w.heap.size,0,none⟩) len len) xs (w.heap.size::eS.flatten):=by
 have hkp:=oc g;have hcl: ∀v,v∈(parts.toList.map fun p=>a.eval p.2)→v.cells.size=kk g:=by
  intro v hv;obtain⟨i,hi⟩:=gR hv;have hil:i<xs.length:=by have:=(aU.1 hi).1;simp at this;rw[q2];simpa using this
  have hfl:i<eS.length:=by omega
  obtain⟨p,h1,h2⟩:=q4 i xs[i] eS[i] (az hil) (az hfl);rw[ec,h1]at hi;simp at hi;subst hi;simpa using(ko g).len h2
 cases hq:P.info? (ty g)with
 |none=>simp[El,hq]at BY
 |some inf=>
  simp[El,hq]at BY;obtain⟨z1,z2,z3⟩:=BY
  let zs:List Value:=(bK (len*kk g)).map fun j=>(if len*kk g=0 then #[]else(oL g).cells)[j % (if len*kk g=0 then #[]else(oL g).cells).size]!
  have hzl:zs.length=len*kk g:=by simp[zs]
  have hf:=Pd (k:=kk g) (parts.toList.map fun p=>a.eval p.2) 0 zs hcl (by rw[hzl,bt,hlen,dB]);rw[oO,jv,eM]at hf;have hrun:(execOp a.eval o).run P w= .ok (.value (.slice (some ⟨w.heap.size,0,none⟩) len len)) (w.alloc (.cells (gN ((parts.toList.map fun p=>a.eval p.2).flatMap fun v=>v.cells.toList)) (ty g) (0,0))):=by
   unfold execOp;have hpl:(parts.map fun(p:Nat×Operand)=>(p.1,a.eval p.2)).toList=FC 0 (parts.toList.map fun p=>a.eval p.2):=by
    rw[qO];exact q1
   have hzs:((abM (len*kk g)).map fun j=>(if len*kk g=0 then #[]else(oL g).cells)[j % (if len*kk g=0 then #[]else(oL g).cells).size]!)=gN zs:=by
    simp only[zs];apply Tb;simp
   have hze:(sizeOf (ty g)).run P w= .ok (kk g) w:=by simp[sizeOf,typeInfo,hq,z2]
   simp only[ho,Nj,dS,run_underlying hu,cC,hze];rw[if_neg aJ];by_cases hz0:len*kk g=0
   ·simp only[if_pos hz0]at hzs ⊢;simp only[dS,eu,cC];rw[hzs,hpl,hf];simp[newRow]
   ·have hzv:(zeroValue (ty g)).run P w= .ok (oL g) w:=by simp[zeroValue,typeInfo,hq,z1]
    simp only[if_neg hz0]at hzs ⊢;simp only[dS,hzv,eu,cC];rw[hzs,hpl,hf];simp[newRow]
  have hps:((parts.toList.map fun p=>a.eval p.2).flatMap fun v=>v.cells.toList)=((parts.toList.map fun p=>(a.eval p.2).cells.toList).flatMap id):=by
   simp[Nk]
  have akS: ∀v,v∈(parts.toList.map fun p=>(a.eval p.2).cells.toList)→v.length=kk g:=by
   intro v hv;obtain⟨p,hp,rfl⟩:=bQ.1 hv;simpa using hcl _ (bQ.2 ⟨p,hp,rfl⟩)
  have Tc:=De akS;rw[bt,hlen]at Tc;have hb0:Below w.heap.size w (w.alloc (.cells (gN ((parts.toList.map fun p=>a.eval p.2).flatMap fun v=>v.cells.toList)) (ty g) (0,0))):=(jH _ _).alloc (aS _) _;have aF9:=q5.lt;refine⟨_,hrun,hb0,((parts.toList.map fun p=>a.eval p.2).flatMap fun v=>v.cells.toList),eS,⟨?_,bw ⟨w.heap.size,0,len,gN ((parts.toList.map fun p=>a.eval p.2).flatMap fun v=>v.cells.toList),?_,hlo,?_,?_,?_,?_,?_⟩⟩,q3,?_,rfl,?_⟩
  ·rw[hps,Tc,q2,hlen]
  ·rw[q2,hlen]
  ·exact tV rfl
  ·rw[q2,hlen];exact aS _
  ·unfold maxLen;have:=AV len hkp;omega
  ·rw[mR,hps,Tc];omega
  ·rw[ju,aD];simp only[hps,Tc,q2,hlen];exact aS _
  ·intro i x f hx hff;obtain⟨p,h1,h2⟩:=q4 i x f hx hff;have hkey:(((parts.toList.map fun p=>a.eval p.2).flatMap fun v=>v.cells.toList).drop (i*kk g)).take (kk g)=(a.eval p.2).cells.toList:=by
    rw[hps];exact Dd akS (by rw[ec,h1];rfl)
   rw[hkey];exact(ko g).below h2 hb0
  ·refine⟨dx.2 ⟨fun hm=>by have:=aF9 _ hm;omega,q5.nodup⟩,fun b hb=> ?_,fun b hb=> ?_⟩
   ·rcases bh.1 hb with rfl|hb
    ·exact hlo
    ·exact q5.ge b hb
   ·rcases bh.1 hb with rfl|hb
    ·exact⟨_,_,tV rfl⟩
    ·exact(q5.below hb0).kind b hb
theorem akT(z:Array Value)(n k i:Nat)(hk:z.size=k)(hi:i<n)(hk0:0<k):(((madeCells z (n*k)).toList.drop (i*k)).take k)=z.toList:=by
 apply zL;intro j;have h5:i*k+k≤n*k:=by
  have:=cG k (show i+1≤n by omega);rw[cM]at this;omega
 by_cases hj:j<k
 ·rw[dH,if_pos hj,dc];simp only[madeCells,qO,Array.toList_range,ec];rw[xu aJ,hk];simp only[eN];have hm:(i*k+j)% k=j:=by rw[kg,Nat.mul_add_mod];exact Nat.mod_eq_of_lt hj
  rw[hm];have:j<z.size:=by omega
  simp[this]
 ·rw[dH,if_neg hj];rw[jh XC]
theorem akU{t:Nat}{x y:Operand}(ho:o.op= .makeSlice t x y){g:Tag}(hu:P.underlying t=some (.slice (ty g)))(BY:El P ty g){k1 k2:IntKind}{n:Int}(hx:a.eval x= .int k1 n)(hy:a.eval y= .int k2 n)(h0:0≤n)(hb:n.toNat*vI g≤140737488355328)(hm:n.toNat≤maxLen):
  ∃w' u fp,(execOp a.eval o).run P w= .ok (.value u) w'∧Below w.heap.size w w'∧qN (kk g) (rd g) w.heap.size (ty g) w' u (ew n.toNat (aO g)) fp:=by
 cases hq:P.info? (ty g)with
 |none=>simp[El,hq]at BY
 |some inf=>
  simp[El,hq]at BY;obtain⟨z1,z2,z3⟩:=BY;obtain⟨w',hr,hrow,hg⟩:=run_make_full (P:=P) w w.heap.size t (ty g) inf (oL g) (kk g) hu hq z1 z2 k1 k2 n.toNat (by rw[z3,kg];omega) hm (aS _);rw[Int.toNat_of_nonneg h0]at hr;refine⟨w', .slice (some ⟨w.heap.size,0,none⟩) n.toNat n.toNat,[w.heap.size],?_,⟨hg.os,hg.tape,hg.output,hg.size,fun b hb=>hg.block b hb fI⟩,(madeCells (oL g).cells (n.toNat*kk g)).toList,ew n.toNat [],?_,by simp,?_,?_,?_⟩
  ·unfold execOp;simp only[ho,hx,hy,dS,hr,cC,eu]
  ·rw[List.length_replicate];exact ot.of hrow
  ·intro i v f hi hf;rw[kW]at hi hf;split at hi
   ·rename_i hlt;rw[if_pos hlt]at hf;simp only[oI]at hi hf;subst hi;subst hf;rw[akT _ _ _ _ (xm g) hlt (oc g)];exact arv g
   ·cases hi
  ·simp[k9]
  ·refine⟨by simp,by simp,fun b hb=> ?_⟩;rcases hrow.2 with⟨h,_⟩| ⟨g',cap,cur,h,_,hh,_⟩
   ·cases h
   ·simp only[eZ,oI,j6,and_true]at h;rw[aV.1 hb,h.1];exact⟨_,_,hh⟩
end
end
section
variable{v:V}{u:Value}{k t e n cap m:Nat}{x:Operand}{lo hi:Option Operand}{g:Tag}{fp:List Nat}{n1 n2:Int}{oa:Option Addr}{p:List (Nat×Bool)}{α:Type}{ty:Tag→Nat}
section
variable{P:Program}{zb:fG}{st:St}{a:Act}{w:World}{env:Env}{Q:Exit→Act→World→Prop}{o:Oper}
theorem Pe{hp:Hp}{env:Env}: ∀{z:List Value},(∀v,v∈z→v.oneCell'=true)→dG (RA w hp env) (z.map V.lit) z
 | [],_=>trivial
 |v::r,h=>⟨⟨rfl,h v fI⟩,Pe fun u hu=>h u (by simp[hu])⟩
theorem rN(g:Good ty zb st a.tmps w env)(h:RA w st.hp env v u)(hv:v≠ .any):u.cells= #[u]:=by
 cases v with
 |any=>exact absurd rfl hv
 |lit x=>obtain⟨rfl,h1⟩:=h;cases u<;>simp_all [oP,Gg]
 |sl t l=>obtain⟨fp,⟨oa,cap,rfl,_⟩,_⟩:=h;rfl
 |own n=>
  obtain⟨⟨t,l,hl⟩,rfl⟩:=h;obtain⟨oa,cap,h,_⟩:=RO.sl (g.obj n _ hl);rw[h];rfl
 |ptr n off=>obtain⟨_,b,_,rfl⟩:=h;rfl
 |S3 f n=>obtain⟨_,b,_,rfl⟩:=h;rfl
 |Nb k=>obtain⟨oa,cap,rfl,_⟩:=h;rfl
 |raw x=>obtain⟨rfl,h1⟩:=h;cases u<;>simp_all [oP,Gg]
 |uS v t l=>obtain⟨_,fp,⟨oa,cap,rfl,_⟩,_⟩:=h;rfl
 |Cm n i off=>obtain⟨t,l,_,b,o,len,cap,_,rfl⟩:=h;rfl
 |ip t x off=>obtain⟨b,o,cs,fp,rfl,_⟩:=h;rfl
 |vw n p t l=>obtain⟨_,⟨fp,⟨oa,cap,rfl,_⟩,_⟩,_⟩:=h;rfl
 |Xc n t l=>obtain⟨_,b,fp,⟨oa,cap,rfl,_⟩,_⟩:=h;rfl
 |mix n c t l=>obtain⟨_,⟨fp,⟨oa,cap,rfl,_⟩,_⟩,_⟩:=h;rfl
 |RX n=>
  obtain⟨⟨t,l,s,hl⟩,rfl⟩:=h;rcases RO.RZ (g.obj n _ hl)with⟨_,r,lx,_,h,_⟩| ⟨_,_,hv,_,_,⟨oa,cap,h,_⟩,_⟩| ⟨_,_,_,⟨oa,m,cap,h⟩,_⟩| ⟨_,_,us,hB,_⟩
  ·rw[h];rfl
  ·rw[hv,h];rfl
  ·rw[h];rfl
  ·obtain⟨oa,cap,h,_⟩:=hB.sl;rw[h];rfl
 |Xb n p t x off=>obtain⟨_,b,o,cs,fp,rfl,_⟩:=h;rfl
theorem arE{op:BinOp}{k k':IntKind}{x y:Int}{vc:List Prop}{v:Value}(h:arw op k k' x y=some (vc,v))(hv: ∀q,q∈vc→q){t:TypeId}{X Y:Operand}:
  (do eqGuard op t X Y (.int k x) (.int k' y);binOp op t (.int k x) (.int k' y):Sem Value).run P w= .ok v w∧v.oneCell'=true:=by
 have gen:(∀(_: ¬(op= .shl∨op= .shr)),(match decEq k k' with|isTrue _=>bop op k x y|isFalse _=>none)=some (vc,v)→(do eqGuard op t X Y (.int k x) (.int k' y);binOp op t (.int k x) (.int k' y):Sem Value).run P w= .ok v w∧v.oneCell'=true):=by
  intro _ h';clear h;split at h'
  ·rename_i hk _;subst hk;exact axP h' hv
  ·cases h'
 cases op with
 |shl=>
  simp only[arw,oI,pI]at h;obtain⟨rfl,rfl⟩:=h;have hy: ¬y<0:=by have:0≤y:=hv _ (aV.2 rfl);omega
  refine⟨?_,rfl⟩;simp[eqGuard,binOp,Op.shift,hy]
 |shr=>
  simp only[arw,oI,pI]at h;obtain⟨rfl,rfl⟩:=h;have hy: ¬y<0:=by have:0≤y:=hv _ (aV.2 rfl);omega
  refine⟨?_,rfl⟩;simp[eqGuard,binOp,Op.shift,hy]
 |_=>exact gen fI h
theorem arG{op:BinOp}{x y:ByteArray}{vc:List Prop}{v:Value}(h:aho op x y=some (vc,v))(hv: ∀q,q∈vc→q){t:TypeId}{X Y:Operand}:
  (do eqGuard op t X Y (.string x) (.string y);binOp op t (.string x) (.string y):Sem Value).run P w= .ok v w∧v.oneCell'=true:=by
 cases op with
 |add=>
  simp only[aho,oI,pI]at h;obtain⟨rfl,rfl⟩:=h;have hy:((x.size+y.size:Nat):Int)≤IntKind.i64.max:=hv _ (aV.2 rfl);refine⟨?_,rfl⟩;have hy': ¬((x.size+y.size:Nat):Int)>IntKind.i64.max:=by omega
  simp only[eqGuard,binOp,Op.stringOp,if_neg hy'];rfl
 |eql=>
  simp only[aho,oI,pI]at h;obtain⟨rfl,rfl⟩:=h;exact⟨by simp[eqGuard,binOp,Op.stringOp],rfl⟩
 |neq=>
  simp only[aho,oI,pI]at h;obtain⟨rfl,rfl⟩:=h;exact⟨by simp[eqGuard,binOp,Op.stringOp],rfl⟩
 |_=>simp[aho]at h
theorem ad6{v:S1}{f:FuncId}(hr:mG w st.hp env v u)(h:arx v=some f):u= .func (.func f) #[] #[]:=by
 unfold arx at h;split at h
 ·simp only[oI]at h;subst h;exact hr.lit
 ·cases h
theorem ahv(l:List UInt8):strOfNums (l.map fun n=>(n.toNat:Int))=bG l:=by
 unfold strOfNums bG;congr 2;rw[List.map_map]
 conv=>rhs;rw[←tY l]
 apply gD;intro n _;simp
theorem Nl(ad:Addr)(cap:Nat):(Conv.bytesToString (.slice (some ad) 0 cap)).run P w= .ok (.string (bG [])) w:=by
 have:=run_bytesToString (P:=P) w ad 0 cap [] (by simp[loadCells,loadCellsFrom]);exact this
theorem Mr{a b:List (List Nat)}(h:a.Sublist b):a.flatten.Sublist b.flatten:=by
 induction h with
 |slnil=>exact lq _
 |cons x _ ih=>rw[dM];exact ih.trans (qA _ _)
 |cons_cons x _ ih=>rw[dM,dM];exact xw (lq _) ih
theorem KC(ho:o.op= .slice t x lo hi none)(hk:gO P t (.sl g e)){t':Tag}{l:List (T t')}(hkk:kk g=kk t')(hx:Sl (kk t') (rd t') w (a.eval x) l fp)
  (h1:(lo=none∧n1=0)∨ ∃y k,lo=some y∧a.eval y= .int k n1)(h2:(hi=none∧n2=l.length)∨ ∃y k,hi=some y∧a.eval y= .int k n2)(q0:0≤n1)(q1:n1≤n2)(q2:n2≤(l.length:Int)):
  ∃u' oK,(execOp a.eval o).run P w= .ok (.value u') w∧Sl (kk t') (rd t') w u' ((l.take n2.toNat).drop n1.toNat) oK∧oK.Sublist fp:=by
 obtain⟨hu,hs⟩:=hk;obtain⟨oa,cap,hv,hc,hm,h3⟩:=hx;cases hq:P.info? e with
 |none=>simp[hq]at hs
 |some inf=>
  have hsz:inf.size=kk g:=by simpa[hq]using hs
  have hcap:n2≤(cap:Int):=by omega
  have hn2:0≤n2:=by omega
  have Xd:max n2 0=n2:=by omega
  have hlen:((l.take n2.toNat).drop n1.toNat).length=n2.toNat-n1.toNat:=by simp;omega
  have hrun:(kX t (.slice oa l.length cap) (lo.map a.eval) (hi.map a.eval) none).run P w= .ok (.slice (if cap=n1.toNat then oa else oa.map (·.add (n1.toNat*kk g))) (n2.toNat-n1.toNat) (cap-n1.toNat)) w:=by
   rcases h1 with⟨rfl,rfl⟩| ⟨y1,k1,rfl,e1⟩<;>rcases h2 with⟨rfl,rfl⟩| ⟨y2,k2,rfl,e2⟩
   all_goals simp[kX,xy,mS,nQ,asIntOf,run_underlying hu,sizeOf,typeInfo,hq,hsz, *]
  have hex:(execOp a.eval o).run P w= .ok (.value (.slice (if cap=n1.toNat then oa else oa.map (·.add (n1.toNat*kk g))) (n2.toNat-n1.toNat) (cap-n1.toNat))) w:=by
   unfold execOp;simp only[ho,hv,xz,dS,hrun,cC,eu]
  rcases h3 with⟨rfl,rfl,hn⟩| ⟨b,off,eS,rfl,hb,rfl,hE⟩
  ·have e0:n1=0:=by simp at q2;omega
   have e2:n2=0:=by simp at q2;omega
   subst e0;subst e2;refine⟨_,[],hex,⟨_,_,rfl,by simp,aJ,bP ⟨by simp,rfl,by simp[hn]⟩⟩,BZ _⟩
  ·by_cases hcn:cap=n1.toNat
   ·have e0:(l.take n2.toNat).drop n1.toNat= []:=by
     apply ck;omega
    refine⟨_,[],hex,⟨_,_,by rw[hlen],by rw[hlen];omega,aJ,bP ⟨e0,rfl,aJ⟩⟩,BZ _⟩
   ·refine⟨_,b::((eS.take n2.toNat).drop n1.toNat).flatten,hex,⟨_,_,by rw[hlen],by rw[hlen];omega,aJ,bw ⟨b,off+n1.toNat*kk t',(eS.take n2.toNat).drop n1.toNat,?_,hb.mono (by rw[gC, ←cM,Nat.add_sub_cancel' aJ];exact aS _),rfl,?_,?_⟩⟩,?_⟩
    ·rw[if_neg hcn,hkk];simp[jL]
    ·have:=hE.1;simp[this]
    ·intro i x f hx hf;rw[dc,dH]at hx hf;split at hx
     ·rename_i hlt;rw[if_pos hlt]at hf;obtain⟨cs,k1,k2⟩:=hE.2 _ x f hx hf;exact⟨cs,by rw[gC, ←cM];exact k1,k2⟩
     ·cases hx
    ·exact Xe _ (Mr ((List.drop_sublist _ _).trans (KD _ _)))
theorem arH(ho:o.op= .slice t x lo hi none)(hk:gO P t (.sl g e))(hv:a.eval x= .slice oa n cap)
  (h1:(lo=none∧n1=0)∨ ∃y k,lo=some y∧a.eval y= .int k n1)(h2:(hi=none∧n2=(n:Int))∨ ∃y k,hi=some y∧a.eval y= .int k n2)(q0:0≤n1)(q1:n1≤n2)(q2:n2≤(n:Int))(q3:n≤cap):
  (execOp a.eval o).run P w= .ok (.value (pcv oa cap (kk g) n1.toNat n2.toNat)) w:=by
 obtain⟨hu,hs⟩:=hk;cases hq:P.info? e with
 |none=>simp[hq]at hs
 |some inf=>
  have hsz:inf.size=kk g:=by simpa[hq]using hs
  have hcap:n2≤(cap:Int):=by omega
  have hn2:0≤n2:=by omega
  have Xd:max n2 0=n2:=by omega
  have hrun:(kX t (.slice oa n cap) (lo.map a.eval) (hi.map a.eval) none).run P w= .ok (pcv oa cap (kk g) n1.toNat n2.toNat) w:=by
   rcases h1 with⟨rfl,rfl⟩| ⟨y1,k1,rfl,e1⟩<;>rcases h2 with⟨rfl,rfl⟩| ⟨y2,k2,rfl,e2⟩
   all_goals simp[kX,xy,mS,nQ,asIntOf,run_underlying hu,sizeOf,typeInfo,hq,hsz,pcv, *]
  unfold execOp;simp only[ho,hv,xz,dS,hrun,cC,eu]
theorem X1(ho:o.op= .slice t x lo none none)(hk:gO P t (.sl g e))(hv:a.eval x= .slice oa n cap)(hc:n≤cap)
  (h1:(lo=none∧n1=0)∨ ∃y k,lo=some y∧a.eval y= .int k n1)(hn:n1=(n:Int)):
  ∃oa',(execOp a.eval o).run P w= .ok (.value (.slice oa' 0 (cap-n))) w∧(oa'=none→oa=none):=by
 obtain⟨hu,hs⟩:=hk;cases hq:P.info? e with
 |none=>simp[hq]at hs
 |some inf=>
  have hsz:inf.size=kk g:=by simpa[hq]using hs
  subst hn;have Xd:max (n:Int) 0=n:=by omega
  refine⟨if cap=n then oa else oa.map (·.add (n*kk g)),?_,fun h=> ?_⟩
  ·have hrun:(kX t (.slice oa n cap) (lo.map a.eval) none none).run P w= .ok (.slice (if cap=n then oa else oa.map (·.add (n*kk g))) 0 (cap-n)) w:=by
    have h0:(n:Int)≤(cap:Int):=by omega
    rcases h1 with⟨rfl,e1⟩| ⟨y1,k1,rfl,e1⟩
    ·have:n=0:=by omega
     subst this;simp[kX,xy,mS,nQ,asIntOf,run_underlying hu,sizeOf,typeInfo,hq,hsz]
    ·simp[kX,xy,mS,nQ,asIntOf,run_underlying hu,sizeOf,typeInfo,hq,hsz, *]
   unfold execOp;simp only[ho,hv,xz,dS,hrun,cC,eu]
  ·split at h
   ·exact h
   ·simpa using h
theorem fH.at{w:World}: ∀{c:List V} {cs:List Value} {f:List Nat} {i:Nat} {v:V},fH w c cs f→Ic c i=some v→ ∃u f',cs[i]? =some u∧RI w v u f'∧f'.Sublist f
 |x::r,u::us,_,0,v,⟨f1,f2,h1,_,rfl⟩,h=>by
  simp only[Ic,oI]at h;subst h;exact⟨u,f1,rfl,h1,List.sublist_append_left _ _⟩
 |x::r,u::us,_,i+1,v,⟨f1,f2,_,h2,rfl⟩,h=>by
  obtain⟨u',f',k1,k2,k3⟩:=fH.at h2 (show Ic r i=some v from h);exact⟨u',f',by simpa using k1,k2,k3.trans (qA _ _)⟩
 | [],_,_,_,_,_,h=>by simp[Ic]at h
 |_::_,[],_,_,_,h,_=>h.elim
theorem Pg(g:Good ty zb st a.tmps w env){t:Tag}{l:List (T t)}(hl:look st.hp n=some (.arr t l)){i:Nat}(hi:i<l.length):
  ∃b o cap cs f,(env n).v= .slice (some ⟨b,o,none⟩) l.length cap∧b∈(env n).fp∧w.rangeAt b (o+i*kk t) cs∧rd t w cs (l.getD i (aO t)) f∧f.Sublist (env n).fp:=by
 obtain⟨oa,cap,hv,_,_,h3⟩:=RO.sl (g.obj n _ hl);rcases h3 with⟨rfl,_⟩| ⟨b,o,eS,rfl,hb,qx,he⟩
 ·simp at hi
 ·have hx:l[i]? =some (l.getD i (aO t)):=by rw[aq,az hi];rfl
  obtain⟨f,hf⟩:=mQ he.1 hx;obtain⟨cs,hr,hE⟩:=he.2 _ _ f hx hf;exact⟨b,o,cap,cs,f,hv,by rw[qx];simp,hr,hE,by rw[qx];exact(xA (eT hf)).trans (og _ _)⟩
theorem UT{hp:Hp}{t0:Tag}{l0:List (T t0)}(hl:look hp n=some (.arr t0 l0)){p:Option (Nat×Nat)}{f:List Nat}(h:RI w v u f)(hnd:f.Nodup)(hf: ∀b,b∈f→b∈(env n).fp)
  (hp': ∀i off,p=some (i,off)→ ∃b o len cap,i<l0.length∧Ic (dec t0 (l0.getD i (aO t0))) off=some v∧(env n).v= .slice (some ⟨b,o,none⟩) len cap∧b∈(env n).fp∧w.cell? ⟨b,o+i*kk t0+off,none⟩=some u):RA w hp env (bor n p v) u:=by
 cases v with
 |sl t l=>
  refine⟨⟨t0,l0,hl⟩,⟨f,h,hnd,hf⟩,fun i off hio=> ?_⟩;obtain⟨b,o,len,cap,h1,h2,h3,h4,h5⟩:=hp' i off hio;exact⟨t0,l0,b,o,len,cap,hl,h1,h2,h3,h4,h5⟩
 |lit x=>exact⟨h.1,h.2.1⟩
 |_=>trivial
theorem ad8{hp:Hp}{n:Nat}{t0:Tag}{l0:List (T t0)}(hl:look hp n=some (.arr t0 l0)){i:Nat}(hi:i<l0.length){b o len cap:Nat}(hv:(env n).v= .slice (some ⟨b,o,none⟩) len cap)(hb:b∈(env n).fp):
  ∀{c:List V} {us:List Value} {f:List Nat} {k:Nat},fH w c us f→f.Nodup→(∀x,x∈f→x∈(env n).fp)→(∀j v,c[j]? =some v→Ic (dec t0 (l0.getD i (aO t0))) (k+j)=some v)→w.rangeAt b (o+i*kk t0+k) us→dG (RA w hp env) (axK n i k c) us
 | [],[],_,_,_,_,_,_,_=>trivial
 |v::r,u::us,_,k,⟨f1,f2,h1,h2,rfl⟩,hnd,hf,hc,hr=>by
  obtain⟨hn1,hn2,_⟩:=bM.1 hnd;refine⟨UT hl h1 hn1 (fun x hx=>hf x (bl _ hx)) ?_,ad8 hl hi hv hb h2 hn2 (fun x hx=>hf x (aW _ hx)) ?_ ?_⟩
  ·rintro i' off' hio;simp only[oI,pI]at hio;obtain⟨rfl,rfl⟩:=hio;exact⟨b,o,len,cap,hi,hc 0 v rfl,hv,hb,by have:=hr 0 u rfl;simpa using this⟩
  ·intro j v' hj;have:=hc (j+1) v' aj2
   rwa [show k+(j+1)=k+1+j by omega]at this
  ·intro j v' hj;have:=hr (j+1) v' aj2
   rwa [show o+i*kk t0+k+(j+1)=o+i*kk t0+(k+1)+j by omega]at this
 | [],_::_,_,_,h,_,_,_,_=>h.elim
 |_::_,[],_,_,h,_,_,_,_=>h.elim
theorem ad9{hp:Hp}{n:Nat}{t0:Tag}{l0:List (T t0)}(hl:look hp n=some (.arr t0 l0)):
  ∀{c:List V} {us:List Value} {f:List Nat},fH w c us f→f.Nodup→(∀x,x∈f→x∈(env n).fp)→dG (RA w hp env) (axL n c) us
 | [],[],_,_,_,_=>trivial
 |v::r,u::us,_,⟨f1,f2,h1,h2,rfl⟩,hnd,hf=>
  ⟨UT hl h1 (bM.1 hnd).1 (fun x hx=>hf x (bl _ hx)) fI,ad9 hl h2 (bM.1 hnd).2.1 (fun x hx=>hf x (aW _ hx))⟩
 | [],_::_,_,h,_,_=>h.elim
 |_::_,[],_,h,_,_=>h.elim
theorem NY: ∀{l:List V} {i:Nat},Ic l i=l[i]?
 | [],_=>by simp[Ic]
 |_::_,0=>rfl
 |_::r,i+1=>by rw[Ic,NY (l:=r)];simp
theorem fH.sub{w:World}{c d:List V}{cs:List Value}{f:List Nat}{off:Nat}(h:fH w c cs f)(hs:sub c off k=some d): ∃f',fH w d ((cs.drop off).take k) f'∧f'.Sublist f∧d=(c.drop off).take k∧((cs.drop off).take k).length=k:=by
 have drop: ∀(n:Nat) {c:List V} {cs:List Value} {f:List Nat},fH w c cs f→ ∃f',fH w (c.drop n) (cs.drop n) f'∧f'.Sublist f:=by
  intro n;induction n with
  |zero=>intro c cs f h;exact⟨f,by simpa using h,lq _⟩
  |succ n ih=>
   intro c cs f h;cases c with
   |nil=>cases cs with
    |nil=>exact⟨f,by simpa using h,lq _⟩
    |cons _ _=>exact h.elim
   |cons v r=>cases cs with
    |nil=>exact h.elim
    |cons u us=>
     obtain⟨f1,f2,_,h2,rfl⟩:=h;obtain⟨f',k1,k2⟩:=ih h2;exact⟨f',by simpa using k1,k2.trans (qA _ _)⟩
 have take: ∀(n:Nat) {c:List V} {cs:List Value} {f:List Nat},fH w c cs f→ ∃f',fH w (c.take n) (cs.take n) f'∧f'.Sublist f:=by
  intro n;induction n with
  |zero=>intro c cs f h;exact⟨[],by simp[fH],BZ _⟩
  |succ n ih=>
   intro c cs f h;cases c with
   |nil=>cases cs with
    |nil=>exact⟨f,by simpa using h,lq _⟩
    |cons _ _=>exact h.elim
   |cons v r=>cases cs with
    |nil=>exact h.elim
    |cons u us=>
     obtain⟨f1,f2,h1,h2,rfl⟩:=h;obtain⟨f',k1,k2⟩:=ih h2;exact⟨f1++f',⟨f1,f',h1,k1,rfl⟩,xw (lq _) k2⟩
 unfold G.sub at hs;split at hs
 ·rename_i hb;have hb:=bV hb;simp only[oI]at hs;obtain⟨f1,h1,h2⟩:=drop off h;obtain⟨f2,h3,h4⟩:=take k h1;refine⟨f2,by rw[←hs];exact h3,h4.trans h2,hs.symm,?_⟩;have:=h.len;rw[ct,cV];omega
 ·cases hs
theorem arI{p:Option (Nat×Nat)}{t:Tag}{l:List (T t)}{k:Int}(h:RA w st.hp env (.vw n p t l) u)(h0:0≤k)(h1:k<l.length):
  ∃b off len cap,u= .slice (some ⟨b,off,none⟩) len cap∧k<len∧RA w st.hp env (.Xb n (axM p k.toNat) t (l.getD k.toNat (aO t)) 0) (.pointer (some ⟨b,off+k.toNat*kk t,none⟩)):=by
 have hRV:RV w st.hp env n p t l u:=h;obtain⟨hA,⟨fp,⟨oa,cap,rfl,hc,hm,h3⟩,hnd,hd⟩,_⟩:=h;have hn:k.toNat<l.length:=by omega
 rcases h3 with⟨rfl,_⟩| ⟨b,off,eS,rfl,hb,rfl,he⟩
 ·simp at hn
 ·have hx:l[k.toNat]? =some (l.getD k.toNat (aO t)):=by rw[aq,az hn];rfl
  obtain⟨f,hf⟩:=mQ he.1 hx;obtain⟨cs,hr,hE⟩:=he.2 _ _ f hx hf;refine⟨b,off,l.length,cap,rfl,h1,hA,b,off+k.toNat*kk t,cs,f,rfl,hd b fI,hr,hE,((xA (eT hf)).trans (og _ _)).nodup hnd,fun c hc=>hd c (aE _ (gB hf hc)),fun i o2 j hp=> ?_⟩;cases p with
  |none=>cases hp
  |some ab=>
   obtain⟨a1,b1⟩:=ab;simp only[axM,oI,pI]at hp;obtain⟨rfl,rfl,rfl⟩:=hp;exact⟨l,_,b,off,l.length,cap,hRV,hn,rfl,rfl,rfl⟩
theorem UU(ho:o.op= .slice t x lo hi none)(hu:P.underlying t=some .string){s:ByteArray}(hv:a.eval x= .string s)
  (h1:(lo=none∧n1=0)∨ ∃y k,lo=some y∧a.eval y= .int k n1)(h2:(hi=none∧n2=s.size)∨ ∃y k,hi=some y∧a.eval y= .int k n2)(q0:0≤n1)(q1:n1≤n2)(q2:n2≤(s.size:Int)):
  o.wp P a w (KA ty st a w env o.dst (.one (.a (.lit (.string (s.extract n1.toNat n2.toNat))))) []) Q:=by
 have hn2:0≤n2:=by omega
 have Xd:max n2 0=n2:=by omega
 have hrun:(kX t (.string s) (lo.map a.eval) (hi.map a.eval) none).run P w= .ok (.string (s.extract n1.toNat n2.toNat)) w:=by
  rcases h1 with⟨rfl,rfl⟩| ⟨y1,k1,rfl,e1⟩<;>rcases h2 with⟨rfl,rfl⟩| ⟨y2,k2,rfl,e2⟩
  all_goals simp[kX,xy,mS,nQ,asIntOf,run_underlying hu, *]
 refine iP (u:= .string (s.extract n1.toNat n2.toNat)) ?_ ⟨rfl,rfl⟩;unfold execOp;simp only[ho,hv,xz,dS,hrun,cC,eu]
theorem ahx(g:Good ty zb st a.tmps w env)(hr:mG w st.hp env (.a v) u){l:List UInt8}(hl:bytesOf st v=some l){s:Nat}(hs:P.underlying s=some (.slice e))(he:P.underlying e=some (.int .u8))(ht:P.underlying t=some .string):
  (convert s t u).run P w= .ok (.string (bG l)) w:=by
 have key: ∀{b off len cap:Nat},len=l.length→(∀i x,l[i]? =some x→w.cell? ⟨b,off+i,none⟩=some (.int .u8 x.toNat))→(convert s t (.slice (some ⟨b,off,none⟩) len cap)).run P w= .ok (.string (bG l)) w:=by
  intro b off len cap hlen hc;rw[run_convert_bytes_arg w s e hs he b off len cap (l.map fun n=>(n.toNat:Int)) (by simp[hlen]) (fun i hi=> ?_) t ht,ahv];have hi2:i<l.length:=by omega
  rw[hc i _ (az hi2),aq,ec,az hi2];rfl
 have nil: ∀{c:Nat},(convert s t (.slice none 0 c)).run P w= .ok (.string (bG [])) w:=by
  intro c;rw[run_convert_bytes_nil w s e hs he 0 c t ht];rfl
 have sl: ∀{fp:List Nat},Sl 1 EU8 w u l fp→(convert s t u).run P w= .ok (.string (bG l)) w:=by
  rintro fp ⟨oa,cap,rfl,_,_,h3⟩;rcases h3 with⟨rfl,_,_⟩| ⟨b,off,eS,rfl,_,_,hE⟩
  ·cases oa with
   |none=>exact nil
   |some ad=>
    rw[run_convert_bytes_string w s t e _ _ _ hs he ht];exact Nl ad cap
  ·refine key rfl fun i x hx=> ?_;obtain⟨f,hf⟩:=mQ hE.1 hx;obtain⟨cs,q1,rfl,_⟩:=hE.2 i x f hx hf;have:=q1 0 _ rfl;simpa using this
 unfold bytesOf at hl;split at hl
 ·simp only[oI]at hl;subst hl;obtain⟨fp,h,_⟩:=hr;exact sl h
 ·rename_i n;split at hl
  ·rename_i l' hlk;simp only[oI]at hl;subst hl;obtain⟨_,hu⟩:=hr;have hb:Sl 1 EU8 w (env n).v l' (env n).fp:=RO.sl (g.obj n _ hlk);rw[←show u=(env n).v from hu]at hb;exact sl hb
  ·cases hl
 ·simp only[oI]at hl;subst hl;obtain⟨_,⟨fp,h,_⟩,_⟩:=hr;exact sl h
 ·simp only[oI]at hl;subst hl;have hu:=(show mG w st.hp env (.a (.lit O4)) u from hr).lit;rw[hu];exact nil
 ·cases hl
theorem sG(hop: ∀{x v},oH st p x=some v→mG w st.hp env v (a.eval x)){z n:Int}{b:Option Operand}(h:UN st p z b=some n):(b=none∧n=z)∨ ∃x k,b=some x∧a.eval x= .int k n:=by
 cases b with
 |none=>simp only[UN,oI]at h;exact bP ⟨rfl,h.symm⟩
 |some x=>
  simp only[UN]at h;split at h
  ·rename_i k i hx;simp only[oI]at h;subst h;exact bw ⟨x,k,rfl,(hop hx).lit⟩
  ·cases h
theorem Te{t:Tag}{l:List (T t)}{w':World}(hr:(execOp a.eval o).run P w= .ok (.value u) w')(hb:Below w.heap.size w w')(hB:qN (kk t) (rd t) w.heap.size (ty t) w' u l fp):
  o.wp P a w (KA ty st a w env o.dst (.one (.a (.own m))) [(m, .arr t l)]) Q:=by
 unfold nv;rw[hr];obtain⟨env',hN,hl⟩:=tX.list (ty:=ty) (hp:=st.hp) (env:=env) (os:= [(m, .arr t l)]) (ce:= [⟨u,fp⟩]) hb (by simp[tW,look]) ⟨⟨fun _ _=>RO.S7 (qN.mono hB (aY _)),(qN.own hB).ge⟩,trivial⟩ (by simpa using(qN.own hB).nodup);have h2:env' m=⟨u,fp⟩:=hl.1.2;exact⟨u,env',rfl,hN,⟨t,l,look_eq⟩,by rw[h2]⟩
theorem Im{E:ER α}(G:mZ k E)(hk:0<k){w:World}{l:List α}(h:Sl k E w u l fp):
  ∃(news:List Value) (fx:List (List Nat)),Src w u l.length news∧fx.length=l.length∧news.length=l.length*k∧(∀i x f,l[i]? =some x→fx[i]? =some f→E w ((news.drop (i*k)).take k) x f)∧fx.flatten.Sublist fp∧ ∀b r,fp=b::r→fx.flatten=r:=by
 obtain⟨oa,cap,rfl,hc,hm,h3⟩:=h;rcases h3 with⟨rfl,rfl,hno⟩| ⟨b,off,eS,rfl,hb,rfl,he⟩
 ·refine⟨[],[],?_,rfl,by simp,by simp,by simp,fun b r h=>by cases h⟩;cases oa with
  |none=>exact bP ⟨by simp[hno],rfl,rfl⟩
  |some a=>exact bw ⟨a,cap,rfl,by simp⟩
 ·have hcell: ∀j,j<l.length*k→ ∃v,w.cell? ⟨b,off+j,none⟩=some v:=by
   intro j hj;have hi:j/k<l.length:=Nat.div_lt_of_lt_mul (by rw[kg];omega);obtain⟨f,hf⟩:=mQ he.1 (az hi);obtain⟨cs,hr,hE⟩:=he.2 _ _ f (az hi) hf;have hl:=G.len hE;have hml:=Nat.mod_lt j hk;have:=hr (j % k) cs[j % k] (az aJ);refine⟨cs[j % k]'aJ,?_⟩;rw[←this];congr 2;have:=Nat.div_add_mod j k;have:=kg k (j/k);omega
  refine⟨(bK (l.length*k)).map fun j=>(w.cell? ⟨b,off+j,none⟩).getD undef,eS,bw ⟨_,cap,rfl,?_⟩,he.1,by simp,?_,og _ _,fun b r h=>by cases h;rfl⟩
  ·intro j u hu;have hj:j<l.length*k:=by have:=(aU.1 hu).1;simpa using this
   obtain⟨v,hv⟩:=hcell j hj;simp[hj,hv]at hu;rw[jL,hv,hu]
  ·intro i x f hx hf;obtain⟨cs,hr,hE⟩:=he.2 i x f hx hf;have hl:=G.len hE;have hi:i<l.length:=(aU.1 hx).1;have h5:i*k+k≤l.length*k:=by
    have:=cG k (show i+1≤l.length by omega);rw[cM]at this;omega
   have:(((bK (l.length*k)).map fun j=>(w.cell? ⟨b,off+j,none⟩).getD undef).drop (i*k)).take k=cs:=by
    apply zL;intro j;by_cases hj:j<k
    ·rw[dH,if_pos hj,dc];have h6:=hr j cs[j] (az aJ);rw[ec,xu aJ];simp[←gC,h6,show j<cs.length by omega]
    ·rw[dH,if_neg hj,jh aJ]
   rw[this];exact hE
theorem arJ{E:ER α}(G:mZ k E)(hk:0<k){w:World}{l:List α}{news:List Value}{fx:List (List Nat)}(hf:fx.length=l.length)(hl:news.length=l.length*k)
  (hE: ∀i x f,l[i]? =some x→fx[i]? =some f→E w ((news.drop (i*k)).take k) x f): ∀u,u∈news→u.oneCell'=true:=HY G hf hl hk hE
theorem arK{P:Program}{w:World}{t ty' e:TypeId}{z:Value}{bytes:Nat}(ht:P.underlying t=some (.slice e))(akd:(P.info? e).map (fun i=>(i.zero,i.size,i.bytes))=some (some z,k,bytes))(hzs:z.cells.size=k)(hk:0<k)
 {olds:List Value}(hsx:Src w (.slice oa n n) n olds)(hlo:olds.length=n*k)
 {y:Value}{news:List Value}(hsy:Src w y m news)(hl:news.length=m*k)(h1: ∀u,u∈news→u.oneCell'=true)(b1:n+m≤maxLen)(b2:(n+m)*bytes≤140737488355328):
   ∃v' w',(hY #[t,t] ty' #[.slice oa n n,y]).run P w= .ok v' w'∧((m=0∧v'= .slice oa n n∧w'=w)∨(w'.ownsRow w.heap.size e k v' (n+m) (olds++news)∧w.grownBy w' none)):=by
  obtain⟨i,hi,hz,hsize,hby⟩:=info_parts akd;rcases hsy with⟨rfl,rfl,rfl⟩| ⟨a,c,rfl,hnews⟩
  ·refine⟨.slice oa n n,w,?_,bP ⟨rfl,rfl,rfl⟩⟩;cases oa with
   |none=>simp[hY,run_underlying ht,sizeOf,typeInfo,hi,nr,ou,storeCells]
   |some b=>simp[hY,run_underlying ht,sizeOf,typeInfo,hi,nr,ou,storeCells]
  ·by_cases hm:m=0
   ·subst hm;have hn0:news= []:=ck aJ;subst hn0;refine⟨.slice oa n n,w,?_,bP ⟨rfl,rfl,rfl⟩⟩;have hfc:=run_firstCells_some (P:=P) w i.size 0 a 0 c [] fI fI;cases oa with
    |none=>simp[hY,run_underlying ht,sizeOf,typeInfo,hi,nr,hfc]
    |some b=>simp[hY,run_underlying ht,sizeOf,typeInfo,hi,nr,hfc,storeCells]
   ·rcases hsx with⟨hx,rfl,rfl⟩| ⟨b,cb,hx,holds⟩
    ·simp only[eZ]at hx;obtain⟨rfl,_⟩:=hx;obtain⟨v',w',hrun,r1,r2,_⟩:=run_append_own (P:=P) w w.heap.size t ty' e i z k bytes ht hi hz hsize hby hzs hk (.slice none 0 0) 0 [] (World.ownsRow_nil w _ e k) a m c news hl hnews h1 b1 b2 (aS _);exact⟨v',w',hrun,bw ⟨r1,r2⟩⟩
    ·simp only[eZ]at hx;obtain⟨rfl,_,rfl⟩:=hx;obtain⟨v',w',hrun,r1,r2⟩:=run_append_arg_grows (P:=P) w t ty' e i z k bytes ht hi hz hsize hby hzs hk b n n olds hlo holds a m c news hl hnews aJ b1 b2;exact⟨v',w',hrun,bw ⟨r1,r2⟩⟩
theorem axR{E:ER α}{w:World}{l:List α}(h:Sl k E w (.slice oa l.length cap) l fp){j q:Nat}(hj:j≤l.length)(hq:q=0):
  ∃oK,Sl k E w (.slice (if j=0 then oa else oa.map (·.add q)) j j) (l.take j) oK∧ ∀b,b∈oK→b∈fp:=by
 subst hq;obtain⟨oa',cap',hu,hc,hm,h3⟩:=h;simp only[eZ,true_and]at hu;obtain⟨rfl,rfl⟩:=hu;have hlen:(l.take j).length=j:=by rw[ct];omega
 by_cases h0:j=0
 ·subst h0;refine⟨[],⟨oa,0,by simp,by simp,aY _,bP ⟨by simp,rfl,rfl⟩⟩,by simp⟩
 ·rcases h3 with⟨rfl,_⟩| ⟨b,off,eS,rfl,hb,rfl,he⟩
  ·simp at hj;omega
  ·rw[if_neg h0];refine⟨b::(eS.take j).flatten,⟨_,j,by rw[hlen],aJ,aJ,bw ⟨b,off,eS.take j,by simp[jL],hb.mono (Nat.add_le_add_left (cG _ aJ) _),rfl,?_,fun i x f hx hf=> ?_⟩⟩,fun c hc=> ?_⟩
   ·have:=he.1;simp[this]
   ·rw[dH]at hx hf;split at hx
    ·rename_i hij;rw[if_pos hij]at hf;exact he.2 i x f hx hf
    ·cases hx
   ·rcases bh.1 hc with rfl|hc
    ·simp
    ·exact aE _ ((Mr (KD j eS)).subset hc)
theorem axS{E:ER α}{w:World}{lo:Nat}{v:Value}{l:List α}{xs:List Value}{eS:List (List Nat)}(h:w.ownsRow lo e k v l.length xs)(hf:eS.length=l.length)(he: ∀i x f,l[i]? =some x→eS[i]? =some f→E w ((xs.drop (i*k)).take k) x f):
  Sl k E w v l (v.ownBlock.toList++eS.flatten):=by
 have hlt:=h.lt;have hcells: ∀g,v.ownBlock=some g→ ∀j u,xs[j]? =some u→w.cell? ((⟨g,0,none⟩:Addr).add j)=some u:=fun g hg=>h.cells (g:=g) hg;rcases h.2 with⟨rfl,h0⟩| ⟨g,cap,cur,rfl,hbg,hg,hnc,hcm,hcs,Mk⟩
 ·have hl:l= []:=ck h0;subst hl;have:eS= []:=ck (by simpa using hf);subst this;exact⟨none,0,rfl,aS _,aY _,bP ⟨rfl,rfl,rfl⟩⟩
 ·refine⟨some ⟨g,0,none⟩,cap,rfl,hnc,hcm,bw ⟨g,0,eS,rfl,⟨cur,e,(0,0),hg,aJ⟩,rfl,UC hf (fun j u hu=> ?_) he⟩⟩;have:=hcells g rfl j u hu
  rwa [jL,dB]at this
theorem X3{w:World}{hp:Hp}{env:Env}: ∀{l:List V} {us:List Value},plain l=true→dG (RA w hp env) l us→fH w l us []:=by
 intro l;induction l with
 |nil=>intro us _ h;cases us with
  |nil=>rfl
  |cons _ _=>exact h.elim
 |cons v r ih=>
  intro us hpl h;cases us with
  |nil=>exact h.elim
  |cons u us=>
   unfold plain at hpl;split at hpl
   ·rename_i heq;cases heq
   ·cases hpl
   ·rename_i heq;simp only[cP]at heq;obtain⟨rfl,rfl⟩:=heq;exact⟨[],[],⟨h.1.1,h.1.2,rfl⟩,ih hpl h.2,rfl⟩
   ·cases hpl
theorem aea(g:Good ty zb st a.tmps w env): ∀{l c:List V} {n:Nat} {us:List Value},dG (RA w st.hp env) l us→GI st.hp l=some (c,n)→ ∃t l' fp,look st.hp n=some (.arr t l')∧fH w c us fp∧fp.Nodup∧ ∀b,b∈fp→b∈(env n).fp
 | [],_,_,_,_,h=>by simp[GI]at h
 |v::r,c,n,us,hr,h=>by
  cases us with
  |nil=>exact hr.elim
  |cons u us=>
   unfold GI at h;split at h
   ·rename_i m r' he;simp only[cP]at he;obtain⟨rfl,rfl⟩:=he;split at h
    ·rename_i t l hl hpl;simp only[oI,pI]at h;obtain⟨rfl,rfl⟩:=h;obtain⟨_,rfl⟩:=hr.1;exact⟨t,l,(env m).fp,hl,⟨_,[],RO.sl (g.obj m _ hl),X3 hpl hr.2,by simp⟩,(RO.own (g.obj m _ hl)).nodup,fun _ hb=>hb⟩
    ·cases h
   ·rename_i m pp t l r' he;simp only[cP]at he;obtain⟨rfl,rfl⟩:=he;split at h
    ·rename_i t0 l0 hl hpl;simp only[oI,pI]at h;obtain⟨rfl,rfl⟩:=h;obtain⟨_,⟨fp,h1,h2,h3⟩,_⟩:=hr.1;exact⟨t0,l0,fp,hl,⟨fp,[],h1,X3 hpl hr.2,by simp⟩,h2,h3⟩
    ·cases h
   ·cases h
   ·rename_i x r' _ he;simp only[cP]at he;obtain⟨rfl,rfl⟩:=he;split at h
    ·rename_i c' n' h';simp only[oI,pI]at h;obtain⟨rfl,rfl⟩:=h;obtain⟨t,l',fp,h1,h2,h3,h4⟩:=aea g hr.2 h';exact⟨t,l',fp,h1,⟨[],_,⟨hr.1.1,hr.1.2,rfl⟩,h2,by simp⟩,h3,h4⟩
    ·cases h
   ·cases h
theorem abP(g:Good ty zb st a.tmps w env){s:S1}(hr:mG w st.hp env s u){c:List V}(h:GI st.hp (cellsOf s)=some (c,n)):dG (RA w st.hp env) (cellsOf s) u.cells.toList:=by
 cases s with
 |agg l=>obtain⟨cs,rfl,hl⟩:=hr;exact hl
 |a v=>
  have hv:v≠ .any:=by rintro rfl;simp[cellsOf,GI]at h
  have:=rN g (show RA w st.hp env v u from hr) hv;rw[this];exact⟨hr,trivial⟩
theorem Tf(g:Good ty zb st a.tmps w env){p:List (Nat×Bool)}(hp:holds a.tmps p){t:Tag}: ∀{ps:List (Nat×Operand)} {i:Nat} {vc:List Prop} {xs:List (T t)},zk st p t i ps=some (vc,xs)→(∀q,q∈vc→q)→
  (ps.map fun p=>(p.1,a.eval p.2))=FC i (ps.map fun p=>a.eval p.2)∧xs.length=ps.length∧ ∀(i:Nat) (x:T t),xs[i]? =some x→ ∃p:Nat×Operand,ps[i]? =some p∧rd t w (a.eval p.2).cells.toList x []
 | [],i,vc,xs,h,_=>by
   simp only[zk,oI,pI]at h;obtain⟨rfl,rfl⟩:=h;exact⟨rfl,rfl,by simp⟩
 | (j,x)::r,i,vc,xs,h,hv=>by
   simp only[zk]at h;split at h
   ·rename_i s hij hx;have hij:=aG hij;subst hij;split at h
    ·rename_i zM y vcs ys hpl he hb;simp only[oI,pI]at h;obtain⟨rfl,rfl⟩:=h;obtain⟨q1,q2,q3⟩:=Tf g hp hb (fun q hq=>hv q (aW _ hq));have hc: ∃us,(a.eval x).cells.toList=us∧fH w (cellsOf s) us []:=by
      have hs:=lX g hp hx;have key: ∀{l:List V} {us:List Value},plain l=true→dG (RA w st.hp env) l us→fH w l us []:=by
       intro l;induction l with
       |nil=>intro us _ h;cases us with
        |nil=>rfl
        |cons _ _=>exact h.elim
       |cons v r ih=>
        intro us hpl h;cases us with
        |nil=>exact h.elim
        |cons u us=>
         unfold plain at hpl;split at hpl
         ·rename_i heq;cases heq
         ·cases hpl
         ·rename_i heq;simp only[cP]at heq;obtain⟨rfl,rfl⟩:=heq;exact⟨[],[],⟨h.1.1,h.1.2,rfl⟩,ih hpl h.2,rfl⟩
         ·cases hpl
      cases s with
      |agg l=>
       obtain⟨cs,hu,hl⟩:=hs;exact⟨cs,by rw[hu];rfl,key hpl hl⟩
      |a v=>
       have hne:v≠ .any:=by rintro rfl;cases hpl
       exact⟨[a.eval x],by rw[rN g hs hne],key hpl ⟨hs,trivial⟩⟩
     obtain⟨us,hus,hri⟩:=hc;refine⟨by simp[FC,q1],by simp[q2],fun i' x' hx'=> ?_⟩;cases i' with
     |zero=>
      simp at hx';subst hx';exact⟨(i,x),rfl,by rw[hus];exact C7 t he (fun q hq=>hv q (bl _ hq)) hri⟩
     |succ n=>
      obtain⟨p,h1,h2⟩:=q3 n x' (by simpa using hx');exact⟨p,by simpa using h1,h2⟩
    ·cases h
   ·cases h
theorem arM(g:Good ty zb st a.tmps w env)(hp:holds a.tmps p){k:IntKind}{i:Int}(h:ary st p x=some (k,i)):a.eval x= .int k i:=by
 unfold ary at h;split at h
 ·rename_i k' i' hx;simp only[oI,pI]at h;obtain⟨rfl,rfl⟩:=h;exact(lX g hp hx).lit
 ·cases h
theorem Ph(g:Good ty zb st a.tmps w env){p:List (Nat×Bool)}(hp:holds a.tmps p): ∀{xs:List Operand} {ys:List (IntKind×Int)},Ie st p xs=some ys→xs.map a.eval=ys.map fun y=> .int y.1 y.2
 | [],ys,h=>by simp only[Ie,oI]at h;subst h;rfl
 |x::r,ys,h=>by
  simp only[Ie]at h;split at h
  ·rename_i y ys' h1 h2;simp only[oI]at h;subst h;rw[cg,cg,Ph g hp h2,arM g hp h1]
  ·cases h
theorem Pj{F:Int→Int→Int}{f:Value→Value→Sem Value}(hf: ∀(k:IntKind) (x y:Int),f (.int k x) (.int k y)=pure (.int k (F x y))){k:IntKind}: ∀{ys:List (IntKind×Int)} {x z:Int},S6 F k x ys=some z→(List.foldlM f (.int k x) (ys.map fun y=> .int y.1 y.2)).run P w= .ok (.int k z) w
 | [],x,z,h=>by simp only[S6,oI]at h;subst h;rfl
 | (k',y)::r,x,z,h=>by
   simp only[S6]at h;split at h
   ·rename_i hk _;subst hk;rw[cg,List.foldlM_cons,hf];simp only[pure_bind];exact Pj hf h
   ·cases h
theorem X5(g:Good ty zb st a.tmps w env){p:List (Nat×Bool)}(hp:holds a.tmps p){n:Nat}{fo:List Nat}{pl:Nat→Option (Nat×Nat)}(hpl: ∀j o k,yw fo j=some o→fsz n fo j=some k→pl j=some (o,k)):
  ∀{ps:List (Nat×Operand)} {c c':List V} {cs:List Value},BW st p n fo ps c=some c'→dG (RA w st.hp env) c cs→
   ∃cs',wW pl (gN cs) (ps.map fun q=>(q.1,a.eval q.2))=some (gN cs')∧dG (RA w st.hp env) c' cs'
 | [],c,c',cs,h,hc=>by
   simp only[BW,oI]at h;subst h;exact⟨cs,rfl,hc⟩
 | (j,x)::r,c,c',cs,h,hc=>by
   simp only[BW]at h;split at h
   ·rename_i o' k s h1 h2 hx;split at h
    ·rename_i c1 hna hs;simp only[an]at hna;have hk:=aG hna.2;have hrs:=GJ g hp hx;have hcs: ∃us,(a.eval x).cells=gN us∧dG (RA w st.hp env) (cellsOf s) us:=by
      cases s with
      |agg l=>obtain⟨us,hu,hl⟩:=hrs;exact⟨us,by rw[hu];rfl,hl⟩
      |a v=>
       have hne:v≠ .any:=by rintro rfl;simp[cellsOf,Da]at hna
       exact⟨[a.eval x],rN g hrs hne,hrs,trivial⟩
     obtain⟨us,hus,hul⟩:=hcs;obtain⟨q1,q2⟩:=US hc hul hs;obtain⟨cs',h3,h4⟩:=X5 g hp hpl h q2;refine⟨cs',?_,h4⟩;rw[cg,wW,hpl j o' k h1 h2];simp only[hus];have hl:=hul.len;rw[if_neg XC];have akR:((gN us).zipIdx.foldl (fun cs (x:Value×Nat)=>cs.setIfInBounds (o'+x.2) x.1) (gN cs))=splice (gN cs) o' us:=by
      rw[←Il,GK,AT,ia]
     show wW _ ((gN us).zipIdx.foldl (fun cs (x:Value×Nat)=>cs.setIfInBounds (o'+x.2) x.1) (gN cs)) _=_
     rw[akR,yF us cs o' q1];exact h3
    ·cases h
   ·cases h
theorem Io{w:World}{d:Nat}(hu:P.underlying t=some .bool){x y:Bool}:(Op.equalIn (d+1) t (.bool x) (.bool y)).run P w= .ok (x==y) w:=by
 simp[Op.equalIn,run_underlying hu]
theorem akV{op:Op}{out:Out}(ng:o.op=op)(hm:op= .move x∨op= .assign x)(g:Good ty zb st a.tmps w env)(h:mvt st x=some out):o.wp P a w (KA ty st a w env o.dst out.v out.o) Q:=by
 unfold mvt at h;split at h
 ·rename_i t;split at h
  ·rename_i l hl;simp only[oI]at h;subst h;have hr:=g.slot t _ hl;rcases hm with rfl|rfl
   ·exact O7 (by unfold execOp;simp only[ng,eu];rfl) hr
   ·exact O7 (by unfold execOp;simp only[ng,eu];rfl) hr
  ·cases h
 ·cases h
theorem X6{Γ:Nat→TK}(C: ∀t,gO P t (Γ t)){cr:List (Nat×CR)}{d:Nat}{out:Out}(h:quiet Γ (Elt P ty) (Sound ty P) cr st p d m o.op=some out)
  (g:Good ty zb st a.tmps w env)(hp:holds a.tmps p)(hA:Nc w)(hv: ∀q,q∈out.vc→q)(hf:fresh st.hp out.o=true)(hn:tW out.o=true):
  o.wp P a w (KA ty st a w env o.dst out.v out.o) Q:=by
 have hop: ∀{q x v},holds a.tmps q→oH st q x=some v→mG w st.hp env v (a.eval x):=fun hq hx=>lX g hq hx;generalize ng:o.op=op at h;cases op with
 |move x=>
  simp only[quiet]at h;split at h
  ·rename_i v hx;simp only[jU,oI]at h;subst h;exact iP (by unfold execOp;simp only[ng,eu]) (GJ g hp hx)
  ·exact akV ng (bP rfl) g h
 |assign x=>
  simp only[quiet]at h;split at h
  ·rename_i v hx;simp only[jU,oI]at h;subst h;exact iP (by unfold execOp;simp only[ng,eu]) (GJ g hp hx)
  ·exact akV ng (bw rfl) g h
 |pick c x y=>
  cases c with
  |tmp c=>
   simp only[quiet]at h;split at h
   ·rename_i t u v h1 h2 h3;simp only[jU,oI]at h;subst h;have hc:=(hop hp h1).lit;have hc':a.tmps[c]? =some (.bool t):=abK hc;refine iP (u:= .bool (if t then u else v)) ?_ ⟨rfl,rfl⟩;unfold execOp;cases t with
    |true=>
     have hx:=(hop (q:=(c,true)::p) aBr h2).lit;simp[ng,hc,hx,asBool]
    |false=>
     have hx:=(hop (q:=(c,false)::p) aBr h3).lit;simp[ng,hc,hx,asBool]
   ·cases h
  |_=>simp[quiet]at h
 |box e x=>
  simp only[quiet]at h;split at h
  ·rename_i l hx;simp only[oI]at h;subst h;obtain⟨cs,hu,hl⟩:=hop hp hx;exact KB (cs:=cs) (e:=e) (by unfold execOp;simp[ng,akW,newVar,newRow,hu,oP]) g hf hl
  ·cases h
  ·rename_i v hne hx;simp only[oI]at h;subst h;have hr:=hop hp hx;have hc:=rN g (show RA w st.hp env v (a.eval x)from hr) (fun e=>hne e);exact KB (cs:= [a.eval x]) (e:=e) (by unfold execOp;simp[ng,akW,newVar,newRow,hc]) g hf ⟨hr,trivial⟩
  ·cases h
 |alloc t=>
  simp only[quiet]at h;split at h
  ·rename_i z tg fo hk;simp only[oI]at h;subst h;have hC:=C t;rw[hk]at hC;obtain⟨fs,hu,hi,h1,_⟩:=hC;refine KB (cs:=z) (e:=t) ?_ g hf (Pe h1);unfold execOp;cases hq:P.info? t with
   |none=>simp[hq]at hi
   |some i=>
    simp[hq]at hi;simp[ng,Instr.alloc,zeroValue,typeInfo,hq,hi.2,newVar,newRow,oP]
  ·cases h
 |load t x=>
  simp only[quiet]at h;split at h
  ·rename_i n off hx;obtain⟨_,b,hb,hu⟩:=hop hp hx;split at h
   ·rename_i c hl;obtain⟨b',cs,e,Tg,hh,hc⟩:=g.obj n _ hl;have hbb:b=b':=by
     rw[Tg]at hb;simpa using hb.symm
    subst hbb;have KF:w.rangeAt b 0 cs:=by simpa using akt hh
    split at h
    ·rename_i z tg fo hk;split at h
     ·rename_i l hs;simp only[jU,oI]at h;subst h;have hC:=C t;rw[hk]at hC;obtain⟨k1,k2⟩:=akM hc hs;exact wp_load_row ng hC hu (by have:=uT (k:=z.length) (j:=off) KF;rwa [dB]at this) k2 k1
     ·cases h
    ·cases h
    ·rename_i k1 k2;split at h
     ·rename_i v hs;simp only[jU,oI]at h;subst h;obtain⟨u,q1,q2⟩:=hc.at (UP hs);refine yE ng (C t) ?_ ?_ hu (by have:=uU KF q1;rwa [dB]at this) (RA.unl q2)
      ·intro z tg fo hz;exact k1 z tg fo hz
      ·exact k2
     ·cases h
   ·cases h
  ·rename_i gt y off hx;obtain⟨b,o',cs,fp,hu,_,KF,hE,_,hd⟩:=hop hp hx;have hc:=akN hE hd;split at h
   ·rename_i z tg fo hk;split at h
    ·rename_i l hs;simp only[jU,oI]at h;subst h;have hC:=C t;rw[hk]at hC;obtain⟨k1,k2⟩:=akM hc hs;exact wp_load_row ng hC hu (uT KF) k2 k1
    ·cases h
   ·cases h
   ·rename_i k1 k2;split at h
    ·rename_i v hs;simp only[jU,oI]at h;subst h;obtain⟨u,q1,q2⟩:=hc.at (UP hs);refine yE ng (C t) ?_ ?_ hu (uU KF q1) q2
     ·intro z tg fo hz;exact k1 z tg fo hz
     ·exact k2
    ·cases h
  ·rename_i n gt y off hx;obtain⟨⟨tA,lA,hl⟩,b,o',cs,fp,hu,hb,KF,hE,hd⟩:=hop hp hx;have hR:=reads gt hE;split at h
   ·rename_i z tg fo hk;split at h
    ·rename_i l hs;simp only[jU,oI]at h;subst h;have hC:=C t;rw[hk]at hC;obtain⟨f',r1,r2,r3,r4⟩:=fH.sub hR hs;exact wp_load_row ng hC hu (uT KF) r4 (ad9 hl r1 (r2.nodup hd.1) (fun x hx=>hd.2.1 x (r2.subset hx)))
    ·cases h
   ·cases h
   ·rename_i k1 k2;split at h
    ·rename_i v hs;simp only[jU,oI]at h;subst h;obtain⟨u,f',q1,q2,q3⟩:=fH.at hR hs;refine yE ng (C t) ?_ ?_ hu (uU KF q1) (UT hl q2 (q3.nodup hd.1) (fun x hx=>hd.2.1 x (q3.subset hx)) fI)
     ·intro z tg fo hz;exact k1 z tg fo hz
     ·exact k2
    ·cases h
  ·rename_i n i off hx;obtain⟨tA,lA,hlA,b,o',len,cap,hv1,hu⟩:=hop hp hx;split at h
   ·rename_i gt l hl;rw[hl]at hlA;simp only[oI,Obj.arr.injEq]at hlA;obtain⟨rfl,_⟩:=hlA;split at h
    ·rename_i z tg fo hk;split at h
     ·rename_i c hs;simp only[oI]at h;subst h;have hi:i<l.length:=hv _ (aV.2 rfl);obtain⟨b2,o2,cap2,cs,f,hv2,hb,KF,hE,hd⟩:=Pg g hl hi;rw[hv2]at hv1;simp only[eZ,oI,j6,and_true]at hv1;obtain⟨⟨rfl,rfl⟩,rfl,rfl⟩:=hv1;have hC:=C t;rw[hk]at hC;obtain⟨f',r1,r2,r3,r4⟩:=fH.sub (reads gt hE) hs;refine wp_load_row ng hC hu (uT KF) r4 (ad8 hl hi hv2 hb r1 ((r2.trans hd).nodup (RO.own (g.obj _ _ hl)).nodup) (fun x hx=>hd.subset (r2.subset hx)) (fun j v hj=> ?_) (uT KF));rw[r3,dH]at hj;split at hj
      ·rw[dc]at hj;rw[NY];exact hj
      ·cases hj
     ·cases h
    ·cases h
    ·rename_i k1 k2;split at h
     ·rename_i v hs;simp only[oI]at h;subst h;have hi:i<l.length:=hv _ (aV.2 rfl);obtain⟨b2,o2,cap2,cs,f,hv2,hb,KF,hE,hd⟩:=Pg g hl hi;rw[hv2]at hv1;simp only[eZ,oI,j6,and_true]at hv1;obtain⟨⟨rfl,rfl⟩,rfl,rfl⟩:=hv1;obtain⟨u,f',q1,q2,q3⟩:=fH.at (reads gt hE) hs;refine yE ng (C t) ?_ ?_ hu (uU KF q1) (UT hl q2 ((q3.trans hd).nodup (RO.own (g.obj _ _ hl)).nodup) (fun x hx=>hd.subset (q3.subset hx)) ?_)
      ·intro z tg fo hz;exact k1 z tg fo hz
      ·exact k2
      ·rintro i' off' hio;simp only[oI,pI]at hio;obtain⟨rfl,rfl⟩:=hio;exact⟨b2,o2,_,cap2,hi,hs,hv2,hb,uU KF q1⟩
     ·cases h
   ·cases h
  ·cases h
 |binOp op t x y t'=>
  simp only[quiet]at h;split at h
  ·rename_i k m k' m' h1 h2;split at h
   ·rename_i vc v hb;simp only[oI]at h;subst h;have hx:=(hop hp h1).lit;have hy:=(hop hp h2).lit;obtain⟨q1,q2⟩:=arE (P:=P) (w:=w) hb hv (t:=t) (X:=x) (Y:=y);refine iP (u:=v) ?_ ⟨rfl,q2⟩;unfold execOp;simp only[ng,hx,hy];rw[dS,q1];rfl
   ·cases h
  ·rename_i m m' h1 h2;split at h
   ·rename_i vc v hb;simp only[oI]at h;subst h;have hx:=(hop hp h1).lit;have hy:=(hop hp h2).lit;obtain⟨q1,q2⟩:=arG (P:=P) (w:=w) hb hv (t:=t) (X:=x) (Y:=y);refine iP (u:=v) ?_ ⟨rfl,q2⟩;unfold execOp;simp only[ng,hx,hy];rw[dS,q1];rfl
   ·cases h
  ·rename_i m m' h1 h2;have hx:=(hop hp h1).lit;have hy:=(hop hp h2).lit;have hC:=C t;split at h
   ·rename_i hk;rw[hk]at hC;simp only[jU,oI]at h;subst h;refine iP (u:= .bool (m==m')) ?_ ⟨rfl,rfl⟩;unfold execOp;simp only[ng,hx,hy];have he:(Op.equal t (.bool m) (.bool m')).run P w= .ok (m==m') w:=Io hC;simp[eqGuard,binOp,he]
   ·rename_i hk;rw[hk]at hC;simp only[jU,oI]at h;subst h;refine iP (u:= .bool (m !=m')) ?_ ⟨rfl,rfl⟩;unfold execOp;simp only[ng,hx,hy];have he:(Op.equal t (.bool m) (.bool m')).run P w= .ok (m==m') w:=Io hC;simp[eqGuard,binOp,he];cases m<;>cases m'<;>rfl
   ·cases h
  ·cases h
 |unOp op t x=>
  cases op with
  |not=>
   simp only[quiet]at h;split at h
   ·rename_i b hx;simp only[jU,oI]at h;subst h;have hx:=(hop hp hx).lit;refine iP (u:= .bool (!b)) ?_ ⟨rfl,rfl⟩;unfold execOp;simp[ng,hx,Op.unary]
   ·cases h
  |neg=>
   simp only[quiet]at h;split at h
   ·rename_i k n hx;simp only[jU,oI]at h;subst h;have hx:=(hop hp hx).lit;refine iP (u:= .int k (k.wrap (0-n))) ?_ ⟨rfl,rfl⟩;unfold execOp;simp[ng,hx,Op.unary,Op.intArith]
   ·cases h
  |_=>simp[quiet]at h
 |convert s t x=>
  simp only[quiet]at h;split at h
  ·rename_i k n k1 k2 hx hk1 hk2;simp only[jU,oI]at h;subst h;have hx:=(hop hp hx).lit;have c1:=C s;have c2:=C t;rw[hk1]at c1;rw[hk2]at c2;refine iP (u:= .int k2 (k2.wrap n)) ?_ ⟨rfl,rfl⟩;unfold execOp;simp[ng,hx,convert,run_underlying (show P.underlying s=_ from c1),run_underlying (show P.underlying t=_ from c2),Conv.intToInt]
  ·rename_i v g' e hx hk1 hk2;split at h
   ·rename_i l hk3 hl;simp only[jU,oI]at h;subst h;have c1:=C s;have c2:=C t;have c3:=C e;rw[hk1]at c1;rw[hk2]at c2;rw[hk3]at c3;have:=ahx g (hop hp hx) hl c1.1 c3 c2;refine iP (u:= .string (bG l)) ?_ ⟨rfl,rfl⟩;unfold execOp;simp only[ng,dS,this,cC,eu]
   ·cases h
  ·cases h
 |slice t x lo hi mx=>
  cases mx with
  |some mx=>
   cases lo with
   |some _=>simp[quiet]at h
   |none=>
    cases hi with
    |none=>simp[quiet]at h
    |some hi=>
     simp only[quiet]at h;split at h
     case h_2=>cases h
     rename_i gt e hk;have hC:=C t;rw[hk]at hC;split at h
     case h_2=>cases h
     rename_i n n1 n2 hx h1 h2;split at h
     case h_2=>cases h
     rename_i t' l hl;split at h
     case h_2=>cases h
     rename_i hkk;have hkk:=aG hkk;simp only[oI]at h;subst h;obtain⟨q0,q1,q2⟩:=hv _ (aV.2 rfl);obtain⟨hA,hu⟩:=hop hp hx;have hs:=RO.sl (g.obj n _ hl);rw[←show a.eval x=(env n).v from hu]at hs;obtain⟨oa,cap,hv1,hc,hm,h3⟩:=id hs;obtain⟨y1,k1,e1,e2⟩: ∃y k,some hi=some y∧a.eval y= .int k n1:=by
      rcases sG (hop hp) h1 with⟨h,_⟩|h
      ·cases h
      ·exact h
     obtain⟨y2,k2,e3,e4⟩: ∃y k,some mx=some y∧a.eval y= .int k n2:=by
      rcases sG (hop hp) h2 with⟨h,_⟩|h
      ·cases h
      ·exact h
     simp only[oI]at e1 e3;subst e1;subst e3;subst q1;rw[hv1]at hs;obtain⟨oK,r2,r3⟩:=axR hs (j:=n1.toNat) (q:=0*kk gt) aJ fI;have hrun:(execOp a.eval o).run P w= .ok (.value (.slice (if n1.toNat=0 then oa else oa.map (·.add (0*kk gt))) n1.toNat n1.toNat)) w:=by
      obtain⟨hun,hsz⟩:=hC;cases hq:P.info? e with
      |none=>simp[hq]at hsz
      |some inf=>
       have hsz':inf.size=kk gt:=by simpa[hq]using hsz
       have c1:n1≤(cap:Int):=by omega
       have c2: ¬max n1 0<n1:=by omega
       unfold execOp;simp[ng,hv1,e2,e4,c2,kX,xy,mS,nQ,asIntOf,run_underlying hun,sizeOf,typeInfo,hq,hsz',q0,c1]
     have hlt:(l.take n1.toNat).length=n1.toNat:=by rw[ct];omega
     exact iP hrun ⟨hA,⟨oK,r2,fun b hb=>bP (r3 b hb)⟩,fun _=>⟨_,by rw[hlt]⟩⟩
  |none=>
   simp only[quiet]at h;split at h
   ·rename_i gt e hk;have hC:=C t;rw[hk]at hC;split at h
    ·split at h
     ·rename_i n p' t' l n1 hx h1;simp only[oI]at h;subst h;have hlo:n1=(l.length:Int):=hv _ (aV.2 rfl);obtain⟨hA,⟨fp,⟨oa,cap,hu,hc,hm,h3⟩,hnd,hd⟩,_⟩:=hop hp hx;have hz:oa=none→cap=0:=by
       intro ho;rcases h3 with⟨_,_,h4⟩| ⟨b,off,eS,h4,_⟩
       ·exact h4
       ·rw[ho]at h4;cases h4
      obtain⟨oa',r1,r2⟩:=X1 (P:=P) (w:=w) ng hC hu hc (sG (hop hp) h1) hlo;refine iP r1 ⟨oa',cap-l.length,rfl,aY _,aJ,fun ho=> ?_⟩;rw[hz (r2 ho)];omega
     ·rename_i k n1 hx h1;simp only[oI]at h;subst h;have hlo:n1=(k:Int):=hv _ (aV.2 rfl);obtain⟨oa,cap,hu,hc,hm,hz⟩:=hop hp hx;obtain⟨oa',r1,r2⟩:=X1 (P:=P) (w:=w) ng hC hu hc (sG (hop hp) h1) hlo;refine iP r1 ⟨oa',cap-k,rfl,aY _,aJ,fun ho=> ?_⟩;rw[hz (r2 ho)];omega
     ·cases h
    split at h
    ·rename_i t' l n1 hx h1;split at h
     ·rename_i n2 h2;split at h
      ·rename_i hkk;have hkk:=aG hkk;simp only[oI]at h;subst h;obtain⟨q0,q1,q2⟩:=hv _ (aV.2 rfl);obtain⟨fp,hs,hd⟩:=hop hp hx;obtain⟨u',oK,r1,r2,r3⟩:=KC ng hC hkk hs (sG (hop hp) h1) (sG (hop hp) h2) q0 q1 q2;exact iP r1 ⟨oK,r2,fun b hb=>hd b (r3.subset hb)⟩
      ·cases h
     ·cases h
    ·rename_i n p' t' l n1 hx h1;split at h
     ·rename_i n2 h2;split at h
      ·rename_i hkk;have hkk:=aG hkk;simp only[oI]at h;subst h;obtain⟨q0,q1,q2⟩:=hv _ (aV.2 rfl);obtain⟨hA,⟨fp,hs,hnd,hd⟩,_⟩:=hop hp hx;obtain⟨u',oK,r1,r2,r3⟩:=KC ng hC hkk hs (sG (hop hp) h1) (sG (hop hp) h2) q0 q1 q2;exact iP r1 ⟨hA,⟨oK,r2,r3.nodup hnd,fun b hb=>hd b (r3.subset hb)⟩,by simp⟩
      ·cases h
     ·cases h
    ·rename_i n n1 hx h1;split at h
     ·rename_i t' l hl;split at h
      ·rename_i n2 h2;split at h
       ·rename_i hkk;have hkk:=aG hkk;simp only[oI]at h;subst h;obtain⟨q0,q1,q2⟩:=hv _ (aV.2 rfl);obtain⟨hA,hu⟩:=hop hp hx;have hs:=RO.sl (g.obj n _ hl);rw[←show a.eval x=(env n).v from hu]at hs;obtain⟨u',oK,r1,r2,r3⟩:=KC ng hC hkk hs (sG (hop hp) h1) (sG (hop hp) h2) q0 q1 q2;exact iP r1 ⟨hA,⟨oK,r2,r3.nodup (RO.own (g.obj n _ hl)).nodup,fun b hb=>r3.subset hb⟩,by simp⟩
       ·cases h
      ·cases h
     ·cases h
    ·rename_i oa len cap n1 hx h1;split at h
     ·rename_i n2 h2;simp only[oI]at h;subst h;obtain⟨q0,q1,q2,q3⟩:=hv _ (aV.2 rfl);obtain⟨hu,_⟩:=hop hp hx;exact iP (arH ng hC hu (sG (hop hp) h1) (sG (hop hp) h2) q0 q1 q2 q3) ⟨rfl,rfl⟩
     ·cases h
    ·cases h
   ·rename_i hk;have hC:=C t;rw[hk]at hC;split at h
    ·rename_i s n1 hx h1;split at h
     ·rename_i n2 h2;simp only[oI]at h;subst h;obtain⟨q0,q1,q2⟩:=hv _ (aV.2 rfl);exact UU ng hC (hop hp hx).lit (sG (hop hp) h1) (sG (hop hp) h2) q0 q1 q2
     ·cases h
    ·cases h
   ·cases h
 |makeFunc fn first captured=>
  cases fn with
  |func f=>
   simp only[quiet]at h;split at h
   ·rename_i x hf hc;split at h
    ·rename_i n hx;simp only[jU,oI]at h;subst h;obtain⟨hA,b,hb,hu⟩:=hop hp hx;have e1:first= #[]:=by cases first;simp_all
     have e2:captured= #[x]:=by cases captured;simp_all
     refine iP (u:= .func (.func f) #[] #[.pointer (some ⟨b,0,none⟩)]) ?_ ⟨hA,b,hb,rfl⟩;unfold execOp;simp[ng,Instr.makeFunc,e1,e2,hu]
    ·cases h
   ·cases h
  |_=>simp[quiet]at h
 |fieldAddr t x f=>
  simp only[quiet]at h;split at h
  ·rename_i z tg fo hk;have hC:=C t;rw[hk]at hC;split at h
   ·rename_i k hf';split at h
    ·rename_i n off hx;simp only[jU,oI]at h;subst h;obtain⟨hc,b,hb,hu⟩:=hop hp hx;exact wM ng hC hf' hu ⟨hc,b,hb,rfl⟩
    ·rename_i gt y off hx;simp only[jU,oI]at h;subst h;obtain⟨b,o',cs,fp,hu,k1⟩:=hop hp hx;exact wM ng hC hf' hu ⟨b,o',cs,fp,by rw[gC],k1⟩
    ·rename_i n i off hx;simp only[jU,oI]at h;subst h;obtain⟨t',l,hl,b,o',len,cap,hb,hu⟩:=hop hp hx;exact wM ng hC hf' hu ⟨t',l,hl,b,o',len,cap,hb,by rw[gC]⟩
    ·rename_i n gt y off hx;simp only[jU,oI]at h;subst h;obtain⟨hA,b,o',cs,fp,hu,k1,k2,k3,knd,k4,k5⟩:=hop hp hx;refine wM ng hC hf' hu ⟨hA,b,o',cs,fp,by rw[gC],k1,k2,k3,knd,k4,fun i o2 j hq=> ?_⟩;obtain⟨l,u0,b0,zm,len,cap,j1,j2,j3,j4,j5⟩:=k5 i o2 j hq;rw[hu]at j5;simp only[Value.pointer.injEq,oI,j6,and_true]at j5;obtain⟨rfl,j5⟩:=j5;exact⟨l,u0,b,zm,len,cap,j1,j2,j3,j4,by rw[j5,gC]⟩
    ·cases h
   ·cases h
  ·cases h
 |indexAddr t x i=>
  simp only[quiet]at h;split at h
  ·rename_i gt e hk;have hC:=C t;rw[hk]at hC;split at h
   ·rename_i t' l ik n hx hi;split at h
    ·rename_i hkk;have hkk:=aG hkk;simp only[oI]at h;subst h;obtain⟨h0,h1⟩:=hv _ (aV.2 rfl);have hx:=hop hp hx;have hi:=(hop hp hi).lit;obtain⟨b,off,len,cap,hu,hlt,hr⟩:=arD hx h0 h1;exact AS ng hC hu hi h0 hlt (by rw[hkk];exact hr)
    ·cases h
   ·rename_i m ik n hx hi;split at h
    ·rename_i t' l hl;split at h
     ·rename_i hkk;have hkk:=aG hkk;simp only[oI]at h;subst h;obtain⟨h0,h1⟩:=hv _ (aV.2 rfl);obtain⟨_,hu⟩:=hop hp hx;have hi:=(hop hp hi).lit;obtain⟨b,o',cap,cs,f,hs,_⟩:=Pg g hl (i:=n.toNat) aJ;exact AS ng hC (hu.trans hs) hi h0 h1 ⟨t',l,hl,b,o',_,cap,hs,by rw[hkk];simp⟩
     ·cases h
    ·cases h
   ·rename_i m p' t' l ik n hx hi;split at h
    ·rename_i hkk;have hkk:=aG hkk;simp only[oI]at h;subst h;obtain⟨h0,h1⟩:=hv _ (aV.2 rfl);have hx:=hop hp hx;have hi:=(hop hp hi).lit;obtain⟨b,off,len,cap,hu,hlt,hr⟩:=arI hx h0 h1;exact AS ng hC hu hi h0 hlt (by rw[hkk];exact hr)
    ·cases h
   ·cases h
  ·cases h
 |index t x i=>
  simp only[quiet]at h;split at h
  ·rename_i hk;have hC:=C t;rw[hk]at hC;split at h
   ·rename_i s k n hx hy;simp only[oI]at h;subst h;have hx:=(hop hp hx).lit;have hy:=(hop hp hy).lit;obtain⟨h0,h1⟩:0≤n∧n<(s.size:Int):=hv _ (aV.2 rfl);have hlt:n.toNat<s.size:=by omega
    have hgd:s.data.toList.getD n.toNat 0=s[n.toNat]:=by
     have h2:n.toNat<s.data.toList.length:=by rw[Array.length_toList];exact hlt
     rw[aq,az h2];simp[ByteArray.getElem_eq_getElem_data]
    refine iP (u:= .int .u8 ((s.data.toList.getD n.toNat 0).toNat:Int)) ?_ ⟨rfl,rfl⟩;unfold execOp;simp only[ng,hx,hy,dS,eu,run_index_string (P:=P) (w:=w) t s k n hC,dif_pos (And.intro h0 h1),cC,hgd]
   ·cases h
  ·cases h
 |makeSlice t x y=>
  simp only[quiet]at h;split at h
  ·rename_i gt e hk;have hC:=C t;rw[hk]at hC;split at h
   ·rename_i k1 n1 k2 n2 hx hy;simp only[oI]at h;subst h;have hE:Elt P ty gt e:=hv _ fI;have hab:n1=n2:=hv _ fI;have h0:0≤n1:=hv _ fI;obtain⟨h1,h2⟩:n1.toNat*vI gt≤140737488355328∧n1.toNat≤maxLen:=hv _ fI;subst hab;obtain⟨rfl,BY⟩:=hE;obtain⟨w',u,fp,r1,r2,r3⟩:=akU (P:=P) (w:=w) (a:=a) ng hC.1 BY (hop hp hx).lit (hop hp hy).lit h0 h1 h2;exact Te r1 r2 r3
   ·cases h
  ·cases h
 |buildSlice t len parts=>
  simp only[quiet]at h;split at h
  ·rename_i gt e hk;have hC:=C t;rw[hk]at hC;split at h
   ·split at h
    case h_2=>cases h
    rename_i x hlen hps;split at h
    case h_2=>cases h
    rename_i s hx;split at h
    case h_2=>cases h
    rename_i c n hc;split at h
    case h_2=>cases h
    rename_i vc y he hbig;simp only[oI]at h;subst h;have hE:Elt P ty gt e:=hv _ fI;obtain⟨rfl,BY⟩:=hE;have hs:=hop hp hx;obtain⟨tA,lA,fpE,hl,hri,hnd,hsub⟩:=aea g (abP g hs hc) hc;have hrd:=C7 gt he (fun q hq=>hv q OL) hri;have hlen:=aG hlen;subst hlen;have hO0:=RO.own (g.obj n _ hl);have hO:Own _ w fpE:=⟨hnd,fun b hb=>hO0.ge b (hsub b hb),fun b hb=>hO0.kind b (hsub b hb)⟩;have hfl:([fpE]:List (List Nat)).flatten=fpE:=by simp
    obtain⟨w',r1,r2,r3⟩:=E5 (P:=P) (w:=w) (a:=a) ng hC.1 BY (by rw[mH];exact bV hbig) (by rw[hps];rfl) (aY _) (xs:= [y]) (eS:= [fpE]) (by rw[hps];rfl) (by rw[hps];rfl) rfl
     (fun i x' f hx' hf=>by
      cases i with
      |zero=>simp at hx' hf;subst hx';subst hf;exact⟨(0,x),by rw[hps];rfl,hrd⟩
      |succ i=>simp at hx') (by rw[hfl];exact hO)
    rw[hfl]at r3;unfold nv;rw[r1];refine⟨_,env,rfl,tX.none r2,⟨tA,lA,hl⟩,w.heap.size,fpE,qN.sl r3,fun ho=> ?_,hnd,hsub⟩;have:=(g.ow ho).2;omega
   split at h
   ·rename_i vc xs hlen hbig hb;simp only[oI]at h;subst h;have hE:Elt P ty gt e:=hv _ fI;obtain⟨rfl,BY⟩:=hE;obtain⟨q1,q2,q3⟩:=Tf g hp hb (fun q hq=>hv q OL);have hfl:(ew xs.length ([]:List Nat)).flatten= []:=by simp
    obtain⟨w',r1,r2,r3⟩:=E5 (P:=P) (w:=w) (a:=a) ng hC.1 BY (bV hbig) (aG hlen) (aS _) (xs:=xs) (eS:=ew xs.length []) q1 q2 fI
     (fun i x f hx hf=>by
      obtain⟨p,h1,h2⟩:=q3 i x hx;rw[kW]at hf;split at hf
      ·simp only[oI]at hf;subst hf;exact⟨p,h1,h2⟩
      ·cases hf) (by rw[hfl];exact Own.nil _ _)
    exact Te r1 r2 r3
   ·cases h
  ·cases h
 |build t parts=>
  simp only[quiet]at h;split at h
  ·rename_i z tg fo hk;have hC:=C t;rw[hk]at hC;obtain⟨fs,hu,hi,h1,_,places,X7,hpl⟩:=hC;split at h
   ·rename_i c hb;simp only[jU,oI]at h;subst h;cases hq:P.info? t with
    |none=>simp[hq]at hi
    |some inf=>
     simp[hq]at hi;obtain⟨cs',h3,h4⟩:=X5 (st:=st) (zb:=zb) g hp (pl:=fun j=>places[j]?) hpl hb (Pe h1);refine iP (u:= .agg (gN cs')) ?_ ⟨cs',rfl,h4⟩;have hrun:=run_build (P:=P) w t (parts.map fun(q:Nat×Operand)=>(q.1,a.eval q.2)) (gN cs') (by
      unfold Program.built;rw[hq,hu];simp only[hi.2,X7];rw[qO];simpa[oP]using h3)
     unfold execOp;simp only[ng,dS,hrun,cC,eu]
   ·cases h
  ·cases h
 |nilCheck x=>
  simp only[quiet]at h;split at h
  ·rename_i n off hx;simp only[jU,oI]at h;subst h;obtain⟨hA,b,hb,hu⟩:=hop hp hx;refine iP (u:=a.eval x) ?_ ⟨hA,b,hb,hu⟩;unfold execOp;simp[ng,hu]
  ·rename_i n i off hx;simp only[jU,oI]at h;subst h;obtain⟨t,l,hl,b,o',len,cap,hb,hu⟩:=hop hp hx;refine iP (u:=a.eval x) ?_ ⟨t,l,hl,b,o',len,cap,hb,hu⟩;unfold execOp;simp[ng,hu]
  ·cases h
 |extract x i=>
  cases x with
  |tmp t=>
   simp only[quiet]at h;split at h
   ·rename_i l hl;split at h
    ·rename_i x hx;simp only[jU,oI]at h;subst h;obtain⟨us,hu,uI⟩:=g.slot t _ hl;obtain⟨u,k1,k2⟩:=uI.at hx;refine iP ?_ k2;unfold execOp;have hu':a.eval (.tmp t)= .tuple us.toArray:=hu;simp[ng,hu',Instr.extract,k1]
    ·cases h
   ·cases h
  |_=>simp[quiet]at h
 |call c=>
  obtain⟨callee,xs,ts⟩:=c;cases callee with
  |value x=>
   cases x with
   |func f=>
    simp only[quiet]at h;split at h
    ·rename_i as c h1 h2;simp only[oI]at h;obtain⟨own,rs⟩:=c;have hvc:out.vc= [Sound ty P f as rs]:=by
      rw[←h];unfold outs;dsimp only
      (repeat' split)<;>rfl
     exact ad3 ng rfl (hv _ (by rw[hvc];simp)) hA g (UO g hp h1) h hn
    ·cases h
   |tmp x=>
    simp only[quiet]at h;split at h
    ·rename_i v hx;split at h
     ·rename_i f hfn;split at h
      ·rename_i as c h1 h2;simp only[oI]at h;obtain⟨own,rs⟩:=c;have hvc:out.vc= [Sound ty P f as rs]:=by
        rw[←h];unfold outs;dsimp only
        (repeat' split)<;>rfl
       exact ad3 ng (ad6 (hop hp hx) hfn) (hv _ (by rw[hvc];simp)) hA g (UO g hp h1) h hn
      ·cases h
     ·cases h
    ·cases h
   |_=>simp[quiet]at h
  |builtin b=>
   cases b with
   |append=>
    simp only[quiet]at h;split at h
    case h_2=>cases h
    rename_i x y t1 t2 hkey hxl htl;obtain rfl:xs= #[x,y]:=by cases xs;simp_all
    obtain rfl:ts= #[t1,t2]:=by cases ts;simp_all
    split at h
    case h_2=>cases h
    rename_i gt e htt hk;have htt:=aG htt;subst htt;split at h
    case h_2=>cases h
    rename_i n t l n2 pq t' l' hx hy;split at h
    case h_2=>cases h
    rename_i la lb hnn hca hcb;have hnn:=aG hnn;subst hnn;simp only[oI]at h;subst h;obtain⟨ea,rfl⟩:=kq hca;subst ea;obtain⟨eb,rfl⟩:=kq hcb;subst eb;have hE:Elt P ty t' e:=hv _ fI;obtain⟨b1,b2⟩:(l.length+l'.length)*vI t'≤140737488355328∧l.length+l'.length≤maxLen:=hv _ fI;obtain⟨rfl,BY⟩:=hE;have hC:=C t1;rw[hk]at hC;obtain⟨hA1,⟨fp,hs,hsub⟩,hcap⟩:=hop hp hx;obtain⟨hA2,⟨fp2,hs2,hnd,aCE⟩,_⟩:=hop hp hy;obtain⟨oa,hu⟩:=hcap rfl;obtain⟨olds,fx,n1,n2,n3,n4,n5,_⟩:=Im (ko t') (oc t') hs;obtain⟨news,fy,m1,m2,m3,m4,m5,_⟩:=Im (ko t') (oc t') hs2;rw[hu]at n1;obtain⟨v',w',hrun,hres⟩:=arK (ty':=o.type) hC.1 BY (xm t') (oc t') n1 n3 m1 m3 (arJ (ko t') (oc t') m2 m3 m4) b2 b1;have key:Below w.heap.size w w'∧RA w' st.hp env (.mix n false t' (l++l')) v':=by
     rcases hres with⟨h0,rfl,rfl⟩| ⟨hrow,hgr⟩
     ·have e0:l'= []:=ck h0;subst e0;refine⟨jH _ _,hA1,⟨fp,?_,hsub⟩,fun hh=>by cases hh⟩;rw[cW, ←hu];exact hs
     ·have Ng:Below w.heap.size w w':=⟨hgr.os,hgr.tape,hgr.output,hgr.size,fun b hb=>hgr.block b hb (fun h=>by cases h)⟩;have hkk:=oc t';refine⟨Ng,hA1,⟨_,axS (l:=l++l') (eS:=fx++fy) (by rw[aQ];exact hrow) (by rw[aQ,aQ,n2,m2]) (fun i x f hx hf=> ?_),fun b hb=> ?_⟩,fun hh=>by cases hh⟩
      ·refine(ko t').below ?_ Ng;by_cases hi:i<l.length
       ·rw[dQ hi]at hx;rw[dQ aJ]at hf;have h1:i*kk t'+kk t'≤olds.length:=by
         have:=cG (kk t') (show i+1≤l.length by omega);rw[cM]at this;omega
        rw[List.drop_append_of_le_length aJ,List.take_append_of_le_length ag4];exact n4 i x f hx hf
       ·rw[dm aJ]at hx;rw[dm aJ,n2]at hf;have h1:i*kk t'=olds.length+(i-l.length)*kk t':=by
         rw[n3, ←cM];congr 1;omega
        rw[h1,vM];have h2:olds.drop (olds.length+(i-l.length)*kk t')= []:=lQ aJ;rw[h2,eM,Nat.add_sub_cancel_left];exact m4 _ x f hx hf
      ·rcases bg.1 hb with hb|hb
       ·refine bw fun ho=> ?_;have h1:=(g.ow ho).2;have h2:=(hrow.lt b Uz).1;omega
       ·rw[List.flatten_append]at hb;rcases bg.1 hb with hb|hb
        ·exact hsub b (n5.subset hb)
        ·exact bP (aCE b (m5.subset hb))
    unfold nv execOp;simp only[ng,resolve,invoke,builtin,dS,eu,cC,vL,cg,List.map_nil,hu,hrun];exact⟨v',env,rfl,tX.none key.1,key.2⟩
   |max=>
    simp only[quiet]at h;split at h
    ·rename_i k x r hxs;split at h
     ·rename_i y hy;simp only[jU,oI]at h;subst h;have he:=Ph g hp hxs;refine iP (u:= .int k y) ?_ ⟨rfl,rfl⟩;have hf:=Pj (P:=P) (w:=w) (f:=Builtin.max2) (F:=RY) (fun k x y=>rfl) hy;unfold execOp;simp[ng,resolve,invoke,builtin,Builtin.max_,he,hf]
     ·cases h
    ·cases h
   |min=>
    simp only[quiet]at h;split at h
    ·rename_i k x r hxs;split at h
     ·rename_i y hy;simp only[jU,oI]at h;subst h;have he:=Ph g hp hxs;refine iP (u:= .int k y) ?_ ⟨rfl,rfl⟩;have hf:=Pj (P:=P) (w:=w) (f:=Builtin.min2) (F:=lW) (fun k x y=>rfl) hy;unfold execOp;simp[ng,resolve,invoke,builtin,Builtin.min_,he,hf]
     ·cases h
    ·cases h
   |len=>
    simp only[quiet]at h;split at h
    ·rename_i x t hxl htl;obtain rfl:xs= #[x]:=by cases xs;simp_all
     obtain rfl:ts= #[t]:=by cases ts;simp_all
     split at h
     ·rename_i v hx;split at h
      ·rename_i n hn';simp only[jU,oI]at h;subst h;have hr:=hop hp hx;have hC:=C t;cases v with
       |sl t' l=>
        simp only[lenOf]at hn';split at hn'
        ·rename_i g' e' hk;simp only[oI]at hn';subst hn';rw[hk]at hC;obtain⟨fp,⟨oa,cap,hu,_⟩,_⟩:=hr;exact O8 rfl ng hC.1 hu (bP ⟨_,oa,cap,l.length,rfl,rfl,rfl⟩)
        ·cases hn'
       |own m=>
        simp only[lenOf]at hn';split at hn'
        ·rename_i g' e' hk;rw[hk]at hC;split at hn'
         ·rename_i t' l hl;simp only[oI]at hn';subst hn';obtain⟨_,hu⟩:=hr;obtain⟨oa,cap,hs,_⟩:=RO.sl (g.obj m _ hl);exact O8 rfl ng hC.1 (hu.trans hs) (bP ⟨_,oa,cap,l.length,rfl,rfl,rfl⟩)
         ·cases hn'
        ·cases hn'
       |vw m p' t' l=>
        simp only[lenOf]at hn';split at hn'
        ·rename_i g' e' hk;simp only[oI]at hn';subst hn';rw[hk]at hC;obtain⟨_,⟨fp,⟨oa,cap,hu,_⟩,_⟩,_⟩:=hr;exact O8 rfl ng hC.1 hu (bP ⟨_,oa,cap,l.length,rfl,rfl,rfl⟩)
        ·cases hn'
       |lit v=>
        have hu:=(show mG w st.hp env (.a (.lit v)) _ from hr).lit;simp only[lenOf]at hn';split at hn'
        ·rename_i heq;cases heq
        ·rename_i heq;cases heq
        ·rename_i heq;cases heq
        ·rename_i heq;simp only[V.lit.injEq]at heq;subst heq;split at hn'
         ·rename_i g' e' hk;simp only[oI]at hn';subst hn';rw[hk]at hC;exact O8 rfl ng hC.1 hu (bP ⟨_,none,0,0,rfl,rfl,rfl⟩)
         ·cases hn'
        ·rename_i s heq;simp only[V.lit.injEq]at heq;subst heq;split at hn'
         ·rename_i hk;simp only[oI]at hn';subst hn';rw[hk]at hC;exact O8 rfl ng hC hu (bw ⟨_,rfl,rfl,rfl⟩)
         ·cases hn'
        ·cases hn'
       |_=>simp[lenOf]at hn'
      ·cases h
     ·cases h
    ·cases h
   |_=>simp[quiet]at h
  |invoke _ _=>simp[quiet]at h
 |_=>simp[quiet]at h
end
end
section
variable{tmps:Array Value}{d:Nat}{u:Value}{env:Env}{x:Bool}{v:SV}{ty:Tag→Nat}
theorem sH{α:Type}{f:Nat×α→α}: ∀{l:List (Nat×α)} {s:Nat},look (l.map fun e=>(e.1,f e)) s=(look l s).map fun x=>f (s,x)
 | [],_=>rfl
 | (j,x)::r,s=>by
   by_cases h:s=j
   ·subst h;rw[cg,look_eq,look_eq];rfl
   ·rw[cg,cR h,cR h];exact sH
theorem Th{p:List (Nat×Bool)}(h:(p.any fun e=>bH e.1 d)=false):holds (tmps.setIfInBounds d u) p↔holds tmps p:=by
 have hne: ∀e,e∈p→d≠e.1:=by
  rintro e he rfl;rw[cq]at h;exact h e he fI
 constructor
 ·intro hh e he;have:=hh e he
  rwa [iF (hne e he)]at this
 ·intro hh e he;rw[iF (hne e he)];exact hh e he
theorem AR.put{w:World}{hp:Hp}{y:Value}{x:SV}(hm:x.mentions d=false)(h:AR w hp env tmps x y):AR w hp env (tmps.setIfInBounds d u) x y:=by
 cases x with
 |one x=>exact h
 |Gf l=>exact h
 |cond p x=>exact⟨fun hh=>h.1 ((Th hm).1 hh),fun hh=>h.2 fun k=>hh ((Th hm).2 k)⟩
theorem Good.aCG{zb:fG}{st:St}{w:World}(g:Good ty zb st tmps w env)(hd:d<tmps.size)(hv:AR w st.hp env tmps v u)(hm:v.mentions d=false)(f:SV→SV)(hf: ∀s y,look st.sl s=some y→f y= .one (.a .any)∨(f y=y∧y.mentions d=false)):
  Good ty zb ⟨st.n,(d,v)::st.sl.map fun e=>(e.1,f e.2),st.hp⟩ (tmps.setIfInBounds d u) w env:=by
 refine⟨g.obj,g.tN,fun s x hl=> ?_,g.dom,g.pins⟩;by_cases hs:s=d
 ·subst hs;have hl:look ((s,v)::_) s=some x:=hl;rw[look_eq]at hl;simp only[oI]at hl;subst hl;have:(tmps.setIfInBounds s u).getD s undef=u:=by
   rw[ak,Array.getElem?_setIfInBounds_self_of_lt hd];rfl
  rw[this];exact hv.put hm
 ·have hl:look ((d,v)::_) s=some x:=hl;rw[cR hs,sH (α:=SV) (f:=fun e:Nat×SV=>f e.2)]at hl;cases hq:look st.sl s with
  |none=>rw[hq]at hl;cases hl
  |some y=>
   rw[hq]at hl;simp only[eN,oI]at hl;subst hl;have hgd:(tmps.setIfInBounds d u).getD s undef=tmps.getD s undef:=by
    rw[ak,ak,iF (Ne.symm hs)]
   rw[hgd];show AR w st.hp env _ (f y) _
   rcases hf s y hq with h| ⟨h,hm'⟩
   ·rw[h];trivial
   ·rw[h];exact(g.slot s y hq).put hm'
theorem Good.put{zb:fG}{st:St}{w:World}(g:Good ty zb st tmps w env)(hd:d<tmps.size)(hv:AR w st.hp env tmps v u)(hm:v.mentions d=false):
  Good ty zb (st.put (some d) v) (tmps.setIfInBounds d u) w env:=by
 unfold St.put;dsimp only;split
 ·rename_i hno;have:=g.aCG hd hv hm id (fun s y hl=>bw ⟨rfl,by
   rw[cq]at hno;simpa using hno _ (jx hl)⟩)
  simpa using this
 ·refine g.aCG hd hv hm (SV.akA d) fun s y hl=> ?_;unfold SV.akA;split
  ·exact bP rfl
  ·rename_i hm';exact bw ⟨rfl,hm'⟩
theorem uV{zb:fG}{st:St}{a:Act}{w:World}(g:Good ty zb st a.tmps w env){dst:Option Nat}(hd: ∀d,dst=some d→d<a.tmps.size)(hv:AR w st.hp env a.tmps v u)(hm: ∀d,dst=some d→v.mentions d=false):
  Good ty zb (st.put dst v) (a.put dst u).tmps w env:=by
 cases dst with
 |none=>exact g
 |some d=>exact g.put (hd d rfl) hv (hm d rfl)
theorem nR(a:Act)(dst:Option Nat)(u:Value):(a.put dst u).tmps.size=a.tmps.size:=by
 cases dst<;>simp[Act.put]
theorem Dg(st:St)(d:Option Nat)(v:SV):(st.put d v).n=st.n:=by
 unfold St.put;split
 ·split<;>rfl
 ·rfl
theorem axW(st:St)(d:Option Nat)(v:SV):(st.put d v).hp=st.hp:=by
 unfold St.put;split
 ·split<;>rfl
 ·rfl
theorem put_defers(a:Act)(dst:Option Nat)(u:Value):(a.put dst u).defers=a.defers:=by
 cases dst<;>rfl
theorem AW{ops:Array Oper}{o:Oper}{j:Nat}(hg:o.guard=some (j,x)){q:Oper}(hj:ops[j]? =some q)(hd:q.dst=some d)(tmps:Array Value):
  j7 o (yielded ops tmps)=true↔tmps[d]? =some (.bool x):=by
 simp only[j7,hg,yielded,hj,Option.bind_some,hd];constructor
 ·intro h;have h:=eq_of_beq h;split at h
  ·rename_i b hb;simp at h;rw[hb,h]
  ·cases h
 ·intro h;rw[h];simp
theorem KG{zb:fG}{st:St}{w:World}(g:Good ty zb st tmps w env){p:List (Nat×Bool)}{b:Bool}(hl:look st.sl d=some (.cond p (.a (.lit (.bool b)))))(h:tmps[d]? =some (.bool x)):holds tmps p∧b=x:=by
 have hs:=g.slot d _ hl;rw[ak,h]at hs;by_cases hh:holds tmps p
 ·have:=(hs.1 hh).lit;simp at this;exact⟨hh,this.symm⟩
 ·have:=hs.2 hh;simp[undef]at this
theorem akX{zb:fG}{st:St}{w:World}(g:Good ty zb st tmps w env){b:Bool}(hl:look st.sl d=some (.one (.a (.lit (.bool b)))))(h:tmps[d]? =some (.bool x)):b=x:=by
 have hs:=g.slot d _ hl;rw[ak,h]at hs;have:=(show mG w st.hp env (.a (.lit (.bool b))) (.bool x)from hs).lit;simp at this;exact this.symm
theorem NZ{zb:fG}{st:St}{tmps:Array Value}{w:World}{env:Env}(g:Good ty zb st tmps w env): ∀{p:List (Nat×Bool)},holds tmps p→ ∀q,q∈hyps st p→q
 | [],_,q,hq=>by simp[hyps]at hq
 | (d,x)::r,h,q,hq=>by
   have h0:tmps[d]? =some (.bool x):=h (d,x) fI;have hr:holds tmps r:=fun e he=>h e (by simp[he]);simp only[hyps]at hq;split at hq
   ·rename_i b hl;rcases bh.1 hq with rfl|hq
    ·exact akX g hl h0
    ·exact NZ g hr q hq
   ·rename_i p' b hl;rcases bh.1 hq with rfl|hq
    ·exact(KG g hl h0).2
    ·exact NZ g hr q hq
   ·exact NZ g hr q hq
theorem aeb: ∀{hs:List Prop} {q:Prop},abu hs q→(∀h,h∈hs→h)→q
 | [],_,h,_=>h
 |h'::r,q,h,hh=>aeb (hs:=r) (h (hh h' fI)) fun x hx=>hh x aj3
section
variable{P:Program}{zb:fG}{st st':St}{a:Act}{w:World}{Q:Exit→Act→World→Prop}{o:Oper}
def oJ(P:Program)(ops:Array Oper)(o:Oper)(a:Act)(w:World)(K:Act→World→Prop)(Q:Exit→Act→World→Prop):Prop:=
 if j7 o (yielded ops a.tmps)then o.wp P a w K Q∨(o.asks P a w∧LetsOut Q)else K (a.put o.dst undef) w
theorem oQ{ops:Array Oper}(hg:o.guard=none){K:Act→World→Prop}(h:o.wp P a w K Q):oJ P ops o a w K Q:=by
 unfold oJ;rw[if_pos (by simp[j7,hg])];exact .inl h
theorem UX(iv:Inv ty zb st a w)(h:Ig st o.dst=true): ∀d,o.dst=some d→d<a.tmps.size:=by
 intro d hd;rw[hd]at h;rw[iv.size];exact bV h
theorem X8{Γ:Nat→TK}(C: ∀t,gO P t (Γ t)){iD:List (Nat×Nat)}{cr:List (Nat×CR)}{ops:List Oper}{vc:List Prop}{v2:SV}{os:Hp}(h:zJ Γ (Elt P ty) (Sound ty P) iD cr ops st o=some (vc,v2,os))(iv:Inv ty zb st a w)(hv: ∀q,q∈vc→q):
  oJ P ops.toArray o a w (fun a' w'=>Inv ty zb (St.put ⟨st.n,st.sl,os++st.hp⟩ o.dst v2) a' w') Q:=by
 obtain⟨env,g⟩:=iv.good;have hBz:=iv.kept.size;simp only[zJ]at h;split at h
 ·rename_i m hd _ tZ;have hdl:=UX iv hd;have hg:o.guard=none:=by
   cases hg:o.guard with
   |none=>rfl
   |some e=>
    obtain⟨j,x⟩:=e;exfalso;simp only[qh,hg]at tZ
    repeat' split at tZ
    all_goals simp at tZ
  split at h
  ·rename_i v1 v os hq;split at h
   ·rename_i hf hn;simp only[oI,pI]at h;obtain⟨rfl,rfl,rfl⟩:=h;refine oQ hg (uW ?_ (X6 (Q:=Q) C hq g (fun e he=>by simp at he) (iv.Nf.now iv.kept) hv hf hn));rintro a' w' ⟨u,env',rfl,hN,hr⟩;have g':=g.grow hBz hf hN;have hnm: ∀d,o.dst=some d→v.mentions d=false:=by
     intro d _;cases v with
     |one x=>rfl
     |Gf l=>rfl
     |cond p x=>
      exfalso;have: ∀(op:Op) (d m:Nat) (out:Out) (p:List (Nat×Bool)) (x:S1),quiet Γ (Elt P ty) (Sound ty P) cr st [] d m op=some out→out.v≠ .cond p x:=by
       intro op d m out p x hh;unfold quiet mvt at hh
       repeat' split at hh
       all_goals first
        | (cases hh;done)
        | (simp only[jU,oI]at hh;subst hh;intro e;cases e;done)
        | (simp only[oI]at hh;subst hh;unfold outs;(repeat' split)<;>(intro e;cases e))
      exact this _ _ _ _ p x hq rfl
    refine⟨by rw[nR,Dg];exact iv.size,by rw[put_defers];exact iv.defers,iv.kept.trans (qZ hN.below hBz),iv.Nf,env',uV g' hdl hr hnm⟩
   ·cases h
  ·cases h
 ·rename_i m e p hd _ tZ;have hdl:=UX iv hd;split at h
  ·rename_i hne;split at h
   ·rename_i v1 v hq;simp only[oI,pI]at h;obtain⟨rfl,rfl,rfl⟩:=h;have hmn: ∀d,o.dst=some d→(SV.cond (e::p) v).mentions d=false:=by
     intro d hdd;show((e::p).any fun e=>bH e.1 d)=false
     rw[cq]at hne ⊢;intro x hx hb;have:=aG hb;exact hne x hx (by rw[hdd,this];simp)
    have fin: ∀{u:Value} {w':World},Below w.heap.size w w'→tX (ty:=ty) w w' st.hp [] env env→AR w' st.hp env a.tmps (.cond (e::p) v) u→Inv ty zb (st.put o.dst (.cond (e::p) v)) (a.put o.dst u) w':=by
     intro u w' hb hN hr;have g':=g.grow (os:= []) hBz rfl hN;exact⟨by rw[nR,Dg];exact iv.size,by rw[put_defers];exact iv.defers,iv.kept.trans (qZ hb hBz),iv.Nf,env,uV g' hdl hr hmn⟩
    have key: ∃j x q d,o.guard=some (j,x)∧ops[j]? =some q∧q.dst=some d∧(d,x)∈e::p∧(a.tmps[d]? =some (.bool x)→holds a.tmps (e::p)):=by
     unfold qh at tZ;split at tZ
     ·simp at tZ
     ·rename_i j x hg;split at tZ
      ·rename_i q hj;split at tZ
       ·rename_i d hdq;split at tZ
        ·rename_i b hl;simp only[oI]at tZ;refine⟨j,x,q,d,hg,hj,hdq,by rw[←tZ];simp,fun hh=> ?_⟩;rw[←tZ];intro y hy;simp at hy;subst hy;exact hh
        ·rename_i p' b hl;simp only[oI]at tZ;refine⟨j,x,q,d,hg,hj,hdq,by rw[←tZ];simp,fun hh=> ?_⟩;rw[←tZ];intro y hy;rcases bh.1 hy with rfl|hy
         ·exact hh
         ·exact(KG g hl hh).1 y hy
        ·cases tZ
       ·cases tZ
      ·cases tZ
    obtain⟨j,x,q,d,hg,hj,hdq,hmem,aCH⟩:=key;have hw:=AW (ops:=ops.toArray) hg aj2 hdq a.tmps;unfold oJ;by_cases hb:a.tmps[d]? =some (.bool x)
    ·rw[if_pos (hw.2 hb)];have hp:=aCH hb;left;refine uW ?_ (X6 (Q:=Q) C hq g hp (iv.Nf.now iv.kept) (fun z hz=> ?_) rfl rfl)
     ·rintro a' w' ⟨u,env',rfl,hN,hr⟩;have he:env'=env:=funext fun n=>hN.old n rfl;subst he;exact fin hN.below hN ⟨fun _=>hr,fun hh=>absurd (fun y hy=>hp y hy) hh⟩
     ·exact aeb (hv _ (bQ.2 ⟨z,hz,rfl⟩)) (NZ g hp)
    ·rw[if_neg (fun hh=>hb (hw.1 hh))];exact fin (jH _ _) (tX.none (jH _ _)) ⟨fun hh=>absurd (hh (d,x) hmem) hb,fun _=>rfl⟩
   ·cases h
  ·cases h
 ·cases h
theorem akY{Γ:Nat→TK}(C: ∀t,gO P t (Γ t)){iD:List (Nat×Nat)}{cr:List (Nat×CR)}{ops:List Oper}{vc:List Prop}(h:akC Γ (Elt P ty) (Sound ty P) iD cr ops st o=some (vc,st'))(iv:Inv ty zb st a w)(hv: ∀q,q∈vc→q):
  oJ P ops.toArray o a w (fun a' w'=>Inv ty zb st' a' w') Q:=by
 unfold akC at h;split at h
 ·rename_i zM v os hq;simp only[oI,pI]at h;obtain⟨rfl,rfl⟩:=h;exact X8 C hq iv hv
 ·cases h
end
end
section
variable{v:V}{u:Value}{b:Nat}{ty:Tag→Nat}
def V.dead:V→V
 | .vw _ _ _ l=> .Nb l.length
 |_=> .any
def V.dJ(ks kv:List Nat)(v:V):V:=match v.name with
 |some m=>match ks.any (bH m)with
  |true=>v.dead
  |false=>match kv with
   | []=>v
   |kv=>match v.view with
    |some _=>match kv.any (bH m)with|true=>v.dead|false=>v
    |none=>v
 |none=>v
def S1.dJ(ks kv:List Nat):S1→S1
 | .a v=> .a (v.dJ ks kv)
 | .agg l=> .agg (l.map (V.dJ ks kv))
def SV.dJ(ks kv:List Nat):SV→SV
 | .one x=> .one (x.dJ ks kv)
 | .Gf l=> .Gf (l.map (S1.dJ ks kv))
 | .cond p x=> .cond p (x.dJ ks kv)
def BV.dJ(ks kv:List Nat):BV→BV
 | .of n=>match ks.any (bH n)||kv.any (bH n)with|true=> .gone|false=> .of n
 | .Kx (some (n,i,o))=>match ks.any (bH n)||kv.any (bH n)with|true=> .Kx none|false=> .Kx (some (n,i,o))
 |s=>s
def Obj.dJ(ks kv:List Nat):Obj→Obj
 | .box c=> .box (c.map (V.dJ ks kv))
 | .arr t l=> .arr t l
 | .pQ t l s=> .pQ t l (s.dJ ks kv)
def gr(ks kv:List Nat)(hp:Hp):Hp:=(hp.filter fun e=> !ks.any (bH e.1)).map fun e=>(e.1,e.2.dJ ks kv)
def pinned(ks:List Nat):Bool:=ks.any soft
theorem V.abR{ks kv:List Nat}:(v.dJ ks kv).Db (fun n=>n∉ks) (fun n=>n∉ks∧n∉kv):=by
 have hx: ∀{l:List Nat} {m:Nat},(l.any (bH m))=false→m∉l:=by
  intro l m h hm;rw[cq]at h;exact h m hm fI
 have avg: ∀x:V,x.dead.Db (fun n=>n∉ks) (fun n=>n∉ks∧n∉kv):=by
  intro x;cases x<;>exact⟨fun _ h=>by simp[V.dead,V.name]at h,fun _ h=>by simp[V.dead,V.view]at h⟩
 unfold V.dJ;split
 ·rename_i m hm;split
  ·exact avg v
  ·rename_i hk;have hk:=hx hk;have hn: ∀n,v.name=some n→n∉ks:=by
    intro n h;rw[hm]at h;simp only[oI]at h;subst h;exact hk
   split
   ·exact⟨hn,fun n h=>⟨hn n (V.zK h),by simp⟩⟩
   ·split
    ·split
     ·exact avg v
     ·rename_i hv;have hv:=hx hv;refine⟨hn,fun n h=>⟨hn n (V.zK h),?_⟩⟩;have:=V.zK h;rw[hm]at this;simp only[oI]at this;subst this;exact hv
    ·rename_i hnv;exact⟨hn,fun n h=>by rw[hnv]at h;cases h⟩
 ·rename_i hm;refine⟨fun n h=> ?_,fun n h=> ?_⟩
  ·rw[hm]at h;cases h
  ·have:=V.zK h;rw[hm]at this;cases this
theorem RA.dead{w:World}{hp:Hp}{env:Env}(h:RA w hp env v u):RA w hp env v.dead u:=by
 cases v with
 |vw n p t l=>
  obtain⟨_,⟨fp,⟨oa,cap,rfl,hc,hm,h3⟩,_⟩,_⟩:=h;refine⟨oa,cap,rfl,hc,hm,fun ho=> ?_⟩;rcases h3 with⟨_,_,h4⟩| ⟨b,off,eS,h4,_⟩
  ·exact h4
  ·rw[ho]at h4;cases h4
 |_=>trivial
theorem RA.dJ{w:World}{hp:Hp}{env:Env}{ks kv:List Nat}(h:RA w hp env v u):RA w hp env (v.dJ ks kv) u:=by
 unfold V.dJ
 repeat' split
 all_goals first
  |exact h
  |exact h.dead
  |trivial
abbrev AX(ks kv:List Nat)(w:World)(hp:Hp)(env:Env)(w':World)(hp':Hp)(env':Env):Prop:=Step (fun n=>n∉ks) (fun n=>n∉ks∧n∉kv) w hp env w' hp' env'
section
variable{ks kv:List Nat}{w w':World}{hp hp':Hp}{env env':Env}
theorem BE.oR(s:AX ks kv w hp env w' hp' env'){r:BV}{t:Tag}{x:T t}(h:BE w hp env r t x u):BE w' hp' env' (r.dJ ks kv) t x u:=by
 cases r with
 |gone=>trivial
 |mp=>trivial
 |bag u=>trivial
 |Kx p=>
  have: ∃q,BV.dJ ks kv (.Kx p)= .Kx q:=by
   unfold BV.dJ;split
   ·rename_i e;cases e
   ·split
    ·exact⟨_,rfl⟩
    ·exact⟨_,rfl⟩
   ·exact⟨_,rfl⟩
  obtain⟨q,hq⟩:=this;rw[hq];trivial
 |xp=>exact BE.step s (r:= .xp) (fun n hn=>by cases hn) h
 |of n=>
  unfold BV.dJ;dsimp only;split
  ·trivial
  ·rename_i hk;rw[jI,cq,cq]at hk;refine BE.step s (r:= .of n) (fun m hm=> ?_) h;simp only[BV.name,oI]at hm;subst hm;exact⟨fun hm=>hk.1 n hm fI,fun hm=>hk.2 n hm fI⟩
theorem RA.oR(s:AX ks kv w hp env w' hp' env')(h:RA w hp env v u):RA w' hp' env' (v.dJ ks kv) u:=
 RA.step s V.abR h.dJ
theorem dG.map{α β γ:Type}{R:α→β→Prop}{R':γ→β→Prop}{f:α→γ}: ∀{as:List α} {bs:List β},(∀a b,R a b→R' (f a) b)→dG R as bs→dG R' (as.map f) bs
 | [],[],_,_=>trivial
 |a::as,b::bs,h,⟨h1,h2⟩=>⟨h a b h1,dG.map h h2⟩
 | [],_::_,_,h=>h.elim
 |_::_,[],_,h=>h.elim
theorem mG.oR(s:AX ks kv w hp env w' hp' env'){x:S1}(h:mG w hp env x u):mG w' hp' env' (x.dJ ks kv) u:=by
 cases x with
 |a v=>exact RA.oR s h
 |agg l=>obtain⟨cs,hu,hl⟩:=h;exact⟨cs,hu,hl.map fun a b hr=>RA.oR s hr⟩
theorem AR.oR(s:AX ks kv w hp env w' hp' env'){tmps:Array Value}{x:SV}(h:AR w hp env tmps x u):AR w' hp' env' tmps (x.dJ ks kv) u:=by
 cases x with
 |one x=>exact mG.oR s h
 |Gf l=>obtain⟨us,hu,hl⟩:=h;exact⟨us,hu,hl.map fun a b hr=>mG.oR s hr⟩
 |cond p x=>exact⟨fun hh=>mG.oR s (h.1 hh),h.2⟩
theorem Good.oR{zb:fG}{st:St}{tmps:Array Value}(g:Good ty zb st tmps w env)(s:AX ks kv w st.hp env w' hp' env')
  (ho: ∀n o,look hp' n=some o→RO ty w' hp' env' n o (env' n))(hd: ∀n m o o',n≠m→look hp' n=some o→look hp' m=some o'→ ∀b,b∈(env' n).fp→b∉(env' m).fp)
  (hm: ∀n o,look hp' n=some o→ ∀b,b∈(env' n).fp→b∈zb.L∨zb.w.heap.size≤b)(hp: ∀n,tG n=true→(env' n).v=(zb.pv n).v∧ ∀b,b∈(env' n).fp→b∈(zb.pv n).fp):
  Good ty zb ⟨st.n,st.sl.map fun e=>(e.1,e.2.dJ ks kv),hp'⟩ tmps w' env':=by
 refine⟨ho,hd,fun t v hl=> ?_,hm,hp⟩;have hl:look (st.sl.map fun e=>(e.1,e.2.dJ ks kv)) t=some v:=hl;rw[sH (α:=SV) (f:=fun e:Nat×SV=>e.2.dJ ks kv)]at hl;cases hq:look st.sl t with
 |none=>rw[hq]at hl;cases hl
 |some y=>
  rw[hq]at hl;simp only[eN,oI]at hl;subst hl;exact AR.oR s (g.slot t y hq)
end
theorem fB{ks kv:List Nat}{hp:Hp}{n:Nat}:look (gr ks kv hp) n=if n∈ks then none else(look hp n).map (Obj.dJ ks kv):=by
 unfold gr;rw[sH (α:=Obj) (f:=fun e:Nat×Obj=>e.2.dJ ks kv)];have:look (hp.filter fun e=> !ks.any (bH e.1)) n=if n∈ks then none else look hp n:=by
  induction hp with
  |nil=>simp[look]
  |cons e r ih=>
   obtain⟨j,x⟩:=e;by_cases hj:j∈ks
   ·have:(ks.any (bH j))=true:=fF.2 ⟨j,hj,by simp⟩;rw[ez aj4,ih];by_cases hn:n∈ks
    ·simp[hn]
    ·have:n≠j:=by rintro rfl;exact hn hj
     rw[cR this]
   ·have:(ks.any (bH j))=false:=cq.2 fun y hy hb=>hj (by have:=aG hb;rw[this];exact hy);rw[dV aj4];by_cases hn:n=j
    ·subst hn;rw[look_eq,look_eq,if_neg hj]
    ·rw[cR hn,cR hn,ih]
 rw[this];split<;>rfl
theorem zN: ∀{l:List V},Da l=true→ ∀v,v∈l→v≠ .any
 |x::r,h,v,hv=>by
  cases x with
  |any=>simp[Da]at h
  |_=>
   rcases bh.1 hv with rfl|hv
   ·exact fun e=>by cases e
   ·exact zN (l:=r) (by simpa[Da]using h) v hv
def UY(Γ:Nat→TK)(st:St):Op→Option St
 | .store t x y=>match oH st [] x,opr st [] y with
   |some (.a (.ptr n off)),some v=>match look st.hp n with
    |some (.box c)=>match Γ t,v with
     | .st z _ _, .agg l=>match bH l.length z.length&&Da l,spl c off l with
       |true,some c'=>some ⟨st.n,st.sl,(n, .box c')::st.hp⟩
       |_,_=>none
     | .st _ _ _, .a _=>none
     | .other,_=>none
     |_, .a .any=>none
     |_, .a v=>match spl c off [v]with
      |some c'=>some ⟨st.n,st.sl,(n, .box c')::st.hp⟩
      |none=>none
     |_,_=>none
    |_=>none
   |_,_=>none
 |_=>none
section
variable{P:Program}{zb:fG}{st st':St}{a:Act}{w:World}{env:Env}{Q:Exit→Act→World→Prop}{o:Oper}
theorem RA.one(g:Good ty zb st a.tmps w env)(h:RA w st.hp env v u)(hv:v≠ .any):u.oneCell'=true:=by
 cases v with
 |any=>exact absurd rfl hv
 |lit x=>obtain⟨rfl,h1⟩:=h;exact h1
 |sl t l=>obtain⟨fp,⟨oa,cap,rfl,_⟩,_⟩:=h;rfl
 |own n=>
  obtain⟨⟨t,l,hl⟩,rfl⟩:=h;obtain⟨oa,cap,h,_⟩:=RO.sl (g.obj n _ hl);rw[h];rfl
 |ptr n off=>obtain⟨_,b,_,rfl⟩:=h;rfl
 |S3 f n=>obtain⟨_,b,_,rfl⟩:=h;rfl
 |Nb k=>obtain⟨oa,cap,rfl,_⟩:=h;rfl
 |raw x=>obtain⟨rfl,h1⟩:=h;exact h1
 |uS v t l=>obtain⟨_,fp,⟨oa,cap,rfl,_⟩,_⟩:=h;rfl
 |Cm n i off=>obtain⟨t,l,_,b,o,len,cap,_,rfl⟩:=h;rfl
 |ip t x off=>obtain⟨b,o,cs,fp,rfl,_⟩:=h;rfl
 |vw n p t l=>obtain⟨_,⟨fp,⟨oa,cap,rfl,_⟩,_⟩,_⟩:=h;rfl
 |Xc n t l=>obtain⟨_,b,fp,⟨oa,cap,rfl,_⟩,_⟩:=h;rfl
 |mix n c t l=>obtain⟨_,⟨fp,⟨oa,cap,rfl,_⟩,_⟩,_⟩:=h;rfl
 |RX n=>
  obtain⟨⟨t,l,s,hl⟩,rfl⟩:=h;rcases RO.RZ (g.obj n _ hl)with⟨_,r,lx,_,h,_⟩| ⟨_,_,hv,_,_,⟨oa,cap,h,_⟩,_⟩| ⟨_,_,_,⟨oa,m,cap,h⟩,_⟩| ⟨_,_,us,hB,_⟩
  ·rw[h];rfl
  ·rw[hv,h];rfl
  ·rw[h];rfl
  ·obtain⟨oa,cap,h,_⟩:=hB.sl;rw[h];rfl
 |Xb n p t x off=>obtain⟨_,b,o,cs,fp,rfl,_⟩:=h;rfl
theorem E6(g:Good ty zb st a.tmps w env): ∀{l:List V} {us:List Value},dG (RA w st.hp env) l us→(∀v,v∈l→v≠ .any)→ ∀u,u∈us→u.oneCell'=true
 |v::l,u::us,⟨h1,h2⟩,hn,x,hx=>by
  rcases bh.1 hx with rfl|hx
  ·exact RA.one g h1 (hn v fI)
  ·exact E6 g h2 (fun y hy=>hn y aj5) x hx
 | [],_::_,h,_,_,_=>h.elim
theorem Pk(g:Good ty zb st a.tmps w env){n:Nat}{c c':List V}(hl:look st.hp n=some (.box c)){cs us:List Value}{e:TypeId}{off:Nat}(Tg:env n=⟨.pointer (some ⟨b,0,none⟩),[b]⟩)(hh:w.heap[b]? =some (.cells (gN cs) e (0,0)))
  (hlen:off+us.length≤cs.length)(hc:dG (RA w st.hp env) c' (cs.take off++(us++cs.drop (off+us.length)))):
  Good ty zb ⟨st.n,st.sl,(n, .box c')::st.hp⟩ a.tmps (w.setCells b off us) env:=by
 have hk: ∀x,x≠b→(w.setCells b off us).heap[x]? =w.heap[x]? :=fun x hx=>gh b us off w x hx;have hlk: ∀m o,look ((n,Obj.box c')::st.hp) m=some o→(m=n∧o= .box c')∨(m≠n∧look st.hp m=some o):=by
  intro m o hm;by_cases hmn:m=n
  ·subst hmn;rw[look_eq]at hm;simp only[oI]at hm;exact bP ⟨rfl,hm.symm⟩
  ·rw[cR hmn]at hm;exact bw ⟨hmn,hm⟩
 have how:Ow st.hp env b:=⟨n,_,hl,by rw[Tg];simp⟩;have s:Step (fun _=>True) (fun _=>True) w st.hp env (w.setCells b off us) ((n, .box c')::st.hp) env:=by
  refine⟨fun x _ hx=>hk x (fun e=>hx (e▸how)),?_,?_,?_⟩
  ·rintro x _ ⟨m,o,h1,h2⟩;rcases hlk m o h1 with⟨rfl,rfl⟩| ⟨_,h1⟩
   ·exact⟨m,_,hl,h2⟩
   ·exact⟨m,o,h1,h2⟩
  ·intro m o _ h1;by_cases hmn:m=n
   ·subst hmn;rw[hl]at h1;simp only[oI]at h1;subst h1;exact⟨_,look_eq,trivial,rfl⟩
   ·exact⟨o,by rw[cR hmn];exact h1,by cases o<;>simp[Obj.like],rfl⟩
  ·intro m t l _ h1;have hmn:m≠n:=by rintro rfl;rw[hl]at h1;cases h1
   refine⟨by rw[cR hmn];exact h1,rfl,fun x hx=>hk x ?_⟩;rintro rfl;exact g.tN m n _ _ hmn h1 hl x hx (by rw[Tg];simp)
 refine⟨fun m o hm=> ?_,fun m m' o o' hne h1 h2=> ?_,fun t v hv=>AR.step s (fun v _=>v.lp) (g.slot t v hv),fun m o hm b hb=> ?_,g.pins⟩
 ·rcases hlk m o hm with⟨rfl,rfl⟩| ⟨hmn,hm⟩
  ·refine⟨b,_,e,Tg,?_,hc.mono fun v u _ h=>RA.step s v.lp h⟩;rw[OX hh,yF us cs off hlen]
  ·have hro:=g.obj m o hm;refine hro.step s (Obj.lp _) fun x hx=>hk x ?_;rintro rfl;exact g.tN m n o _ hmn hm hl x hx (by rw[Tg];simp)
 ·rcases hlk m o h1 with⟨e1,e2⟩| ⟨_,k1⟩<;>rcases hlk m' o' h2 with⟨e3,e4⟩| ⟨_,k2⟩
  ·exact absurd (e1.trans e3.symm) hne
  ·exact g.tN m m' _ _ hne (e1▸hl) k2
  ·exact g.tN m m' _ _ hne k1 (e3▸hl)
  ·exact g.tN m m' _ _ hne k1 k2
 ·rcases hlk m o hm with⟨e1,_⟩| ⟨_,k1⟩
  ·subst e1;exact g.dom m _ hl b hb
  ·exact g.dom m o k1 b hb
theorem Pm(hb:b∈zb.L∨zb.w.heap.size≤b){c:Array Value}{e:TypeId}(hh:w.heap[b]? =some (.cells c e (0,0)))(off:Nat)(us:List Value):Kept zb w (w.setCells b off us):=by
 have h0:=below_setCells (B:=0) (w:=w) (jH 0 w) (aY b) off us;refine⟨h0.os,h0.tape,h0.output,h0.size,fun x hx hn=>gh b us off w x ?_,fun x c' e' hx=> ?_⟩
 ·rintro rfl;rcases hb with h|h
  ·exact hn h
  ·omega
 ·by_cases hxb:x=b
  ·subst hxb;rw[hh]at hx;simp only[oI,Go.Obj.cells.injEq,and_true]at hx;obtain⟨rfl,rfl⟩:=hx;obtain⟨c2,h1,h2⟩:=j0 x e us off w c hh;exact⟨c2,h1,h2⟩
  ·exact⟨c',by rw[gh b us off w x hxb];exact hx,rfl⟩
theorem AY{t off:Nat}{v:Value}{us:List Value}(hv:v.cells=us.toArray)(ht:w.there b off us.length)(hi:(P.info? t).map (·.size)=some us.length)(h1: ∀u,u∈us→u.oneCell'=true):
  (storeVar t ⟨b,off,none⟩ v).run P w= .ok () (w.setCells b off us):=by
 have:=run_storeVar_mid (P:=P) w b off t us.toArray (by simpa using ht) (by simpa using hi) (all_oneCell_toArray h1);unfold storeVar at this ⊢;rw[hv];exact this
theorem ahz{Γ:Nat→TK}(C: ∀t,gO P t (Γ t))(Z: ∀t,(∀z tg fo,Γ t≠ .st z tg fo)→Γ t≠ .other→(P.info? t).map (·.size)=some 1)(h:UY Γ st o.op=some st')(g:Good ty zb st a.tmps w env):
  o.wp P a w (fun a' w'=>a'=a.put o.dst undef∧Kept zb w w'∧Good ty zb st' a.tmps w' env∧st'.n=st.n∧st'.sl=st.sl) Q:=by
 have hop: ∀{x v},oH st [] x=some v→mG w st.hp env v (a.eval x):=fun hx=>lX g (fun e he=>by simp at he) hx;have hor: ∀{x v},opr st [] x=some v→mG w st.hp env v (a.eval x):=fun hx=>GJ g (fun e he=>by simp at he) hx;generalize ng:o.op=op at h;cases op with
 |store t x y=>
  simp only[UY]at h;split at h
  ·rename_i n off v hx hy;have hx:=hop hx;have hy:=hor hy;split at h
   ·rename_i c hl;obtain⟨_,b,hb,hu⟩:=hx;obtain⟨b',cs,e,Tg,hh,hc⟩:=g.obj n _ hl;have hM:=g.dom n _ hl b' (by rw[Tg];simp);have hbb:b=b':=by rw[Tg]at hb;simpa using hb.symm
    subst hbb;have fin: ∀{us:List Value} {c':List V},(a.eval y).cells=us.toArray→(P.info? t).map (·.size)=some us.length→(∀u,u∈us→u.oneCell'=true)→off+us.length≤cs.length→dG (RA w st.hp env) c' (cs.take off++(us++cs.drop (off+us.length)))→st'=⟨st.n,st.sl,(n, .box c')::st.hp⟩→
      o.wp P a w (fun a' w'=>a'=a.put o.dst undef∧Kept zb w w'∧Good ty zb st' a.tmps w' env∧st'.n=st.n∧st'.sl=st.sl) Q:=by
     intro us c' h1 h2 h3 h4 h5 h6;subst h6;unfold nv execOp;simp only[ng,hu,Iq,qz,dS,eu,cC,AY h1 (abE hh off us.length h4) h2 h3];exact⟨by trivial,Pm hM hh off us,Pk g hl Tg hh h4 h5,by trivial,by trivial⟩
    split at h
    ·rename_i z tg fo l hk _;split at h
     ·rename_i c' hlen hs;simp only[oI]at h;obtain⟨us,hus,hul⟩:=hy;obtain⟨k1,k2⟩:=US hc hul hs;have hC:=C t;rw[hk]at hC;obtain⟨fs,_,hi,_⟩:=hC;simp only[an]at hlen;have pK:=aG hlen.1;refine fin (us:=us) (by rw[hus];rfl) ?_ ?_ k1 k2 h.symm
      ·rw[hul.len,pK];cases hq:P.info? t with
       |none=>simp[hq]at hi
       |some i=>simp[hq]at hi;simp[hi.1]
      ·exact E6 g hul (zN hlen.2)
     ·cases h
    ·cases h
    ·cases h
    ·cases h
    ·rename_i v k1 k2 k3 _;split at h
     ·rename_i c' hs;simp only[oI]at h;obtain⟨q1,q2⟩:=US (vs:= [v]) (us:= [a.eval y]) hc ⟨hy,trivial⟩ hs;have hne:v≠ .any:=fun e=>k1 e;refine fin (us:= [a.eval y]) (rN g hy hne) (Z t (fun z tg fo hz=>k2 z tg fo hz) k3) ?_ q1 q2 h.symm;intro u hu';rw[aV.1 hu'];exact RA.one g hy hne
     ·cases h
    ·cases h
   ·cases h
  ·cases h
 |_=>simp[UY]at h
end
end
section
variable{α:Type}{u v v':Value}{fp ks kv fx oK:List Nat}{w':World}{n d:Nat}{t:Tag}{ty:Tag→Nat}
theorem Ir{k:Nat}{E:ER α}(G:mZ k E)(hk:0<k){w:World}{l:List α}(h:Sl k E w u l fp):
  ∃(news:List Value) (fx:List (List Nat)),Src w u l.length news∧fx.length=l.length∧news.length=l.length*k∧(∀i x f,l[i]? =some x→fx[i]? =some f→E w ((news.drop (i*k)).take k) x f)∧fx.flatten.Sublist fp:=by
 obtain⟨news,fx,h1,h2,h3,h4,h5,_⟩:=Im G hk h;exact⟨news,fx,h1,h2,h3,h4,h5⟩
theorem BV.X9{r:BV}(h:r.br):(r.dJ ks kv).br:=by
 cases r with
 |mp=>exact h.elim
 |bag u=>exact h.elim
 |Kx p=>exact h.elim
 |gone=>trivial
 |xp=>trivial
 |of n=>unfold BV.dJ;dsimp only;split<;>trivial
theorem Nd.oR{w:World}{hp hp':Hp}{env env':Env}(s:AX ks kv w hp env w' hp' env'){l:List (T t)}{p:Option (Nat×Nat×Nat)}{co:CO}(hk: ∀b,b∈co.fp→w'.heap[b]? =w.heap[b]?)(h:Nd ty w hp env t l p co):RO ty w' hp' env' n (.pQ t l ((BV.Kx p).dJ ks kv)) co:=by
 have hnone:Nd ty w' hp' env' t l none co:=⟨h.1.agree hk,h.2.1,fun _ _ _ e=>by cases e⟩;cases p with
 |none=>exact hnone
 |some e=>
  obtain⟨m,i,o⟩:=e;unfold BV.dJ;dsimp only;split
  ·exact hnone
  ·rename_i hn;rw[jI,cq,cq]at hn;refine Nd.step s (fun n hm=> ?_) hk h;simp only[BV.name,oI]at hm;subst hm;exact⟨fun hm=>hn.1 _ hm fI,fun hm=>hn.2 _ hm fI⟩
theorem RO.oR{w:World}{hp hp':Hp}{env env':Env}(s:AX ks kv w hp env w' hp' env'){o:Obj}{co:CO}
  (hk: ∀b,b∈co.fp→w'.heap[b]? =w.heap[b]?)(h:RO ty w hp env n o co):RO ty w' hp' env' n (o.dJ ks kv) co:=by
 cases o with
 |box c=>
  obtain⟨b,cs,e,rfl,hh,hc⟩:=h;exact⟨b,cs,e,rfl,by rw[hk b fI];exact hh,hc.map fun a u hr=>RA.oR s hr⟩
 |arr t l=>exact RO.agree h hk
 |pQ t l r=>
  rcases RO.RZ h with⟨rfl,h⟩| ⟨u,rfl,h⟩| ⟨p,rfl,h⟩| ⟨hr,h1,us,hB,h2,h3⟩
  ·exact XS.agree h hk
  ·exact XT.step s hk h
  ·exact Nd.oR s hk h
  ·exact RO.ahr (BV.X9 hr) ⟨h1,us,qN.agree Ih hB hk,h2,fun i x u hx hu=>BE.oR s (h3 i x u hx hu)⟩
def St.gone(st:St)(ks:List Nat)(d:Nat)(t:Tag)(l:List (T t)):St:=
 match ks with
 | []=>⟨st.n,st.sl,(d, .arr t l)::st.hp⟩
 |ks=>⟨st.n,st.sl.map fun e=>(e.1,e.2.dJ ks []),(d, .arr t l)::gr ks [] st.hp⟩
theorem V.pS(v:V):v.dJ [] []=v:=by
 unfold V.dJ;split<;>simp
theorem S1.pS(x:S1):x.dJ [] []=x:=by
 cases x with
 |a v=>simp[S1.dJ,V.pS]
 |agg l=>simp only[S1.dJ,S1.agg.injEq];rw[gD (g:=id) fun v _=>V.pS v,tY]
theorem SV.pS(x:SV):x.dJ [] []=x:=by
 cases x with
 |one x=>simp[SV.dJ,S1.pS]
 |Gf l=>simp only[SV.dJ,SV.Gf.injEq];rw[gD (g:=id) fun v _=>S1.pS v,tY]
 |cond p x=>simp[SV.dJ,S1.pS]
theorem abS(hp:Hp):gr [] [] hp=hp:=by
 unfold gr;rw[List.filter_eq_self.2 fI,gD (g:=id),tY];rintro⟨n,o⟩ _;cases o with
 |box c=>simp only[Obj.dJ,id];rw[gD (g:=id) fun v _=>V.pS v,tY]
 |arr t l=>rfl
 |pQ t l s=>cases s with
  |Kx p=>cases p<;>rfl
  |_=>rfl
theorem St.gone_eq(st:St)(ks:List Nat)(d:Nat)(t:Tag)(l:List (T t)):st.gone ks d t l=⟨st.n,st.sl.map fun e=>(e.1,e.2.dJ ks []),(d, .arr t l)::gr ks [] st.hp⟩:=by
 unfold St.gone;split
 ·rw[abS,gD (g:=id),tY];rintro⟨n,x⟩ _;simp[SV.pS]
 ·rfl
section
variable{P:Program}{zb:fG}{st st':St}{a:Act}{w:World}{env:Env}{Q:Exit→Act→World→Prop}{o:Oper}
theorem AZ(h:pinned ks=false)(hn:n∈ks):soft n=false:=by
 unfold pinned at h;rw[cq]at h;simpa using h n hn
theorem KH(g:Good ty zb st a.tmps w env)(hB:zb.w.heap.size≤w.heap.size)(hpk:pinned ks=false)(hdp:tG d=false)(hd:look (gr ks [] st.hp) d=none){ob:Obj}
  (qx: ∀b,b∈fp++fx→ ∃i o,i∈ks∧look st.hp i=some o∧b∈(env i).fp)(RG: ∀b,v.ownBlock=some b→b∈fp)
  (hRO: ∀env':Env,env' d=⟨v',oK⟩→AX ks [] w st.hp env w' ((d,ob)::gr ks [] st.hp) env'→RO ty w' ((d,ob)::gr ks [] st.hp) env' d ob ⟨v',oK⟩)(hg:w.grownBy w' v.ownBlock)(hsub: ∀b,b∈oK→b∈fp∨b∈fx∨b=w.heap.size):
  ∃env',Good ty zb ⟨st.n,st.sl.map fun e=>(e.1,e.2.dJ ks []),(d,ob)::gr ks [] st.hp⟩ a.tmps w' env'∧(env' d).v=v'∧(∀n,n≠d→env' n=env n)∧(env' d).fp=oK:=by
 refine⟨fun n=>if n=d then⟨v',oK⟩else env n,?_,by simp,fun n hn=>by simp[hn],by simp⟩;have hlk: ∀m o,look ((d,ob)::gr ks [] st.hp) m=some o→(m=d∧o=ob)∨(m≠d∧m∉ks∧ ∃o',look st.hp m=some o'∧o=o'.dJ ks []):=by
  intro m o hm;by_cases vJ:m=d
  ·subst vJ;rw[look_eq]at hm;simp only[oI]at hm;exact bP ⟨rfl,hm.symm⟩
  ·rw[cR vJ,fB]at hm;split at hm
   ·cases hm
   ·rename_i hks;cases hq:look st.hp m with
    |none=>rw[hq]at hm;cases hm
    |some o'=>rw[hq]at hm;simp only[eN,oI]at hm;exact bw ⟨vJ,hks,o',rfl,hm.symm⟩
 have how: ∀b,b∈oK→b<w.heap.size→ ∃i o,i∈ks∧look st.hp i=some o∧b∈(env i).fp:=by
  intro b hb hlt;rcases hsub b hb with h|h|h
  ·exact qx b (bl _ h)
  ·exact qx b (aW _ h)
  ·omega
 have hnd: ∀m o,m∉ks→look st.hp m=some o→m≠d:=by
  rintro m o hks h1 rfl;rw[fB,if_neg hks,h1]at hd;cases hd
 have hst: ∀m o,m∉ks→look st.hp m=some o→ ∀b,b∈(env m).fp→w'.heap[b]? =w.heap[b]? :=by
  intro m o hks h3 b hb;refine hg.block b ((g.obj m o h3).blk b hb) fun e=> ?_;obtain⟨i,oi,hi,h5,h6⟩:=qx b (bl _ (RG b e.symm));exact g.tN m i _ _ (fun e=>hks (e▸hi)) h3 h5 b hb h6
 have s:AX ks [] w st.hp env w' ((d,ob)::gr ks [] st.hp) (fun n=>if n=d then⟨v',oK⟩else env n):=by
  refine⟨fun b hb hno=>hg.block b hb fun e=> ?_,?_,?_,?_⟩
  ·obtain⟨i,o',_,h1,h2⟩:=qx b (bl _ (RG b e.symm));exact hno ⟨i,o',h1,h2⟩
  ·rintro b hb ⟨m,o',h1,h2⟩;rcases hlk m o' h1 with⟨rfl,_⟩| ⟨vJ,hks,Nn,h3,rfl⟩
   ·simp at h2;obtain⟨i,o',_,h3,h4⟩:=how b h2 hb;exact⟨i,o',h3,h4⟩
   ·simp[vJ]at h2;exact⟨m,Nn,h3,h2⟩
  ·intro m o' hks h1;have vJ:=hnd m o' hks h1;refine⟨o'.dJ ks [],by rw[cR vJ,fB,if_neg hks,h1];rfl,by cases o'<;>simp[Obj.like,Obj.dJ],by simp[vJ]⟩
  ·rintro m t' l' ⟨hks,_⟩ h1;have vJ:=hnd m _ hks h1;exact⟨by rw[cR vJ,fB,if_neg hks,h1];rfl,by simp[vJ],hst m _ hks h1⟩
 refine g.oR s (fun m o' hm=> ?_) (fun m m' o1 o2 hne h1 h2 b hb hb'=> ?_) (fun m o' hm b hb=> ?_) (fun m hm=> ?_)
 ·rcases hlk m o' hm with⟨e1,e2⟩| ⟨vJ,hks,Nn,h3,rfl⟩
  ·rw[e1,e2];simp only[if_true];exact hRO _ fI s
  ·simp only[if_neg vJ];have hro:=g.obj m Nn h3;exact hro.oR s (hst m Nn hks h3)
 ·rcases hlk m o1 h1 with⟨e1,_⟩| ⟨vJ,hks,q1,h3,_⟩<;>rcases hlk m' o2 h2 with⟨e2,_⟩| ⟨UZ,akZ,q2,h4,_⟩
  ·exact hne (e1.trans e2.symm)
  ·simp only[if_pos e1]at hb;simp only[if_neg UZ]at hb';have hlt:=(g.obj m' q2 h4).blk b hb';obtain⟨i,oi,hi,h5,h6⟩:=how b hb hlt;exact g.tN m' i _ _ (fun e=>akZ (e▸hi)) h4 h5 b hb' h6
  ·simp only[if_pos e2]at hb';simp only[if_neg vJ]at hb;have hlt:=(g.obj m q1 h3).blk b hb;obtain⟨i,oi,hi,h5,h6⟩:=how b hb' hlt;exact g.tN m i _ _ (fun e=>hks (e▸hi)) h3 h5 b hb h6
  ·simp only[if_neg vJ]at hb;simp only[if_neg UZ]at hb';exact g.tN m m' _ _ hne h3 h4 b hb hb'
 ·rcases hlk m o' hm with⟨e1,_⟩| ⟨vJ,hks,q1,h3,_⟩
  ·simp only[if_pos e1]at hb;by_cases hlt:b<w.heap.size
   ·obtain⟨i,oi,hi,h5,h6⟩:=how b hb hlt;exact g.dom i oi h5 b h6
   ·exact bw aJ
  ·simp only[if_neg vJ]at hb;exact g.dom m q1 h3 b hb
 ·have:m≠d:=by rintro rfl;rw[hdp]at hm;cases hm
  simp only[if_neg this];exact g.pins m hm
theorem Ti(g:Good ty zb st a.tmps w env)(hB:zb.w.heap.size≤w.heap.size)(hpk:pinned ks=false)(hdp:tG d=false)(hd:look (gr ks [] st.hp) d=none){l:List (T t)}
  (qx: ∀b,b∈fp++fx→ ∃i o,i∈ks∧look st.hp i=some o∧b∈(env i).fp)(RG: ∀b,v.ownBlock=some b→b∈fp)
  (hB':qN (kk t) (rd t) 0 (ty t) w' v' l oK)(hg:w.grownBy w' v.ownBlock)(hsub: ∀b,b∈oK→b∈fp∨b∈fx∨b=w.heap.size):
  ∃env',Good ty zb ⟨st.n,st.sl.map fun e=>(e.1,e.2.dJ ks []),(d, .arr t l)::gr ks [] st.hp⟩ a.tmps w' env'∧(env' d).v=v'∧(∀n,n≠d→env' n=env n)∧(env' d).fp=oK:=
 KH g hB hpk hdp hd qx RG (fun _ _ _=>RO.S7 hB') hg hsub
theorem Pn(g:Good ty zb st a.tmps w env)(hB:zb.w.heap.size≤w.heap.size)(hpk:pinned ks=false)(hdp:tG d=false)(hd:look (gr ks [] st.hp) d=none){l:List (T t)}
  (qx: ∀b,b∈fp++fx→ ∃i o,i∈ks∧look st.hp i=some o∧b∈(env i).fp)(RG: ∀b,v.ownBlock=some b→b∈fp)
  (hB':qN (kk t) (rd t) 0 (ty t) w' v' l oK)(hg:w.grownBy w' v.ownBlock)(hsub: ∀b,b∈oK→b∈fp∨b∈fx∨b=w.heap.size):
  ∃env',Good ty zb ⟨st.n,st.sl.map fun e=>(e.1,e.2.dJ ks []),(d, .arr t l)::gr ks [] st.hp⟩ a.tmps w' env'∧(env' d).v=v':=by
 obtain⟨env',h1,h2,_⟩:=Ti g hB hpk hdp hd qx RG hB' hg hsub;exact⟨env',h1,h2⟩
end
def U0(st:St)(t:Tag):S1→Option (List (T t)×List Nat)
 | .a (.own n)=>match look st.hp n with
   |some (.arr t' l)=>match rM t t' l with|some l=>some (l,[n])|none=>none
   |_=>none
 | .a (.lit (.slice none 0 0))=>some ([],[])
 |_=>none
def abU(st:St)(t:Tag):S1→Option (List (T t)×List Nat)
 | .a (.own n)=>match look st.hp n with
   |some (.arr t' l)=>match rM t t' l with|some l=>some (l,match flat t with|true=> []|false=> [n])|none=>none
   |_=>none
 | .a (.sl t' l)=>match flat t,rM t t' l with
   |true,some l=>some (l,[])
   |false,some l=>match l with| []=>some ([],[])|_=>none
   |_,_=>none
 | .a (.vw n _ t' l)=>match rM t t' l with
   |some l=>some (l,match flat t with|true=> []|false=> [n])
   |none=>none
 | .a (.Xc n t' l)=>match rM t t' l with
   |some l=>some (l,[n])
   |none=>none
 | .a (.lit (.slice none 0 0))=>some ([],[])
 | .a (.Nb 0)=>some ([],[])
 |_=>none
def zn:List α→List α→List α
 | [],l=>l
 | [x],l=>x::l
 |k,l=>k++l
theorem lR(k l:List α):zn k l=k++l:=by
 unfold zn;split<;>rfl
def Ya(k m:List Nat):Bool:=k.all fun x=> !m.any fun y=>bH x y
def abV(P:Program)(ty:Tag→Nat)(Γ:Nat→TK)(st:St)(m0:Nat):Op→Option (List Prop×St×SV)
 | .call ⟨.builtin .append,xs,ts⟩=>match xs.toList,ts.toList with
   | [s,x],[t1,t2]=>match Γ t1,bH t1 t2 with
     | .sl t e,true=>match bH e (ty t),oH st [] s,oH st [] x with
       |true,some vs,some vx=>match U0 st t vs,abU st t vx with
        |some (l,k),some (lx,m)=>match Ya k m&& !pinned (zn k m)&& !tG m0,look (gr (zn k m) [] st.hp) m0 with
         |true,none=>some ([El P ty t,(l.length+lx.length)*vI t≤140737488355328∧l.length+lx.length≤maxLen],
           st.gone (zn k m) m0 t (l++lx), .one (.a (.own m0)))
         |_,_=>none
        |_,_=>none
       |_,_,_=>none
     |_,_=>none
   |_,_=>none
 |_=>none
section
variable{P:Program}{zb:fG}{st:St}{a:Act}{w:World}{env:Env}{Q:Exit→Act→World→Prop}{o:Oper}
theorem Tj(g:Good ty zb st a.tmps w env){x:S1}{l:List (T t)}{k:List Nat}(hr:mG w st.hp env x u)(h:U0 st t x=some (l,k)):
  pinned k=false→ ∃fp,qN (kk t) (rd t) 0 (ty t) w u l fp∧(∀b,b∈fp→ ∃i o,i∈k∧look st.hp i=some o∧b∈(env i).fp)
  :=by
 intro hpk;unfold U0 at h;split at h
 ·rename_i n;split at h
  ·rename_i t' l' hl;split at h
   ·rename_i l2 hc;simp only[oI,pI]at h;obtain⟨rfl,rfl⟩:=h;obtain⟨e,rfl⟩:=kq hc;subst e;obtain⟨_,rfl⟩:=hr;exact⟨(env n).fp,RO.bld (AZ hpk fI) (g.obj n _ hl),fun b hb=>⟨n,_,by simp,hl,hb⟩⟩
   ·cases h
  ·cases h
 ·simp only[oI,pI]at h;obtain⟨rfl,rfl⟩:=h;have hu:=(show mG w st.hp env (.a (.lit O4)) u from hr).lit;subst hu;exact⟨[],qN.nil _ _ _ _ _,by simp⟩
 ·cases h
theorem Po(hf:flat t=true){l:List (T t)}(hs:Sl (kk t) (rd t) w u l fp):
  ∃(news:List Value) (fx:List (List Nat)),Src w u l.length news∧fx.length=l.length∧news.length=l.length*kk t∧(∀i x f,l[i]? =some x→fx[i]? =some f→rd t w ((news.drop (i*kk t)).take (kk t)) x f)∧fx.flatten= []:=by
 obtain⟨news,fx,h1,h2,h3,h4,h5⟩:=Ir (ko t) (oc t) hs;refine⟨news,fx,h1,h2,h3,h4,?_⟩;rw[List.flatten_eq_nil_iff];intro f hf';obtain⟨i,hi⟩:=gR hf';have hil:i<l.length:=by have:=(aU.1 hi).1;omega
 exact aru t hf (h4 i _ f (az hil) hi)
theorem ahA(g:Good ty zb st a.tmps w env){x:S1}{l:List (T t)}{k:List Nat}(hr:mG w st.hp env x u)(h:abU st t x=some (l,k)):
  ∃(news:List Value) (fx:List (List Nat)),Src w u l.length news∧fx.length=l.length∧news.length=l.length*kk t∧(∀i x f,l[i]? =some x→fx[i]? =some f→rd t w ((news.drop (i*kk t)).take (kk t)) x f)∧
   (∀b,b∈fx.flatten→ ∃i o,i∈k∧look st.hp i=some o∧b∈(env i).fp)∧Own 0 w fx.flatten:=by
 unfold abU at h;split at h
 ·rename_i n;split at h
  ·rename_i t' l' hl;split at h
   ·rename_i l2 hc;simp only[oI,pI]at h;obtain⟨rfl,hk⟩:=h;obtain⟨e,rfl⟩:=kq hc;subst e;obtain⟨_,rfl⟩:=hr;have hb:=RO.sl (g.obj n _ hl);split at hk
    ·rename_i hf;subst hk;obtain⟨news,fx,h1,h2,h3,h4,h5⟩:=Po hf hb;exact⟨news,fx,h1,h2,h3,h4,by simp[h5],by rw[h5];exact Own.nil _ _⟩
    ·subst hk;obtain⟨news,fx,h1,h2,h3,h4,h5⟩:=Ir (ko t') (oc t') hb;have ho:=RO.own (g.obj n _ hl);exact⟨news,fx,h1,h2,h3,h4,fun b hb=>⟨n,_,by simp,hl,h5.subset hb⟩,⟨h5.nodup ho.nodup,fun b hb=>ho.ge b (h5.subset hb),fun b hb=>ho.kind b (h5.subset hb)⟩⟩
   ·cases h
  ·cases h
 ·rename_i t' l';split at h
  ·rename_i l2 hf hc;simp only[oI,pI]at h;obtain⟨rfl,rfl⟩:=h;obtain⟨e,rfl⟩:=kq hc;subst e;obtain⟨fp,hs,_⟩:=hr;obtain⟨news,fx,h1,h2,h3,h4,h5⟩:=Po hf hs;exact⟨news,fx,h1,h2,h3,h4,by simp[h5],by rw[h5];exact Own.nil _ _⟩
  ·rename_i l2 hf hc;split at h
   ·simp only[oI,pI]at h;obtain⟨rfl,rfl⟩:=h;obtain⟨e,he⟩:=kq hc;subst e;obtain rfl:l'= []:=he.symm;obtain⟨fp,hs,_⟩:=hr;obtain⟨news,fx,h1,h2,h3,h4,h5⟩:=Ir (ko t') (oc t') hs;have hfx:fx= []:=ck h2;subst hfx;exact⟨news,[],h1,rfl,h3,by simp,by simp,Own.nil _ _⟩
   ·cases h
  ·cases h
 ·rename_i n _ t' l';split at h
  ·rename_i l2 hc;simp only[oI,pI]at h;obtain⟨rfl,hk⟩:=h;obtain⟨e,rfl⟩:=kq hc;subst e;obtain⟨⟨tA,lA,hl⟩,⟨fp,hs,hnd,hsub⟩,_⟩:=hr;split at hk
   ·rename_i hf;subst hk;obtain⟨news,fx,h1,h2,h3,h4,h5⟩:=Po hf hs;exact⟨news,fx,h1,h2,h3,h4,by simp[h5],by rw[h5];exact Own.nil _ _⟩
   ·subst hk;obtain⟨news,fx,h1,h2,h3,h4,h5⟩:=Ir (ko t') (oc t') hs;have ho:=RO.own (g.obj n _ hl);exact⟨news,fx,h1,h2,h3,h4,fun b hb=>⟨n,_,by simp,hl,hsub b (h5.subset hb)⟩,⟨h5.nodup hnd,fun b _=>aY _,fun b hb=>ho.kind b (hsub b (h5.subset hb))⟩⟩
  ·cases h
 ·rename_i n t' l';split at h
  ·rename_i l2 hc;simp only[oI,pI]at h;obtain⟨rfl,rfl⟩:=h;obtain⟨e,rfl⟩:=kq hc;subst e;obtain⟨⟨tA,lA,hl⟩,b,fp,hs,hb,hnd,hsub⟩:=hr;obtain⟨news,fx,h1,h2,h3,h4,_,h5⟩:=Im (ko t') (oc t') hs;have h5:=h5 b fp rfl;have ho:=RO.own (g.obj n _ hl);exact⟨news,fx,h1,h2,h3,h4,fun c hc=>⟨n,_,by simp,hl,hsub c (by rw[←h5];exact hc)⟩,⟨by rw[h5];exact hnd,fun c _=>aY _,fun c hc=>ho.kind c (hsub c (by rw[←h5];exact hc))⟩⟩
  ·cases h
 ·simp only[oI,pI]at h;obtain⟨rfl,rfl⟩:=h;have hu:=(show mG w st.hp env (.a (.lit O4)) u from hr).lit;subst hu;exact⟨[],[],bP ⟨rfl,rfl,rfl⟩,rfl,by simp,by simp,by simp,Own.nil _ _⟩
 ·simp only[oI,pI]at h;obtain⟨rfl,rfl⟩:=h;obtain⟨oa,cap,rfl,_,_,hz⟩:=hr;refine⟨[],[],?_,rfl,by simp,by simp,by simp,Own.nil _ _⟩;cases oa with
  |none=>exact bP ⟨by simp[hz rfl],rfl,rfl⟩
  |some a=>exact bw ⟨a,cap,rfl,by simp⟩
 ·cases h
theorem arR{Γ:Nat→TK}(C: ∀t,gO P t (Γ t)){m0:Nat}{vc:List Prop}{st':St}{v:SV}(h:abV P ty Γ st m0 o.op=some (vc,st',v))(g:Good ty zb st a.tmps w env)(hB:zb.w.heap.size≤w.heap.size)(hv: ∀q,q∈vc→q):
  o.wp P a w (fun a' w'=> ∃u env',a'=a.put o.dst u∧Kept zb w w'∧Good ty zb st' a.tmps w' env'∧st'.n=st.n∧AR w' st'.hp env' a.tmps v u) Q:=by
 have hop: ∀{x v},oH st [] x=some v→mG w st.hp env v (a.eval x):=fun hx=>lX g (fun e he=>by simp at he) hx;generalize ng:o.op=op at h;cases op with
 |call c=>
  obtain⟨callee,xs,ts⟩:=c;cases callee with
  |builtin b=>
   cases b with
   |append=>
    simp only[abV]at h;split at h
    ·rename_i s x t1 t2 hxl htl;obtain rfl:xs= #[s,x]:=by cases xs;simp_all
     obtain rfl:ts= #[t1,t2]:=by cases ts;simp_all
     split at h
     ·rename_i t e hk abW;have abW:=aG abW;subst abW;split at h
      ·rename_i vs vx he hs hx;have he:=aG he;split at h
       ·rename_i l k lx m hds hsr;split at h
        ·rename_i hno hlk;simp only[an,bO]at hno;obtain⟨⟨hno,hpk⟩,X7⟩:=hno;rw[lR]at hpk;have aGf:pinned k=false:=by
          unfold pinned at hpk ⊢;rw[List.any_append,jI]at hpk;exact hpk.1
         simp only[oI,pI,lR]at h;rw[lR]at hlk;obtain⟨rfl,h2,rfl⟩:=h;rw[St.gone_eq]at h2;subst h2;have BY:El P ty t:=hv _ fI;obtain⟨cQ,fu⟩:(l.length+lx.length)*vI t≤140737488355328∧l.length+lx.length≤maxLen:=hv _ fI;obtain⟨fp,hD,Gh⟩:=Tj g (hop hs) hds aGf;obtain⟨news,fx,n1,n2,n3,n4,n5,n6⟩:=ahA g (hop hx) hsr;have hC:=C t1;rw[hk]at hC;have aro:Own 0 w (fp++fx.flatten):=by
          have ho:=hD.own;refine⟨bM.2 ⟨ho.nodup,n6.nodup,?_⟩,fun b hb=> ?_,fun b hb=> ?_⟩
          ·rintro b hb c hc rfl;obtain⟨i,oi,hi,h1,h2⟩:=Gh b hb;obtain⟨j,oj,hj,h3,h4⟩:=n5 b hc;have hij:i≠j:=by
            rintro rfl;simp only[Ya,bE,bO,cq]at hno;exact hno i hi i hj fI
           exact g.tN i j _ _ hij h1 h3 b h2 h4
          ·rcases bg.1 hb with hb|hb
           ·exact ho.ge b hb
           ·exact n6.ge b hb
          ·rcases bg.1 hb with hb|hb
           ·exact ho.kind b hb
           ·exact n6.kind b hb
         refine UD s x t1 ng (ko t) (oc t) 0 (ty t) (oL t) (vI t) (by rw[←he];exact hC.1) BY (xm t) _ l fp rfl hD _ rfl lx news fx n1 n2 n3 n4 aro fu cQ (aY _) ?_;intro v' w' oK k1 k2 k3 k4 k5 _;obtain⟨env',hg',hv'⟩:=Pn (ty:=ty) g hB (ks:=k++m) hpk X7 hlk (v:=a.eval s) (fp:=fp) (fx:=fx.flatten)
          (by
           intro b hb;rcases bg.1 hb with hb|hb
           ·obtain⟨i,oi,hi,h1⟩:=Gh b hb;exact⟨i,oi,bl _ hi,h1⟩
           ·obtain⟨i,oi,hi,h1⟩:=n5 b hb;exact⟨i,oi,aW _ hi,h1⟩)
          (by
           intro b hb;obtain⟨xs,eS,_,_,_,qx,_⟩:=hD;rw[qx,hb];simp)
          k1 k2 k4
         refine⟨v',env',rfl,⟨k2.os,k2.tape,k2.output,k2.size,fun b hb hn=>k2.block b aJ fun e=> ?_,k5⟩,hg',rfl,⟨t,_,look_eq⟩,hv'.symm⟩;have hbf:b∈fp:=by
          obtain⟨xs,eS,_,_,_,qx,_⟩:=hD;rw[qx, ←e];simp
         obtain⟨i,oi,hi,h1,h2⟩:=Gh b hbf;rcases g.dom i oi h1 b h2 with h|h
         ·exact hn h
         ·omega
        ·cases h
       ·cases h
      ·cases h
     ·cases h
    ·cases h
   |_=>simp[abV]at h
  |_=>simp[abV]at h
 |_=>simp[abV]at h
end
end
section
variable{ty:Tag→Nat}
def takes(st:St):List V→Option (List V×List Nat)
 | []=>some ([],[])
 | .lit v::r=>match takes st r with|some (c,k)=>some (.lit v::c,k)|none=>none
 | .own n::r=>match look st.hp n,takes st r with
   |some (.arr t l),some (c,k)=>some (.sl t l::c,n::k)
   |_,_=>none
 |_=>none
def Pq(st:St)(g:Tag):Nat→List (Nat×Operand)→Option (List Prop×List (T g)×List Nat)
 |_,[]=>some ([],[],[])
 |i,(j,x)::r=>match bH i j,oH st [] x with
  |true,some s=>match takes st (cellsOf s)with
   |some (c,k)=>match enc g c,Pq st g (i+1) r with
    |some (vc,y),some (vcs,ys,ks)=>some (vc++vcs,y::ys,k++ks)
    |_,_=>none
   |none=>none
  |_,_=>none
def rj(st:St):List V→Option (List V×List Nat)
 | []=>some ([],[])
 | .lit v::r=>match rj st r with|some (c,k)=>some (.lit v::c,k)|none=>none
 | .own n::r=>match look st.hp n,rj st r with
   |some (.arr t l),some (c,k)=>some (.sl t l::c,n::k)
   |_,_=>none
 | .vw n _ t l::r=>match look st.hp n,rj st r with
   |some (.arr _ _),some (c,k)=>some (.sl t l::c,n::k)
   |_,_=>none
 |_=>none
def Is(st:St)(g:Tag):Nat→List (Nat×Operand)→Option (List Prop×List (T g)×List Nat)
 |_,[]=>some ([],[],[])
 |i,(j,x)::r=>match bH i j,oH st [] x with
  |true,some s=>match rj st (cellsOf s)with
   |some (c,k)=>match enc g c,Is st g (i+1) r with
    |some (vc,y),some (vcs,ys,ks)=>some (vc++vcs,y::ys,k++ks)
    |_,_=>none
   |none=>none
  |_,_=>none
def zo:List Nat→Bool
 | []=>true
 |n::r=> !(r.any fun m=>bH n m)&&zo r
def Pr(P:Program)(ty:Tag→Nat)(Γ:Nat→TK)(st:St)(m0:Nat):Op→Option (List Prop×St×SV)
 | .buildSlice t len parts=>match Γ t with
   | .sl g e=>match bH e (ty g),bH parts.toList.length len,kV (len*kk g) 16777216,Is st g 0 parts.toList with
     |true,true,true,some (vc,xs,ks)=>match zo ks&& !pinned ks&& !tG m0,look (gr ks [] st.hp) m0 with
      |true,none=>some (El P ty g::vc,st.gone ks m0 g xs, .one (.a (.own m0)))
      |_,_=>none
     |_,_,_,_=>none
   |_=>none
 |_=>none
theorem rO: ∀{l:List Nat},zo l=true→l.Nodup
 | [],_=>zj
 |n::r,h=>by
  simp only[zo,an,bO,cq]at h;exact dx.2 ⟨fun hm=>h.1 n hm fI,rO h.2⟩
section
variable{P:Program}{zb:fG}{st:St}{a:Act}{w:World}{env:Env}{Q:Exit→Act→World→Prop}{o:Oper}
theorem It(g:Good ty zb st a.tmps w env): ∀{l c:List V} {k:List Nat} {us:List Value},dG (RA w st.hp env) l us→takes st l=some (c,k)→k.Nodup→
  ∃fp,fH w c us fp∧Own 0 w fp∧ ∀b,b∈fp→ ∃i o,i∈k∧look st.hp i=some o∧b∈(env i).fp
 | [],c,k,us,hr,h,_=>by
   simp only[takes,oI,pI]at h;obtain⟨rfl,rfl⟩:=h;cases us with
   |nil=>exact⟨[],rfl,Own.nil _ _,by simp⟩
   |cons _ _=>exact hr.elim
 |v::r,c,k,us,hr,h,hnd=>by
  cases us with
  |nil=>exact hr.elim
  |cons u us=>
   cases v with
   |lit x=>
    simp only[takes]at h;split at h
    ·rename_i c' k' h';simp only[oI,pI]at h;obtain⟨rfl,rfl⟩:=h;obtain⟨fp,h1,h2,h3⟩:=It g hr.2 h' hnd;obtain⟨e1,e2⟩:=hr.1;exact⟨fp,⟨[],fp,⟨e1,e2,rfl⟩,h1,rfl⟩,h2,h3⟩
    ·cases h
   |own n=>
    simp only[takes]at h;split at h
    ·rename_i t l c' k' hl h';simp only[oI,pI]at h;obtain⟨rfl,rfl⟩:=h;obtain⟨hn1,hn2⟩:=dx.1 hnd;obtain⟨fp,h1,h2,h3⟩:=It g hr.2 h' hn2;obtain⟨_,rfl⟩:=hr.1;have hb:=RO.sl (g.obj n _ hl);have ho:=RO.own (g.obj n _ hl);refine⟨(env n).fp++fp,⟨_,_,hb,h1,rfl⟩,⟨bM.2 ⟨ho.nodup,h2.nodup,?_⟩,fun b hb=> ?_,fun b hb=> ?_⟩,fun b hb=> ?_⟩
     ·rintro b hb x hx rfl;obtain⟨i,o,hi,h4,h5⟩:=h3 b hx;exact g.tN n i _ _ (fun e=>hn1 (e▸hi)) hl h4 b hb h5
     ·rcases bg.1 hb with hb|hb
      ·exact ho.ge b hb
      ·exact h2.ge b hb
     ·rcases bg.1 hb with hb|hb
      ·exact ho.kind b hb
      ·exact h2.kind b hb
     ·rcases bg.1 hb with hb|hb
      ·exact⟨n,_,by simp,hl,hb⟩
      ·obtain⟨i,o,hi,h4,h5⟩:=h3 b hb;exact⟨i,o,aE _ hi,h4,h5⟩
    ·cases h
   |_=>simp[takes]at h
theorem rm(g:Good ty zb st a.tmps w env){s:S1}{u:Value}(hr:mG w st.hp env s u)(hn:Da (cellsOf s)=true):dG (RA w st.hp env) (cellsOf s) u.cells.toList:=by
 cases s with
 |a v=>
  have:=rN g (show RA w st.hp env v u from hr) (zN hn v (by simp[cellsOf]));rw[this];exact⟨hr,trivial⟩
 |agg l=>
  obtain⟨cs,rfl,hl⟩:=hr;exact hl
theorem mj{st:St}: ∀{l c:List V} {k:List Nat},takes st l=some (c,k)→Da l=true
 | [],_,_,_=>rfl
 |v::r,c,k,h=>by
  cases v with
  |lit x=>
   simp only[takes]at h;split at h
   ·rename_i h';exact mj (l:=r) h'
   ·cases h
  |own n=>
   simp only[takes]at h;split at h
   ·rename_i h';exact mj (l:=r) h'
   ·cases h
  |_=>simp[takes]at h
theorem E7(g:Good ty zb st a.tmps w env): ∀{l c:List V} {k:List Nat} {us:List Value},dG (RA w st.hp env) l us→rj st l=some (c,k)→k.Nodup→
  ∃fp,fH w c us fp∧Own 0 w fp∧ ∀b,b∈fp→ ∃i o,i∈k∧look st.hp i=some o∧b∈(env i).fp
 | [],c,k,us,hr,h,_=>by
   simp only[rj,oI,pI]at h;obtain⟨rfl,rfl⟩:=h;cases us with
   |nil=>exact⟨[],rfl,Own.nil _ _,by simp⟩
   |cons _ _=>exact hr.elim
 |v::r,c,k,us,hr,h,hnd=>by
  cases us with
  |nil=>exact hr.elim
  |cons u us=>
   cases v with
   |lit x=>
    simp only[rj]at h;split at h
    ·rename_i c' k' h';simp only[oI,pI]at h;obtain⟨rfl,rfl⟩:=h;obtain⟨fp,h1,h2,h3⟩:=E7 g hr.2 h' hnd;obtain⟨e1,e2⟩:=hr.1;exact⟨fp,⟨[],fp,⟨e1,e2,rfl⟩,h1,rfl⟩,h2,h3⟩
    ·cases h
   |own n=>
    simp only[rj]at h;split at h
    ·rename_i t l c' k' hl h';simp only[oI,pI]at h;obtain⟨rfl,rfl⟩:=h;obtain⟨hn1,hn2⟩:=dx.1 hnd;obtain⟨fp,h1,h2,h3⟩:=E7 g hr.2 h' hn2;obtain⟨_,rfl⟩:=hr.1;have hb:=RO.sl (g.obj n _ hl);have ho:=RO.own (g.obj n _ hl);refine⟨(env n).fp++fp,⟨_,_,hb,h1,rfl⟩,⟨bM.2 ⟨ho.nodup,h2.nodup,?_⟩,fun b hb=> ?_,fun b hb=> ?_⟩,fun b hb=> ?_⟩
     ·rintro b hb x hx rfl;obtain⟨i,o,hi,h4,h5⟩:=h3 b hx;exact g.tN n i _ _ (fun e=>hn1 (e▸hi)) hl h4 b hb h5
     ·rcases bg.1 hb with hb|hb
      ·exact ho.ge b hb
      ·exact h2.ge b hb
     ·rcases bg.1 hb with hb|hb
      ·exact ho.kind b hb
      ·exact h2.kind b hb
     ·rcases bg.1 hb with hb|hb
      ·exact⟨n,_,by simp,hl,hb⟩
      ·obtain⟨i,o,hi,h4,h5⟩:=h3 b hb;exact⟨i,o,aE _ hi,h4,h5⟩
    ·cases h
   |vw n p t l=>
    simp only[rj]at h;split at h
    ·rename_i t0 l0 c' k' hl h';simp only[oI,pI]at h;obtain⟨rfl,rfl⟩:=h;obtain⟨hn1,hn2⟩:=dx.1 hnd;obtain⟨fp,h1,h2,h3⟩:=E7 g hr.2 h' hn2;obtain⟨_,⟨fv,hs,hnv,hsub⟩,_⟩:=hr.1;have ho:=RO.own (g.obj n _ hl);refine⟨fv++fp,⟨_,_,hs,h1,rfl⟩,⟨bM.2 ⟨hnv,h2.nodup,?_⟩,fun b hb=> ?_,fun b hb=> ?_⟩,fun b hb=> ?_⟩
     ·rintro b hb x hx rfl;obtain⟨i,o,hi,h4,h5⟩:=h3 b hx;exact g.tN n i _ _ (fun e=>hn1 (e▸hi)) hl h4 b (hsub b hb) h5
     ·rcases bg.1 hb with hb|hb
      ·exact ho.ge b (hsub b hb)
      ·exact h2.ge b hb
     ·rcases bg.1 hb with hb|hb
      ·exact ho.kind b (hsub b hb)
      ·exact h2.kind b hb
     ·rcases bg.1 hb with hb|hb
      ·exact⟨n,_,by simp,hl,hsub b hb⟩
      ·obtain⟨i,o,hi,h4,h5⟩:=h3 b hb;exact⟨i,o,aE _ hi,h4,h5⟩
    ·cases h
   |_=>simp[rj]at h
theorem wN{st:St}: ∀{l c:List V} {k:List Nat},rj st l=some (c,k)→Da l=true
 | [],_,_,_=>rfl
 |v::r,c,k,h=>by
  cases v with
  |lit x=>
   simp only[rj]at h;split at h
   ·rename_i h';exact wN (l:=r) h'
   ·cases h
  |own n=>
   simp only[rj]at h;split at h
   ·rename_i h';exact wN (l:=r) h'
   ·cases h
  |vw n p t l=>
   simp only[rj]at h;split at h
   ·rename_i h';exact wN (l:=r) h'
   ·cases h
  |_=>simp[rj]at h
theorem Pt(g:Good ty zb st a.tmps w env){t:Tag}: ∀{ps:List (Nat×Operand)} {i:Nat} {vc:List Prop} {xs:List (T t)} {ks:List Nat},Is st t i ps=some (vc,xs,ks)→ks.Nodup→(∀q,q∈vc→q)→
  (ps.map fun p=>(p.1,a.eval p.2))=FC i (ps.map fun p=>a.eval p.2)∧xs.length=ps.length∧ ∃eS:List (List Nat),eS.length=xs.length∧
   (∀(i:Nat) (x:T t) (f:List Nat),xs[i]? =some x→eS[i]? =some f→ ∃p:Nat×Operand,ps[i]? =some p∧rd t w (a.eval p.2).cells.toList x f)∧Own 0 w eS.flatten∧ ∀b,b∈eS.flatten→ ∃i o,i∈ks∧look st.hp i=some o∧b∈(env i).fp
 | [],i,vc,xs,ks,h,_,_=>by
   simp only[Is,oI,pI]at h;obtain⟨rfl,rfl,rfl⟩:=h;exact⟨rfl,rfl,[],rfl,by simp,Own.nil _ _,by simp⟩
 | (j,x)::r,i,vc,xs,ks,h,hnd,hv=>by
   simp only[Is]at h;split at h
   ·rename_i s hij hx;have hij:=aG hij;subst hij;split at h
    ·rename_i c k hc;split at h
     ·rename_i zM y vcs ys ks1 he hb;simp only[oI,pI]at h;obtain⟨rfl,rfl,rfl⟩:=h;obtain⟨hn1,hn2,hn3⟩:=bM.1 hnd;obtain⟨q1,q2,eS,q3,q4,q5,q6⟩:=Pt g hb hn2 (fun q hq=>hv q (aW _ hq));obtain⟨fp,r1,r2,r3⟩:=E7 g (rm g (lX g (fun e he=>by simp at he) hx) (wN hc)) hc hn1;have hE:=C7 t he (fun q hq=>hv q (bl _ hq)) r1;refine⟨by simp[FC,q1],by simp[q2],fp::eS,by simp[q3],?_,⟨?_,?_,?_⟩,?_⟩
      ·intro i' x' f hx' hf;cases i' with
       |zero=>simp at hx' hf;subst hx';subst hf;exact⟨(i,x),rfl,hE⟩
       |succ n=>simp at hx' hf;obtain⟨p,h1,h2⟩:=q4 n x' f hx' hf;exact⟨p,by simpa using h1,h2⟩
      ·rw[dM];refine bM.2 ⟨r2.nodup,q5.nodup,?_⟩;rintro b hb z hz rfl;obtain⟨n,o1,h1,h2,h3⟩:=r3 b hb;obtain⟨m,o2,h4,h5,h6⟩:=q6 b hz;exact g.tN n m _ _ (fun e=>hn3 n h1 m h4 e) h2 h5 b h3 h6
      ·intro b hb;rw[dM]at hb;rcases bg.1 hb with hb|hb
       ·exact r2.ge b hb
       ·exact q5.ge b hb
      ·intro b hb;rw[dM]at hb;rcases bg.1 hb with hb|hb
       ·exact r2.kind b hb
       ·exact q5.kind b hb
      ·intro b hb;rw[dM]at hb;rcases bg.1 hb with hb|hb
       ·obtain⟨n,o1,h1,h2,h3⟩:=r3 b hb;exact⟨n,o1,bl _ h1,h2,h3⟩
       ·obtain⟨n,o1,h1,h2,h3⟩:=q6 b hb;exact⟨n,o1,aW _ h1,h2,h3⟩
     ·cases h
    ·cases h
   ·cases h
theorem ahC{Γ:Nat→TK}(C: ∀t,gO P t (Γ t)){m0:Nat}{vc:List Prop}{st':St}{v:SV}(h:Pr P ty Γ st m0 o.op=some (vc,st',v))(g:Good ty zb st a.tmps w env)(hB:zb.w.heap.size≤w.heap.size)(hv: ∀q,q∈vc→q):
  o.wp P a w (fun a' w'=> ∃u env',a'=a.put o.dst u∧Kept zb w w'∧Good ty zb st' a.tmps w' env'∧st'.n=st.n∧AR w' st'.hp env' a.tmps v u) Q:=by
 generalize ng:o.op=op at h;cases op with
 |buildSlice t len parts=>
  simp only[Pr]at h;split at h
  ·rename_i gt e hk;split at h
   ·rename_i zM xs ks he hlen hbig hb;have he:=aG he;split at h
    ·rename_i hnd hlk;simp only[an,bO]at hnd;obtain⟨⟨hnd,hpk⟩,X7⟩:=hnd;simp only[oI,pI]at h;obtain⟨rfl,h2,rfl⟩:=h;rw[St.gone_eq]at h2;subst h2;have BY:El P ty gt:=hv _ fI;obtain⟨q1,q2,eS,q3,q4,q5,q6⟩:=Pt g hb (rO hnd) (fun q hq=>hv q OL);have hC:=C t;rw[hk,he]at hC;obtain⟨w',r1,r2,r3⟩:=E5 (P:=P) (w:=w) (a:=a) ng hC.1 BY (bV hbig) (aG hlen) (aY _) q1 q2 q3 q4 q5;obtain⟨env',hg',hv'⟩:=Pn (ty:=ty) g hB (ks:=ks) hpk X7 hlk (v:=O4) (fp:= []) (fx:=eS.flatten) (by simpa using q6) (by intro b hb;cases hb) r3
      ⟨r2.os,r2.tape,r2.output,r2.size,fun b hb _=>r2.block b hb⟩ (by
       intro b hb;rcases bh.1 hb with h|h
       ·exact bw (bw h)
       ·exact bw (bP h))
     unfold nv;rw[r1];exact⟨_,env',rfl,qZ r2 hB,hg',rfl,⟨gt,_,look_eq⟩,hv'.symm⟩
    ·cases h
   ·cases h
  ·cases h
 |_=>simp[Pr]at h
end
end
section
variable{b n off i:Nat}{us:List Value}{eS:List (List Nat)}{f':List Nat}{w':World}{ty:Tag→Nat}
theorem Ms{w:World}{o:Nat}{x y:List Value}(hx:w.rangeAt b o x)(hy:w.rangeAt b (o+x.length) y):w.rangeAt b o (x++y):=by
 intro j v hv;by_cases hj:j<x.length
 ·rw[dQ hj]at hv;exact hx j v hv
 ·rw[dm aJ]at hv;have:=hy _ v hv
  rwa [show o+x.length+(j-x.length)=o+j by omega]at this
theorem U2{w:World}{o:Nat}{cs:List Value}(h:w.rangeAt b o cs):w.rangeAt b o (cs.take n):=by
 intro j v hv;rw[dH]at hv;split at hv
 ·exact h j v hv
 ·cases hv
theorem U3{w:World}{o:Nat}{cs:List Value}(h:w.rangeAt b o cs):w.rangeAt b (o+n) (cs.drop n):=by
 intro j v hv;rw[dc]at hv;have:=h _ v hv
 rwa [show o+n+j=o+(n+j)by omega]
theorem Dh{w:World}{o:Nat}{cs:List Value}(h:w.rangeAt b o cs)(hl:off+us.length≤cs.length)(ht:w.there b (o+off) us.length):
  (w.setCells b (o+off) us).rangeAt b o (cs.take off++(us++cs.drop (off+us.length))):=by
 have l1:(cs.take off).length=off:=by rw[ct];omega
 refine Ms (ga (U2 h) _ _ _ (bw (bP (by rw[l1];exact aS _)))) ?_;rw[l1];refine Ms (World.rangeAt_setCells_same w b _ us ht) ?_;rw[gC];exact ga (U3 h) _ _ _ (bw (bw aJ))
theorem fH.aCJ{w:World}{x y z:List V}{vs ts:List Value}{f g h:List Nat}(a:fH w x us f)(b:fH w y vs g)(c:fH w z ts h):fH w (x++(y++z)) (us++(vs++ts)) (f++(g++h)):=fH.app a (fH.app b c)
theorem fH.split{w:World}: ∀(n:Nat) {c:List V} {cs:List Value} {f:List Nat},fH w c cs f→ ∃f1 f2,f=f1++f2∧fH w (c.take n) (cs.take n) f1∧fH w (c.drop n) (cs.drop n) f2
 |0,c,cs,f,h=>⟨[],f,rfl,by simp[fH],by simpa using h⟩
 |n+1,[],[],f,h=>⟨[],f,rfl,by simp[fH],by simpa using h⟩
 |n+1,v::r,u::us,f,⟨f1,f2,h1,h2,e⟩=>by
  obtain⟨g1,g2,k1,k2,k3⟩:=fH.split n h2;exact⟨f1++g1,g2,by rw[e,k1,bU],⟨f1,g1,h1,k2,rfl⟩,by simpa using k3⟩
 |_+1,[],_::_,_,h=>h.elim
 |_+1,_::_,[],_,h=>h.elim
theorem fH.spl{w:World}{c d vs:List V}{cs:List Value}{f g:List Nat}(h:fH w c cs f)(hv:fH w vs us g)(hs:G.spl c off vs=some d):
  ∃f1 f2 f3,f=f1++(f2++f3)∧fH w d (cs.take off++(us++cs.drop (off+us.length))) (f1++(g++f3))∧off+us.length≤cs.length:=by
 unfold G.spl at hs;split at hs
 ·rename_i hb;have hb:=bV hb;simp only[oI]at hs;subst hs;obtain⟨f1,f',e1,k1,k2⟩:=fH.split off h;obtain⟨f2,f3,e2,_,k4⟩:=fH.split us.length k2;have h1:=h.len;have h2:=hv.len;refine⟨f1,f2,f3,by rw[e1,e2],?_,aJ⟩;have:=fH.aCJ k1 hv k4;rw[uH,uH]at this;rw[←h2];exact this
 ·cases hs
theorem Di(h:b∈(eS.set i f').flatten):b∈f'∨ ∃j f,j≠i∧eS[j]? =some f∧b∈f:=by
 obtain⟨f,hf,hb⟩:=nP.1 h;obtain⟨j,hj⟩:=gR hf;by_cases hji:j=i
 ·subst hji;have hlt:=(aU.1 hj).1;rw[bX]at hlt;rw[jR hlt]at hj;simp only[oI]at hj;subst hj;exact bP hb
 ·rw[mO (Ne.symm hji)]at hj;exact bw ⟨j,f,hji,hj,hb⟩
theorem zq(h:eS.flatten.Nodup)(hf:f'.Nodup)(hd: ∀j f,j≠i→eS[j]? =some f→ ∀b,b∈f→b∉f'):(eS.set i f').flatten.Nodup:=by
 have h1:=kB.1 h;refine kB.2 ⟨fun l hl=> ?_,?_⟩
 ·obtain⟨j,hj⟩:=gR hl;by_cases hji:j=i
  ·subst hji;have hlt:=(aU.1 hj).1;rw[bX]at hlt;rw[jR hlt]at hj;simp only[oI]at hj;subst hj;exact hf
  ·rw[mO (Ne.symm hji)]at hj;exact h1.1 _ (eT hj)
 ·have h2:=qB.1 h1.2;rw[qB];intro p q hp hq hpq x hx y hy e;subst e;rw[bX]at hp hq;rw[List.getElem_set]at hx hy;split at hx<;>split at hy
  ·omega
  ·rename_i e1 e2;subst e1;exact hd q _ aJ (az hq) x hy hx
  ·rename_i e1 e2;subst e2;exact hd p _ aJ (az hp) x hx hy
  ·exact h2 p q hp hq hpq x hx x hy rfl
theorem KI{α:Type}{k:Nat}{E:ER α}(G:mZ k E){w:World}{l:List α}(h:BU k E w b off l eS){x':α}{cs':List Value}
  (hr:w'.rangeAt b (off+i*k) cs')(hE:E w' cs' x' f')(ho: ∀j cs,j≠i→cs.length=k→w.rangeAt b (off+j*k) cs→w'.rangeAt b (off+j*k) cs)(ha: ∀j f,j≠i→eS[j]? =some f→Agree w w' f):
  BU k E w' b off (l.set i x') (eS.set i f'):=by
 refine⟨by rw[bX,bX];exact h.1,fun j y fy hy E0=> ?_⟩;by_cases hj:i=j
 ·subst hj;have hi:=(aU.1 hy).1;rw[bX]at hi;have hi2:=(aU.1 E0).1;rw[bX]at hi2;rw[jR hi]at hy;rw[jR hi2]at E0;simp only[oI]at hy E0;subst hy;subst E0;exact⟨cs',hr,hE⟩
 ·rw[mO hj]at hy E0;obtain⟨cy,hry,hEy⟩:=h.2 j y fy hy E0;exact⟨cy,ho j cy (Ne.symm hj) (G.len hEy) hry,G.agree hEy (ha j fy (Ne.symm hj) E0)⟩
theorem axZ{α:Type}{k:Nat}{E:ER α}(G:mZ k E){e:Nat}{w:World}{v:Value}{l l':List α}{fp oK:List Nat}(h:qN k E 0 e w v l fp)(hs:Shape w w')(h':Sl k E w' v l' oK)(ho:Own 0 w' oK)(hsub: ∀b,b∈oK→b∈fp):
  ∃fp2,qN k E 0 e w' v l' fp2∧ ∀b,b∈fp2→b∈fp:=by
 rcases h.parts with⟨rfl,rfl,rfl⟩| ⟨g,o,n,c,eS,rfl,hn,hnm,hc1,hc2,rfl⟩
 ·obtain⟨oa,cap,hv,_,_,h3⟩:=h';simp only[eZ]at hv;obtain⟨rfl,hl,rfl⟩:=hv;have:l'= []:=ck hl.symm;subst this;exact⟨[],qN.nil _ _ _ _ _,by simp⟩
 ·obtain⟨oa,cap,hv,hc,hm,h3⟩:=h';simp only[eZ]at hv;obtain⟨rfl,hl,rfl⟩:=hv;obtain⟨c',hs1,hs2⟩:=hs g c e hc1;rcases h3 with⟨rfl,rfl,_⟩| ⟨b,off,aIV,hb,aIW,rfl,hE⟩
  ·rw[hl];refine⟨[g],zO G (l:= []) (eS:= []) hs1 (by rw[hs2];exact hc2) (aY _) hm ⟨rfl,by simp⟩ ⟨by simp,by simp,fun b hb=> ?_⟩,by simp⟩;simp only[List.flatten_nil,aV]at hb;exact⟨_,_,by rw[hb];exact hs1⟩
  ·simp only[oI,j6,and_true]at hb;obtain⟨rfl,rfl⟩:=hb;rw[hl];exact⟨_,zO G hs1 (by rw[hs2];exact hc2) hc hm hE ho,hsub⟩
def fits:TK→S1→Bool
 | .st z _ _, .agg c=>bH c.length z.length
 | .st _ _ _,_=>false
 | .other,_=>false
 |_, .a _=>true
 |_,_=>false
theorem Yb{k:TK}{c:List V}(h:fits k (.agg c)=true): ∃z tg fo,k= .st z tg fo∧bH c.length z.length=true:=by
 cases k with
 |st z tg fo=>exact⟨z,tg,fo,rfl,h⟩
 |_=>cases h
theorem Yc{k:TK}{v:V}(h:fits k (.a v)=true):(∀z tg fo,k≠ .st z tg fo)∧k≠ .other:=by
 cases k with
 |st z tg fo=>cases h
 |other=>cases h
 |_=>exact⟨fun _ _ _ e=>(by cases e),fun e=>(by cases e)⟩
def St.ak1(st:St)(ms:List Nat)(n:Nat)(t:Tag)(l:List (T t)):St:=⟨st.n,st.sl.map fun e=>(e.1,e.2.dJ ms [n]),(n, .arr t l)::gr ms [n] st.hp⟩
def aed(n:Nat)(ms:List Nat):Bool:=zo (n::ms)&& !pinned ms&&(match ms with| []=>true|_=> !tG n)
def arT(Γ:Nat→TK)(st:St):Op→Option (List Prop×St)
 | .store t x y=>match oH st [] x,oH st [] y with
   |some (.a (.Cm n i off)),some v=>match look st.hp n with
    |some (.arr g l)=>match fits (Γ t) v,takes st (cellsOf v)with
     |true,some (c,ms)=>match spl (dec g (l.getD i (aO g))) off c with
      |some d=>match enc g d,aed n ms with
       |some (vc,y'),true=>some ((i<l.length)::vc,st.ak1 ms n g (l.set i y'))
       |_,_=>none
      |none=>none
     |_,_=>none
    |_=>none
   |_,_=>none
 |_=>none
section
variable{P:Program}{zb:fG}{st st':St}{a:Act}{w:World}{env:Env}{Q:Exit→Act→World→Prop}{o:Oper}
theorem Yd(g:Good ty zb st a.tmps w env){t:Tag}{l l':List (T t)}(hl:look st.hp n=some (.arr t l)){ms:List Nat}(hok:aed n ms=true){oK fx:List Nat}
  (hfx: ∀b,b∈fx→ ∃i o,i∈ms∧look st.hp i=some o∧b∈(env i).fp)(hsub: ∀b,b∈oK→b∈(env n).fp∨b∈fx)(Ye:tG n=true→ ∀b,b∈oK→b∈(env n).fp)
  (hk: ∀b,b∉(env n).fp→b∉fx→b<w.heap.size→w'.heap[b]? =w.heap[b]?)(aGg:yx ty w' n t l' ⟨(env n).v,oK⟩):
  ∃env',Good ty zb (st.ak1 ms n t l') a.tmps w' env'∧(env' n).v=(env n).v:=by
 simp only[aed,an,bO]at hok;obtain⟨⟨hnd,hpk⟩,hpn⟩:=hok;have hnd:=rO hnd;have hnm:n∉ms:=(dx.1 hnd).1;refine⟨fun m=>if m=n then⟨(env n).v,oK⟩else env m,?_,by simp⟩;have hlk: ∀m o,look ((n,Obj.arr t l')::gr ms [n] st.hp) m=some o→(m=n∧o= .arr t l')∨(m≠n∧m∉ms∧ ∃o',look st.hp m=some o'∧o=o'.dJ ms [n]):=by
  intro m o hm;by_cases vJ:m=n
  ·subst vJ;rw[look_eq]at hm;simp only[oI]at hm;exact bP ⟨rfl,hm.symm⟩
  ·rw[cR vJ,fB]at hm;split at hm
   ·cases hm
   ·rename_i hks;cases hq:look st.hp m with
    |none=>rw[hq]at hm;cases hm
    |some o'=>rw[hq]at hm;simp only[eN,oI]at hm;exact bw ⟨vJ,hks,o',rfl,hm.symm⟩
 have how: ∀b,b∈oK→ ∃i o,(i=n∨i∈ms)∧look st.hp i=some o∧b∈(env i).fp:=by
  intro b hb;rcases hsub b hb with h|h
  ·exact⟨n,_,bP rfl,hl,h⟩
  ·obtain⟨i,o,h1,h2,h3⟩:=hfx b h;exact⟨i,o,bw h1,h2,h3⟩
 have hst: ∀m o,m≠n→m∉ms→look st.hp m=some o→ ∀b,b∈(env m).fp→w'.heap[b]? =w.heap[b]? :=by
  intro m o hmn hks h3 b hb;refine hk b (fun h=>g.tN m n _ _ hmn h3 hl b hb h) (fun h=> ?_) ((g.obj m o h3).blk b hb);obtain⟨i,oi,hi,h5,h6⟩:=hfx b h;exact g.tN m i _ _ (fun e=>hks (e▸hi)) h3 h5 b hb h6
 have s:AX ms [n] w st.hp env w' ((n, .arr t l')::gr ms [n] st.hp) (fun m=>if m=n then⟨(env n).v,oK⟩else env m):=by
  refine⟨fun b hb hno=>hk b (fun h=>hno ⟨n,_,hl,h⟩) (fun h=> ?_) hb,?_,?_,?_⟩
  ·obtain⟨i,oi,hi,h5,h6⟩:=hfx b h;exact hno ⟨i,oi,h5,h6⟩
  ·rintro b hb ⟨m,o',h1,h2⟩;rcases hlk m o' h1 with⟨rfl,rfl⟩| ⟨vJ,hks,Nn,h3,rfl⟩
   ·simp at h2;obtain⟨i,o',_,h3,h4⟩:=how b h2;exact⟨i,o',h3,h4⟩
   ·simp[vJ]at h2;exact⟨m,Nn,h3,h2⟩
  ·intro m o' hks h1;by_cases hmn:m=n
   ·subst hmn;rw[hl]at h1;simp only[oI]at h1;subst h1;exact⟨_,look_eq,rfl,by simp⟩
   ·exact⟨o'.dJ ms [n],by rw[cR hmn,fB,if_neg hks,h1];rfl,by cases o'<;>simp[Obj.like,Obj.dJ],by simp[hmn]⟩
  ·rintro m t' l2 ⟨hks,hmn⟩ h1;have hmn:m≠n:=by simpa using hmn
   exact⟨by rw[cR hmn,fB,if_neg hks,h1];rfl,by simp[hmn],hst m _ hmn hks h1⟩
 refine g.oR s (fun m o' hm=> ?_) (fun m m' o1 o2 hne h1 h2 b hb hb'=> ?_) (fun m o' hm b hb=> ?_) (fun m hm=> ?_)
 ·rcases hlk m o' hm with⟨rfl,rfl⟩| ⟨vJ,hks,Nn,h3,rfl⟩
  ·simp only[if_true];exact aGg
  ·simp only[if_neg vJ];exact(g.obj m Nn h3).oR s (hst m Nn vJ hks h3)
 ·rcases hlk m o1 h1 with⟨e1,_⟩| ⟨vJ,hks,q1,h3,_⟩<;>rcases hlk m' o2 h2 with⟨e2,_⟩| ⟨UZ,akZ,q2,h4,_⟩
  ·exact hne (e1.trans e2.symm)
  ·simp only[if_pos e1]at hb;simp only[if_neg UZ]at hb';obtain⟨i,oi,hi,h5,h6⟩:=how b hb;refine g.tN m' i _ _ (fun e=> ?_) h4 h5 b hb' h6;rcases hi with hi|hi
   ·exact UZ (e.trans hi)
   ·exact akZ (e▸hi)
  ·simp only[if_pos e2]at hb';simp only[if_neg vJ]at hb;obtain⟨i,oi,hi,h5,h6⟩:=how b hb';refine g.tN m i _ _ (fun e=> ?_) h3 h5 b hb h6;rcases hi with hi|hi
   ·exact vJ (e.trans hi)
   ·exact hks (e▸hi)
  ·simp only[if_neg vJ]at hb;simp only[if_neg UZ]at hb';exact g.tN m m' _ _ hne h3 h4 b hb hb'
 ·rcases hlk m o' hm with⟨e1,_⟩| ⟨vJ,hks,q1,h3,_⟩
  ·simp only[if_pos e1]at hb;obtain⟨i,oi,_,h5,h6⟩:=how b hb;exact g.dom i oi h5 b h6
  ·simp only[if_neg vJ]at hb;exact g.dom m q1 h3 b hb
 ·by_cases hmn:m=n
  ·subst hmn;simp only[if_true];exact⟨(g.pins m hm).1,fun b hb=>(g.pins m hm).2 b (Ye hm b hb)⟩
  ·simp only[if_neg hmn];exact g.pins m hm
theorem arU{Γ:Nat→TK}(C: ∀t,gO P t (Γ t))(Z: ∀t,(∀z tg fo,Γ t≠ .st z tg fo)→Γ t≠ .other→(P.info? t).map (·.size)=some 1){vc:List Prop}(h:arT Γ st o.op=some (vc,st'))(g:Good ty zb st a.tmps w env)(hv: ∀q,q∈vc→q):
  o.wp P a w (fun a' w'=> ∃env',a'=a.put o.dst undef∧Kept zb w w'∧Good ty zb st' a.tmps w' env'∧st'.n=st.n) Q:=by
 have hop: ∀{x v},oH st [] x=some v→mG w st.hp env v (a.eval x):=fun hx=>lX g (fun e he=>by simp at he) hx;generalize ng:o.op=op at h;cases op with
 |store t x y=>
  simp only[arT]at h;split at h
  ·rename_i n i off v hx hy;have hx:=hop hx;have hy:=hop hy;split at h
   ·rename_i gt l hl;split at h
    ·rename_i c ms hfit htk;split at h
     ·rename_i d hs;split at h
      ·rename_i zM y' he hok;simp only[oI,pI]at h;obtain⟨rfl,rfl⟩:=h;have hi:i<l.length:=hv _ fI;have aCL:=hok;simp only[aed,an,bO]at aCL;obtain⟨⟨hnd,hpk⟩,hpn⟩:=aCL;have hnd:=rO hnd;have hnm:n∉ms:=(dx.1 hnd).1;obtain⟨t1,l1,hl1,b2,o2,aGh,aCM,hv1,hu⟩:=hx;rw[hl]at hl1;simp only[oI,Obj.arr.injEq]at hl1;obtain⟨rfl,_⟩:=hl1;have hro:=g.obj n _ hl;obtain⟨oa,cap,hsv,hc1,hc2,h3⟩:=RO.sl hro;have hown:=RO.own hro;rcases h3 with⟨rfl,_⟩| ⟨b,o1,eS,hoa,fu,qx,hE⟩
       ·simp at hi
       rw[hsv,hoa]at hv1;simp only[eZ,oI,j6,and_true]at hv1;obtain⟨⟨rfl,rfl⟩,rfl,rfl⟩:=hv1;have hxi:l[i]? =some (l.getD i (aO gt)):=by rw[aq,az hi];rfl
       obtain⟨f,hf⟩:=mQ hE.1 hxi;obtain⟨cs,KF,hEi⟩:=hE.2 _ _ f hxi hf;have hlen:=(ko gt).len hEi;rw[qx]at hown;have A7:=dx.1 hown.nodup;obtain⟨fx,hri,hox,hfx⟩:=It g (rm g hy (mj htk)) htk (dx.1 hnd).2;obtain⟨f1,f2,f3,hff,hrd,hlo⟩:=fH.spl (reads gt hEi) hri hs;have hEn:=C7 gt he (fun q hq=>hv q OL) hrd;have hsz:(P.info? t).map (·.size)=some (a.eval y).cells.toList.length∧ ∀u,u∈(a.eval y).cells.toList→u.oneCell'=true:=by
        refine⟨?_,E6 g (rm g hy (mj htk)) (zN (mj htk))⟩;cases v with
        |agg c'=>
         have hk: ∃z tg fo,Γ t= .st z tg fo∧bH c'.length z.length=true:=by
          exact Yb hfit
         obtain⟨z,tg,fo,hk,hfit⟩:=hk;have hC:=C t;rw[hk]at hC;obtain⟨fs,_,hi2,_⟩:=hC;obtain⟨us,hus,hul⟩:=hy;have:=aG hfit;have hl3:=hul.len;rw[hus];cases hq:P.info? t with
         |none=>simp[hq]at hi2
         |some inf=>simp[hq]at hi2;simp[hi2.1,oP,hl3,this]
        |a v'=>
         have hk:(∀z tg fo,Γ t≠ .st z tg fo)∧Γ t≠ .other:=by
          exact Yc hfit
         have hne:v'≠ .any:=by rintro rfl;simp[cellsOf,takes]at htk
         have:=rN g (show RA w st.hp env v' (a.eval y)from hy) hne;rw[this];exact Z t hk.1 hk.2
       obtain⟨cb,eb,KJ⟩:=hown.kind b fI;have hth:w.there b (o1+i*kk gt+off) (a.eval y).cells.toList.length:=by
        refine abE KJ _ _ ?_;have hcl:o1+i*kk gt+cs.length≤cb.size:=by
         have hk0:=oc gt;have:=KF (cs.length-1) _ (az aJ);rw[XM KJ]at this;have:=(dZ.1 this).1;omega
        omega
       have hkeep: ∀x,x≠b→(w.setCells b (o1+i*kk gt+off) (a.eval y).cells.toList).heap[x]? =w.heap[x]? :=fun x hx=>gh b _ _ w x hx;have Xf: ∀x,x∈fx→x≠b:=by
        rintro x hx rfl;obtain⟨m,om,hm,h5,h6⟩:=hfx x hx;exact g.tN n m _ _ (fun e=>hnm (e▸hm)) hl h5 x (by rw[qx];simp) h6
       have hbf: ∀x,x∈eS.flatten→x≠b:=fun x hx e=>A7.1 (e▸hx);have Gi: ∀x,x∈f1++(fx++f3)→x∈f∨x∈fx:=by
        intro x hx;rw[hff];rcases bg.1 hx with hx|hx
        ·exact bP (bl _ hx)
        ·rcases bg.1 hx with hx|hx
         ·exact bw hx
         ·exact bP (aW _ (aW _ hx))
       have axN: ∀x,x∈f1++(fx++f3)→x≠b:=by
        intro x hx;rcases Gi x hx with h|h
        ·exact hbf x (gB hf h)
        ·exact Xf x h
       have ahd:Agree w (w.setCells b (o1+i*kk gt+off) (a.eval y).cells.toList) (f1++(fx++f3)):=fun x hx=>hkeep x (axN x hx);have ahD:=KI (ko gt) (w':=w.setCells b (o1+i*kk gt+off) (a.eval y).cells.toList) hE (i:=i) (x':=y') (f':=f1++(fx++f3))
        (Dh KF hlo hth) ((ko gt).agree hEn ahd)
        (fun j cs' hj hcl hr=>ga hr _ _ _ (bw (by
         rw[hcl];rcases uX j i with h1|h1
         ·left;have:=cG (kk gt) (show j+1≤i by omega);rw[cM]at this;omega
         ·right;have:=cG (kk gt) (show i+1≤j by omega);rw[cM]at this;omega)))
        (fun j f' _ hf' x hx=>hkeep x (hbf x (gB hf' hx)))
       have ax1:(f1++(fx++f3)).Nodup:=by
        have h1:=(kB.1 A7.2).1 f (eT hf);rw[hff]at h1;obtain⟨h2,h3,h4⟩:=bM.1 h1;obtain⟨_,h6,_⟩:=bM.1 h3;have hap: ∀x,x∈fx→x∉f:=by
         intro x hx hxf;obtain⟨m,om,hm,h5,h7⟩:=hfx x hx;exact g.tN n m _ _ (fun e=>hnm (e▸hm)) hl h5 x (by rw[qx];exact aE _ (gB hf hxf)) h7
        rw[hff]at hap;refine bM.2 ⟨h2,bM.2 ⟨hox.nodup,h6,?_⟩,?_⟩
        ·rintro x hx z hz rfl;exact hap x hx (by simp[hz])
        ·rintro x hx z hz rfl;rcases bg.1 hz with hz|hz
         ·exact hap x hz aj3
         ·exact h4 x hx x (by simp[hz]) rfl
       have hmem: ∀x,x∈(eS.set i (f1++(fx++f3))).flatten→x∈eS.flatten∨x∈fx:=by
        intro x hx;rcases Di hx with h| ⟨j,f',_,hj,h⟩
        ·rcases Gi x h with h|h
         ·exact bP (gB hf h)
         ·exact bw h
        ·exact bP (gB hj h)
       have hO':Own 0 (w.setCells b (o1+i*kk gt+off) (a.eval y).cells.toList) (b::(eS.set i (f1++(fx++f3))).flatten):=by
        refine⟨dx.2 ⟨fun hm=> ?_,zq A7.2 ax1 fun j f' hj hf' x hx hx'=> ?_⟩,fun _ _=>aY _,fun x hx=> ?_⟩
        ·rcases hmem b hm with h|h
         ·exact A7.1 h
         ·exact Xf b h rfl
        ·rcases Gi x hx' with h|h
         ·exact E8 A7.2 hf' hf hj x hx h
         ·obtain⟨m,om,hm,h5,h7⟩:=hfx x h;exact g.tN n m _ _ (fun e=>hnm (e▸hm)) hl h5 x (by rw[qx];exact aE _ (gB hf' hx)) h7
        ·rcases bh.1 hx with rfl|hx
         ·obtain⟨c',q1,_⟩:=j0 x eb (a.eval y).cells.toList (o1+i*kk gt+off) w cb KJ;exact⟨_,_,q1⟩
         ·rcases hmem x hx with h|h
          ·rw[hkeep x (hbf x h)];exact hown.kind x (aE _ h)
          ·rw[hkeep x (Xf x h)];exact hox.kind x h
       have ax2:Sl (kk gt) (rd gt) (w.setCells b (o1+i*kk gt+off) (a.eval y).cells.toList) (env n).v (l.set i y') (b::(eS.set i (f1++(fx++f3))).flatten):=by
        refine⟨some ⟨b,o1,none⟩,cap,by rw[hsv,hoa,bX],by rw[bX];exact hc1,hc2,bw ⟨b,o1,_,rfl,?_,rfl,ahD⟩⟩;exact fu.set KJ _ _
       have hM:=g.dom n _ hl b (by rw[qx];simp);have ak3:=Pm hM KJ (o1+i*kk gt+off) (a.eval y).cells.toList;have hrun:(storeVar t ⟨b,o1+i*kk gt+off,none⟩ (a.eval y)).run P w= .ok () (w.setCells b (o1+i*kk gt+off) (a.eval y).cells.toList):=AY fI hth hsz.1 hsz.2;have ak4: ∃oK,(∀x,x∈oK→x∈(env n).fp∨x∈fx)∧(tG n=true→ ∀x,x∈oK→x∈(env n).fp)∧yx ty (w.setCells b (o1+i*kk gt+off) (a.eval y).cells.toList) n gt (l.set i y') ⟨(env n).v,oK⟩:=by
        have hall: ∀x,x∈b::(eS.set i (f1++(fx++f3))).flatten→x∈(env n).fp∨x∈fx:=by
         intro x hx;rw[qx];rcases bh.1 hx with rfl|hx
         ·exact bP fI
         ·rcases hmem x hx with h|h
          ·exact bP (aE _ h)
          ·exact bw h
        cases hp:soft n with
        |true=>
         refine⟨_,hall,fun hpt x hx=> ?_,by unfold yx;rw[hp];exact⟨ax2,hO'⟩⟩;rcases hall x hx with h|h
         ·exact h
         ·obtain⟨m,om,hm,_⟩:=hfx x h;cases ms with
          |nil=>simp at hm
          |cons _ _=>rw[hpt]at hpn;simp at hpn
        |false=>
         have hB:=RO.bld hp hro;have hB2:qN (kk gt) (rd gt) 0 (ty gt) (w.setCells b (o1+i*kk gt+off) (a.eval y).cells.toList) (env n).v (l.set i y') (b::(eS.set i (f1++(fx++f3))).flatten):=by
          rcases hB.parts with⟨h1,rfl,_⟩| ⟨g0,o0,n0,cc,aIZ,h1,hn0,aI0,q1,q2,_⟩
          ·simp at hi
          ·rw[hsv,hoa]at h1;simp only[eZ,oI,j6,and_true,true_and]at h1;obtain⟨⟨rfl,rfl⟩,rfl⟩:=h1;obtain⟨cc',q3,q4⟩:=j0 b (ty gt) (a.eval y).cells.toList (o1+i*kk gt+off) w cc q1;rw[hsv,hoa, ←bX (as:=l) (i:=i) (a:=y')];exact zO (ko gt) q3 (by rw[q4];exact q2) (by rw[bX];exact hc1) hc2 ahD hO'
         refine⟨_,hall,?_,?_⟩
         ·intro h;rw[akJ hp]at h;cases h
         ·unfold yx;rw[hp];exact hB2
       obtain⟨oK,k1,k2,k3⟩:=ak4;obtain⟨env',hg',hv'⟩:=Yd g hl hok (w':=w.setCells b (o1+i*kk gt+off) (a.eval y).cells.toList) hfx k1 k2 (fun x hx _ _=>hkeep x (fun e=>hx (by rw[e,qx];simp))) k3;unfold nv execOp;simp only[ng,hu,Iq,qz,dS,eu,cC,hrun];exact⟨env',rfl,ak3,hg',rfl⟩
      ·cases h
     ·cases h
    ·cases h
   ·cases h
  ·cases h
 |_=>simp[arT]at h
end
end
section
variable{n:Nat}{w':World}{ty:Tag→Nat}
def RF(w:World):List V→List Value→List (List Nat)→Prop
 | [],[],eS=>eS= []
 |v::vs,u::us,eS=> ∃f g,RI w v u f∧RF w vs us g∧eS=f::g
 |_,_,_=>False
def arW:List (List Nat)→List (List Nat)→Prop
 | [],[]=>True
 |f::r,g::s=>(∀b,b∈f→b∈g)∧arW r s
 |_,_=>False
def St.upd(st:St)(os:Hp):St:=⟨st.n,st.sl.map fun e=>(e.1,e.2.dJ [] (os.map kG)),os++gr [] (os.map kG) st.hp⟩
theorem ahE{os:Hp}:n∈os.map kG↔look os n≠none:=by
 induction os with
 |nil=>simp[look]
 |cons e r ih=>
  obtain⟨j,x⟩:=e;by_cases h:n=j
  ·subst h;simp[look_eq]
  ·rw[cR h, ←ih];simp[h]
section
variable{P:Program}{zb:fG}{st st':St}{a:Act}{w:World}{env:Env}{Q:Exit→Act→World→Prop}{o:Oper}
theorem ak5(g:Good ty zb st a.tmps w env){os:Hp}(hos: ∀n o,look os n=some o→ ∃t l l',look st.hp n=some (.arr t l)∧o= .arr t l'){fpn:Nat→List Nat}
  (hsub: ∀n o,look os n=some o→ ∀b,b∈fpn n→b∈(env n).fp)(hk: ∀b,b<w.heap.size→(∀n o,look os n=some o→b∉(env n).fp)→w'.heap[b]? =w.heap[b]?)
  (hro: ∀n t l',look os n=some (.arr t l')→yx ty w' n t l' ⟨(env n).v,fpn n⟩):
  ∃env',Good ty zb (st.upd os) a.tmps w' env'∧ ∀n,(env' n).v=(env n).v:=by
 refine⟨fun m=>match look os m with|some _=>⟨(env m).v,fpn m⟩|none=>env m,?_,fun n=>by dsimp only;split<;>rfl⟩;have hlk: ∀m o,look (os++gr [] (os.map kG) st.hp) m=some o→(look os m=some o)∨(look os m=none∧ ∃o',look st.hp m=some o'∧o=o'.dJ [] (os.map kG)):=by
  intro m o hm;cases hq:look os m with
  |some x=>rw[gm hq]at hm;exact bP hm
  |none=>
   rw[dD hq,fB,if_neg fI]at hm;cases Yf:look st.hp m with
   |none=>rw[Yf]at hm;cases hm
   |some o'=>rw[Yf]at hm;simp only[eN,oI]at hm;exact bw ⟨rfl,o',rfl,hm.symm⟩
 have hst: ∀m o,look os m=none→look st.hp m=some o→ ∀b,b∈(env m).fp→w'.heap[b]? =w.heap[b]? :=by
  intro m o hm h3 b hb;refine hk b ((g.obj m o h3).blk b hb) fun n o' hn h=> ?_;obtain⟨t,l,l',h4,_⟩:=hos n o' hn;exact g.tN m n _ _ (fun e=>by rw[e,hn]at hm;cases hm) h3 h4 b hb h
 have qx: ∀m o,look (os++gr [] (os.map kG) st.hp) m=some o→ ∀b,b∈(match look os m with|some _=>(⟨(env m).v,fpn m⟩:CO)|none=>env m).fp→b∈(env m).fp∧ ∃o',look st.hp m=some o':=by
  intro m o hm b hb;rcases hlk m o hm with h| ⟨h,o',h2,_⟩
  ·rw[h]at hb;obtain⟨t,l,l',h4,_⟩:=hos m o h;exact⟨hsub m o h b hb,_,h4⟩
  ·rw[h]at hb;exact⟨hb,o',h2⟩
 have s:AX [] (os.map kG) w st.hp env w' (os++gr [] (os.map kG) st.hp) (fun m=>match look os m with|some _=>⟨(env m).v,fpn m⟩|none=>env m):=by
  refine⟨fun b hb hno=>hk b hb fun n o hn h=> ?_,?_,?_,?_⟩
  ·obtain⟨t,l,l',h4,_⟩:=hos n o hn;exact hno ⟨n,_,h4,h⟩
  ·rintro b hb ⟨m,o',h1,h2⟩;obtain⟨h3,o2,h4⟩:=qx m o' h1 b h2;exact⟨m,o2,h4,h3⟩
  ·intro m o' _ h1;cases hq:look os m with
   |some x=>
    obtain⟨t,l,l',h4,rfl⟩:=hos m x hq;rw[h4]at h1;simp only[oI]at h1;subst h1;exact⟨_,gm hq,rfl,rfl⟩
   |none=>
    exact⟨o'.dJ [] (os.map kG),by rw[dD hq,fB,if_neg fI,h1];rfl,by cases o'<;>simp[Obj.like,Obj.dJ],rfl⟩
  ·rintro m t' l2 ⟨_,hmn⟩ h1;have hq:look os m=none:=by
    cases hq:look os m with
    |none=>rfl
    |some x=>exact absurd (ahE.2 (by rw[hq];simp)) hmn
   exact⟨by rw[dD hq,fB,if_neg fI,h1];rfl,by simp[hq],hst m _ hq h1⟩
 refine g.oR s (fun m o' hm=> ?_) (fun m m' o1 o2 hne h1 h2 b hb hb'=> ?_) (fun m o' hm b hb=> ?_) (fun m hm=> ?_)
 ·rcases hlk m o' hm with h| ⟨h,Nn,h3,rfl⟩
  ·obtain⟨t,l,l',h4,rfl⟩:=hos m o' h;simp only[h];exact hro m t l' h
  ·simp only[h];exact(g.obj m Nn h3).oR s (hst m Nn h h3)
 ·obtain⟨h3,q1,h4⟩:=qx m o1 h1 b hb;obtain⟨h5,q2,h6⟩:=qx m' o2 h2 b hb';exact g.tN m m' _ _ hne h4 h6 b h3 h5
 ·obtain⟨h3,q1,h4⟩:=qx m o' hm b hb;exact g.dom m q1 h4 b h3
 ·refine⟨?_,fun b hb=> ?_⟩
  ·have:=(g.pins m hm).1;split<;>exact this
  ·cases hq:look os m with
   |none=>simp only[hq]at hb;exact(g.pins m hm).2 b hb
   |some x=>simp only[hq]at hb;exact(g.pins m hm).2 b (hsub m x hq b hb)
theorem abY{t:Tag}{l l':List (T t)}{co:CO}{oK:List Nat}{hp:Hp}(h:RO ty w hp env n (.arr t l) co)(hs:Shape w w')(h':Sl (kk t) (rd t) w' co.v l' oK)(ho:Own 0 w' oK)(hsub: ∀b,b∈oK→b∈co.fp):
  ∃fp2,yx ty w' n t l' ⟨co.v,fp2⟩∧ ∀b,b∈fp2→b∈co.fp:=by
 unfold yx;cases hp:soft n with
 |true=>exact⟨oK,⟨h',ho⟩,hsub⟩
 |false=>exact axZ (ko t) (RO.bld hp h) hs h' ho hsub
end
def back(st:St):List V→List V→Option Hp
 | [],[]=>some []
 | .own n::r, .sl t' l'::s=>match look st.hp n,back st r s with
   |some (.arr t _),some os=>match rM t t' l' with|some l'=>some ((n, .arr t l')::os)|none=>none
   |_,_=>none
 | .lit _::r,_::s=>back st r s
 |_,_=>none
section
variable{P:Program}{zb:fG}{st st':St}{a:Act}{w:World}{env:Env}{Q:Exit→Act→World→Prop}{o:Oper}
theorem RI.cells{v:V}{u:Value}{f:List Nat}(h:RI w v u f):u.cells= #[u]:=by
 cases v with
 |lit x=>obtain⟨rfl,h1,_⟩:=h;cases u<;>simp_all [oP,Gg]
 |sl t l=>obtain⟨oa,cap,rfl,_⟩:=h;rfl
 |_=>exact h.elim
theorem Kept.aCQ{L:List Nat}{pv:Nat→CO}(h:Kept ⟨w,L,pv⟩ w w')(hB:zb.w.heap.size≤w.heap.size)(hL: ∀b,b∈L→b∈zb.L∨zb.w.heap.size≤b):Kept zb w w':=
 ⟨h.os,h.tape,h.output,h.size,fun b hb hn=>h.block b (Nat.lt_of_lt_of_le hb hB) fun hm=>(hL b hm).elim hn fun h=>by omega,h.shape⟩
theorem abZ{i off:Nat}{t:Tag}{l l2:List (T t)}{u0:Value}{gt:Tag}{l0:List (T gt)}{c:List V}{x':T gt}{zM:List Prop}{pv:Nat→CO}(g:Good ty zb st a.tmps w env)(hB:zb.w.heap.size≤w.heap.size)
  (hRV:RV w st.hp env n (some (i,off)) t l u0)(hl:look st.hp n=some (.arr gt l0))(hs:spl (dec gt (l0.getD i (aO gt))) off [.sl t l2]=some c)(he:enc gt c=some (zM,x'))(hv: ∀q,q∈zM→q):
  ∃fv,RI w (.sl t l) u0 fv∧(∀y,y∈fv→y∈zb.L∨zb.w.heap.size≤y)∧Own 0 w fv∧ ∀w' fv',Kept ⟨w,fv,pv⟩ w w'→RI w' (.sl t l2) u0 fv'→Own 0 w' fv'→(∀y,y∈fv'→y∈fv)→ ∃env',Kept zb w w'∧Good ty zb (st.upd [(n, .arr gt (l0.set i x'))]) a.tmps w' env':=by
 obtain⟨_,_,aCR⟩:=hRV;obtain⟨t1,l1,b2,o2,aGh,aCM,hl1,hi,ax3,hev,Tk,hcell⟩:=aCR i off rfl;rw[hl]at hl1;simp only[oI,Obj.arr.injEq]at hl1;obtain⟨rfl,hl1⟩:=hl1;cases hl1;have hro:=g.obj n _ hl;obtain⟨oa,cap,hsv,hc1,hc2,h3⟩:=RO.sl hro;have hown:=RO.own hro;rcases h3 with⟨rfl,_⟩| ⟨b,o1,eS,hoa,fu,qx,hE⟩
 ·simp at hi
 rw[hsv,hoa]at hev;simp only[eZ,oI,j6,and_true]at hev;obtain⟨⟨rfl,rfl⟩,rfl,rfl⟩:=hev;have hxi:l0[i]? =some (l0.getD i (aO gt)):=by rw[aq,az hi];rfl
 obtain⟨fe,hf⟩:=mQ hE.1 hxi;obtain⟨cs,KF,hEi⟩:=hE.2 _ _ fe hxi hf;rw[qx]at hown;have A7:=dx.1 hown.nodup;have hR:=reads gt hEi;obtain⟨f1,f',hfe,k1,k2⟩:=fH.split off hR;have hdl: ∃r',(dec gt (l0.getD i (aO gt))).drop off= .sl t l::r':=by
  rw[NY]at ax3;have hlt:=(aU.1 ax3).1;rw[gP hlt];have:=(aU.1 ax3).2;rw[this];exact⟨_,rfl⟩
 obtain⟨r',hdl⟩:=hdl;rw[hdl]at k2;have ak7: ∃u us,cs.drop off=u::us:=by
  cases hq:cs.drop off with
  |nil=>rw[hq]at k2;exact k2.elim
  |cons u us=>exact⟨u,us,rfl⟩
 obtain⟨u,us,ak7⟩:=ak7;rw[ak7]at k2;obtain⟨fv,f3,hri,aCS,hf'⟩:=k2;have huc:cs[off]? =some u:=by
  have:=congrArg (fun l=>l[0]?) ak7;simpa using this
 have hue:u0=u:=by
  have:=KF off u huc;rw[hcell]at this;simpa using this
 rw[hue]at hcell ⊢;have XE: ∀y,y∈fv→y∈fe:=fun y hy=>by rw[hfe,hf'];simp[hy]
 have aCT:=(kB.1 A7.2).1 fe (eT hf);rw[hfe,hf']at aCT;obtain⟨n1,n2,n3⟩:=bM.1 aCT;obtain⟨n4,n5,n6⟩:=bM.1 n2;have aCU:Own 0 w fv:=⟨n4,fun _ _=>aY _,fun y hy=>hown.kind y (aE _ (gB hf (XE y hy)))⟩;refine⟨fv,hri,fun y hy=>g.dom n _ hl y (by rw[qx];exact aE _ (gB hf (XE y hy))),aCU,?_⟩;intro w' fv' hk aGi ax5 ab0;have m1:=ax5.nodup;have hkeep: ∀y,y<w.heap.size→y∉fv→w'.heap[y]? =w.heap[y]? :=fun y hy hn=>hk.block y hy hn;have hbf: ∀y,y∈eS.flatten→y≠b:=fun y hy e=>A7.1 (e▸hy);have ax6: ∀y,y∈eS.flatten→y<w.heap.size:=fun y hy=>hown.lt y (aE _ hy);have hkb:w'.heap[b]? =w.heap[b]? :=hkeep b fu.lt fun hm=>A7.1 (gB hf (XE b hm));have hrg: ∀{o:Nat} {cs:List Value},w.rangeAt b o cs→w'.rangeAt b o cs:=by
  intro o cs hr j v hv;rw[World.cell?_of_block (w:=w) (a:=⟨b,_,none⟩) hkb];exact hr j v hv
 have ag1:Agree w w' f1:=fun y hy=>hkeep y (ax6 y (gB hf (by rw[hfe];simp[hy]))) fun hm=>n3 y hy y (by simp[hm]) rfl;have ag3:Agree w w' f3:=fun y hy=>hkeep y (ax6 y (gB hf (by rw[hfe,hf'];simp[hy]))) fun hm=>n6 y hm y hy rfl;have ak8: ∀{c:List V} {us:List Value} {f:List Nat},fH w c us f→Agree w w' f→fH w' c us f:=by
  intro c;induction c with
  |nil=>intro us f h _;cases us with
   |nil=>exact h
   |cons _ _=>exact h.elim
  |cons v r ih=>
   intro us f h ha;cases us with
   |nil=>exact h.elim
   |cons u us=>
    obtain⟨f1,f2,h1,h2,rfl⟩:=h;refine⟨f1,f2,?_,ih h2 (ha.sub fun y hy=>aW _ hy),rfl⟩;cases v with
    |lit x=>exact h1
    |sl t l=>exact Sl.agree (ko t) h1 (ha.sub fun y hy=>bl _ hy)
    |_=>exact h1.elim
 have hc':c=(dec gt (l0.getD i (aO gt))).take off++([.sl t l2]++r'):=by
  unfold spl at hs;split at hs
  ·simp only[oI]at hs;rw[←hs];congr 2;have:(dec gt (l0.getD i (aO gt))).drop (off+ [V.sl t l2].length)=((dec gt (l0.getD i (aO gt))).drop off).drop 1:=by rw[uH];rfl
   rw[this,hdl];rfl
  ·cases hs
 have aGj:cs=cs.take off++([u]++us):=by
  have:=(mg off cs).symm;rw[ak7]at this;exact this
 have hrd:fH w' c cs (f1++(fv'++f3)):=by
  rw[hc',aGj];refine fH.aCJ (ak8 k1 ag1) (y:= [.sl t l2]) (vs:= [u]) ?_ (ak8 aCS ag3);exact⟨fv',[],aGi,rfl,by simp⟩
 have hEn:=C7 gt he (fun q hq=>hv q hq) hrd;have Gi: ∀y,y∈f1++(fv'++f3)→y∈fe:=by
  intro y hy;rw[hfe,hf'];simp only[bg]at hy ⊢;rcases hy with hy|hy|hy
  ·exact bP hy
  ·exact bw (bP (ab0 y hy))
  ·exact bw (bw hy)
 have ahD:=KI (ko gt) (w':=w') hE (i:=i) (x':=x') (f':=f1++(fv'++f3)) (hrg KF) hEn (fun j cs' _ _ hr=>hrg hr)
  (fun j f' hj hf' y hy=>hkeep y (ax6 y (gB hf' hy)) fun hm=>E8 A7.2 hf' hf hj y hy (XE y hm))
 have hmem: ∀y,y∈(eS.set i (f1++(fv'++f3))).flatten→y∈eS.flatten:=by
  intro y hy;rcases Di hy with h| ⟨j,f',_,hj,h⟩
  ·exact gB hf (Gi y h)
  ·exact gB hj h
 have hO':Own 0 w' (b::(eS.set i (f1++(fv'++f3))).flatten):=by
  refine⟨dx.2 ⟨fun hm=>A7.1 (hmem b hm),zq A7.2 ?_ fun j f' hj hf' y hy hy'=>E8 A7.2 hf' hf hj y hy (Gi y hy')⟩,fun _ _=>aY _,fun y hy=> ?_⟩
  ·refine bM.2 ⟨n1,bM.2 ⟨m1,n5,fun y hy z hz e=>n6 y (ab0 y hy) z hz e⟩,fun y hy z hz e=> ?_⟩;rcases bg.1 hz with hz|hz
   ·exact n3 y hy z (by simp[ab0 z hz]) e
   ·exact n3 y hy z (by simp[hz]) e
  ·obtain⟨cb,eb,KJ⟩:=hown.kind y (by
    rcases bh.1 hy with rfl|hy
    ·simp
    ·exact aE _ (hmem y hy))
   obtain⟨cb',h5,_⟩:=hk.shape y cb eb KJ;exact⟨_,_,h5⟩
 have ax2:Sl (kk gt) (rd gt) w' (env n).v (l0.set i x') (b::(eS.set i (f1++(fv'++f3))).flatten):=by
  refine⟨some ⟨b,o1,none⟩,cap,by rw[hsv,hoa,bX],by rw[bX];exact hc1,hc2,bw ⟨b,o1,_,rfl,fu.agree hkb,rfl,ahD⟩⟩
 obtain⟨fp2,w1,w2⟩:=abY (hp:=st.hp) hro hk.shape ax2 hO' (fun y hy=>by
  rw[qx];rcases bh.1 hy with rfl|hy
  ·simp
  ·exact aE _ (hmem y hy))
 have hlk: ∀m o',look [(n,Obj.arr gt (l0.set i x'))] m=some o'→m=n∧o'= .arr gt (l0.set i x'):=by
  intro m o' hm;by_cases hmn:m=n
  ·subst hmn;rw[look_eq]at hm;simp only[oI]at hm;exact⟨rfl,hm.symm⟩
  ·rw[cR hmn]at hm;cases hm
 obtain⟨env',hg',hv'⟩:=ak5 g (os:= [(n, .arr gt (l0.set i x'))]) (w':=w') (fpn:=fun _=>fp2)
  (fun m o' hm=>by obtain⟨rfl,rfl⟩:=hlk m o' hm;exact⟨_,_,_,hl,rfl⟩)
  (fun m o' hm y hy=>by obtain⟨rfl,_⟩:=hlk m o' hm;exact w2 y hy)
  (fun y hlt hno=>hkeep y hlt fun hm=>hno n _ look_eq aBE)
  (fun m t2 l3 hm=>by
   obtain⟨rfl,h5⟩:=hlk m _ hm;simp only[Obj.arr.injEq]at h5;obtain⟨rfl,h5⟩:=h5;cases h5;exact w1)
 refine⟨env',hk.aCQ hB fun y hm=> ?_,hg'⟩;exact g.dom n _ hl y aBE
def evs(Γ:Nat→TK)(st:St):Op→Option (List Prop×St)
 | .store t x y=>match oH st [] x,oH st [] y with
   |some (.a (.Xb n (some (i,o2,j)) tg _ off)),some v=>match look st.hp n with
    |some (.arr g l0)=>match fits (Γ t) v,takes st (cellsOf v),Ic (dec g (l0.getD i (aO g))) o2 with
     |true,some (cv,[]),some (.sl t' l')=>match rM tg t' l' with
      |some l=>match spl (dec tg (l.getD j (aO tg))) off cv with
       |some d=>match enc tg d with
        |some (vc2,y')=>match spl (dec g (l0.getD i (aO g))) o2 [.sl tg (l.set j y')]with
         |some c=>match enc g c with
          |some (zM,x')=>some (zM++vc2,st.upd [(n, .arr g (l0.set i x'))])
          |none=>none
         |none=>none
        |none=>none
       |none=>none
      |none=>none
     |_,_,_=>none
    |_=>none
   |_,_=>none
 |_=>none
theorem ax8{Γ:Nat→TK}(C: ∀t,gO P t (Γ t))(Z: ∀t,(∀z tg fo,Γ t≠ .st z tg fo)→Γ t≠ .other→(P.info? t).map (·.size)=some 1){vc:List Prop}(h:evs Γ st o.op=some (vc,st'))(g:Good ty zb st a.tmps w env)(hB:zb.w.heap.size≤w.heap.size)(hv: ∀q,q∈vc→q):
  o.wp P a w (fun a' w'=> ∃env',a'=a.put o.dst undef∧Kept zb w w'∧Good ty zb st' a.tmps w' env'∧st'.n=st.n) Q:=by
 have hop: ∀{x v},oH st [] x=some v→mG w st.hp env v (a.eval x):=fun hx=>lX g (fun e he=>by simp at he) hx;generalize ng:o.op=op at h;cases op with
 |store t x y=>
  simp only[evs]at h;split at h
  case h_2=>cases h
  rename_i n i o2 j tg xx off v hx hy;have hx:=hop hx;have hy:=hop hy;split at h
  case h_2=>cases h
  rename_i gt l0 hl;split at h
  case h_2=>cases h
  rename_i cv t' l' hfit htk Yg;split at h
  case h_2=>cases h
  rename_i l hcast;split at h
  case h_2=>cases h
  rename_i d hs1;split at h
  case h_2=>cases h
  rename_i vc2 y' he1;split at h
  case h_2=>cases h
  rename_i c hs2;split at h
  case h_2=>cases h
  rename_i zM x' R2;simp only[oI,pI]at h;obtain⟨rfl,rfl⟩:=h;obtain⟨_,_,_,_,_,_,_,_,_,_,_,hpos⟩:=hx;obtain⟨l3,u0,b0,zm,len,cap,hRV,hj,_,hu0,hu⟩:=hpos i o2 j rfl;have hl3:l3=l:=by
   obtain⟨_,_,hpv⟩:=hRV;obtain⟨t1,l1,_,_,_,_,hl1,_,hel,_⟩:=hpv i o2 rfl;rw[hl]at hl1;simp only[oI,Obj.arr.injEq]at hl1;obtain⟨rfl,hl1⟩:=hl1;cases hl1;rw[hel]at Yg;simp only[oI,V.sl.injEq]at Yg;obtain⟨rfl,Yg⟩:=Yg;cases Yg;obtain⟨e,rfl⟩:=kq hcast;rfl
  subst hl3;obtain⟨fv,hri,_,hown,aCW⟩:=abZ (pv:=fun _=>⟨u0,[]⟩) g hB hRV hl hs2 R2 (fun q hq=>hv q OL);obtain⟨oa,aCM,hsv,hc1,hc2,h3⟩:=hri;rcases h3 with⟨rfl,_⟩| ⟨b,o1,eS,hoa,fu,qx,hE⟩
  ·simp at hj
  rw[hu0,hoa]at hsv;simp only[eZ,oI,j6,and_true]at hsv;obtain⟨⟨rfl,rfl⟩,rfl,rfl⟩:=hsv;have hxi:l3[j]? =some (l3.getD j (aO tg)):=by rw[aq,az hj];rfl
  obtain⟨f,hf⟩:=mQ hE.1 hxi;obtain⟨cs,KF,hEi⟩:=hE.2 _ _ f hxi hf;have hlen:=(ko tg).len hEi;rw[qx]at hown;have A7:=dx.1 hown.nodup;obtain⟨fx,hrx,hox,hfx⟩:=It g (rm g hy (mj htk)) htk zj;have aGk:fx= []:=by
   cases fx with
   |nil=>rfl
   |cons y r=>obtain⟨m,_,hm,_⟩:=hfx y fI;simp at hm
  subst aGk;obtain⟨f1,f2,f3,hff,hrd,hlo⟩:=fH.spl (reads tg hEi) hrx hs1;have hEn:=C7 tg he1 (fun q hq=>hv q OL) hrd;have hsz:(P.info? t).map (·.size)=some (a.eval y).cells.toList.length∧ ∀u,u∈(a.eval y).cells.toList→u.oneCell'=true:=by
   refine⟨?_,E6 g (rm g hy (mj htk)) (zN (mj htk))⟩;cases v with
   |agg c'=>
    obtain⟨z,tg',fo,hk,hfit⟩:=Yb hfit;have hC:=C t;rw[hk]at hC;obtain⟨fs,_,hi2,_⟩:=hC;obtain⟨us,hus,hul⟩:=hy;have:=aG hfit;have hl3:=hul.len;rw[hus];cases hq:P.info? t with
    |none=>simp[hq]at hi2
    |some inf=>simp[hq]at hi2;simp[hi2.1,oP,hl3,this]
   |a v'=>
    have hk:=Yc hfit;have hne:v'≠ .any:=by rintro rfl;simp[cellsOf,takes]at htk
    have:=rN g (show RA w st.hp env v' (a.eval y)from hy) hne;rw[this];exact Z t hk.1 hk.2
  obtain⟨cb,eb,KJ⟩:=hown.kind b0 fI;have hth:w.there b0 (zm+j*kk tg+off) (a.eval y).cells.toList.length:=by
   refine abE KJ _ _ ?_;have hcl:zm+j*kk tg+cs.length≤cb.size:=by
    have hk0:=oc tg;have:=KF (cs.length-1) _ (az aJ);rw[XM KJ]at this;have:=(dZ.1 this).1;omega
   omega
  have hkeep: ∀x,x≠b0→(w.setCells b0 (zm+j*kk tg+off) (a.eval y).cells.toList).heap[x]? =w.heap[x]? :=fun x hx=>gh b0 _ _ w x hx;have hbf: ∀x,x∈eS.flatten→x≠b0:=fun x hx e=>A7.1 (e▸hx);have Gi: ∀x,x∈f1++([]++f3)→x∈f:=by
   intro x hx;rw[hff];rcases bg.1 hx with hx|hx
   ·exact bl _ hx
   ·rw[eM]at hx;exact aW _ (aW _ hx)
  have ahd:Agree w (w.setCells b0 (zm+j*kk tg+off) (a.eval y).cells.toList) (f1++([]++f3)):=fun x hx=>hkeep x (hbf x (gB hf (Gi x hx)));have ahD:=KI (ko tg) (w':=w.setCells b0 (zm+j*kk tg+off) (a.eval y).cells.toList) hE (i:=j) (x':=y') (f':=f1++([]++f3))
   (Dh KF hlo hth) ((ko tg).agree hEn ahd)
   (fun j1 cs' hj1 hcl hr=>ga hr _ _ _ (bw (by
    rw[hcl];rcases uX j1 j with h1|h1
    ·left;have:=cG (kk tg) (show j1+1≤j by omega);rw[cM]at this;omega
    ·right;have:=cG (kk tg) (show j+1≤j1 by omega);rw[cM]at this;omega)))
   (fun j1 f' _ hf' x hx=>hkeep x (hbf x (gB hf' hx)))
  have ax1:(f1++([]++f3)).Nodup:=by
   have h1:=(kB.1 A7.2).1 f (eT hf);rw[hff]at h1;obtain⟨h2,h3,h4⟩:=bM.1 h1;obtain⟨_,h6,_⟩:=bM.1 h3;rw[eM];exact bM.2 ⟨h2,h6,fun x hx z hz=>h4 x hx z (aW _ hz)⟩
  have hmem: ∀x,x∈(eS.set j (f1++([]++f3))).flatten→x∈eS.flatten:=by
   intro x hx;rcases Di hx with h| ⟨j1,f',_,hj1,h⟩
   ·exact gB hf (Gi x h)
   ·exact gB hj1 h
  have hO':Own 0 (w.setCells b0 (zm+j*kk tg+off) (a.eval y).cells.toList) (b0::(eS.set j (f1++([]++f3))).flatten):=by
   refine⟨dx.2 ⟨fun hm=>A7.1 (hmem b0 hm),zq A7.2 ax1 fun j1 f' hj1 hf' x hx hx'=>E8 A7.2 hf' hf hj1 x hx (Gi x hx')⟩,fun _ _=>aY _,fun x hx=> ?_⟩;rcases bh.1 hx with rfl|hx
   ·obtain⟨c',q1,_⟩:=j0 x eb (a.eval y).cells.toList (zm+j*kk tg+off) w cb KJ;exact⟨_,_,q1⟩
   ·rw[hkeep x (hbf x (hmem x hx))];exact hown.kind x (aE _ (hmem x hx))
  have ak3:Kept ⟨w,fv,fun _=>⟨u0,[]⟩⟩ w (w.setCells b0 (zm+j*kk tg+off) (a.eval y).cells.toList):=
   Pm (zb:=⟨w,fv,fun _=>⟨u0,[]⟩⟩) (bP (by rw[qx];simp)) KJ _ _
  have hrun:(storeVar t ⟨b0,zm+j*kk tg+off,none⟩ (a.eval y)).run P w= .ok () (w.setCells b0 (zm+j*kk tg+off) (a.eval y).cells.toList):=AY fI hth hsz.1 hsz.2;obtain⟨env',hk2,hg'⟩:=aCW _ (b0::(eS.set j (f1++([]++f3))).flatten) ak3
   ⟨some ⟨b0,zm,none⟩,cap,by rw[hu0,bX],by rw[bX];exact hc1,hc2,bw ⟨b0,zm,_,rfl,fu.set KJ _ _,rfl,ahD⟩⟩ hO'
   (fun y hy=>by
    rw[qx];rcases bh.1 hy with rfl|hy
    ·simp
    ·exact aE _ (hmem y hy))
  unfold nv execOp;simp only[ng,hu,Iq,qz,dS,eu,cC,hrun];exact⟨env',rfl,hk2,hg',rfl⟩
 |_=>simp[evs]at h
end
end
section
variable{ty:Tag→Nat}
def fzs(st:St):List V→Option (List V×List Nat)
 | []=>some ([],[])
 | .lit (.slice _ _ _)::_=>none
 | .lit v::r=>match fzs st r with|some (c,k)=>some (.lit v::c,k)|none=>none
 | .sl t l::r=>match fzs st r with|some (c,k)=>some (.sl t l::c,k)|none=>none
 | .own n::r=>match look st.hp n,fzs st r with
   |some (.arr t l),some (c,k)=>some (.sl t l::c,n::k)
   |_,_=>none
 |_=>none
def Pu(st:St)(g:Tag):Nat→List (Nat×Operand)→Option (List Prop×List (T g)×List Nat)
 |_,[]=>some ([],[],[])
 |i,(j,x)::r=>match bH i j,oH st [] x with
  |true,some s=>match fzs st (cellsOf s)with
   |some (c,k)=>match enc g c,Pu st g (i+1) r with
    |some (vc,y),some (vcs,ys,ks)=>some (vc++vcs,y::ys,k++ks)
    |_,_=>none
   |none=>none
  |_,_=>none
def efz(P:Program)(ty:Tag→Nat)(Γ:Nat→TK)(st:St):Op→Option (List Prop×St×SV)
 | .buildSlice t len parts=>match Γ t with
   | .sl g e=>match bH e (ty g),bH parts.toList.length len,kV (len*kk g) 16777216,Pu st g 0 parts.toList with
     |true,true,true,some (vc,xs,ks)=>match zo ks&& !pinned ks with
      |true=>some (El P ty g::vc,⟨st.n,st.sl.map fun e=>(e.1,e.2.dJ ks []),gr ks [] st.hp⟩, .one (.a (.sl g xs)))
      |_=>none
     |_,_,_,_=>none
   |_=>none
 |_=>none
section
variable{P:Program}{zb:fG}{st:St}{a:Act}{w:World}{env:Env}{Q:Exit→Act→World→Prop}{o:Oper}
theorem E9{st:St}: ∀{l c:List V} {k:List Nat},fzs st l=some (c,k)→Da l=true
 | [],_,_,_=>rfl
 |v::r,c,k,h=>by
  unfold fzs at h;split at h
  ·rename_i he;cases he
  ·cases h
  ·rename_i x r' _ he;simp only[cP]at he;obtain⟨rfl,rfl⟩:=he;split at h
   ·rename_i h';have h2:=E9 h';exact h2
   ·cases h
  ·rename_i t l r' he;simp only[cP]at he;obtain⟨rfl,rfl⟩:=he;split at h
   ·rename_i h';have h2:=E9 h';exact h2
   ·cases h
  ·rename_i n r' he;simp only[cP]at he;obtain⟨rfl,rfl⟩:=he;split at h
   ·rename_i h';have h2:=E9 h';exact h2
   ·cases h
  ·cases h
theorem U4(g:Good ty zb st a.tmps w env): ∀{l c:List V} {k:List Nat} {us:List Value},dG (RA w st.hp env) l us→fzs st l=some (c,k)→
  ∃fp,fH w c us fp∧ ∀b,b∈fp→b<w.heap.size∧(¬Ow st.hp env b∨ ∃i o,i∈k∧look st.hp i=some o∧b∈(env i).fp)
 | [],c,k,us,hr,h=>by
   simp only[fzs,oI,pI]at h;obtain⟨rfl,rfl⟩:=h;cases us with
   |nil=>exact⟨[],rfl,by simp⟩
   |cons _ _=>exact hr.elim
 |v::r,c,k,us,hr,h=>by
  cases us with
  |nil=>exact hr.elim
  |cons u us=>
   unfold fzs at h;split at h
   ·rename_i he;cases he
   ·cases h
   ·rename_i x r' _ he;simp only[cP]at he;obtain⟨rfl,rfl⟩:=he;split at h
    ·rename_i c' k' h';simp only[oI,pI]at h;obtain⟨rfl,rfl⟩:=h;obtain⟨fp,h1,h3⟩:=U4 g hr.2 h';obtain⟨e1,e2⟩:=hr.1;exact⟨fp,⟨[],fp,⟨e1,e2,rfl⟩,h1,rfl⟩,h3⟩
    ·cases h
   ·rename_i t l r' he;simp only[cP]at he;obtain⟨rfl,rfl⟩:=he;split at h
    ·rename_i c' k' h';simp only[oI,pI]at h;obtain⟨rfl,rfl⟩:=h;obtain⟨fp,h1,h3⟩:=U4 g hr.2 h';obtain⟨f0,k1,k2⟩:=hr.1;refine⟨f0++fp,⟨f0,fp,k1,h1,rfl⟩,fun b hb=> ?_⟩;rcases bg.1 hb with hb|hb
     ·exact⟨Sl.lt (ko t) k1 b hb,bP (k2 b hb)⟩
     ·exact h3 b hb
    ·cases h
   ·rename_i n r' he;simp only[cP]at he;obtain⟨rfl,rfl⟩:=he;split at h
    ·rename_i t l c' k' hl h';simp only[oI,pI]at h;obtain⟨rfl,rfl⟩:=h;obtain⟨fp,h1,h3⟩:=U4 g hr.2 h';obtain⟨_,rfl⟩:=hr.1;have hb:=RO.sl (g.obj n _ hl);refine⟨(env n).fp++fp,⟨_,_,hb,h1,rfl⟩,fun b hb=> ?_⟩;rcases bg.1 hb with hb|hb
     ·exact⟨(g.obj n _ hl).blk b hb,bw ⟨n,_,by simp,hl,hb⟩⟩
     ·obtain⟨q1,q2⟩:=h3 b hb;refine⟨q1,q2.imp id ?_⟩;rintro⟨i,o,hi,h4,h5⟩;exact⟨i,o,aE _ hi,h4,h5⟩
    ·cases h
   ·cases h
theorem Tl(g:Good ty zb st a.tmps w env){t:Tag}: ∀{ps:List (Nat×Operand)} {i:Nat} {vc:List Prop} {xs:List (T t)} {ks:List Nat},Pu st t i ps=some (vc,xs,ks)→(∀q,q∈vc→q)→
  (ps.map fun p=>(p.1,a.eval p.2))=FC i (ps.map fun p=>a.eval p.2)∧xs.length=ps.length∧ ∃eS:List (List Nat),eS.length=xs.length∧
   (∀(i:Nat) (x:T t) (f:List Nat),xs[i]? =some x→eS[i]? =some f→ ∃p:Nat×Operand,ps[i]? =some p∧rd t w (a.eval p.2).cells.toList x f)∧ ∀b,b∈eS.flatten→b<w.heap.size∧(¬Ow st.hp env b∨ ∃i o,i∈ks∧look st.hp i=some o∧b∈(env i).fp)
 | [],i,vc,xs,ks,h,_=>by
   simp only[Pu,oI,pI]at h;obtain⟨rfl,rfl,rfl⟩:=h;exact⟨rfl,rfl,[],rfl,by simp,by simp⟩
 | (j,x)::r,i,vc,xs,ks,h,hv=>by
   simp only[Pu]at h;split at h
   ·rename_i s hij hx;have hij:=aG hij;subst hij;split at h
    ·rename_i c k hc;split at h
     ·rename_i zM y vcs ys ks1 he hb;simp only[oI,pI]at h;obtain⟨rfl,rfl,rfl⟩:=h;obtain⟨q1,q2,eS,q3,q4,q6⟩:=Tl g hb (fun q hq=>hv q (aW _ hq));obtain⟨fp,r1,r3⟩:=U4 g (rm g (lX g (fun e he=>by simp at he) hx) (E9 hc)) hc;have hE:=C7 t he (fun q hq=>hv q (bl _ hq)) r1;refine⟨by simp[FC,q1],by simp[q2],fp::eS,by simp[q3],?_,?_⟩
      ·intro i' x' f hx' hf;cases i' with
       |zero=>simp at hx' hf;subst hx';subst hf;exact⟨(i,x),rfl,hE⟩
       |succ n=>simp at hx' hf;obtain⟨p,h1,h2⟩:=q4 n x' f hx' hf;exact⟨p,by simpa using h1,h2⟩
      ·intro b hb;rw[dM]at hb;rcases bg.1 hb with hb|hb
       ·obtain⟨z1,z2⟩:=r3 b hb;exact⟨z1,z2.imp id fun⟨n,o1,h1,h2,h3⟩=>⟨n,o1,bl _ h1,h2,h3⟩⟩
       ·obtain⟨z1,z2⟩:=q6 b hb;exact⟨z1,z2.imp id fun⟨n,o1,h1,h2,h3⟩=>⟨n,o1,aW _ h1,h2,h3⟩⟩
     ·cases h
    ·cases h
   ·cases h
theorem run_frozen{t len:Nat}{parts:Array (Nat×Operand)}(ho:o.op= .buildSlice t len parts){g:Tag}(hu:P.underlying t=some (.slice (ty g)))(BY:El P ty g)(hbig:len*kk g≤16777216)(hlen:parts.toList.length=len)
  {xs:List (T g)}{eS:List (List Nat)}(q1:(parts.toList.map fun p=>(p.1,a.eval p.2))=FC 0 (parts.toList.map fun p=>a.eval p.2))(q2:xs.length=parts.toList.length)(q3:eS.length=xs.length)
  (q4: ∀(i:Nat) (x:T g) (f:List Nat),xs[i]? =some x→eS[i]? =some f→ ∃p:Nat×Operand,parts.toList[i]? =some p∧rd g w (a.eval p.2).cells.toList x f):
  ∃w',(execOp a.eval o).run P w= .ok (.value (.slice (some ⟨w.heap.size,0,none⟩) len len)) w'∧Below w.heap.size w w'∧Sl (kk g) (rd g) w' (.slice (some ⟨w.heap.size,0,none⟩) len len) xs (w.heap.size::eS.flatten):=by
 have hkp:=oc g;have hcl: ∀v,v∈(parts.toList.map fun p=>a.eval p.2)→v.cells.size=kk g:=by
  intro v hv;obtain⟨i,hi⟩:=gR hv;have hil:i<xs.length:=by have:=(aU.1 hi).1;simp at this;rw[q2];simpa using this
  have hfl:i<eS.length:=by omega
  obtain⟨p,h1,h2⟩:=q4 i xs[i] eS[i] (az hil) (az hfl);rw[ec,h1]at hi;simp at hi;subst hi;simpa using(ko g).len h2
 cases hq:P.info? (ty g)with
 |none=>simp[El,hq]at BY
 |some inf=>
  simp[El,hq]at BY;obtain⟨z1,z2,z3⟩:=BY
  let zs:List Value:=(bK (len*kk g)).map fun j=>(if len*kk g=0 then #[]else(oL g).cells)[j % (if len*kk g=0 then #[]else(oL g).cells).size]!
  have hzl:zs.length=len*kk g:=by simp[zs]
  have hf:=Pd (k:=kk g) (parts.toList.map fun p=>a.eval p.2) 0 zs hcl (by rw[hzl,bt,hlen,dB]);rw[oO,jv,eM]at hf;have hrun:(execOp a.eval o).run P w= .ok (.value (.slice (some ⟨w.heap.size,0,none⟩) len len)) (w.alloc (.cells (gN ((parts.toList.map fun p=>a.eval p.2).flatMap fun v=>v.cells.toList)) (ty g) (0,0))):=by
   unfold execOp;have hpl:(parts.map fun(p:Nat×Operand)=>(p.1,a.eval p.2)).toList=FC 0 (parts.toList.map fun p=>a.eval p.2):=by
    rw[qO];exact q1
   have hzs:((abM (len*kk g)).map fun j=>(if len*kk g=0 then #[]else(oL g).cells)[j % (if len*kk g=0 then #[]else(oL g).cells).size]!)=gN zs:=by
    simp only[zs];apply Tb;simp
   have hze:(sizeOf (ty g)).run P w= .ok (kk g) w:=by simp[sizeOf,typeInfo,hq,z2]
   simp only[ho,Nj,dS,run_underlying hu,cC,hze];rw[if_neg aJ];by_cases hz0:len*kk g=0
   ·simp only[if_pos hz0]at hzs ⊢;simp only[dS,eu,cC];rw[hzs,hpl,hf];simp[newRow]
   ·have hzv:(zeroValue (ty g)).run P w= .ok (oL g) w:=by simp[zeroValue,typeInfo,hq,z1]
    simp only[if_neg hz0]at hzs ⊢;simp only[dS,hzv,eu,cC];rw[hzs,hpl,hf];simp[newRow]
  have hps:((parts.toList.map fun p=>a.eval p.2).flatMap fun v=>v.cells.toList)=((parts.toList.map fun p=>(a.eval p.2).cells.toList).flatMap id):=by
   simp[Nk]
  have akS: ∀v,v∈(parts.toList.map fun p=>(a.eval p.2).cells.toList)→v.length=kk g:=by
   intro v hv;obtain⟨p,hp,rfl⟩:=bQ.1 hv;simpa using hcl _ (bQ.2 ⟨p,hp,rfl⟩)
  have Tc:=De akS;rw[bt,hlen]at Tc;have hb0:Below w.heap.size w (w.alloc (.cells (gN ((parts.toList.map fun p=>a.eval p.2).flatMap fun v=>v.cells.toList)) (ty g) (0,0))):=(jH _ _).alloc (aS _) _;have aCY:=tV (w:=w) (o:= .cells (gN ((parts.toList.map fun p=>a.eval p.2).flatMap fun v=>v.cells.toList)) (ty g) (0,0)) (k:=w.heap.size) rfl;refine⟨_,hrun,hb0,some ⟨w.heap.size,0,none⟩,len,by rw[q2,hlen],by rw[q2,hlen];exact aS _,?_,bw ⟨w.heap.size,0,eS,rfl,⟨_,_,_,aCY,by simp only[mR];rw[hps];omega⟩,rfl,q3,?_⟩⟩
  ·unfold maxLen;have:=AV len hkp;omega
  ·intro i x f hx hff;obtain⟨p,h1,h2⟩:=q4 i x f hx hff;have hkey:(((parts.toList.map fun p=>a.eval p.2).flatMap fun v=>v.cells.toList).drop (i*kk g)).take (kk g)=(a.eval p.2).cells.toList:=by
    rw[hps];exact Dd akS (by rw[ec,h1];rfl)
   refine⟨_,art aCY _ _ fun j v hv=> ?_,(ko g).below h2 hb0⟩;rw[←hkey]at hv;rw[dH]at hv;split at hv
   ·rw[dc]at hv;rw[dB,List.getElem?_toArray];exact hv
   ·cases hv
theorem ahF(g:Good ty zb st a.tmps w env){ks:List Nat}{w':World}(hb:Below w.heap.size w w'):Good ty zb ⟨st.n,st.sl.map fun e=>(e.1,e.2.dJ ks []),gr ks [] st.hp⟩ a.tmps w' env:=by
 have hlk: ∀m o,look (gr ks [] st.hp) m=some o→m∉ks∧ ∃o',look st.hp m=some o'∧o=o'.dJ ks []:=by
  intro m o hm;rw[fB]at hm;split at hm
  ·cases hm
  ·rename_i hks;cases hq:look st.hp m with
   |none=>rw[hq]at hm;cases hm
   |some o'=>rw[hq]at hm;simp only[eN,oI]at hm;exact⟨hks,o',rfl,hm.symm⟩
 have s:AX ks [] w st.hp env w' (gr ks [] st.hp) env:=by
  refine⟨fun b hlt _=>hb.block b hlt,?_,?_,?_⟩
  ·rintro b hlt ⟨m,o',h1,h2⟩;obtain⟨_,Nn,h3,rfl⟩:=hlk m o' h1;exact⟨m,Nn,h3,h2⟩
  ·intro m o' hks h1;exact⟨o'.dJ ks [],by rw[fB,if_neg hks,h1];rfl,by cases o'<;>simp[Obj.like,Obj.dJ],rfl⟩
  ·rintro m t' l' ⟨hks,_⟩ h1;exact⟨by rw[fB,if_neg hks,h1];rfl,rfl,fun b Tk=>hb.block b ((g.obj m _ h1).blk b Tk)⟩
 refine g.oR s (fun m o' hm=> ?_) (fun m m' o1 o2 hne h1 h2 b Tk hb'=> ?_) (fun m o' hm b Tk=> ?_) g.pins
 ·obtain⟨hks,Nn,h3,rfl⟩:=hlk m o' hm;exact(g.obj m Nn h3).oR s fun b Tk=>hb.block b ((g.obj m Nn h3).blk b Tk)
 ·obtain⟨_,q1,h3,_⟩:=hlk m o1 h1;obtain⟨_,q2,h4,_⟩:=hlk m' o2 h2;exact g.tN m m' _ _ hne h3 h4 b Tk hb'
 ·obtain⟨_,q1,h3,_⟩:=hlk m o' hm;exact g.dom m q1 h3 b Tk
theorem ax9{Γ:Nat→TK}(C: ∀t,gO P t (Γ t)){vc:List Prop}{st':St}{v:SV}(h:efz P ty Γ st o.op=some (vc,st',v))(g:Good ty zb st a.tmps w env)(hB:zb.w.heap.size≤w.heap.size)(hv: ∀q,q∈vc→q):
  o.wp P a w (fun a' w'=> ∃u env',a'=a.put o.dst u∧Kept zb w w'∧Good ty zb st' a.tmps w' env'∧st'.n=st.n∧AR w' st'.hp env' a.tmps v u) Q:=by
 generalize ng:o.op=op at h;cases op with
 |buildSlice t len parts=>
  simp only[efz]at h;split at h
  ·rename_i gt e hk;split at h
   ·rename_i zM xs ks he hlen hbig hb;have he:=aG he;split at h
    ·rename_i hnd;simp only[oI,pI]at h;obtain⟨rfl,rfl,rfl⟩:=h;have BY:El P ty gt:=hv _ fI;obtain⟨q1,q2,eS,q3,q4,q6⟩:=Tl g hb (fun q hq=>hv q OL);have hC:=C t;rw[hk,he]at hC;obtain⟨w',r1,r2,r3⟩:=run_frozen (P:=P) (w:=w) (a:=a) ng hC.1 BY (bV hbig) (aG hlen) q1 q2 q3 q4;have hg':=ahF g (ks:=ks) r2;unfold nv;rw[r1];refine⟨_,env,rfl,qZ r2 hB,hg',rfl,_,r3,?_⟩;rintro b Tk ⟨m,o',h1,h2⟩;rw[fB]at h1;split at h1
     ·cases h1
     ·rename_i hks;cases hq:look st.hp m with
      |none=>rw[hq]at h1;cases h1
      |some Nn=>
       have hlt:=(g.obj m Nn hq).blk b h2;rcases bh.1 Tk with rfl|Tk
       ·omega
       ·rcases(q6 b Tk).2 with h3| ⟨i,oi,hi,h4,h5⟩
        ·exact h3 ⟨m,Nn,hq,h2⟩
        ·exact g.tN m i _ _ (fun e=>hks (e▸hi)) hq h4 b h2 h5
    ·cases h
   ·cases h
  ·cases h
 |_=>simp[efz]at h
end
end
section
variable(ρ:List (Nat×Nat))(st:St)(kn:Option V){P:Program}{f:FuncId}{rs:List S1}{ty:Tag→Nat}
def inv:List (Nat×Nat)→Nat→Option Nat
 | [],_=>none
 | (n,m)::r,k=>match bH k m with|true=>some n|false=>inv r k
def V.toF:V→V
 | .lit v=> .lit v
 | .sl t l=> .sl t l
 | .own m=>match inv ρ m with|some n=> .own n|none=> .any
 | .ptr m o=>match inv ρ m with|some n=> .ptr n o|none=> .any
 | .S3 f m=>match inv ρ m with|some n=> .S3 f n|none=> .any
 | .uS v t l=> .uS v t l
 |_=> .any
def Obj.toF:Obj→Obj
 | .box c=> .box (c.map (V.toF ρ))
 | .arr t l=> .arr t l
 | .pQ t l .mp=> .pQ t l .mp
 | .pQ t l (.bag u)=> .pQ t l (.bag u)
 | .pQ t l (.Kx _)=> .pQ t l (.Kx none)
 | .pQ t l _=> .pQ t l .gone
def Iu(st:St)(ρ:List (Nat×Nat)):List (Nat×Nat)→Option Hp
 | []=>some []
 | (n,m)::r=>match look st.hp m, !tG m||tG n, !soft m||soft n,Iu st ρ r with
   |some o,true,true,some h=>some ((n,o.toF ρ)::h)
   |_,_,_,_=>none
def arY(ρ:List (Nat×Nat))(tg:Option Tag)(v:V):Option V:=match v.name with
 |some m=>match inv ρ m with
  |some n=>match v with
   | .own _=>some (.own n)
   | .ptr _ o=>some (.ptr n o)
   | .S3 f _=>some (.S3 f n)
   |_=>none
  |none=>match v with
   | .mix _ _ _ _=>none
   | .RX _=>none
   |v=>xp st tg v
 |none=>xp st tg v
def Yh(st:St)(ρ:List (Nat×Nat)):List (Option Tag)→List V→Option (List V)
 |_,[]=>some []
 |tg,v::r=>match arY st ρ (match tg with|t::_=>t| []=>none) v,Yh st ρ (match tg with|_::ts=>ts| []=> []) r with
  |some x,some y=>some (x::y)
  |_,_=>none
def V.avj:V→Bool
 | .uS _ _ _=>true
 |_=>false
def aya(ρ:List (Nat×Nat))(k:TK):S1→Option S1
 | .a v=>match v.avj with
   |true=>some (.a v)
   |false=>match arY st ρ (match k with| .sl t _=>some t|_=>none) v with|some x=>some (.a x)|none=>none
 | .agg l=>match Yh st ρ (match k with| .st _ tg _=>tg|_=> []) l with|some x=>some (.agg x)|none=>none
def Yi(Γ:Nat→TK)(st:St)(ρ:List (Nat×Nat)):List Operand→List Nat→Option (List S1)
 | [],_=>some []
 |x::r,t=>match opr st [] x with
  |some v=>match aya st ρ (match t with|t::_=>Γ t| []=> .other) v,Yi Γ st ρ r (match t with|_::ts=>ts| []=> [])with
   |some y,some ys=>some (y::ys)
   |_,_=>none
  |none=>none
def U5(ρ:List (Nat×Nat))(x:Operand):Option (FuncId×List S1):=match oH st [] x with
 |some (.a (.S3 f m))=>match inv ρ m with|some n=>some (f,[.a (.ptr n 0)])|none=>none
 |some v=>match arx v with|some f=>some (f,[])|none=>none
 |none=>none
def ayb:List V→Option (List (Nat×Nat))
 | []=>some []
 | .ptr n m::r=>match ayb r with|some l=>some ((n,m)::l)|none=>none
 |_=>none
def aCZ:List V→Option (List Nat)
 | []=>some []
 | .own n::r=>match aCZ r with|some l=>some (n::l)|none=>none
 |_=>none
def ak9:List Nat→List S1→Option Hp
 | [],[]=>some []
 |n::ns, .a (.sl t l)::r=>match ak9 ns r with|some h=>some ((n, .arr t l)::h)|none=>none
 |n::ns, .agg c::r=>match ak9 ns r with|some h=>some ((n, .box c)::h)|none=>none
 |_,_=>none
def knV:List V→Option V
 | []=>none
 | .uS v t l::_=>some (.uS v t l)
 |_::r=>knV r
def knX(st:St):List Operand→Option V
 | []=>none
 |x::r=>match opr st [] x with
  |some (.a v)=>match v.avj with|true=>some v|false=>knX st r
  |_=>knX st r
def knR(st:St):List (Nat×Nat)→Option V
 | []=>none
 | (_,m)::r=>match look st.hp m with
   |some (.box c)=>match knV c with|some v=>some v|none=>knR st r
   |_=>knR st r
def knS(xs:List Operand)(ρ:List (Nat×Nat)):Option V:=match knX st xs with|some v=>some v|none=>knR st ρ
def Yj:V→List Prop
 | .uS v _ _=>match kn with
   |some (.uS u _ _)=> [v=u]
   |_=> [False]
 |_=> []
def ala(kn:Option V):List V→List Prop
 | []=> []
 |v::r=>zn (Yj kn v) (ala kn r)
def ab2(kn:Option V):Hp→List Prop
 | []=> []
 | (_, .box c)::r=>zn (ala kn c) (ab2 kn r)
 |_::r=>ab2 kn r
def V.toA(ρ:List (Nat×Nat)):V→Option V
 | .uS _ _ _=>kn
 | .any=>some .any
 | .lit v=>some (.lit v)
 | .own n=>match look ρ n with|some m=>some (.own m)|none=>none
 | .ptr n o=>match look ρ n with|some m=>some (.ptr m o)|none=>none
 |_=>none
def toAs(kn:Option V)(ρ:List (Nat×Nat)):List V→Option (List V)
 | []=>some []
 |v::r=>match v.toA kn ρ,toAs kn ρ r with|some x,some y=>some (x::y)|_,_=>none
def S1.toA:S1→Option S1
 | .a v=>match v.toA none ρ with|some x=>some (.a x)|none=>none
 | .agg l=>match toAs none ρ l with|some x=>some (.agg x)|none=>none
def rsH(ρ:List (Nat×Nat)):List S1→Option (List S1)
 | []=>some []
 |v::r=>match v.toA ρ,rsH ρ r with|some x,some y=>some (x::y)|_,_=>none
def Obj.toA(ρ:List (Nat×Nat)):Obj→Option Obj
 | .box c=>match toAs kn ρ c with|some x=>some (.box x)|none=>none
 | .arr t l=>some (.arr t l)
 | .pQ _ _ _=>none
def Pv(kn:Option V)(ρ:List (Nat×Nat)):Hp→Option (List (Nat×Nat×Obj))
 | []=>some []
 | (n,o)::r=>match look ρ n,o.toA kn ρ,Pv kn ρ r with
   |some m,some o',some h=>match !tG m||tG n, !soft n||soft m with|true,true=>some ((n,m,o')::h)|_,_=>none
   |_,_,_=>none
def Pw:Option Obj→Bool
 |some (.box _)=>true
 |_=>false
def Yk(ty:Tag→Nat)(w:World)(hp:Hp)(env:Env):Prop:=(∀n o,look hp n=some o→RO ty w hp env n o (env n))∧ ∀n m o o',n≠m→look hp n=some o→look hp m=some o'→ ∀b,b∈(env n).fp→b∉(env m).fp
def Iv(hp:Hp)(env:Env):List Nat:=hp.flatMap fun e=>(env e.1).fp
def aC2(w:World)(hp:Hp)(env:Env)(rs:List S1)(u:Value):Prop:=match rs with
 | [r]=>mG w hp env r u
 |rs=> ∃us,u= .tuple us.toArray∧dG (mG w hp env) rs us
def jr(ty:Tag→Nat)(P:Program)(f:FuncId)(nB:Hp)(as:List S1)(kY:Hp)(rs:List S1):Prop:=
 (∀(args:Array Value) (w:World),(callFunc f args).run P w= .ok (.enter f args) w)∧
 ∀w env us,Nc w→(∀b,ahn b→b∉Iv nB env)→Yk ty w nB env→dG (mG w nB env) as us→Calls P f us.toArray w fun e w'=> ∃env' u,e= .returned u∧Kept ⟨w,Iv nB env,env⟩ w w'∧Yk ty w' kY env'∧
  (∀n o,look kY n=some o→ ∀b,b∈(env' n).fp→b∈Iv nB env∨w.heap.size≤b)∧(∀n,tG n=true→(env' n).v=(env n).v∧ ∀b,b∈(env' n).fp→b∈(env n).fp)∧aC2 w' kY env' rs u
def cA{ty:Tag→Nat}{xs:List S1}(_:Sound ty P f xs rs):List S1:=rs
def iW{ty:Tag→Nat}{nB:Hp}{xs:List S1}{kY:Hp}(_:jr ty P f nB xs kY rs):List S1:=rs
def obS:Obj→S1
 | .box c=> .agg c
 | .arr t l=> .a (.sl t l)
 | .pQ _ _ _=> .agg []
def iX{ty:Tag→Nat}{nB:Hp}{xs:List S1}{kY:Hp}(_:jr ty P f nB xs kY rs):List S1:= .agg (kY.map fun e=> .own e.1)::kY.map fun e=>obS e.2
def N0(B:List (Nat×Nat×Obj)):Hp:=B.map fun e=>(e.2.1,e.2.2)
def R3:List (Nat×Nat×Obj)→Nat→Option Nat
 | [],_=>none
 | (n,m,_)::r,k=>match bH k m with|true=>some n|false=>R3 r k
def Px(kv ks:List Nat)(hp:Hp):Hp:=(hp.filter fun e=> !kv.any (bH e.1)).map fun e=>(e.1,e.2.dJ ks kv)
def U6(hp:Hp):Hp→Bool
 | []=>true
 | (m,_)::r=>(match look hp m with|none=>true|some _=>false)&&U6 hp r
def alb(P:Program)(ty:Tag→Nat)(Γ:Nat→TK)(cr:List (Nat×CR))(st:St)(d:Option Nat):Op→Option (List Prop×St×SV)
 | .call ⟨.value x,xs,ts⟩=>match look cr (d.getD 99999+700000),look cr (d.getD 99999+800000)with
   |some ⟨_, .agg a:: .agg b:: .agg c::os⟩,some ⟨_,rs⟩=>match ayb a,ayb b,aCZ c with
    |some ρ0,some ρ1,some ns=>match ak9 ns os,Iu st ρ0 ρ0,U5 st ρ0 x,Yi Γ st ρ0 xs.toList ts.toList with
     |some kY,some nB,some (f,ex),some as=>match Pv (knS st xs.toList ρ0) (ρ0++ρ1) kY,rsH (ρ0++ρ1) rs with
      |some B,some rsA=>match zo ((ρ0++ρ1).map kG)&&zo (ρ0.map iL)&&tW kY&&tW (N0 B)&&U6 (Px (ρ0.map iL) ((ρ0.filter fun e=> !tG e.1).map iL) st.hp) (N0 B)&&ρ0.all (fun e=> !tG e.1|| (Pw (look nB e.1)&&Pw (look kY e.1)))&&ρ1.all (fun e=> !tG e.2)with
       |true=>some (jr ty P f nB (zn as ex) kY rs::ab2 (knS st xs.toList ρ0) kY,⟨st.n,st.sl.map fun e=>(e.1,e.2.dJ ((ρ0.filter fun e=> !tG e.1).map iL) (ρ0.map iL)),N0 B++Px (ρ0.map iL) ((ρ0.filter fun e=> !tG e.1).map iL) st.hp⟩,match rsA with| [r]=> .one r|l=> .Gf l)
       |false=>none
      |_,_=>none
     |_,_,_,_=>none
    |_,_,_=>none
   |_,_=>none
 |_=>none
theorem wO: ∀{ρ:List (Nat×Nat)} {m n:Nat},inv ρ m=some n→(n,m)∈ρ
 | (a,b)::r,m,n,h=>by
   simp only[inv]at h;split at h
   ·rename_i hb;have:=aG hb;simp only[oI]at h;subst h;subst this;simp
   ·exact aE _ (wO h)
theorem Yl: ∀{ρ:List (Nat×Nat)} {m:Nat},inv ρ m=none→m∉ρ.map iL
 | [],_,_=>by simp
 | (a,b)::r,m,h=>by
   simp only[inv]at h;split at h
   ·cases h
   ·rename_i hb;have hne:m≠b:=fun e=>by rw[e,Nat.beq_refl]at hb;cases hb
    have:=Yl h;simp only[cg,bh,not_or];exact⟨hne,this⟩
theorem ld{α:Type}: ∀{l:List (Nat×α)} {n:Nat} {x:α},(l.map kG).Nodup→(n,x)∈l→look l n=some x
 | (j,y)::r,n,x,hnd,h=>by
   obtain⟨h1,h2⟩:=dx.1 hnd;rcases bh.1 h with h'|h'
   ·simp only[pI]at h';obtain⟨rfl,rfl⟩:=h';exact look_eq
   ·have hne:n≠j:=fun e=>h1 (bQ.2 ⟨(n,x),h',e⟩);rw[cR hne];exact ld h2 h'
theorem Fa: ∀{l:Hp},tW l=true→(l.map kG).Nodup
 | [],_=>zj
 | (n,x)::r,h=>by
   simp only[tW,an]at h;refine dx.2 ⟨fun hm=> ?_,Fa h.2⟩;obtain⟨e,he,rfl⟩:=bQ.1 hm;have:=ld (Fa h.2) (show(e.1,e.2)∈r from he);rw[this]at h;simp at h
theorem wX: ∀{B:List (Nat×Nat×Obj)} {m:Nat} {o:Obj},look (N0 B) m=some o→ ∃n,(n,m,o)∈B∧R3 B m=some n
 | (n,k,x)::r,m,o,h=>by
   have h:look ((k,x)::N0 r) m=some o:=h;by_cases hm:m=k
   ·subst hm;rw[look_eq]at h;simp only[oI]at h;subst h;exact⟨n,by simp,by simp[R3]⟩
   ·rw[cR hm]at h;obtain⟨n',h1,h2⟩:=wX h;refine⟨n',aE _ h1,?_⟩;simp only[R3];cases hb:bH m k with
    |true=>exact absurd (aG hb) hm
    |false=>exact h2
theorem Tm: ∀{B:List (Nat×Nat×Obj)} {m:Nat},look (N0 B) m=none→R3 B m=none
 | [],_,_=>rfl
 | (n,k,x)::r,m,h=>by
   have h:look ((k,x)::N0 r) m=none:=h;have hm:m≠k:=by rintro rfl;rw[look_eq]at h;cases h
   rw[cR hm]at h;simp only[R3];cases hb:bH m k with
   |true=>exact absurd (aG hb) hm
   |false=>exact Tm h
theorem uc{kn:Option V}{ρ:List (Nat×Nat)}: ∀{hp:Hp} {B:List (Nat×Nat×Obj)},Pv kn ρ hp=some B→ ∀n m o',(n,m,o')∈B→ ∃o,(n,o)∈hp∧look ρ n=some m∧o.toA kn ρ=some o'∧(tG m=true→tG n=true)∧(soft n=true→soft m=true)
 | [],B,h,n,m,o',hm=>by
   simp only[Pv,oI]at h;subst h;cases hm
 | (k,x)::r,B,h,n,m,o',hm=>by
   simp only[Pv]at h;split at h
   ·rename_i m1 o1 h1 e1 e2 e3;split at h
    ·rename_i hp hs;simp only[oI]at h;subst h;rcases bh.1 hm with h|h
     ·simp only[pI]at h;obtain⟨rfl,rfl,rfl⟩:=h;refine⟨x,by simp,e1,e2,fun hn=> ?_,fun hn=> ?_⟩
      ·rw[hn]at hp;simpa using hp
      ·rw[hn]at hs;simpa using hs
     ·obtain⟨o,q1,q2⟩:=uc e3 n m o' h;exact⟨o,aE _ q1,q2⟩
    ·cases h
   ·cases h
theorem Tn{kn:Option V}{ρ:List (Nat×Nat)}: ∀{hp:Hp} {B:List (Nat×Nat×Obj)},Pv kn ρ hp=some B→ ∀n o,(n,o)∈hp→ ∃m o',(n,m,o')∈B∧look ρ n=some m∧o.toA kn ρ=some o'
 | [],B,h,n,o,hm=>by cases hm
 | (k,x)::r,B,h,n,o,hm=>by
   simp only[Pv]at h;split at h
   ·rename_i m1 o1 h1 e1 e2 e3;split at h
    ·simp only[oI]at h;subst h;rcases bh.1 hm with h|h
     ·simp only[pI]at h;obtain⟨rfl,rfl⟩:=h;exact⟨m1,o1,by simp,e1,e2⟩
     ·obtain⟨m,o',q1,q2⟩:=Tn e3 n o h;exact⟨m,o',aE _ q1,q2⟩
    ·cases h
   ·cases h
theorem To{st:St}{ρ:List (Nat×Nat)}: ∀{r:List (Nat×Nat)} {hp:Hp},Iu st ρ r=some hp→(∀n o,(n,o)∈hp→ ∃m x,(n,m)∈r∧look st.hp m=some x∧o=x.toF ρ∧(tG m=true→tG n=true)∧(soft m=true→soft n=true))∧ ∀n m,(n,m)∈r→ ∃x,look st.hp m=some x∧(n,x.toF ρ)∈hp
 | [],hp,h=>by
   simp only[Iu,oI]at h;subst h;exact⟨(fun n o hm=>nomatch hm),(fun n m hm=>nomatch hm)⟩
 | (k,j)::r,hp,h=>by
   simp only[Iu]at h;split at h
   ·rename_i x h' e1 e2 e3 e4;simp only[oI]at h;subst h;obtain⟨q1,q2⟩:=To e4;refine⟨fun n o hm=> ?_,fun n m hm=> ?_⟩
    ·rcases bh.1 hm with h|h
     ·simp only[pI]at h;obtain⟨rfl,rfl⟩:=h;exact⟨j,x,by simp,e1,rfl,fun hs=>by rw[hs]at e2;simpa using e2,fun hs=>by rw[hs]at e3;simpa using e3⟩
     ·obtain⟨m,y,p1,p2⟩:=q1 n o h;exact⟨m,y,aE _ p1,p2⟩
    ·rcases bh.1 hm with h|h
     ·simp only[pI]at h;obtain⟨rfl,rfl⟩:=h;exact⟨x,e1,by simp⟩
     ·obtain⟨y,p1,p2⟩:=q2 n m h;exact⟨y,p1,aE _ p2⟩
   ·cases h
theorem KK{st:St}{ρ:List (Nat×Nat)}: ∀{r:List (Nat×Nat)} {hp:Hp},Iu st ρ r=some hp→hp.map kG=r.map kG
 | [],hp,h=>by simp only[Iu,oI]at h;subst h;rfl
 | (k,j)::r,hp,h=>by
   simp only[Iu]at h;split at h
   ·rename_i e4;simp only[oI]at h;subst h;rw[cg,cg,KK e4]
   ·cases h
theorem A8{kv ks:List Nat}{hp:Hp}{n:Nat}:look (Px kv ks hp) n=if n∈kv then none else(look hp n).map (Obj.dJ ks kv):=by
 unfold Px;rw[sH (α:=Obj) (f:=fun e:Nat×Obj=>e.2.dJ ks kv)];have:look (hp.filter fun e=> !kv.any (bH e.1)) n=if n∈kv then none else look hp n:=by
  induction hp with
  |nil=>simp[look]
  |cons e r ih=>
   obtain⟨j,x⟩:=e;by_cases hj:j∈kv
   ·have:(kv.any (bH j))=true:=fF.2 ⟨j,hj,by simp⟩;rw[ez aj4,ih];by_cases hn:n∈kv
    ·simp[hn]
    ·have:n≠j:=by rintro rfl;exact hn hj
     rw[if_neg hn,if_neg hn,cR this]
   ·have:(kv.any (bH j))=false:=by
     rw[cq];intro y hy hb;exact hj (by rw[aG hb];exact hy)
    rw[dV aj4];by_cases hnj:n=j
    ·subst hnj;rw[look_eq,if_neg hj,look_eq]
    ·rw[cR hnj,cR hnj,ih]
 rw[this];split<;>simp
theorem Tp{hp:Hp}: ∀{l:Hp},U6 hp l=true→ ∀m o,look l m=some o→look hp m=none
 | (k,x)::r,h,m,o,hl=>by
   simp only[U6,an]at h;by_cases hm:m=k
   ·subst hm;cases hq:look hp m with
    |none=>rfl
    |some y=>rw[hq]at h;simp at h
   ·rw[cR hm]at hl;exact Tp h.2 m o hl
theorem alc{w:World}{hp:Hp}{env:Env}: ∀{c:List V} {us:List Value} {x:V},dG (RA w hp env) c us→knV c=some x→ ∃u t l,x= .uS u t l∧RA w hp env x u
 | [],_,_,_,h=>by cases h
 |v::r,us,x,hr,h=>by
  cases us with
  |nil=>exact hr.elim
  |cons u us=>
   cases v with
   |uS v t l=>
    simp only[knV,oI]at h;subst h;have h1:=hr.1;obtain⟨hu,_⟩:=h1;subst hu;exact⟨_,t,l,rfl,hr.1⟩
   |_=>exact alc hr.2 h
theorem ab3{zb:fG}{st:St}{a:Act}{w:World}{env:Env}(g:Good ty zb st a.tmps w env): ∀{xs:List Operand} {x:V},knX st xs=some x→ ∃u t l,x= .uS u t l∧RA w st.hp env x u
 | [],_,h=>by cases h
 |y::r,x,h=>by
  simp only[knX]at h;split at h
  ·rename_i v hv;split at h
   ·rename_i hl;simp only[oI]at h;subst h;have hr:=GJ g (fun e he=>by simp at he) hv;cases v with
    |uS v t l=>
     have h1:RA w st.hp env (.uS v t l) (a.eval y):=hr;obtain⟨hu,_⟩:=h1;refine⟨v,t,l,rfl,?_⟩;have h2:RA w st.hp env (.uS v t l) (a.eval y):=hr;rw[hu]at h2;exact h2
    |_=>cases hl
   ·exact ab3 g h
  ·exact ab3 g h
theorem ab4{zb:fG}{st:St}{tmps:Array Value}{w:World}{env:Env}(g:Good ty zb st tmps w env): ∀{ρ:List (Nat×Nat)} {x:V},knR st ρ=some x→ ∃u t l,x= .uS u t l∧RA w st.hp env x u
 | [],_,h=>by cases h
 | (n,m)::r,x,h=>by
   simp only[knR]at h;split at h
   ·rename_i c hc;split at h
    ·rename_i v hv;simp only[oI]at h;subst h;obtain⟨b,cs,e,_,_,h3⟩:=g.obj m _ hc;exact alc h3 hv
    ·exact ab4 g h
   ·exact ab4 g h
theorem ayd{zb:fG}{st:St}{a:Act}{w:World}{env:Env}(g:Good ty zb st a.tmps w env){xs:List Operand}{ρ:List (Nat×Nat)}{x:V}(h:knS st xs ρ=some x): ∃u t l,x= .uS u t l∧RA w st.hp env x u:=by
 unfold knS at h;split at h
 ·rename_i v hv;simp only[oI]at h;subst h;exact ab3 g hv
 ·exact ab4 g h
theorem Ym{kn:Option V}: ∀{c:List V} {v:V},v∈c→ ∀q,q∈Yj kn v→q∈ala kn c
 |x::r,v,hv,q,hq=>by
  simp only[ala,lR];rcases bh.1 hv with rfl|hv
  ·exact bl _ hq
  ·exact aW _ (Ym hv q hq)
theorem Yn{kn:Option V}: ∀{hp:Hp} {n:Nat} {c:List V},(n, .box c)∈hp→ ∀q,q∈ala kn c→q∈ab2 kn hp
 | (m,o)::r,n,c,h,q,hq=>by
   rcases bh.1 h with h|h
   ·simp only[pI]at h;obtain⟨_,rfl⟩:=h;simp only[ab2,lR];exact bl _ hq
   ·have:=Yn h q hq;cases o with
    |box d=>simp only[ab2,lR];exact aW _ this
    |_=>exact this
end
section
variable{v v':V}{u:Value}{env':Env}{ty:Tag→Nat}
def Iw(env:Env)(ρ:List (Nat×Nat)):Env:=fun n=>match look ρ n with|some m=>env m|none=>⟨O4,[]⟩
section
variable{P:Program}{zb:fG}{st st':St}{a:Act}{w:World}{env:Env}{Q:Exit→Act→World→Prop}{o:Oper}{ρ:List (Nat×Nat)}{nB:Hp}
structure Ix(st:St)(env:Env)(ρ:List (Nat×Nat))(nB:Hp):Prop where
 at_: ∀n m,(n,m)∈ρ→look ρ n=some m
 obj: ∀n m,(n,m)∈ρ→ ∃x,look st.hp m=some x∧look nB n=some (x.toF ρ)
 back: ∀n o,look nB n=some o→ ∃m x,(n,m)∈ρ∧look st.hp m=some x∧o=x.toF ρ∧(tG m=true→tG n=true)∧(soft m=true→soft n=true)
 uniq:(ρ.map iL).Nodup
theorem Ix.of{st:St}{env:Env}{nB:Hp}(h:Iu st ρ ρ=some nB)(h1:(ρ.map kG).Nodup)(h2:(ρ.map iL).Nodup):Ix st env ρ nB:=by
 obtain⟨q1,q2⟩:=To h;have hnd:(nB.map kG).Nodup:=by rw[KK h];exact h1
 refine⟨fun n m hm=>ld h1 hm,fun n m hm=> ?_,fun n o hl=> ?_,h2⟩
 ·obtain⟨x,p1,p2⟩:=q2 n m hm;exact⟨x,p1,ld hnd p2⟩
 ·obtain⟨m,x,p1,p2,p3,p4⟩:=q1 n o (jx hl);exact⟨m,x,p1,p2,p3,p4⟩
theorem Ix.en(L:Ix st env ρ nB){n m:Nat}(h:(n,m)∈ρ):Iw env ρ n=env m:=by unfold Iw;rw[L.at_ n m h]
theorem Ix.ow(L:Ix st env ρ nB){b:Nat}(h:Ow nB (Iw env ρ) b): ∃n m x,(n,m)∈ρ∧look st.hp m=some x∧b∈(env m).fp:=by
 obtain⟨n,o,h1,h2⟩:=h;obtain⟨m,x,p1,p2,_⟩:=L.back n o h1;rw[L.en p1]at h2;exact⟨n,m,x,p1,p2,h2⟩
theorem aee: ∀{ρ:List (Nat×Nat)} {n n' m:Nat},(ρ.map iL).Nodup→(n,m)∈ρ→(n',m)∈ρ→n=n'
 | (a,b)::r,n,n',m,hnd,h1,h2=>by
   obtain⟨q1,q2⟩:=dx.1 hnd;rcases bh.1 h1 with e1|e1<;>rcases bh.1 h2 with e2|e2
   ·rw[pI]at e1 e2;rw[e1.1,e2.1]
   ·rw[pI]at e1;exact absurd (bQ.2 ⟨_,e2,e1.2⟩) q1
   ·rw[pI]at e2;exact absurd (bQ.2 ⟨_,e1,e2.2⟩) q1
   ·exact aee q2 e1 e2
theorem toF_ok(L:Ix st env ρ nB)(h:RA w st.hp env v u):RA w nB (Iw env ρ) (v.toF ρ) u:=by
 cases v with
 |lit x=>exact h
 |sl t l=>
  obtain⟨fp,h1,h2⟩:=h;refine⟨fp,h1,fun b hb ho=>h2 b hb ?_⟩;obtain⟨n,m,x,_,p2,p3⟩:=L.ow ho;exact⟨m,x,p2,p3⟩
 |own m=>
  simp only[V.toF];split
  ·rename_i n hn;obtain⟨⟨t,l,hl⟩,hu⟩:=h;obtain⟨x,p1,p2⟩:=L.obj n m (wO hn);rw[hl]at p1;simp only[oI]at p1;subst p1;exact⟨⟨t,l,p2⟩,by rw[L.en (wO hn)];exact hu⟩
  ·trivial
 |ptr m off=>
  simp only[V.toF];split
  ·rename_i n hn;obtain⟨⟨c,hl⟩,hu⟩:=h;obtain⟨x,p1,p2⟩:=L.obj n m (wO hn);rw[hl]at p1;simp only[oI]at p1;subst p1;exact⟨⟨_,p2⟩,by rw[L.en (wO hn)];exact hu⟩
  ·trivial
 |S3 f m=>
  simp only[V.toF];split
  ·rename_i n hn;obtain⟨⟨c,hl⟩,hu⟩:=h;obtain⟨x,p1,p2⟩:=L.obj n m (wO hn);rw[hl]at p1;simp only[oI]at p1;subst p1;exact⟨⟨_,p2⟩,by rw[L.en (wO hn)];exact hu⟩
  ·trivial
 |uS v t l=>
  obtain⟨hu,fp,h1,h2⟩:=h;refine⟨hu,fp,h1,fun b hb ho=>h2 b hb ?_⟩;obtain⟨n,m,x,_,p2,p3⟩:=L.ow ho;exact⟨m,x,p2,p3⟩
 |_=>trivial
theorem aef{w:World}{hp hp':Hp}{env:Env}{n m:Nat}{t:Tag}{l:List (T t)}{co:CO}(hs:soft m=true→soft n=true)(h:RO ty w hp env m (.arr t l) co):RO ty w hp' env' n (.arr t l) co:=by
 cases hm:soft m with
 |false=>exact RO.S7 (RO.bld hm h)
 |true=>exact RO.akG (hs hm) (RO.sl h) (RO.own h)
theorem ahG(g:Good ty zb st a.tmps w env)(L:Ix st env ρ nB):Yk ty w nB (Iw env ρ):=by
 refine⟨fun n o hl=> ?_,fun n n' o o' hne h1 h2 b hb hb'=> ?_⟩
 ·obtain⟨m,x,p1,p2,rfl,_,p4⟩:=L.back n o hl;rw[L.en p1];have hro:=g.obj m x p2;cases x with
  |arr t l=>exact aef p4 hro
  |box c=>
   obtain⟨b,cs,e,h1,h2,h3⟩:=hro;exact⟨b,cs,e,h1,h2,h3.map fun x y hr=>toF_ok L hr⟩
  |pQ t l s=>
   rcases RO.RZ hro with⟨rfl,h⟩| ⟨u,rfl,h1,h2,fp,h3,h4⟩| ⟨p,rfl,h⟩| ⟨hr,h1,us,hB,h2,_⟩
   ·exact h
   ·refine⟨h1,h2,fp,h3,h4.imp id fun⟨c,e1,e2⟩=>⟨c,e1,fun ho=> ?_⟩⟩;obtain⟨n',m',x',p1',p2',p3'⟩:=L.ow ho;exact e2 ⟨m',x',p2',p3'⟩
   ·exact⟨h.1,h.2.1,fun _ _ _ e=>by cases e⟩
   ·have e:(Obj.pQ t l s).toF ρ= .pQ t l .gone:=by cases s<;>first|rfl|exact hr.elim
    rw[e];exact⟨h1,us,hB,h2,fun _ _ _ _ _=>trivial⟩
 ·obtain⟨m,x,p1,p2,_⟩:=L.back n o h1;obtain⟨m',x',p1',p2',_⟩:=L.back n' o' h2;rw[L.en p1]at hb;rw[L.en p1']at hb';refine g.tN m m' x x' (fun e=> ?_) p2 p2' b hb hb';subst e;exact hne (aee L.uniq p1 p1')
theorem aeg(g:Good ty zb st a.tmps w env)(L:Ix st env ρ nB){tg:Option Tag}(h:RA w st.hp env v u)(hf:arY st ρ tg v=some v'):RA w nB (Iw env ρ) v' u:=by
 have aC3:(∀n c t l,v≠ .mix n c t l)→(∀n,v≠ .RX n)→(∀m,v.name=some m→inv ρ m=none)→xp st tg v=some v'→RA w nB (Iw env ρ) v' u:=by
  intro Xd hbw hno hi;have aC4: ∀{m:Nat} {x:Obj},v.name=some m→look st.hp m=some x→ ∀b,b∈(env m).fp→ ¬Ow nB (Iw env ρ) b:=by
   intro m x hm hl b hb ho;obtain⟨n,m',x',p1,p2,p3⟩:=L.ow ho;have hne:m≠m':=by
    rintro rfl;exact Yl (hno m hm) (bQ.2 ⟨_,p1,rfl⟩)
   exact g.tN m m' x x' hne hl p2 b hb p3
  cases v with
  |sl t l=>
   simp only[xp,oI]at hi;subst hi;exact toF_ok L h
  |own m=>
   simp only[xp]at hi;split at hi
   ·rename_i t l hl;simp only[oI]at hi;subst hi;obtain⟨_,hu⟩:=h;refine⟨(env m).fp,?_,aC4 rfl hl⟩;rw[hu];exact RO.sl (g.obj m _ hl)
   ·cases hi
  |vw m p t l=>
   simp only[xp,oI]at hi;subst hi;obtain⟨⟨tA,lA,hl⟩,⟨fp,hs,_,hsub⟩,_⟩:=h;exact⟨fp,hs,fun b hb=>aC4 rfl hl b (hsub b hb)⟩
  |lit x=>
   unfold xp at hi;split at hi
   ·rename_i he;cases he
   ·rename_i he;cases he
   ·rename_i he;cases he
   ·rename_i he;cases he
   ·rename_i he;cases he
   ·rename_i he;simp only[V.lit.injEq]at he;subst he;obtain⟨hu,_⟩:=h;split at hi
    ·simp only[oI]at hi;subst hi;refine⟨[],?_,by simp⟩;rw[hu];exact⟨none,0,rfl,aS _,aY _,bP ⟨rfl,rfl,rfl⟩⟩
    ·cases hi
   ·cases hi
   ·rename_i he;simp only[V.lit.injEq]at he;subst he;simp only[oI]at hi;subst hi;exact h
   ·cases hi
  |mix n c t l=>exact absurd rfl (Xd n c t l)
  |RX n=>exact absurd rfl (hbw n)
  |_=>simp[xp]at hi
 unfold arY at hf;split at hf
 ·rename_i m hm;split at hf
  ·rename_i n hn;have hF:=toF_ok L h;split at hf
   ·rename_i m';simp only[V.name,oI]at hm;subst hm;simp only[oI]at hf;subst hf;simpa only[V.toF,hn]using hF
   ·rename_i m' off;simp only[V.name,oI]at hm;subst hm;simp only[oI]at hf;subst hf;simpa only[V.toF,hn]using hF
   ·rename_i f m';simp only[V.name,oI]at hm;subst hm;simp only[oI]at hf;subst hf;simpa only[V.toF,hn]using hF
   ·cases hf
  ·rename_i hn;split at hf
   ·cases hf
   ·cases hf
   ·rename_i h1 h2;exact aC3 (fun n c t l e=>h1 n c t l e) (fun n e=>h2 n e) (fun k hk=>by rw[hm]at hk;simp only[oI]at hk;subst hk;exact hn) hf
 ·rename_i hm;exact aC3 (fun n c t l e=>by rw[e]at hm;cases hm) (fun n e=>by rw[e]at hm;cases hm) (fun k hk=>by rw[hm]at hk;cases hk) hf
theorem Yo(g:Good ty zb st a.tmps w env)(L:Ix st env ρ nB): ∀{vs vs':List V} {tg:List (Option Tag)} {us:List Value},dG (RA w st.hp env) vs us→Yh st ρ tg vs=some vs'→dG (RA w nB (Iw env ρ)) vs' us
 | [],vs',tg,us,h,hf=>by
   simp only[Yh,oI]at hf;subst hf;cases us with
   |nil=>trivial
   |cons _ _=>exact h.elim
 |v::r,vs',tg,us,h,hf=>by
  cases us with
  |nil=>exact h.elim
  |cons u us=>
   simp only[Yh]at hf;split at hf
   ·rename_i x y h1 h2;simp only[oI]at hf;subst hf;exact⟨aeg g L h.1 h1,Yo g L h.2 h2⟩
   ·cases hf
theorem Yp(g:Good ty zb st a.tmps w env)(L:Ix st env ρ nB){Γ:Nat→TK}: ∀{xs:List Operand} {ts:List Nat} {as:List S1},Yi Γ st ρ xs ts=some as→dG (mG w nB (Iw env ρ)) as (xs.map a.eval)
 | [],_,as,h=>by
   simp only[Yi,oI]at h;subst h;trivial
 |x::r,ts,as,h=>by
  simp only[Yi]at h;split at h
  ·rename_i v hv;split at h
   ·rename_i y ys h1 h2;simp only[oI]at h;subst h;have hr:=GJ g (fun e he=>by simp at he) hv;refine⟨?_,Yp g L h2⟩;cases v with
    |a v=>
     simp only[aya]at h1;split at h1
     ·rename_i hl;simp only[oI]at h1;subst h1;cases v with
      |uS v t l=>exact toF_ok L (v:= .uS v t l) hr
      |_=>cases hl
     ·split at h1
      ·rename_i z hz;simp only[oI]at h1;subst h1;exact aeg g L hr hz
      ·cases h1
    |agg l=>
     simp only[aya]at h1;split at h1
     ·rename_i z hz;simp only[oI]at h1;subst h1;obtain⟨cs,hu,hl⟩:=hr;exact⟨cs,hu,Yo g L hl hz⟩
     ·cases h1
   ·cases h
  ·cases h
theorem dG.append{α β:Type}{R:α→β→Prop}: ∀{as as':List α} {bs bs':List β},dG R as bs→dG R as' bs'→dG R (as++as') (bs++bs'):=dG.app
theorem ab5(g:Good ty zb st a.tmps w env)(L:Ix st env ρ nB){x:Operand}{xs:Array Operand}{ts:Array TypeId}(ho:o.op= .call ⟨.value x,xs,ts⟩){f:FuncId}{ex:List S1}(h:U5 st ρ x=some (f,ex))(hS: ∀(args:Array Value) (w:World),(callFunc f args).run P w= .ok (.enter f args) w):
  ∃us,(execOp a.eval o).run P w= .ok (.enter f (xs.toList.map a.eval++us).toArray) w∧dG (mG w nB (Iw env ρ)) ex us:=by
 have hx:xs.map a.eval=(xs.toList.map a.eval).toArray:=by rw[←vL]
 unfold U5 at h;split at h
 ·rename_i f' m hv;split at h
  ·rename_i n hn;simp only[oI,pI]at h;obtain⟨rfl,rfl⟩:=h;have hr:=lX g (fun e he=>by simp at he) hv;have hA:RA w st.hp env (.S3 f' m) (a.eval x):=hr;obtain⟨⟨c,hl⟩,b,hb,hu⟩:=hA;refine⟨[.pointer (some ⟨b,0,none⟩)],?_,?_,trivial⟩
   ·unfold execOp;simp[ho,resolve,invoke,Deferred.ofValue,hu,hS];rw[hx];simp
   ·obtain⟨y,p1,p2⟩:=L.obj n m (wO hn);rw[hl]at p1;simp only[oI]at p1;subst p1;exact⟨⟨_,p2⟩,b,by rw[L.en (wO hn)];exact hb,rfl⟩
  ·cases h
 ·rename_i v _ hv;split at h
  ·rename_i f' hf;simp only[oI,pI]at h;obtain⟨rfl,rfl⟩:=h;have h0:=ad6 (lX g (fun e he=>by simp at he) hv) hf;refine⟨[],?_,trivial⟩;unfold execOp;simp[ho,resolve,invoke,Deferred.ofValue,h0,hS];exact hx
  ·cases h
 ·cases h
theorem toA_ok{w:World}{kY hpA:Hp}{xB:Env}{ρ:List (Nat×Nat)}{kn kn':Option V}(hn: ∀n m,look ρ n=some m→ ∀o,look kY n=some o→(∃o',look hpA m=some o'∧o.toA kn' ρ=some o')∧env' m=xB n)(hK: ∀x,kn=some x→ ∃u t l,x= .uS u t l∧RA w hpA env' x u)(hP: ∀q,q∈Yj kn v→q)(h:RA w kY xB v u)(hv:v.toA kn ρ=some v'):RA w hpA env' v' u:=by
 cases v with
 |any=>simp only[V.toA,oI]at hv;subst hv;trivial
 |lit x=>simp only[V.toA,oI]at hv;subst hv;exact h
 |uS v t l=>
  simp only[V.toA]at hv;obtain⟨u0,t0,l0,rfl,h0⟩:=hK _ hv;subst hv;have e:=hP (v=u0) (by simp[Yj]);obtain⟨hu,_⟩:=h;rw[hu,e];exact h0
 |own n=>
  simp only[V.toA]at hv;split at hv
  ·rename_i m hm;simp only[oI]at hv;subst hv;obtain⟨⟨t,l,hl⟩,hu⟩:=h;obtain⟨⟨o',q1,q2⟩,q3⟩:=hn n m hm _ hl;simp only[Obj.toA,oI]at q2;subst q2;exact⟨⟨t,l,q1⟩,by rw[q3];exact hu⟩
  ·cases hv
 |ptr n off=>
  simp only[V.toA]at hv;split at hv
  ·rename_i m hm;simp only[oI]at hv;subst hv;obtain⟨⟨c,hl⟩,hu⟩:=h;obtain⟨⟨o',q1,q2⟩,q3⟩:=hn n m hm _ hl;simp only[Obj.toA]at q2;split at q2
   ·simp only[oI]at q2;subst q2;exact⟨⟨_,q1⟩,by rw[q3];exact hu⟩
   ·cases q2
  ·cases hv
 |_=>simp[V.toA]at hv
theorem toAs_ok{w:World}{kY hpA:Hp}{xB env':Env}{ρ:List (Nat×Nat)}{kn kn':Option V}(hn: ∀n m,look ρ n=some m→ ∀o,look kY n=some o→(∃o',look hpA m=some o'∧o.toA kn' ρ=some o')∧env' m=xB n)(hK: ∀x,kn=some x→ ∃u t l,x= .uS u t l∧RA w hpA env' x u): ∀{vs vs':List V} {us:List Value},(∀v,v∈vs→ ∀q,q∈Yj kn v→q)→dG (RA w kY xB) vs us→toAs kn ρ vs=some vs'→dG (RA w hpA env') vs' us
 | [],vs',us,_,h,hv=>by
   simp only[toAs,oI]at hv;subst hv;cases us with
   |nil=>trivial
   |cons _ _=>exact h.elim
 |v::r,vs',us,hP,h,hv=>by
  cases us with
  |nil=>exact h.elim
  |cons u us=>
   simp only[toAs]at hv;split at hv
   ·rename_i x y h1 h2;simp only[oI]at hv;subst hv;exact⟨toA_ok hn hK (hP v fI) h.1 h1,toAs_ok hn hK (fun z hz=>hP z (aE _ hz)) h.2 h2⟩
   ·cases hv
theorem toA_none{kn:Option V}{ρ:List (Nat×Nat)}(hk:kn=none)(h:v.toA kn ρ=some v'): ∀q,q∈Yj kn v→q:=by
 subst hk;cases v with
 |uS v t l=>simp[V.toA]at h
 |_=>intro q hq;simp[Yj]at hq
theorem toAs_none{ρ:List (Nat×Nat)}: ∀{vs vs':List V},toAs none ρ vs=some vs'→ ∀v,v∈vs→ ∀q,q∈Yj none v→q
 |x::r,vs',h,v,hv=>by
  simp only[toAs]at h;split at h
  ·rename_i h1 h2;rcases bh.1 hv with rfl|hv
   ·exact toA_none rfl h1
   ·exact toAs_none h2 v hv
  ·cases h
theorem ald{w:World}{kY hpA:Hp}{xB:Env}{ρ:List (Nat×Nat)}{kn':Option V}(hn: ∀n m,look ρ n=some m→ ∀o,look kY n=some o→(∃o',look hpA m=some o'∧o.toA kn' ρ=some o')∧env' m=xB n){v v':S1}(h:mG w kY xB v u)(hv:v.toA ρ=some v'):mG w hpA env' v' u:=by
 cases v with
 |a v=>
  simp only[S1.toA]at hv;split at hv
  ·rename_i x hx;simp only[oI]at hv;subst hv;exact toA_ok (kn:=none) hn (fun _ h=>by cases h) (toA_none rfl hx) h hx
  ·cases hv
 |agg l=>
  simp only[S1.toA]at hv;split at hv
  ·rename_i x hx;simp only[oI]at hv;subst hv;obtain⟨cs,hu,hl⟩:=h;exact⟨cs,hu,toAs_ok (kn:=none) hn (fun _ h=>by cases h) (toAs_none hx) hl hx⟩
  ·cases hv
theorem ab6{w:World}{kY hpA:Hp}{xB env':Env}{ρ:List (Nat×Nat)}{kn':Option V}(hn: ∀n m,look ρ n=some m→ ∀o,look kY n=some o→(∃o',look hpA m=some o'∧o.toA kn' ρ=some o')∧env' m=xB n): ∀{vs vs':List S1} {us:List Value},dG (mG w kY xB) vs us→rsH ρ vs=some vs'→dG (mG w hpA env') vs' us
 | [],vs',us,h,hv=>by
   simp only[rsH,oI]at hv;subst hv;cases us with
   |nil=>trivial
   |cons _ _=>exact h.elim
 |v::r,vs',us,h,hv=>by
  cases us with
  |nil=>exact h.elim
  |cons u us=>
   simp only[rsH]at hv;split at hv
   ·rename_i x y h1 h2;simp only[oI]at hv;subst hv;exact⟨ald hn h.1 h1,ab6 hn h.2 h2⟩
   ·cases hv
theorem aeh{ρ:List (Nat×Nat)}: ∀{vs vs':List S1},rsH ρ vs=some vs'→vs'.length=vs.length
 | [],vs',h=>by simp only[rsH,oI]at h;subst h;rfl
 |v::r,vs',h=>by
  simp only[rsH]at h;split at h
  ·rename_i x y h1 h2;simp only[oI]at h;subst h;rw[bp,bp,aeh h2]
  ·cases h
theorem ar1{Γ:Nat→TK}{cr:List (Nat×CR)}{d:Option Nat}{vc:List Prop}{v:SV}(h:alb P ty Γ cr st d o.op=some (vc,st',v))(g:Good ty zb st a.tmps w env)(hB:zb.w.heap.size≤w.heap.size)(hA:abJ zb)(hN:Nc w)(hv: ∀q,q∈vc→q):
  (∀k,v.mentions k=false)∧o.wp P a w (fun a' w'=> ∃u env',a'=a.put o.dst u∧Kept zb w w'∧Good ty zb st' a.tmps w' env'∧st'.n=st.n∧AR w' st'.hp env' a.tmps v u) Q:=by
 generalize ng:o.op=op at h;cases op with
 |call c=>
  obtain⟨callee,xs,ts⟩:=c;cases callee with
  |value x=>
   simp only[alb]at h;split at h
   case h_2=>cases h
   rename_i _ ca cb cc os _ rs _ _;split at h
   case h_2=>cases h
   rename_i ρ0 ρ1 ns _ _ _;split at h
   case h_2=>cases h
   rename_i kY nB f ex as _ avl aGm hargs;split at h
   case h_2=>cases h
   rename_i B rsA Py hrs;split at h
   case h_2=>cases h
   rename_i aC5;simp only[an]at aC5;obtain⟨⟨⟨⟨⟨⟨c1,c2⟩,c3⟩,c4⟩,c5⟩,c6⟩,c7⟩:=aC5;simp only[oI,pI,lR]at h;obtain⟨rfl,rfl,rfl⟩:=h;have hS:jr ty P f nB (as++ex) kY rs:=hv _ (List.mem_cons_self ..);have aGn: ∀q,q∈ab2 (knS st xs.toList ρ0) kY→q:=fun q hq=>hv q (aE _ hq);have ale:=rO c1;rw[gj]at ale;have aC6:=(bM.1 ale).1;have L:Ix st env ρ0 nB:=Ix.of avl aC6 (rO c2);refine⟨fun k=>by split<;>rfl,?_⟩;have ar2: ∀b,b∈Iv nB (Iw env ρ0)→ ∃m x,m∈ρ0.map iL∧look st.hp m=some x∧b∈(env m).fp:=by
    intro b hb;obtain⟨e,he,hbe⟩:=kL.1 hb;have aGo:(nB.map kG).Nodup:=by rw[KK avl];exact aC6
    obtain⟨m,x,p1,p2,_⟩:=L.back e.1 e.2 (ld aGo he);rw[L.en p1]at hbe;exact⟨m,x,bQ.2 ⟨_,p1,rfl⟩,p2,hbe⟩
   have hLz: ∀b,b∈Iv nB (Iw env ρ0)→b∈zb.L∨zb.w.heap.size≤b:=by
    intro b hb;obtain⟨m,x,_,p2,p3⟩:=ar2 b hb;exact g.dom m x p2 b p3
   obtain⟨us,hrun,hex⟩:=ab5 (P:=P) g L ng aGm hS.1;unfold nv;rw[hrun];simp only[Oper.upon];refine(hS.2 w (Iw env ρ0) _ hN (fun b h0 hb=>hA.free (hLz b hb) h0) (ahG g L) (dG.app (Yp g L hargs) hex)).mono ?_;rintro e w' ⟨xB,u,rfl,hK,⟨hG1,hG2⟩,qx,Ye,hres⟩;have aC7: ∀n m,(n,m)∈ρ0→look (ρ0++ρ1) n=some m:=fun n m hm=>ld (by rw[gj];exact ale) (bl _ hm);have aye:=Fa c3;have aC8:=Fa c4;have aGq: ∀{n m n':Nat} {o1 o2:Obj},(n,m,o1)∈B→(n',m,o2)∈B→n=n':=by
    intro n m n' o1 o2 h1 h2;have: ∀{B:List (Nat×Nat×Obj)},((N0 B).map kG).Nodup→(n,m,o1)∈B→(n',m,o2)∈B→n=n':=by
     intro B;induction B with
     |nil=>intro _ h;cases h
     |cons x r ih=>
      intro hnd h1 h2;obtain⟨q1,q2⟩:=dx.1 (show((x.2.1)::(N0 r).map kG).Nodup from hnd);have hin: ∀{k:Nat} {o:Obj},(k,m,o)∈r→m∈(N0 r).map kG:=fun h=>bQ.2 ⟨(m,_),bQ.2 ⟨_,h,rfl⟩,rfl⟩;rcases bh.1 h1 with e1|e1<;>rcases bh.1 h2 with e2|e2
      ·rw[←e1]at e2;simp only[pI]at e2;exact e2.1.symm
      ·rw[←e1]at q1;exact absurd (hin e2) q1
      ·rw[←e2]at q1;exact absurd (hin e1) q1
      ·exact ih q2 e1 e2
    exact this aC8 h1 h2
   have aC9: ∀{n m:Nat} {o':Obj},(n,m,o')∈B→look (N0 B) m=some o'∧R3 B m=some n:=by
    intro n m o' hm;have h1:look (N0 B) m=some o':=ld aC8 (bQ.2 ⟨_,hm,rfl⟩);obtain⟨n',h2,h3⟩:=wX h1;rw[aGq hm h2];exact⟨h1,h3⟩
   let env':Env:=fun m=>match R3 B m with|some n=>xB n|none=>env m
   have Yq: ∀{n m:Nat} {o':Obj},(n,m,o')∈B→env' m=xB n:=by
    intro n m o' hm;show(match R3 B m with|some n=>xB n|none=>env m)=xB n
    rw[(aC9 hm).2]
   have aei: ∀{m:Nat},look (N0 B) m=none→env' m=env m:=by
    intro m hm;show(match R3 B m with|some n=>xB n|none=>env m)=env m
    rw[Tm hm]
   have hn: ∀n m,look (ρ0++ρ1) n=some m→ ∀o,look kY n=some o→(∃o',look (N0 B) m=some o'∧o.toA (knS st xs.toList ρ0) (ρ0++ρ1)=some o')∧env' m=xB n:=by
    intro n m hm o hl;obtain⟨m',o',q1,q2,q3⟩:=Tn Py n o (jx hl);rw[hm]at q2;simp only[oI]at q2;subst q2;exact⟨⟨o',(aC9 q1).1,q3⟩,Yq q1⟩
   have hfr:=Tp c5;have hlk: ∀m o,look (N0 B++Px (ρ0.map iL) ((ρ0.filter fun e=> !tG e.1).map iL) st.hp) m=some o→(∃n o1,look (N0 B) m=some o∧look kY n=some o1∧o1.toA (knS st xs.toList ρ0) (ρ0++ρ1)=some o∧env' m=xB n∧(tG m=true→tG n=true)∧(soft n=true→soft m=true))∨(look (N0 B) m=none∧m∉ρ0.map iL∧ ∃x,look st.hp m=some x∧o=x.dJ ((ρ0.filter fun e=> !tG e.1).map iL) (ρ0.map iL)∧env' m=env m):=by
    intro m o hm;cases hq:look (N0 B) m with
    |some o2=>
     rw[gm hq]at hm;simp only[oI]at hm;subst hm;obtain⟨n,h1,_⟩:=wX hq;obtain⟨o1,p1,p2,p3,p4,p5⟩:=uc Py n m _ h1;exact bP ⟨n,o1,rfl,ld aye p1,p3,Yq h1,p4,p5⟩
    |none=>
     rw[dD hq,A8]at hm;split at hm
     ·cases hm
     ·rename_i hnk;cases hx:look st.hp m with
      |none=>rw[hx]at hm;cases hm
      |some x=>
       rw[hx]at hm;simp only[eN,oI]at hm;exact bw ⟨rfl,hnk,x,rfl,hm.symm,aei hq⟩
   have hold: ∀m x,m∉ρ0.map iL→look st.hp m=some x→look (N0 B) m=none:=by
    intro m x hnk hx;cases hq:look (N0 B) m with
    |none=>rfl
    |some o2=>
     have:=hfr m o2 hq;rw[A8,if_neg hnk,hx]at this;cases this
   have hst: ∀m x,m∉ρ0.map iL→look st.hp m=some x→ ∀b,b∈(env m).fp→w'.heap[b]? =w.heap[b]? :=by
    intro m x hnk hx b hb;refine hK.block b ((g.obj m x hx).blk b hb) fun hL=> ?_;obtain⟨m',x',p1,p2,p3⟩:=ar2 b hL;exact g.tN m m' x x' (fun e=>hnk (e▸p1)) hx p2 b hb p3
   have hnew: ∀{m n:Nat} {o1:Obj},look kY n=some o1→ ∀b,b∈(xB n).fp→b<w.heap.size→ ∃m' x',m'∈ρ0.map iL∧look st.hp m'=some x'∧b∈(env m').fp:=by
    intro m n o1 hl b hb hlt;rcases qx n o1 hl b hb with h|h
    ·exact ar2 b h
    ·omega
   have s:AX ((ρ0.filter fun e=> !tG e.1).map iL) (ρ0.map iL) w st.hp env w' (N0 B++Px (ρ0.map iL) ((ρ0.filter fun e=> !tG e.1).map iL) st.hp) env':=by
    refine⟨fun b hb hno=>hK.block b hb fun hL=> ?_,?_,?_,?_⟩
    ·obtain⟨m,x,_,p2,p3⟩:=ar2 b hL;exact hno ⟨m,x,p2,p3⟩
    ·rintro b hb ⟨m,o',h1,h2⟩;rcases hlk m o' h1 with⟨n,o1,_,q2,_,q4,_⟩| ⟨_,_,x,q3,_,q5⟩
     ·rw[q4]at h2;obtain⟨m',x',_,p2,p3⟩:=hnew (m:=m) q2 b h2 hb;exact⟨m',x',p2,p3⟩
     ·rw[q5]at h2;exact⟨m,x,q3,h2⟩
    ·intro m o' hks h1;by_cases hkv:m∈ρ0.map iL
     ·obtain⟨e,he,rfl⟩:=bQ.1 hkv;have hpe:tG e.1=true:=by
       cases hp:tG e.1 with
       |true=>rfl
       |false=>exact absurd (bQ.2 ⟨e,List.mem_filter.2 ⟨he,by simp[hp]⟩,rfl⟩) hks
      have Xf:=bE.1 c6 e he;rw[hpe]at Xf;simp only[Bool.not_true,AU,an]at Xf;obtain⟨x,p1,p2⟩:=L.obj e.1 e.2 he;rw[h1]at p1;simp only[oI]at p1;subst p1;rw[p2]at Xf;cases hq1:look kY e.1 with
      |none=>rw[hq1]at Xf;simp[Pw]at Xf
      |some o1=>
       rw[hq1]at Xf;obtain⟨⟨o2,q1,q2⟩,q3⟩:=hn e.1 e.2 (aC7 e.1 e.2 he) o1 hq1;refine⟨o2,gm q1,?_,by rw[q3,(Ye e.1 hpe).1,L.en he]⟩;cases o' with
       |arr t l=>simp[Obj.toF,Pw]at Xf
       |pQ t l s=>cases s<;>simp[Obj.toF,Pw]at Xf
       |box c=>
        cases o1 with
        |arr t l=>simp[Pw]at Xf
        |pQ t l s=>simp[Pw]at Xf
        |box c1=>
         simp only[Obj.toA]at q2;split at q2
         ·simp only[oI]at q2;subst q2;trivial
         ·cases q2
     ·have hno:=hold m o' hkv h1;refine⟨o'.dJ _ _,by rw[dD hno,A8,if_neg hkv,h1];rfl,by cases o'<;>simp[Obj.like,Obj.dJ],by rw[aei hno]⟩
    ·rintro m t' l' ⟨_,hkv⟩ h1;have hno:=hold m _ hkv h1;refine⟨by rw[dD hno,A8,if_neg hkv,h1];rfl,aei hno,hst m _ hkv h1⟩
   have alf:=g.oR s (fun m o' hm=> ?_) (fun m m' o1 o2 hne h1 h2 b hb hb'=> ?_) (fun m o' hm b hb=> ?_) (fun m hm=> ?_)
   ·refine⟨u,env',rfl,Kept.aCQ hK hB hLz,alf,by first|trivial|rfl,?_⟩;have h1: ∀{hp:Hp},(∀m o,look (N0 B) m=some o→look hp m=some o)→(∀n m,look (ρ0++ρ1) n=some m→ ∀o,look kY n=some o→(∃o',look hp m=some o'∧o.toA (knS st xs.toList ρ0) (ρ0++ρ1)=some o')∧env' m=xB n):=by
     intro hp hh n m hm o hl;obtain⟨⟨o',p1,p2⟩,p3⟩:=hn n m hm o hl;exact⟨⟨o',hh m o' p1,p2⟩,p3⟩
    have h2:=h1 (hp:=N0 B++Px (ρ0.map iL) ((ρ0.filter fun e=> !tG e.1).map iL) st.hp) (fun m o hm=>gm hm);have hlen:=aeh hrs;match rs,rsA,hrs,hres,hlen with
    | [r],[ra],hrs,hres,_=>
      simp only[rsH]at hrs;split at hrs
      ·rename_i x y e1 e2;simp only[oI,cP]at e2 hrs;obtain⟨rfl,_⟩:=hrs;exact ald h2 hres e1
      ·cases hrs
    | [],[],hrs,⟨us',hu,hall⟩,_=>exact⟨us',hu,ab6 h2 hall hrs⟩
    |r1::r2::r,x1::x2::xr,hrs,⟨us',hu,hall⟩,_=>exact⟨us',hu,ab6 h2 hall hrs⟩
    | [],_::_,_,_,hl=>cases hl
    | [_],[],_,_,hl=>cases hl
    | [_],_::_::_,_,_,hl=>simp at hl
    |_::_::_,[],_,_,hl=>simp at hl
    |_::_::_,[_],_,_,hl=>simp at hl
   ·rcases hlk m o' hm with⟨n,o1,q1,q2,q3,q4,_,q6⟩| ⟨q1,q2,x,q3,rfl,q5⟩
    ·rw[q4];have hro:=hG1 n o1 q2;cases o1 with
     |arr t l=>
      simp only[Obj.toA,oI]at q3;subst q3;exact aef q6 hro
     |pQ t l s=>cases q3
     |box c=>
      simp only[Obj.toA]at q3;split at q3
      ·rename_i c' hc';simp only[oI]at q3;subst q3;obtain⟨b,cs,e,h1,h2,h3⟩:=hro;refine⟨b,cs,e,h1,h2,toAs_ok (kn':=knS st xs.toList ρ0) (kY:=kY) (xB:=xB) ?_ (fun y hy=> ?_) (fun y hy q hq=>aGn q (Yn (jx q2) q (Ym hy q hq))) h3 hc'⟩
       ·intro n m hm o hl;obtain⟨⟨o',p1,p2⟩,p3⟩:=hn n m hm o hl;exact⟨⟨o',gm p1,p2⟩,p3⟩
       ·obtain⟨u0,t0,l0,e0,h0⟩:=ayd g hy;subst e0;exact⟨u0,t0,l0,rfl,RA.oR s h0⟩
      ·cases q3
    ·rw[q5];exact(g.obj m x q3).oR s (hst m x q2 q3)
   ·rcases hlk m o1 h1 with⟨n,p1,q1,q2,q3,q4,_⟩| ⟨q1,q2,x,q3,_,q5⟩<;>rcases hlk m' o2 h2 with⟨n',p1',q1',q2',q3',q4',_⟩| ⟨q1',q2',x',q3',_,q5'⟩
    ·rw[q4]at hb;rw[q4']at hb';obtain⟨k1,k2,k3⟩:=wX q1;obtain⟨k1',k2',k3'⟩:=wX q1';have e1:=Yq k2;have e2:=Yq k2';have aGu:k1≠k1':=by
      rintro rfl;obtain⟨_,_,z1,_⟩:=uc Py _ _ _ k2;obtain⟨_,_,z2,_⟩:=uc Py _ _ _ k2';rw[z1]at z2;simp only[oI]at z2;exact hne z2
     rw[q4]at e1;rw[q4']at e2;rw[e1]at hb;rw[e2]at hb';obtain⟨y1,z1,_⟩:=uc Py _ _ _ k2;obtain⟨y2,z2,_⟩:=uc Py _ _ _ k2';exact hG2 k1 k1' y1 y2 aGu (ld aye z1) (ld aye z2) b hb hb'
    ·rw[q4]at hb;rw[q5']at hb';have hlt:=(g.obj m' x' q3').blk b hb';obtain⟨k,y,p1,p2,p3⟩:=hnew (m:=m) q2 b hb hlt;exact g.tN m' k x' y (fun e=>q2' (e▸p1)) q3' p2 b hb' p3
    ·rw[q5]at hb;rw[q4']at hb';have hlt:=(g.obj m x q3).blk b hb;obtain⟨k,y,p1,p2,p3⟩:=hnew (m:=m') q2' b hb' hlt;exact g.tN m k x y (fun e=>q2 (e▸p1)) q3 p2 b hb p3
    ·rw[q5]at hb;rw[q5']at hb';exact g.tN m m' x x' hne q3 q3' b hb hb'
   ·rcases hlk m o' hm with⟨n,p1,q1,q2,q3,q4,_⟩| ⟨q1,q2,x,q3,_,q5⟩
    ·rw[q4]at hb;rcases qx n p1 q2 b hb with h|h
     ·exact hLz b h
     ·exact bw aJ
    ·rw[q5]at hb;exact g.dom m x q3 b hb
   ·cases hq:look (N0 B) m with
    |none=>rw[aei hq];exact g.pins m hm
    |some o2=>
     obtain⟨n,h1,_⟩:=wX hq;obtain⟨_,_,p2,_,p4,_⟩:=uc Py n m _ h1;have hpn:=p4 hm;have hin:(n,m)∈ρ0:=by
      rcases bg.1 (jx p2)with h|h
      ·exact h
      ·have:=bE.1 c7 _ h;simp only[hm]at this;cases this
     rw[Yq h1];obtain⟨k1,k2⟩:=Ye n hpn;rw[L.en hin]at k1 k2;obtain⟨j1,j2⟩:=g.pins m hm;exact⟨k1.trans j1,fun b hb=>j2 b (k2 b hb)⟩
  |_=>simp[alb]at h
 |_=>simp[alb]at h
end
end
section
variable{ty:Tag→Nat}
def aDa(hp:Hp)(n m:Nat)(t:Tag)(l:List (T t))(r:BV:= .xp):Hp:=(m, .pQ t l r)::gr [n] [] hp
def apx:S1→Option ((t:Tag)×List (T t)×BV)
 | .a (.sl t l)=>some ⟨t,l, .xp⟩
 | .a (.Xc q t l)=>some ⟨t,l, .of q⟩
 |_=>none
def alg:BV→BV→Nat→Bool
 | .xp, .xp,_=>true
 | .of q, .of q',n=>match bH q q',bH q n with|true,false=>true|_,_=>false
 |_,_,_=>false
theorem alh{r r':BV}{n:Nat}(h:alg r r' n=true):r=r'∧r.dJ [n] []=r∧r.br:=by
 cases r with
 |gone=>cases r'<;>cases h
 |mp=>cases r'<;>cases h
 |bag u=>cases r'<;>cases h
 |Kx p=>cases r'<;>cases h
 |xp=>cases r' with
  |xp=>exact⟨rfl,rfl,trivial⟩
  |_=>cases h
 |of q=>cases r' with
  |of q'=>
   simp only[alg]at h;split at h
   ·rename_i h1 h2;refine⟨by rw[aG h1],?_,trivial⟩;simp[BV.dJ,h2]
   ·cases h
  |_=>cases h
def ab7(P:Program)(ty:Tag→Nat)(Γ:Nat→TK)(st:St)(m0:Nat):Op→Option (List Prop×St×SV)
 | .call ⟨.builtin .append,xs,ts⟩=>match xs.toList,ts.toList with
   | [s,x],[t1,t2]=>match Γ t1,bH t1 t2 with
     | .sl t e,true=>match bH e (ty t),bH (kk t) 1,oH st [] s,(oH st [] x).bind apx with
       |true,true,some (.a (.RX n)),some ⟨t2',lx,r⟩=>match look st.hp n,rM t t2' lx with
        |some (.pQ t' l r'),some lx=>match rM t t' l,pinned [n],tG m0,look (gr [n] [] st.hp) m0,alg r r' n with
         |some l,false,false,none,true=>some ([El P ty t,(l.length+lx.length)*vI t≤140737488355328∧l.length+lx.length≤maxLen],
           ⟨st.n,st.sl.map fun e=>(e.1,e.2.dJ [n] []),aDa st.hp n m0 t (l++lx) r⟩, .one (.a (.RX m0)))
         |_,_,_,_,_=>none
        |_,_=>none
       |_,_,_,_=>none
     |_,_=>none
   |_,_=>none
 |_=>none
section
variable{P:Program}{zb:fG}{st st':St}{a:Act}{w:World}{env:Env}{Q:Exit→Act→World→Prop}{o:Oper}
theorem Mt{α β:Type}(l:List α):(l.map fun _=>([]:List β)).flatten= []:=by
 induction l with
 |nil=>rfl
 |cons _ _ ih=>simpa using ih
theorem ar3{Γ:Nat→TK}(C: ∀t,gO P t (Γ t)){m0:Nat}{vc:List Prop}{v:SV}(h:ab7 P ty Γ st m0 o.op=some (vc,st',v))(g:Good ty zb st a.tmps w env)(hB:zb.w.heap.size≤w.heap.size)(hv: ∀q,q∈vc→q):
  o.wp P a w (fun a' w'=> ∃u env',a'=a.put o.dst u∧Kept zb w w'∧Good ty zb st' a.tmps w' env'∧st'.n=st.n∧AR w' st'.hp env' a.tmps v u) Q:=by
 have hop: ∀{x v},oH st [] x=some v→mG w st.hp env v (a.eval x):=fun hx=>lX g (fun e he=>by simp at he) hx;generalize ng:o.op=op at h;cases op with
 |call c=>
  obtain⟨callee,xs,ts⟩:=c;cases callee with
  |builtin b=>
   cases b with
   |append=>
    simp only[ab7]at h;split at h
    case h_2=>cases h
    rename_i s x t1 t2 hxl htl;obtain rfl:xs= #[s,x]:=by cases xs;simp_all
    obtain rfl:ts= #[t1,t2]:=by cases ts;simp_all
    split at h
    case h_2=>cases h
    rename_i t e hk abW;have abW:=aG abW;subst abW;split at h
    case h_2=>cases h
    rename_i n t2' lx0 r he hk1 hs hx;have he:=aG he;have hk1:=aG hk1;split at h
    case h_2=>cases h
    rename_i t' l0 r' lx hl hcx;split at h
    case h_2=>cases h
    rename_i l hcl hpk X7 hlk hbk;obtain⟨rfl,hkr,hmp⟩:=alh hbk;obtain⟨sx,hox,hx⟩:=Option.bind_eq_some_iff.1 hx;simp only[oI,pI]at h;obtain⟨rfl,rfl,rfl⟩:=h;obtain⟨e1,rfl⟩:=kq hcx;subst e1;obtain⟨e2,rfl⟩:=kq hcl;subst e2;have BY:El P ty t':=hv _ fI;obtain⟨cQ,fu⟩:(l0.length+lx0.length)*vI t'≤140737488355328∧l0.length+lx0.length≤maxLen:=hv _ fI;obtain⟨_,hu⟩:=hop hs;obtain⟨fpx,hsx,hnx⟩: ∃fp,Sl (kk t') (rd t') w (a.eval x) lx0 fp∧ ∀(t:Tag) (y:T t) (u:Value) (f:List Nat),(∀b,b∈f→b∈fp)→rd t w [u] y f→BE w st.hp env r t y u:=by
     have hr:=hop hox;unfold apx at hx;split at hx
     ·simp only[oI,Sigma.mk.injEq]at hx;obtain⟨rfl,hx⟩:=hx;obtain⟨rfl,rfl⟩:=Prod.mk.inj (eq_of_heq hx);obtain⟨fp,h1,h2⟩:=hr;exact⟨fp,h1,fun t y u f hf hr=>⟨f,hr,fun b hb=>h2 b (hf b hb)⟩⟩
     ·simp only[oI,Sigma.mk.injEq]at hx;obtain⟨rfl,hx⟩:=hx;obtain⟨rfl,rfl⟩:=Prod.mk.inj (eq_of_heq hx);obtain⟨h0,b0,fp,h1,h2,_,h3⟩:=hr;refine⟨_,h1,fun t y u f hf hr=>⟨h0,f,hr,fun b hb=> ?_⟩⟩;rcases bh.1 (hf b hb)with rfl|h
      ·exact bw h2
      ·exact bP (h3 b h)
     ·cases hx
    obtain⟨_,us,hBl,hul,hbe⟩:akE ty w st.hp env t' l0 r (env n):=by
     rcases RO.RZ (g.obj n _ hl)with⟨rfl,_⟩| ⟨u,rfl,_⟩| ⟨p,rfl,_⟩| ⟨_,h⟩
     ·exact hmp.elim
     ·exact hmp.elim
     ·exact hmp.elim
     ·exact h
    obtain⟨news,fx,n1,n2,n3,n4,n5⟩:=Ir (ko t') (oc t') hsx;rw[hk1]at n3 n4;have hC:=C t1;rw[hk]at hC;have hone: ∀(i:Nat) (y:Value),news[i]? =some y→y.oneCell'=true∧ ∀x,lx0[i]? =some x→BE w st.hp env r t' x y:=by
     intro i y hy;have hi:i<news.length:=(aU.1 hy).1;have hx':lx0[i]? =some (lx0[i]'aJ):=az aJ;have hf':fx[i]? =some (fx[i]'aJ):=az aJ;have hr:=n4 i _ _ hx' hf';have U9:(news.drop (i*1)).take 1= [y]:=by
      rw[lF,gP hi];have:news[i]=y:=(aU.1 hy).2;rw[this];rfl
     rw[U9]at hr;refine⟨(ko t').one hr y fI,fun x hx=> ?_⟩;rw[hx']at hx;simp only[oI]at hx;subst hx;exact hnx _ _ _ _ (fun b hb=>n5.subset (nP.2 ⟨_,List.getElem_mem _,hb⟩)) hr
    have hB0:qN 1 akD 0 (ty t') w (a.eval s) us (env n).fp:=by rw[hu];exact hBl
    have akd:(P.info? (ty t')).map (fun i=>(i.zero,i.size,i.bytes))=some (some (oL t'),1,vI t'):=by rw[←hk1];exact BY
    refine UD s x t1 ng Ih cO 0 (ty t') (oL t') (vI t') (by rw[←he];exact hC.1) akd (by rw[←hk1];exact xm t') _ us (env n).fp rfl hB0 _ rfl news news (news.map fun _=> [])
     (by rw[show news.length=lx0.length by omega];exact n1) fI aJ (fun i y f hy hf=> ?_) (by rw[Mt,cW];exact hBl.own) (by rw[hul,show news.length=lx0.length by omega];exact fu) (by rw[hul,show news.length=lx0.length by omega];exact cQ) (aY _) ?_
    ·have hi:i<news.length:=(aU.1 hy).1;have hf0:f= []:=by
      rw[ec,hy]at hf;simpa using hf.symm
     subst hf0;refine⟨?_,rfl,(hone i y hy).1⟩;rw[lF,gP hi];have:news[i]=y:=(aU.1 hy).2;rw[this];rfl
    ·intro v' w' oK k1 k2 k3 k4 k5 _;have RG: ∀b,(a.eval s).ownBlock=some b→b∈(env n).fp:=by
      intro b hb;obtain⟨xs,eS,_,_,_,qx,_⟩:=hB0;rw[qx,hb];simp
     obtain⟨env',hg',hv',_,_⟩:=KH (ty:=ty) g hB (ks:= [n]) hpk X7 hlk (v:=a.eval s) (v':=v') (ob:= .pQ t' (l0++lx0) r) (fp:=(env n).fp) (fx:= []) (oK:=oK)
      (by
       intro b hb;rw[cW]at hb;exact⟨n,_,by simp,hl,hb⟩)
      RG
      (by
       intro aGw hd s2;refine RO.ahr hmp ⟨hk1,us++news,k1,by rw[aQ,aQ,hul];omega,fun i x u hx hu2=> ?_⟩;by_cases hi:i<l0.length
       ·rw[dQ hi]at hx;rw[dQ aJ]at hu2;have hbt:=BE.oR s2 (r:=r) (hbe i x u hx hu2);rw[hkr]at hbt;exact hbt
       ·rw[dm aJ]at hx;rw[dm aJ,hul]at hu2;have hbt:=BE.oR s2 (r:=r) ((hone _ u hu2).2 x hx);rw[hkr]at hbt;exact hbt)
      k2 (by intro b hb;rcases k4 b hb with h|h|h
             ·exact bP h
             ·rw[Mt]at h;cases h
             ·exact bw (bw h))
     refine⟨v',env',rfl,⟨k2.os,k2.tape,k2.output,k2.size,fun b hb hn=>k2.block b aJ fun e=> ?_,k5⟩,hg',rfl,⟨t',_,_,look_eq⟩,hv'.symm⟩;rcases g.dom n _ hl b (RG b e.symm)with h|h
     ·exact hn h
     ·omega
   |_=>simp[ab7]at h
  |_=>simp[ab7]at h
 |_=>simp[ab7]at h
end
section
variable{P:Program}{zb:fG}{st:St}{a:Act}{w:World}{env:Env}{Q:Exit→Act→World→Prop}{o:Oper}
end
section
variable{P:Program}{zb:fG}{st:St}{a:Act}{w:World}{env:Env}{Q:Exit→Act→World→Prop}{o:Oper}
end
end
section
variable{x y c:Code}{vc:List Prop}{v:SV}{ops:List Oper}{cr:List (Nat×CR)}{iD:List (Nat×Nat)}(hp:Hp){id:Nat}{b:Bool}{ty:Tag→Nat}
def fV:V→Option V
 | .any=>some .any
 | .lit (.int k n)=>some (.lit (.int k n))
 | .lit (.bool b)=>some (.lit (.bool b))
 | .lit (.string s)=>some (.lit (.string s))
 | .lit v=>some (.lit v)
 | .sl t l=>some (.sl t l)
 | .own n=>some (.own n)
 | .ptr n o=>some (.ptr n o)
 | .Cm n i o=>some (.Cm n i o)
 | .ip t x o=>some (.ip t x o)
 | .vw n p t l=>some (.vw n p t l)
 | .Xb n p t x o=>some (.Xb n p t x o)
 | .Xc n t l=>some (.Xc n t l)
 | .mix n c t l=>some (.mix n c t l)
 | .RX n=>some (.RX n)
 | .S3 f n=>some (.S3 f n)
 | .Nb k=>some (.Nb k)
 | .raw v=>some (.raw v)
 | .uS v t l=>some (.uS v t l)
theorem avn(v:V):fV v=some v:=by
 unfold fV;split<;>rfl
def fVs:List V→Option (List V)
 | []=>some []
 |v::r=>match fV v,fVs r with
  |some x,some y=>some (x::y)
  |_,_=>none
theorem ab9: ∀l:List V,fVs l=some l
 | []=>rfl
 |v::r=>by simp[fVs,avn,ab9 r]
def fS:SV→Option SV
 | .one (.a v)=>match fV v with|some v=>some (.one (.a v))|none=>none
 | .one (.agg l)=>match fVs l with|some l=>some (.one (.agg l))|none=>none
 | .Gf l=>some (.Gf l)
 | .cond p (.a v)=>match fV v with|some v=>some (.cond p (.a v))|none=>none
 | .cond p (.agg l)=>match fVs l with|some l=>some (.cond p (.agg l))|none=>none
theorem ali{x y:SV}(h:fS x=some y):y=x:=by
 unfold fS at h;split at h<;>simp_all [avn,ab9]
def fO:Obj→Option Obj
 | .box c=>match fVs c with|some c=>some (.box c)|none=>none
 | .arr t l=>some (.arr t l)
 | .pQ t l .gone=>some (.pQ t l .gone)
 | .pQ t l .xp=>some (.pQ t l .xp)
 | .pQ t l .mp=>some (.pQ t l .mp)
 | .pQ t l (.bag u)=>some (.pQ t l (.bag u))
 | .pQ t l (.of n)=>some (.pQ t l (.of n))
 | .pQ t l (.Kx p)=>some (.pQ t l (.Kx p))
theorem avo{x y:Obj}(h:fO x=some y):y=x:=by
 unfold fO at h;split at h<;>simp_all [ab9]
def fSl:List (Nat×SV)→Option (List (Nat×SV))
 | []=>some []
 | (n,x)::r=>match fS x,fSl r with
   |some x,some r=>some ((n,x)::r)
   |_,_=>none
theorem alj: ∀{l m:List (Nat×SV)},fSl l=some m→m=l
 | [],m,h=>by simp only[fSl,oI]at h;exact h.symm
 | (n,x)::r,m,h=>by
   simp only[fSl]at h;split at h
   ·rename_i y r' h1 h2;simp only[oI]at h;rw[←h,ali h1,alj h2]
   ·cases h
def fHp:Hp→Option Hp
 | []=>some []
 | (n,x)::r=>match fO x,fHp r with
   |some x,some r=>some ((n,x)::r)
   |_,_=>none
theorem Va: ∀{l m:Hp},fHp l=some m→m=l
 | [],m,h=>by simp only[fHp,oI]at h;exact h.symm
 | (n,x)::r,m,h=>by
   simp only[fHp]at h;split at h
   ·rename_i y r' h1 h2;simp only[oI]at h;rw[←h,avo h1,Va h2]
   ·cases h
def fSt:St→Option St
 | ⟨n,sl,hp⟩=>match fSl sl,fHp hp with
   |some sl,some hp=>some ⟨n,sl,hp⟩
   |_,_=>none
theorem vP{s s':St}(h:fSt s=some s'):s'=s:=by
 obtain⟨n,sl,hp⟩:=s;simp only[fSt]at h;split at h
 ·rename_i a b h1 h2;simp only[oI]at h;rw[←h,alj h1,Va h2]
 ·cases h
def avp:TypeDesc→Bool
 | .struct _=>false
 | .array _ _=>false
 |_=>true
def ar5(P:Program)(t f k:Nat):Prop:= ∃fs fd d,P.underlying t=some (.struct fs)∧fs[f]? =some fd∧fd.offset=k∧P.underlying fd.type=some d∧avp d=true
def Tq:List V→Option (List Int)
 | []=>some []
 | .lit (.int .i64 a)::r=>match Tq r with|some l=>some (a::l)|none=>none
 |_=>none
def avq(P:Program)(t n:Nat):Prop:= ∀(xs ys:List Int) (X Y:Operand) (w:World),xs.length=n→ys.length=n→
 (do eqGuard .neq t X Y (.agg (xs.map (zI .i64)).toArray) (.agg (ys.map (zI .i64)).toArray);binOp .neq t (.agg (xs.map (zI .i64)).toArray) (.agg (ys.map (zI .i64)).toArray):Sem Value).run P w= .ok (.bool (xs !=ys)) w
theorem Pz{w:World}{hp:Hp}{env:Env}: ∀{l:List V} {xs:List Int} {cs:List Value},Tq l=some xs→dG (RA w hp env) l cs→cs=xs.map (zI .i64)
 | [],xs,[],h,_=>by simp only[Tq,oI]at h;subst h;rfl
 | [],_,_::_,_,h=>h.elim
 |v::r,xs,[],_,h=>h.elim
 |v::r,xs,c::cs,h,⟨h1,h2⟩=>by
  unfold Tq at h;split at h
  ·rename_i e;cases e
  ·rename_i a r' e;simp only[cP]at e;obtain⟨rfl,rfl⟩:=e;split at h
   ·rename_i l' hl;simp only[oI]at h;subst h;rw[Pz hl h2,cg,h1.1]
   ·cases h
  ·cases h
def acd(P:Program)(Γ:Nat→TK)(st:St):Op→Option (List Prop×St×SV)
 | .field t x f=>match oH st [] x,Γ t with
   |some (.agg c), .st _ _ fo=>match yw fo f with
    |some k=>match Ic c k with
     |some v=>some ([ar5 P t f k],st, .one (.a v))
     |none=>none
    |none=>none
   |_,_=>none
 | .binOp .neq t x y _=>match oH st [] x,oH st [] y with
   |some (.agg l),some (.agg l')=>match Tq l,Tq l' with
    |some xs,some ys=>match bH xs.length ys.length with
     |true=>some ([avq P t xs.length],st, .one (.a (.lit (.bool (xs !=ys)))))
     |false=>none
    |_,_=>none
   |_,_=>none
 |_=>none
theorem ace{P:Program}{t:TypeId}{d:TypeDesc}(h:P.underlying t=some d)(hd:avp d=true)(w:World):(isAgg t).run P w= .ok false w:=by
 cases d<;>first| (cases hd;done)|simp[isAgg,run_underlying h]
section
variable{P:Program}{zb:fG}{st st':St}{a:Act}{w:World}{env:Env}{Q:Exit→Act→World→Prop}{o:Oper}
theorem ar6{Γ:Nat→TK}(h:acd P Γ st o.op=some (vc,st',v))(g:Good ty zb st a.tmps w env)(hv: ∀q,q∈vc→q):
  o.wp P a w (fun a' w'=> ∃u env',a'=a.put o.dst u∧Kept zb w w'∧Good ty zb st' a.tmps w' env'∧st'.n=st.n∧AR w' st'.hp env' a.tmps v u) Q:=by
 generalize ng:o.op=op at h;cases op with
 |field t x f=>
  simp only[acd]at h;split at h
  case h_2=>cases h
  rename_i c z tg fo hx hk;split at h
  case h_2=>cases h
  rename_i k hf;split at h
  case h_2=>cases h
  rename_i v' hel;simp only[oI,pI]at h;obtain⟨rfl,rfl,rfl⟩:=h;obtain⟨fs,fd,d,h1,h2,h3,h4,h5⟩:=hv _ (aV.2 rfl);obtain⟨us,hu,hA⟩:=lX g (fun e he=>by simp at he) hx;obtain⟨u,k1,k2⟩:=hA.at (UP hel);have hr:(execOp a.eval o).run P w= .ok (.value u) w:=by
   unfold execOp;simp[ng,hu,Instr.field,part,run_underlying h1,h2,h3,ace h4 h5,asAgg,k1]
  unfold nv;rw[hr];exact⟨u,env,rfl,Kept.refl _ _,g,rfl,k2⟩
 |binOp b t x y t'=>
  cases b with
  |neq=>
   simp only[acd]at h;split at h
   case h_2=>cases h
   rename_i l l' hx hy;split at h
   case h_2=>cases h
   rename_i xs ys h1 h2;split at h
   case h_2=>cases h
   rename_i hn;have hn:=aG hn;simp only[oI,pI]at h;obtain⟨rfl,rfl,rfl⟩:=h;have hS:avq P t xs.length:=hv _ (aV.2 rfl);obtain⟨us,hu,hA⟩:=lX g (fun e he=>by simp at he) hx;obtain⟨us',hu',hA'⟩:=lX g (fun e he=>by simp at he) hy;rw[Pz h1 hA]at hu;rw[Pz h2 hA']at hu';have hr:(execOp a.eval o).run P w= .ok (.value (.bool (xs !=ys))) w:=by
    unfold execOp;simp only[ng,hu,hu'];rw[dS,hS xs ys x y w rfl hn.symm];rfl
   unfold nv;rw[hr];exact⟨_,env,rfl,Kept.refl _ _,g,rfl,rfl,rfl⟩
  |_=>simp[acd]at h
 |_=>simp[acd]at h
end
def alk(P:Program)(ty:Tag→Nat)(Γ:Nat→TK)(cr:List (Nat×CR))(st:St)(m:Nat)(d:Option Nat)(op:Op):Option (List Prop×St×SV):=
 match abV P ty Γ st m op with
 |some r=>some r
 |none=>match Pr P ty Γ st m op with
  |some r=>some r
  |none=>match alb P ty Γ cr st d op with
   |some r=>some r
   |none=>match efz P ty Γ st op with
    |some r=>some r
    |none=>match acd P Γ st op with
     |some r=>some r
     |none=>ab7 P ty Γ st m op
def alm(Γ:Nat→TK)(st:St)(op:Op):Option (List Prop×St):=
 match arT Γ st op with
 |some r=>some r
 |none=>evs Γ st op
def step(P:Program)(ty:Tag→Nat)(Γ:Nat→TK)(iD:List (Nat×Nat))(cr:List (Nat×CR))(ops:List Oper)(st:St)(o:Oper):Option (List Prop×St):=
 match akC Γ (Elt P ty) (Sound ty P) iD cr ops st o with
 |some r=>some r
 |none=>match o.guard,Ig st o.dst,aCA iD o.dst with
  |none,true,some m=>match UY Γ st o.op with
   |some st'=>match o.dst with|none=>some ([],st')|some _=>none
   |none=>match alm Γ st o.op with
    |some (vc,st')=>match o.dst,fSt st' with|none,some st'=>some (vc,st')|_,_=>none
    |none=>match alk P ty Γ cr st m o.dst o.op with
     |some (vc,st',v)=>match fSt st' with|some st'=>some (vc,st'.put o.dst v)|none=>none
     |none=>none
  |_,_,_=>none
def run(P:Program)(ty:Tag→Nat)(Γ:Nat→TK)(iD:List (Nat×Nat))(cr:List (Nat×CR))(ops:List Oper):List Oper→St→List Prop→Option (List Prop×St)
 | [],st,acc=>some (acc,st)
 |o::r,st,acc=>match step P ty Γ iD cr ops st o with
  |some ([],⟨n,sl,hp⟩)=>run P ty Γ iD cr ops r ⟨n,sl,hp⟩ acc
  |some ([p],⟨n,sl,hp⟩)=>run P ty Γ iD cr ops r ⟨n,sl,hp⟩ (p::acc)
  |some ([p,q],⟨n,sl,hp⟩)=>run P ty Γ iD cr ops r ⟨n,sl,hp⟩ (p::q::acc)
  |some (l,⟨n,sl,hp⟩)=>run P ty Γ iD cr ops r ⟨n,sl,hp⟩ (l++acc)
  |none=>none
@[reducible] def tH:List Prop→Prop
  | []=>True
  |p::r=>p∧tH r
theorem tH.out: ∀{l:List Prop},tH l→ ∀q,q∈l→q
 |p::r,h,q,hq=>by
  rcases bh.1 hq with rfl|hq
  ·exact h.1
  ·exact tH.out h.2 q hq
section
variable{P:Program}{zb:fG}{st st':St}{a:Act}{w:World}{Q:Exit→Act→World→Prop}{o:Oper}
theorem uZ{d:Nat}(h: ∃x,v= .one x):v.mentions d=false:=by
 obtain⟨x,rfl⟩:=h;rfl
theorem oJ.mono{ops:Array Oper}{K K':Act→World→Prop}(h: ∀a w,K a w→K' a w)(hr:oJ P ops o a w K Q):oJ P ops o a w K' Q:=by
 unfold oJ at*;split
 ·rename_i hw;rw[if_pos hw]at hr;exact hr.imp (uW h) id
 ·rename_i hw;rw[if_neg hw]at hr;exact h _ _ hr
theorem aln{Γ:Nat→TK}(C: ∀t,gO P t (Γ t)){m:Nat}{env:Env}{d:Option Nat}(h:alk P ty Γ cr st m d o.op=some (vc,st',v))(g:Good ty zb st a.tmps w env)(hB:zb.w.heap.size≤w.heap.size)(hA:abJ zb)(hN:Nc w)(hv: ∀q,q∈vc→q):
  (∀k,v.mentions k=false)∧o.wp P a w (fun a' w'=> ∃u env',a'=a.put o.dst u∧Kept zb w w'∧Good ty zb st' a.tmps w' env'∧st'.n=st.n∧AR w' st'.hp env' a.tmps v u) Q:=by
 have one:(∃x,v= .one x)→ ∀k,v.mentions k=false:=fun hx k=>uZ hx;unfold alk at h;split at h
 ·rename_i r he;simp only[oI]at h;subst h;refine⟨one ?_,arR C he g hB hv⟩;unfold abV at he
  repeat' split at he
  all_goals first
   | (cases he;done)
   | (simp only[oI,pI]at he;exact⟨_,he.2.2.symm⟩)
 ·split at h
  ·rename_i r he;simp only[oI]at h;subst h;refine⟨one ?_,ahC C he g hB hv⟩;unfold Pr at he
   repeat' split at he
   all_goals first
    | (cases he;done)
    | (simp only[oI,pI]at he;exact⟨_,he.2.2.symm⟩)
  ·split at h
   ·rename_i r he;simp only[oI]at h;subst h;exact ar1 he g hB hA hN hv
   ·split at h
    ·rename_i r he;simp only[oI]at h;subst h;refine⟨one ?_,ax9 C he g hB hv⟩;unfold efz at he
     repeat' split at he
     all_goals first
      | (cases he;done)
      | (simp only[oI,pI]at he;exact⟨_,he.2.2.symm⟩)
    ·split at h
     ·rename_i r he;simp only[oI]at h;subst h;refine⟨one ?_,ar6 he g hv⟩;unfold acd at he
      repeat' split at he
      all_goals first
       | (cases he;done)
       | (simp only[oI,pI]at he;exact⟨_,he.2.2.symm⟩)
     ·refine⟨one ?_,ar3 C h g hB hv⟩;unfold ab7 at h
      repeat' split at h
      all_goals first
       | (cases h;done)
       | (simp only[oI,pI]at h;exact⟨_,h.2.2.symm⟩)
theorem alo{Γ:Nat→TK}(C: ∀t,gO P t (Γ t))(Z: ∀t,(∀z tg fo,Γ t≠ .st z tg fo)→Γ t≠ .other→(P.info? t).map (·.size)=some 1){env:Env}(h:alm Γ st o.op=some (vc,st'))(g:Good ty zb st a.tmps w env)(hB:zb.w.heap.size≤w.heap.size)(hv: ∀q,q∈vc→q):
  o.wp P a w (fun a' w'=> ∃env',a'=a.put o.dst undef∧Kept zb w w'∧Good ty zb st' a.tmps w' env'∧st'.n=st.n) Q:=by
 unfold alm at h;split at h
 ·rename_i r hr;simp only[oI]at h;subst h;exact arU C Z hr g hv
 ·exact ax8 C Z h g hB hv
theorem Fb{Γ:Nat→TK}(C: ∀t,gO P t (Γ t))(Z: ∀t,(∀z tg fo,Γ t≠ .st z tg fo)→Γ t≠ .other→(P.info? t).map (·.size)=some 1)(h:step P ty Γ iD cr ops st o=some (vc,st'))(iv:Inv ty zb st a w)(hv: ∀q,q∈vc→q):
  oJ P ops.toArray o a w (fun a' w'=>Inv ty zb st' a' w') Q:=by
 simp only[step]at h;split at h
 ·rename_i r hq;simp only[oI]at h;subst h;exact akY C hq iv hv
 ·split at h
  ·rename_i m hg hd _;have hdl:=UX iv hd;obtain⟨env,g⟩:=iv.good;have hBz:=iv.kept.size;split at h
   ·rename_i s1 hs;split at h
    ·rename_i ayh;simp only[oI,pI]at h;obtain⟨rfl,rfl⟩:=h;refine oQ hg (uW ?_ (ahz (Q:=Q) C Z hs g));rintro a' w' ⟨rfl,hb,hg',hn,Gj⟩;rw[ayh];exact⟨by rw[nR,hn];exact iv.size,by rw[put_defers];exact iv.defers,iv.kept.trans hb,iv.Nf,env,hg'⟩
    ·cases h
   ·split at h
    ·rename_i zM s1 hs;split at h
     ·rename_i s2 ayh hfs;have hfs:=vP hfs;subst hfs;simp only[oI,pI]at h;obtain⟨rfl,rfl⟩:=h;refine oQ hg (uW ?_ (alo (Q:=Q) C Z hs g hBz hv));rintro a' w' ⟨env',rfl,hb,hg',hn⟩;rw[ayh];exact⟨by rw[nR,hn];exact iv.size,by rw[put_defers];exact iv.defers,iv.kept.trans hb,iv.Nf,env',hg'⟩
     ·cases h
    ·split at h
     ·rename_i zM s1 v he;split at h
      case h_2=>cases h
      rename_i s2 hfs;have hfs:=vP hfs;subst hfs;simp only[oI,pI]at h;obtain⟨rfl,rfl⟩:=h;obtain⟨hv1,hwp⟩:=aln (Q:=Q) C he g hBz iv.Nf (iv.Nf.now iv.kept) hv;refine oQ hg (uW ?_ hwp);rintro a' w' ⟨u,env',rfl,hb,hg',hn,hr⟩;refine⟨by rw[nR,Dg,hn];exact iv.size,by rw[put_defers];exact iv.defers,iv.kept.trans hb,iv.Nf,env',uV hg' hdl hr fun d _=>hv1 d⟩
     ·cases h
  ·cases h
theorem KL{Γ:Nat→TK}{r:List Oper}{acc vcs:List Prop}{KM:St}(h:run P ty Γ iD cr ops (o::r) st acc=some (vcs,KM)):
  ∃vc Kn,step P ty Γ iD cr ops st o=some (vc,Kn)∧run P ty Γ iD cr ops r Kn (vc++acc)=some (vcs,KM):=by
 simp only[run]at h;split at h
 ·rename_i n sl hp hs;exact⟨[],⟨n,sl,hp⟩,hs,h⟩
 ·rename_i p n sl hp hs;exact⟨[p],⟨n,sl,hp⟩,hs,h⟩
 ·rename_i p q n sl hp hs;exact⟨[p,q],⟨n,sl,hp⟩,hs,h⟩
 ·rename_i l n sl hp _ _ _ hs;exact⟨_,⟨n,sl,hp⟩,hs,h⟩
 ·cases h
theorem A9{Γ:Nat→TK}{iD:List (Nat×Nat)}{cr:List (Nat×CR)}{ops:List Oper}: ∀{l:List Oper} {st KM:St} {acc vcs:List Prop},run P ty Γ iD cr ops l st acc=some (vcs,KM)→ ∀q,q∈acc→q∈vcs
 | [],st,KM,acc,vcs,h,q,hq=>by
   simp only[run,oI,pI]at h;rw[←h.1];exact hq
 |o::r,st,KM,acc,vcs,h,q,hq=>by
  obtain⟨vc,Kn,_,h2⟩:=KL h;exact A9 h2 q (aW _ hq)
theorem Vb{Γ:Nat→TK}(C: ∀t,gO P t (Γ t))(Z: ∀t,(∀z tg fo,Γ t≠ .st z tg fo)→Γ t≠ .other→(P.info? t).map (·.size)=some 1){iD:List (Nat×Nat)}{cr:List (Nat×CR)}{ops:List Oper}{KM:St}{vcs:List Prop}
  (hQ: ∀a w,Inv ty zb KM a w→Q .normal a w): ∀{l:List Oper} {st:St} {acc:List Prop} {a:Act} {w:World},run P ty Γ iD cr ops l st acc=some (vcs,KM)→(∀q,q∈vcs→q)→Inv ty zb st a w→wpList P ops.toArray Q l a w
 | [],st,acc,a,w,h,hv,iv=>by
   simp only[run,oI,pI]at h;obtain⟨_,rfl⟩:=h;exact hQ a w iv
 |o::r,st,acc,a,w,h,hv,iv=>by
  obtain⟨vc,Kn,h1,h2⟩:=KL h;have:=Fb (Q:=Q) C Z h1 iv (fun q hq=>hv q (A9 h2 q (bl _ hq)));exact this.mono fun a' w' zu=>Vb C Z hQ h2 hv zu
end
abbrev Post:=Exit→St→Prop
def No(ty:Tag→Nat)(zb:fG)(Q:Post):Exit→Act→World→Prop:=fun e a w=> ∃st,Inv ty zb st a w∧Q e st
def W(P:Program)(ty:Tag→Nat)(zb:fG)(c:Code)(Q:Post)(st:St):Prop:= ∀a w,Inv ty zb st a w→c.wp P (No ty zb Q) a w
def Post.then(next:St→Prop)(Q:Post):Post
 | .normal,st=>next st
 |e,st=>Q e st
def Post.inBlock(id:Nat)(Q:Post):Post
 | .exit i,st=>if i=id then Q .normal st else Q (.exit i) st
 |e,st=>Q e st
def Mu(sl:List (Nat×SV)):List Nat→Option (List (Nat×SV))
 | []=>some []
 |s::r=>match look sl s with
  |some x=>match fS x,Mu sl r with
   |some x,some l=>some ((s,x)::l)
   |_,_=>none
  |none=>none
def Mv(hp:Hp):List Nat→Option Hp
 | []=>some []
 |s::r=>match look hp s with
  |some x=>match fO x,Mv hp r with
   |some x,some l=>some ((s,x)::l)
   |_,_=>none
  |none=>none
def vQ(v:V):Bool:=match v.name with|some n=>(match look hp n with|some _=>true|none=>false)|none=>true
def Ba:S1→Bool
 | .a v=>vQ hp v
 | .agg l=>l.all (vQ hp)
def aek:SV→Bool
 | .one x=>Ba hp x
 | .Gf l=>l.all (Ba hp)
 | .cond _ x=>Ba hp x
def Iy:Obj→Bool
 | .box c=>c.all (vQ hp)
 | .arr _ _=>true
 | .pQ _ _ s=>match s.name with|some n=>(match look hp n with|some _=>true|none=>false)|none=>true
def Bb(sl:List (Nat×SV))(hp:Hp):Bool:=(sl.all fun e=>aek hp e.2)&&hp.all fun e=>Iy hp e.2
def V.nms(v:V):List Nat:=match v.name with|some n=> [n]|none=> []
def SV.nms:SV→List Nat
 | .one (.a v)=>v.nms
 | .one (.agg l)=>l.flatMap V.nms
 | .Gf l=>l.flatMap fun x=>(match x with| .a v=>v.nms| .agg l=>l.flatMap V.nms)
 | .cond _ (.a v)=>v.nms
 | .cond _ (.agg l)=>l.flatMap V.nms
def acf:Nat→Hp→List Nat→List Nat→List Nat
 |0,_,_,acc=>acc
 |_,_,[],acc=>acc
 |f+1,hp,n::r,acc=>match acc.any (bH n)with
  |true=>acf f hp r acc
  |false=>acf f hp (match look hp n with|some (.box c)=>c.flatMap V.nms++r|some (.pQ _ _ (.of m))=>m::r|_=>r) (acc++ [n])
def Vc(sl:List (Nat×SV)):List Nat→List Nat
 | []=> []
 |s::r=>match look sl s with|some x=>x.nms++Vc sl r|none=>Vc sl r
def ael(sl:List (Nat×SV))(hp:Hp)(ks:List Nat):List Nat→List Nat
 | []=>acf 300 hp (Vc sl ks++(hp.map kG).filter tG) []
 |hs=>hs
def reg(P:Program)(ty:Tag→Nat)(Γ:Nat→TK)(iD:List (Nat×Nat))(cr:List (Nat×CR))(ks hs:List Nat)(ops:List Oper):St→Option (List Prop×St)
 | ⟨n,sl0,nB⟩=>match run P ty Γ iD cr ops ops ⟨n,sl0,nB⟩ []with
 |some (vc,st')=>match Mu st'.sl ks,Mv st'.hp (ael st'.sl st'.hp ks hs)with
  |some sl,some hp=>match Bb sl hp,bH st'.n n with
   |true,true=>some (vc,⟨n,sl,hp⟩)
   |_,_=>none
  |_,_=>none
 |none=>none
theorem rq{sl:List (Nat×SV)}: ∀{ks:List Nat} {l:List (Nat×SV)},Mu sl ks=some l→ ∀s v,look l s=some v→look sl s=some v
 | [],l,h,s,v,hl=>by
   simp only[Mu,oI]at h;subst h;cases hl
 |k::r,l,h,s,v,hl=>by
  simp only[Mu]at h;split at h
  ·rename_i x0 h1;split at h
   ·rename_i x l' hf h2;simp only[oI]at h;subst h;by_cases hs:s=k
    ·subst hs;rw[look_eq]at hl;rw[←hl,ali hf];exact h1
    ·rw[cR hs]at hl;exact rq h2 s v hl
   ·cases h
  ·cases h
theorem ru{hp:Hp}: ∀{ks:List Nat} {l:Hp},Mv hp ks=some l→ ∀s v,look l s=some v→look hp s=some v
 | [],l,h,s,v,hl=>by
   simp only[Mv,oI]at h;subst h;cases hl
 |k::r,l,h,s,v,hl=>by
  simp only[Mv]at h;split at h
  ·rename_i x0 h1;split at h
   ·rename_i x l' hf h2;simp only[oI]at h;subst h;by_cases hs:s=k
    ·subst hs;rw[look_eq]at hl;rw[←hl,avo hf];exact h1
    ·rw[cR hs]at hl;exact ru h2 s v hl
   ·cases h
  ·cases h
theorem Fc{hp:Hp}{v:V}(h:vQ hp v=true): ∀n,v.name=some n→look hp n≠none:=by
 intro n hn hl;simp[vQ,hn,hl]at h
theorem GL{hp:Hp}{x:S1}(h:Ba hp x=true): ∀v,v∈x.vs→vQ hp v=true:=by
 intro v hv;cases x with
 |a y=>simp only[S1.vs,aV]at hv;subst hv;exact h
 |agg l=>exact bE.1 h v hv
theorem acg{hp:Hp}{x:SV}(h:aek hp x=true): ∀v,v∈x.vs→vQ hp v=true:=by
 intro v hv;cases x with
 |one x=>exact GL h v hv
 |Gf l=>
  simp only[SV.vs,kL]at hv;obtain⟨y,hy,hv⟩:=hv;exact GL (bE.1 h y hy) v hv
 |cond p x=>exact GL h v hv
theorem Good.weaken{zb:fG}{st st':St}{tmps:Array Value}{w:World}{env:Env}(g:Good ty zb st tmps w env)(hs: ∀s v,look st'.sl s=some v→look st.sl s=some v)(hh: ∀n o,look st'.hp n=some o→look st.hp n=some o)
  (hc1: ∀s v,look st'.sl s=some v→ ∀x,x∈v.vs→vQ st'.hp x=true)(hc2: ∀m o,look st'.hp m=some o→Iy st'.hp o=true):Good ty zb st' tmps w env:=by
 have s:Step (fun n=>look st'.hp n≠none) (fun n=>look st'.hp n≠none) w st.hp env w st'.hp env:=by
  refine⟨fun _ _ _=>rfl,?_,?_,?_⟩
  ·rintro b _ ⟨n,o,h1,h2⟩;exact⟨n,o,hh n o h1,h2⟩
  ·intro n o hK h1;cases hq:look st'.hp n with
   |none=>exact absurd hq hK
   |some o'=>
    have:=hh n o' hq;rw[h1]at this;simp only[oI]at this;subst this;exact⟨o,rfl,by cases o<;>simp[Obj.like],rfl⟩
  ·intro n t l hK h1;cases hq:look st'.hp n with
   |none=>exact absurd hq hK
   |some o'=>
    have:=hh n o' hq;rw[h1]at this;simp only[oI]at this;subst this;exact⟨rfl,rfl,fun _ _=>rfl⟩
 have aDd: ∀v,vQ st'.hp v=true→v.Db (fun n=>look st'.hp n≠none) (fun n=>look st'.hp n≠none):=fun v h=>⟨fun n hn=>Fc h n hn,fun n hn=>Fc h n (V.zK hn)⟩;refine⟨fun n o hl=> ?_,fun n m o o' hne h1 h2=>g.tN n m o o' hne (hh n o h1) (hh m o' h2),fun t v hl=>AR.step s (fun x hx=>aDd x (hc1 t v hl x hx)) (g.slot t v (hs t v hl)),fun n o hl=>g.dom n o (hh n o hl),g.pins⟩;refine(g.obj n o (hh n o hl)).step s ?_ (fun _ _=>rfl);have hO:=hc2 n o hl;cases o with
 |box c=>exact fun v hv=>aDd v (bE.1 hO v hv)
 |arr t l=>trivial
 |pQ t l r=>
  intro m hm;simp only[Iy,hm]at hO;intro he;rw[he]at hO;cases hO
theorem ach{sl:List (Nat×SV)}{hp:Hp}(h:Bb sl hp=true):(∀s v,look sl s=some v→ ∀x,x∈v.vs→vQ hp x=true)∧(∀m o,look hp m=some o→Iy hp o=true):=by
 simp only[Bb,an,bE]at h;exact⟨fun s v hl=>acg (h.1 _ (jx hl)),fun m o hl=>h.2 _ (jx hl)⟩
theorem Inv.weaken{zb:fG}{st st':St}{a:Act}{w:World}(iv:Inv ty zb st a w)(hn:st'.n=st.n)(hs: ∀s v,look st'.sl s=some v→look st.sl s=some v)(hh: ∀n o,look st'.hp n=some o→look st.hp n=some o)(hc:Bb st'.sl st'.hp=true):Inv ty zb st' a w:=by
 obtain⟨env,g⟩:=iv.good;obtain⟨c1,c2⟩:=ach hc;exact⟨by rw[iv.size,hn],iv.defers,iv.kept,iv.Nf,env,g.weaken hs hh c1 c2⟩
structure Ctx(P:Program)(ty:Tag→Nat)(Γ:Nat→TK):Prop where
 kind: ∀t,gO P t (Γ t)
 one: ∀t,(∀z tg fo,Γ t≠ .st z tg fo)→Γ t≠ .other→(P.info? t).map (·.size)=some 1
section
variable{P:Program}{Γ:Nat→TK}{zb:fG}{Q:Post}{st:St}
theorem ahJ{ks hs:List Nat}{st':St}(h:reg P ty Γ iD cr ks hs ops st=some (vc,st')): ∃s1,run P ty Γ iD cr ops ops st []=some (vc,s1)∧
  ∀a w,Inv ty zb s1 a w→Inv ty zb st' a w:=by
 obtain⟨n,sl0,nB⟩:=st;simp only[reg]at h;split at h
 ·rename_i zM s1 hr;split at h
  ·rename_i sl hp h1 h2;split at h
   ·rename_i hc hn;simp only[oI,pI]at h;obtain⟨rfl,rfl⟩:=h;exact⟨s1,hr,fun a w iv=>iv.weaken (aG hn).symm (rq h1) (ru h2) hc⟩
   ·cases h
  ·cases h
 ·cases h
theorem GM(X:Ctx P ty Γ)(iD:List (Nat×Nat))(cr:List (Nat×CR))(ks hs:List Nat){id:Nat}{ops:List Oper}{vc:List Prop}{st':St}(h:reg P ty Γ iD cr ks hs ops st=some (vc,st'))(hv:tH vc)(k:Q .normal st'):W P ty zb (.region id ops.toArray false) Q st:=by
 intro a w iv;obtain⟨s1,h1,h2⟩:=ahJ (zb:=zb) h;exact wp_region_lit (Vb X.kind X.one (fun a w zu=>⟨st',h2 a w zu,k⟩) h1 hv.out iv)
theorem Dj(X:Ctx P ty Γ)(cr:List (Nat×CR))(ks:List Nat){id:Nat}{ops:List Oper}{vc:List Prop}{st':St}(h:G.reg P ty Γ [] cr ks [] ops st=some (vc,st'))(hv:tH vc)(k:Q .normal st'):W P ty zb (.region id ops.toArray false) Q st:=GM X [] cr ks [] h hv k
theorem iB(X:Ctx P ty Γ)(ks:List Nat){st':St}(h:G.reg P ty Γ [] [] ks [] ops st=some (vc,st'))(hv:tH vc)(k:Q .normal st'):W P ty zb (.region id ops.toArray false) Q st:=Dj X [] ks h hv k
theorem mM(X:Ctx P ty Γ)(ks:List Nat){id:Nat}{ops:List Oper}{st':St}(h:G.reg P ty Γ [] [] ks [] ops st=some ([],st'))(k:Q .normal st'):W P ty zb (.region id ops.toArray false) Q st:=iB X ks h ⟨⟩ k
theorem aA(h:W P ty zb x (Post.then (W P ty zb y Q) Q) st):W P ty zb (.seq x y) Q st:=by
 intro a w iv;refine wp_seq (wp_mono (h a w iv) ?_);rintro e a' w' ⟨st',zu,hq⟩;cases e with
 |normal=>exact hq a' w' zu
 |_=>exact⟨st',zu,hq⟩
theorem mK(X:Ctx P ty Γ)(iD:List (Nat×Nat))(cr:List (Nat×CR))(ks hs:List Nat){st':St}(h:G.reg P ty Γ iD cr ks hs ops st=some (vc,st'))(hv:tH vc)(k:W P ty zb y Q st'):W P ty zb (.seq (.region id ops.toArray false) y) Q st:=aA (GM X iD cr ks hs h hv k)
theorem aem(X:Ctx P ty Γ)(cr:List (Nat×CR))(ks:List Nat){y:Code}{id:Nat}{ops:List Oper}{vc:List Prop}{st':St}(h:G.reg P ty Γ [] cr ks [] ops st=some (vc,st'))(hv:tH vc)(k:W P ty zb y Q st'):W P ty zb (.seq (.region id ops.toArray false) y) Q st:=mK X [] cr ks [] h hv k
theorem aDe(X:Ctx P ty Γ)(iD:List (Nat×Nat))(cr:List (Nat×CR))(ks hs:List Nat){z:Code}{st':St}(h:G.reg P ty Γ iD cr ks hs ops st=some (vc,st'))(hv:tH vc)(k:W P ty zb y (Post.then (W P ty zb z Q) Q) st'):W P ty zb (.seq (.seq (.region id ops.toArray false) y) z) Q st:=aA (mK X iD cr ks hs h hv k)
theorem wu(X:Ctx P ty Γ)(cr:List (Nat×CR))(ks:List Nat){y z:Code}{id:Nat}{ops:List Oper}{vc:List Prop}{st':St}(h:G.reg P ty Γ [] cr ks [] ops st=some (vc,st'))(hv:tH vc)(k:W P ty zb y (Post.then (W P ty zb z Q) Q) st'):W P ty zb (.seq (.seq (.region id ops.toArray false) y) z) Q st:=aDe X [] cr ks [] h hv k
theorem iZ(X:Ctx P ty Γ)(ks:List Nat){y:Code}{id:Nat}{ops:List Oper}{vc:List Prop}{st':St}(h:G.reg P ty Γ [] [] ks [] ops st=some (vc,st'))(hv:tH vc)(k:W P ty zb y Q st'):W P ty zb (.seq (.region id ops.toArray false) y) Q st:=aem X [] ks h hv k
theorem ar8(X:Ctx P ty Γ)(ks:List Nat){y:Code}{id:Nat}{ops:List Oper}{st':St}(h:G.reg P ty Γ [] [] ks [] ops st=some ([],st'))(k:W P ty zb y Q st'):W P ty zb (.seq (.region id ops.toArray false) y) Q st:=iZ X ks h ⟨⟩ k
theorem mU(X:Ctx P ty Γ)(ks:List Nat){y z:Code}{id:Nat}{ops:List Oper}{st':St}(h:G.reg P ty Γ [] [] ks [] ops st=some ([],st'))(k:W P ty zb y (Post.then (W P ty zb z Q) Q) st'):W P ty zb (.seq (.seq (.region id ops.toArray false) y) z) Q st:=aA (ar8 X ks h k)
theorem av(h:Q .normal st):W P ty zb .skip Q st:=fun _ _ iv=>wp_skip ⟨st,iv,h⟩
theorem bf(h:Q (.exit id) st):W P ty zb (.exit id) Q st:=fun _ _ iv=>wp_exit ⟨st,iv,h⟩
theorem au(h:Q .ret st):W P ty zb .ret Q st:=fun _ _ iv=>wp_ret ⟨st,iv,h⟩
theorem aK(h:W P ty zb c (Post.inBlock id Q) st):W P ty zb (.block id c) Q st:=by
 intro a w iv;refine wp_block (wp_mono (h a w iv) ?_);rintro e a' w' ⟨st',zu,hq⟩;cases e with
 |exit i=>
  simp only[Post.inBlock]at hq;simp only[Exit.inBlock];split
  ·rename_i hi;rw[if_pos hi]at hq;exact⟨st',zu,hq⟩
  ·rename_i hi;rw[if_neg hi]at hq;exact⟨st',zu,hq⟩
 |_=>exact⟨st',zu,hq⟩
theorem aM{c:Operand}(hc:oH st [] c=some (.a (.lit (.bool b))))(h1:b=true→W P ty zb x Q st)(h2:b=false→W P ty zb y Q st):W P ty zb (.cond c x y) Q st:=by
 intro a w iv;obtain⟨env,g⟩:=iv.good;have:=(lX g (fun e he=>by simp at he) hc).lit;exact wp_cond_split this (fun hb=>h1 hb a w iv) (fun hb=>h2 hb a w iv)
theorem bD{c:Operand}{p q:Prop}(hc:oH st [] c=some (.a (.lit (.bool b))))(h1:p→W P ty zb x Q st)(h2:q→W P ty zb y Q st)(hp:(b=true)=p:=by(try simp only[SQ]);exact rfl)(hq:(b=false)=q:=by(try simp only[SQ]);exact rfl):W P ty zb (.cond c x y) Q st:=aM hc (fun h=>h1 (hp▸h)) (fun h=>h2 (hq▸h))
theorem eg{c:Operand}{z:Code}{p q:Prop}(hc:oH st [] c=some (.a (.lit (.bool b))))(h1:p→W P ty zb x (Post.then (W P ty zb z Q) Q) st)(h2:q→W P ty zb y (Post.then (W P ty zb z Q) Q) st)(hp:(b=true)=p:=by(try simp only[SQ]);exact rfl)(hq:(b=false)=q:=by(try simp only[SQ]);exact rfl):W P ty zb (.seq (.cond c x y) z) Q st:=aA (bD hc h1 h2 hp hq)
theorem Inv.of_eq{st st':St}(h:st'=st): ∀a w,Inv ty zb st a w→Inv ty zb st' a w:=fun _ _ iv=>h▸iv
theorem aen{ι:Type}(p:ι→Prop)(I:ι→St)(μ:ι→Nat)(i:ι)(hp:p i)(h0: ∀a w,Inv ty zb st a w→Inv ty zb (I i) a w)
  (round: ∀i,p i→W P ty zb c (Post.then (fun st'=> ∃j,p j∧μ j<μ i∧ ∀a w,Inv ty zb st' a w→Inv ty zb (I j) a w) Q) (I i)):W P ty zb (.loop c) Q st:=by
 intro a w iv b k cs;have key: ∀n i a w,μ i=n→p i→Inv ty zb (I i) a w→ ∃e a' w',No ty zb Q e a' w'∧Arrives P (lone (b.at a (.code c:: .inLoop c::k)) cs w) b k cs e a' w':=by
  intro n;induction n using Nat.strongRecOn with
  |_ n ih=>
   intro i a w hn hpi iv;obtain⟨e,a₁,w₁,⟨st',zu,hq⟩,Yr⟩:=round i hpi a w iv b (.inLoop c::k) cs;cases e with
   |normal=>
    obtain⟨j,hpj,hlt,hj⟩:=hq;obtain⟨e₂,a₂,w₂,hq₂,aDg⟩:=ih (μ j) (hn▸hlt) j a₁ w₁ rfl hpj (hj _ _ zu);exact⟨e₂,a₂,w₂,hq₂, .of_steps (Steps.trans Yr (.one step_inLoop)) aDg⟩
   |exit id=>exact⟨_,a₁,w₁,⟨st',zu,hq⟩, .pass (x:= .inLoop c) rfl (fun _ _=> .inl fI) Yr⟩
   |goto l=>exact⟨_,a₁,w₁,⟨st',zu,hq⟩, .pass (x:= .inLoop c) rfl (fun _ _=> .inl fI) Yr⟩
   |ret=>exact⟨_,a₁,w₁,⟨st',zu,hq⟩, .pass (x:= .inLoop c) rfl (fun _ _=> .inl fI) Yr⟩
   |panic ch=>exact⟨_,a₁,w₁,⟨st',zu,hq⟩, .pass (x:= .inLoop c) rfl (fun _ _=> .inl fI) Yr⟩
   |outgrown=>exact⟨_,a₁,w₁,⟨st',zu,hq⟩, .pass (x:= .inLoop c) rfl (fun _ _=> .inl fI) Yr⟩
 obtain⟨e,a',w',hq,Yr⟩:=key _ i a w rfl hp (h0 a w iv);exact⟨e,a',w',hq, .of_steps (.one step_loop) Yr⟩
def avs:List (Nat×SV)→List (Nat×SV)→Option (List (Nat×SV))
 | [],_=>some []
 | (s,x)::r,ov=>match fS (match look ov s with|some y=>y|none=>x),avs r ov with
   |some x,some l=>some ((s,x)::l)
   |_,_=>none
def avt:Hp→Hp→Option Hp
 | [],_=>some []
 | (s,x)::r,ov=>match fO (match look ov s with|some y=>y|none=>x),avt r ov with
   |some x,some l=>some ((s,x)::l)
   |_,_=>none
def over:St→List (Nat×SV)→Hp→Option St
 | ⟨n,sl,hp⟩,ov,oh=>match avs sl ov,avt hp oh with
   |some sl,some hp=>some ⟨n,sl,hp⟩
   |_,_=>none
theorem ef{ι:Type}(p:ι→Prop)(ov:ι→List (Nat×SV))(oh:ι→Hp)(μ:ι→Nat)(i:ι){I:ι→St}(_hI: ∀k,over st (ov k) (oh k)=some (I k))(hp:p i)(h0:I i=st)
  (round: ∀i,p i→W P ty zb c (Post.then (fun st'=> ∃j,p j∧μ j<μ i∧st'=I j) Q) (I i)):W P ty zb (.loop c) Q st:=by
 refine aen p I μ i hp (fun a w iv=>by rw[h0];exact iv) fun i hi=> ?_;intro a w iv;refine wp_mono (round i hi a w iv) ?_;rintro e a' w' ⟨st',zu,hq⟩;cases e with
 |normal=>
  obtain⟨j,h1,h2,rfl⟩:=hq;exact⟨_,zu,j,h1,h2,fun a w h=>h⟩
 |_=>exact⟨st',zu,hq⟩
theorem aDh(N:Nat)(ov:Nat→List (Nat×SV))(oh:Nat→Hp){I:Nat→St}(_hI: ∀k,over st (ov k) (oh k)=some (I k))(h0:I 0=st)(round: ∀i,i≤N→W P ty zb c (Post.then (fun st'=> ∃j,j≤N∧N-j<N-i∧st'=I j) Q) (I i)):W P ty zb (.loop c) Q st:=ef (fun k=>k≤N) ov oh (fun k=>N-k) 0 _hI (aY _) h0 round
theorem cm(N:Nat)(ov:Nat→List (Nat×SV))(oh:Nat→Hp){I:Nat→St}(_hI: ∀k,over st (ov k) (oh k)=some (I k))(h0:I 0=st)(round: ∀i,i≤N→W P ty zb c (Post.then (fun st'=> ∃j,j≤N∧N-j<N-i∧st'=I j) (Post.inBlock id Q)) (I i)):W P ty zb (.block id (.loop c)) Q st:=aK (aDh N ov oh _hI h0 round)
end
end
section
variable{vc:List Prop}{ty:Tag→Nat}
def enter:Nat→List S1→List (Nat×SV)
 |_,[]=> []
 |i,x::r=>(i, .one x)::enter (i+1) r
def alq(Γ:Nat→TK)(st:St):ResultVar→Option S1
 | .tmp t=>match look st.sl t with|some (.one x)=>some x|_=>none
 | .cell p t=>match look st.sl p with
   |some (.one (.a (.ptr n 0)))=>match look st.hp n,Γ t with
    |some (.box c), .st z _ _=>match bH c.length z.length with|true=>some (.agg c)|false=>none
    |_,_=>none
   |_=>none
def Iz(Γ:Nat→TK)(st:St):List ResultVar→Option (List S1)
 | []=>some []
 |r::rs=>match alq Γ st r,Iz Γ st rs with|some x,some xs=>some (x::xs)|_,_=>none
def alr(st:St):V→V→Option (List Prop×List Nat)
 | .lit v, .lit u=>some ([v=u],[])
 | .lit (.slice none 0 0), .sl _ l=>some ([l= []],[])
 | .own n, .sl t l=>match look st.hp n,soft n with
   |some (.arr t' l'),false=>match rM t t' l' with
    |some l2=>some ([l2=l],[n])
    |none=>none
   |_,_=>none
 | .lit (.slice none 0 0), .vw _ _ _ l=>some ([l= []],[])
 | .own n, .vw _ _ t l=>match look st.hp n with
   |some (.arr t' l')=>match rM t t' l' with
    |some l2=>some ([l2=l],[n])
    |none=>none
   |_=>none
 | .vw n _ t' l', .vw _ _ t l=>match rM t t' l' with
   |some l2=>some ([l2=l],[n])
   |none=>none
 |_,_=>none
def meet(st:St):List V→List V→Option (List Prop×List Nat)
 | [],[]=>some ([],[])
 |x::r,y::s=>match alr st x y,meet st r s with
  |some (vc,k),some (vcs,ks)=>some (zn vc vcs,zn k ks)
  |_,_=>none
 |_,_=>none
def aeo(st:St):S1→S1→Option (List Prop×List Nat)
 | .a v, .a u=>meet st [v] [u]
 | .agg l, .agg m=>meet st l m
 |_,_=>none
def meets(st:St):List S1→List S1→Option (List Prop×List Nat)
 | [],[]=>some ([],[])
 |x::r,y::s=>match aeo st x y,meets st r s with
  |some (vc,k),some (vcs,ks)=>some (zn vc vcs,zn k ks)
  |_,_=>none
 |_,_=>none
def ends(Γ:Nat→TK)(st:St)(Dk:List ResultVar)(rs:List S1):Option (List Prop):=
 match Iz Γ st Dk with
 |some xs=>match meets st xs rs with
  |some (vc,k)=>match zo k with|true=>some vc|false=>none
  |none=>none
 |none=>none
def Fin(Γ:Nat→TK)(Dk:List ResultVar)(rs:List S1):Post:=fun e st=>(e= .ret∨e= .normal)∧ ∃vc,ends Γ st Dk rs=some vc∧tH vc
theorem aj{Γ:Nat→TK}{Dk:List ResultVar}{rs:List S1}{st:St}(h:ends Γ st Dk rs=some vc)(hv:tH vc):Fin Γ Dk rs .ret st:=⟨.inl rfl,vc,h,hv⟩
theorem qN.lift{α:Type}{k:Nat}{E:ER α}{lo e:Nat}{w:World}{v:Value}{l:List α}{fp:List Nat}(h:qN k E 0 e w v l fp)(hl: ∀b,b∈fp→lo≤b):qN k E lo e w v l fp:=by
 obtain⟨xs,eS,hown,hf,he,rfl,ho⟩:=h;refine⟨xs,eS,⟨hown.1,?_⟩,hf,he,rfl,⟨ho.nodup,hl,ho.kind⟩⟩;rcases hown.2 with h| ⟨g,o,cap,cur,rfl,hbg,r⟩
 ·exact bP h
 ·exact bw ⟨g,o,cap,cur,rfl,hl g (by simp[k9]),r⟩
section
variable{P:Program}{zb:fG}{st:St}{a:Act}{w:World}{env:Env}
theorem Gk{Γ:Nat→TK}(C: ∀t,gO P t (Γ t))(g:Good ty zb st a.tmps w env){r:ResultVar}{x:S1}(h:alq Γ st r=some x):
  ∃u,mG w st.hp env x u∧(match r with| .tmp t=>a.tmps.getD t undef=u| .cell p t=> ∃ad,a.tmps.getD p undef= .pointer (some ad)∧(loadVar t ad).run P w= .ok u w):=by
 cases r with
 |tmp t=>
  simp only[alq]at h;split at h
  ·rename_i y hl;simp only[oI]at h;subst h;exact⟨_,g.slot t _ hl,rfl⟩
  ·cases h
 |cell p t=>
  simp only[alq]at h;split at h
  ·rename_i n hl;split at h
   ·rename_i c z tg fo hb hk;split at h
    ·rename_i hlen;have hlen:=aG hlen;simp only[oI]at h;subst h;obtain⟨_,b,hv,hu⟩:=g.slot p _ hl;obtain⟨b',cs,e,Tg,hh,hc⟩:=g.obj n _ hb;have hbb:b=b':=by rw[Tg]at hv;simpa using hv.symm
     subst hbb;have hC:=C t;rw[hk]at hC;obtain⟨fs,hu2,hi,_⟩:=hC;have hi':(P.info? t).map (·.size)=some cs.length:=by
      rw[hc.len,hlen];cases hq:P.info? t with
      |none=>simp[hq]at hi
      |some i=>simp[hq]at hi;simp[hi.1]
     refine⟨.agg cs.toArray,⟨cs,rfl,hc⟩,?_⟩;have KF:w.rangeAt b 0 cs:=by simpa using akt hh
     exact⟨_,hu,run_loadVar_mid w b 0 t cs _ KF hu2 rfl hi'⟩
    ·cases h
   ·cases h
  ·cases h
theorem aep(g:Good ty zb st a.tmps w env){k1 k2:List Nat}{f1 f2:List Nat}(hnd:(k1++k2).Nodup)(p2:Own zb.w.heap.size w f1)(p3: ∀b,b∈f1→ ∃i o,i∈k1∧look st.hp i=some o∧b∈(env i).fp)(q2:Own zb.w.heap.size w f2)(q3: ∀b,b∈f2→ ∃i o,i∈k2∧look st.hp i=some o∧b∈(env i).fp):
  Own zb.w.heap.size w (f1++f2)∧ ∀b,b∈f1++f2→ ∃i o,i∈k1++k2∧look st.hp i=some o∧b∈(env i).fp:=by
 obtain⟨n1,n2,n3⟩:=bM.1 hnd;refine⟨⟨bM.2 ⟨p2.nodup,q2.nodup,?_⟩,fun b hb=> ?_,fun b hb=> ?_⟩,fun b hb=> ?_⟩
 ·rintro b hb z hz rfl;obtain⟨n,o1,h1,h2,h3⟩:=p3 b hb;obtain⟨m,o2,h4,h5,h6⟩:=q3 b hz;exact g.tN n m _ _ (fun e=>n3 n h1 m h4 e) h2 h5 b h3 h6
 ·rcases bg.1 hb with hb|hb
  ·exact p2.ge b hb
  ·exact q2.ge b hb
 ·rcases bg.1 hb with hb|hb
  ·exact p2.kind b hb
  ·exact q2.kind b hb
 ·rcases bg.1 hb with hb|hb
  ·obtain⟨n,o1,h1,h2,h3⟩:=p3 b hb;exact⟨n,o1,bl _ h1,h2,h3⟩
  ·obtain⟨n,o1,h1,h2,h3⟩:=q3 b hb;exact⟨n,o1,aW _ h1,h2,h3⟩
theorem als(hL:zb.L= [])(g:Good ty zb st a.tmps w env){x y:V}{u:Value}{k:List Nat}(hr:RA w st.hp env x u)(h:alr st x y=some (vc,k))(hv: ∀q,q∈vc→q):
  ∃fp,RB ty w zb.w.heap.size y u fp∧Own zb.w.heap.size w fp∧ ∀b,b∈fp→ ∃i o,i∈k∧look st.hp i=some o∧b∈(env i).fp:=by
 unfold alr at h;split at h
 ·simp only[oI,pI]at h;obtain⟨rfl,rfl⟩:=h;have hl:=hv _ (aV.2 rfl);obtain⟨rfl,ho⟩:=hr;exact⟨[],⟨hl,hl▸ho,rfl⟩,Own.nil _ _,by simp⟩
 ·simp only[oI,pI]at h;obtain⟨rfl,rfl⟩:=h;have hl:=hv _ (aV.2 rfl);subst hl;obtain⟨rfl,ho⟩:=hr;exact⟨[],qN.nil _ _ _ _ _,Own.nil _ _,by simp⟩
 ·rename_i n t l;split at h
  ·rename_i t' l' hl Ye;split at h
   ·rename_i l2 hc;simp only[oI,pI]at h;obtain⟨rfl,rfl⟩:=h;have pK:=hv _ (aV.2 rfl);subst pK;obtain⟨e,rfl⟩:=kq hc;subst e;obtain⟨_,rfl⟩:=hr;have hb:=qN.lift (RO.bld Ye (g.obj n _ hl)) (lo:=zb.w.heap.size) (fun b hb=>by
     rcases g.dom n _ hl b hb with h|h
     ·rw[hL]at h;cases h
     ·exact h)
    exact⟨(env n).fp,hb,hb.own,fun b hb=>⟨n,_,by simp,hl,hb⟩⟩
   ·cases h
  ·cases h
 ·simp only[oI,pI]at h;obtain⟨rfl,rfl⟩:=h;have hl:=hv _ (aV.2 rfl);subst hl;obtain⟨rfl,ho⟩:=hr;exact⟨[],⟨qN.sl (qN.nil _ _ 0 0 _),Own.nil _ _⟩,Own.nil _ _,by simp⟩
 ·rename_i n _ _ t l;split at h
  ·rename_i t' l' hl;split at h
   ·rename_i l2 hc;simp only[oI,pI]at h;obtain⟨rfl,rfl⟩:=h;have pK:=hv _ (aV.2 rfl);subst pK;obtain⟨e,rfl⟩:=kq hc;subst e;obtain⟨_,rfl⟩:=hr;have hs:=RO.sl (g.obj n _ hl);have ho0:=RO.own (g.obj n _ hl);have ho:Own zb.w.heap.size w (env n).fp:=⟨ho0.nodup,fun b hb=>by
     rcases g.dom n _ hl b hb with h|h
     ·rw[hL]at h;cases h
     ·exact h,ho0.kind⟩
    exact⟨(env n).fp,⟨hs,ho⟩,ho,fun b hb=>⟨n,_,by simp,hl,hb⟩⟩
   ·cases h
  ·cases h
 ·rename_i n _ t' l' _ _ t l;split at h
  ·rename_i l2 hc;simp only[oI,pI]at h;obtain⟨rfl,rfl⟩:=h;have pK:=hv _ (aV.2 rfl);subst pK;obtain⟨e,rfl⟩:=kq hc;subst e;obtain⟨⟨t0,l0,hl⟩,⟨fp,hs,hnd,hsub⟩,_⟩:=hr;have ho0:=RO.own (g.obj n _ hl);have ho:Own zb.w.heap.size w fp:=⟨hnd,fun b hb=>by
    rcases g.dom n _ hl b (hsub b hb)with h|h
    ·rw[hL]at h;cases h
    ·exact h,fun b hb=>ho0.kind b (hsub b hb)⟩
   exact⟨fp,⟨hs,ho⟩,ho,fun b hb=>⟨n,_,by simp,hl,hsub b hb⟩⟩
  ·cases h
 ·cases h
theorem Vd(hL:zb.L= [])(g:Good ty zb st a.tmps w env): ∀{xs ys:List V} {us:List Value} {vc:List Prop} {k:List Nat},dG (RA w st.hp env) xs us→meet st xs ys=some (vc,k)→k.Nodup→(∀q,q∈vc→q)→
  ∃fp,RBs ty w zb.w.heap.size ys us fp∧Own zb.w.heap.size w fp∧ ∀b,b∈fp→ ∃i o,i∈k∧look st.hp i=some o∧b∈(env i).fp
 | [],ys,us,vc,k,hr,h,hnd,hv=>by
   cases ys with
   |nil=>
    simp only[meet,oI,pI]at h;obtain⟨rfl,rfl⟩:=h;cases us with
    |nil=>exact⟨[],rfl,Own.nil _ _,by simp⟩
    |cons _ _=>exact hr.elim
   |cons y ys=>simp[meet]at h
 |x::r,ys,us,vc,k,hr,h,hnd,hv=>by
  cases us with
  |nil=>exact hr.elim
  |cons u us=>
   cases ys with
   |nil=>simp[meet]at h
   |cons y s=>
    simp only[meet]at h;split at h
    ·rename_i zM k1 vc2 k2 h1 h2;simp only[oI,pI,lR]at h;obtain⟨rfl,rfl⟩:=h;obtain⟨n1,n2,n3⟩:=bM.1 hnd;obtain⟨f1,p1,p2,p3⟩:=als hL g hr.1 h1 (fun q hq=>hv q (bl _ hq));obtain⟨f2,q1,q2,q3⟩:=Vd hL g hr.2 h2 n2 (fun q hq=>hv q (aW _ hq));obtain⟨r1,r2⟩:=aep g hnd p2 p3 q2 q3;exact⟨f1++f2,⟨_,_,p1,q1,rfl⟩,r1,r2⟩
    ·cases h
theorem alu(hL:zb.L= [])(g:Good ty zb st a.tmps w env){x y:S1}{u:Value}{k:List Nat}(hr:mG w st.hp env x u)(h:aeo st x y=some (vc,k))(hnd:k.Nodup)(hv: ∀q,q∈vc→q):
  ∃fp,RB1 ty w zb.w.heap.size y u fp∧Own zb.w.heap.size w fp∧ ∀b,b∈fp→ ∃i o,i∈k∧look st.hp i=some o∧b∈(env i).fp:=by
 cases x with
 |a v=>
  cases y with
  |a v'=>exact Vd hL g (xs:= [v]) (us:= [u]) ⟨hr,trivial⟩ h hnd hv
  |agg _=>simp[aeo]at h
 |agg l=>
  cases y with
  |a v'=>simp[aeo]at h
  |agg m=>
   obtain⟨cs,rfl,hl⟩:=hr;obtain⟨fp,h1,h2,h3⟩:=Vd hL g hl h hnd hv;exact⟨fp,⟨cs,rfl,h1⟩,h2,h3⟩
theorem Ys(hL:zb.L= [])(g:Good ty zb st a.tmps w env): ∀{xs ys:List S1} {us:List Value} {vc:List Prop} {k:List Nat},dG (mG w st.hp env) xs us→meets st xs ys=some (vc,k)→k.Nodup→(∀q,q∈vc→q)→
  ∃fp,RBl ty w zb.w.heap.size ys us fp∧Own zb.w.heap.size w fp∧ ∀b,b∈fp→ ∃i o,i∈k∧look st.hp i=some o∧b∈(env i).fp
 | [],ys,us,vc,k,hr,h,hnd,hv=>by
   cases ys with
   |nil=>
    simp only[meets,oI,pI]at h;obtain⟨rfl,rfl⟩:=h;cases us with
    |nil=>exact⟨[],rfl,Own.nil _ _,by simp⟩
    |cons _ _=>exact hr.elim
   |cons y ys=>simp[meets]at h
 |x::r,ys,us,vc,k,hr,h,hnd,hv=>by
  cases us with
  |nil=>exact hr.elim
  |cons u us=>
   cases ys with
   |nil=>simp[meets]at h
   |cons y s=>
    simp only[meets]at h;split at h
    ·rename_i zM k1 vc2 k2 h1 h2;simp only[oI,pI,lR]at h;obtain⟨rfl,rfl⟩:=h;obtain⟨n1,n2,n3⟩:=bM.1 hnd;obtain⟨f1,p1,p2,p3⟩:=alu hL g hr.1 h1 n1 (fun q hq=>hv q (bl _ hq));obtain⟨f2,q1,q2,q3⟩:=Ys hL g hr.2 h2 n2 (fun q hq=>hv q (aW _ hq));obtain⟨r1,r2⟩:=aep g hnd p2 p3 q2 q3;exact⟨f1++f2,⟨_,_,p1,q1,rfl⟩,r1,r2⟩
    ·cases h
theorem Yt{Γ:Nat→TK}(C: ∀t,gO P t (Γ t))(g:Good ty zb st a.tmps w env){fn:Func}{Dk:List ResultVar}(hf:fn.results=Dk.toArray){xs:List S1}(h:Iz Γ st Dk=some xs)(hl:Dk.length≤4):
  ∃us,dG (mG w st.hp env) xs us∧us.length=Dk.length∧(results fn a.tmps).run P w= .ok (match us with| [u]=>u|us=> .tuple us.toArray) w:=by
 have one: ∀{r:ResultVar} {rs:List ResultVar} {xs:List S1},Iz Γ st (r::rs)=some xs→ ∃y ys,xs=y::ys∧alq Γ st r=some y∧Iz Γ st rs=some ys:=by
  intro r rs xs h;simp only[Iz]at h;split at h
  ·rename_i y ys h1 h2;simp only[oI]at h;exact⟨y,ys,h.symm,h1,h2⟩
  ·cases h
 have nil: ∀{xs:List S1},Iz Γ st []=some xs→xs= []:=by
  intro xs h;simp only[Iz,oI]at h;exact h.symm
 match Dk,hf,h,hl with
 | [],hf,h,_=>
   rw[nil h];exact⟨[],trivial,rfl,by simp[results,hf]⟩
 | [r1],hf,h,_=>
   obtain⟨y1,ys,rfl,h1,h⟩:=one h;rw[nil h];obtain⟨u1,k1,e1⟩:=Gk C g h1;refine⟨[u1],⟨k1,trivial⟩,rfl,?_⟩;cases r1
   ·have e1:a.tmps.getD _ undef=u1:=e1;rw[ak]at e1;simp[results,hf,asAddr,e1]
   ·obtain⟨_,p1,e1⟩:=e1;rw[ak]at p1;simp[results,hf,asAddr,e1,p1]
 | [r1,r2],hf,h,_=>
   obtain⟨y1,ys,rfl,h1,h⟩:=one h;obtain⟨y2,ys,rfl,h2,h⟩:=one h;rw[nil h];obtain⟨u1,k1,e1⟩:=Gk C g h1;obtain⟨u2,k2,e2⟩:=Gk C g h2;refine⟨[u1,u2],⟨k1,k2,trivial⟩,rfl,?_⟩;cases r1<;>cases r2
   ·have e1:a.tmps.getD _ undef=u1:=e1;rw[ak]at e1;have e2:a.tmps.getD _ undef=u2:=e2;rw[ak]at e2;simp[results,hf,asAddr,e1,e2]
   ·have e1:a.tmps.getD _ undef=u1:=e1;rw[ak]at e1;obtain⟨_,p2,e2⟩:=e2;rw[ak]at p2;simp[results,hf,asAddr,e1,e2,p2]
   ·obtain⟨_,p1,e1⟩:=e1;rw[ak]at p1;have e2:a.tmps.getD _ undef=u2:=e2;rw[ak]at e2;simp[results,hf,asAddr,e1,e2,p1]
   ·obtain⟨_,p1,e1⟩:=e1;rw[ak]at p1;obtain⟨_,p2,e2⟩:=e2;rw[ak]at p2;simp[results,hf,asAddr,e1,e2,p1,p2]
 | [r1,r2,r3],hf,h,_=>
   obtain⟨y1,ys,rfl,h1,h⟩:=one h;obtain⟨y2,ys,rfl,h2,h⟩:=one h;obtain⟨y3,ys,rfl,h3,h⟩:=one h;rw[nil h];obtain⟨u1,k1,e1⟩:=Gk C g h1;obtain⟨u2,k2,e2⟩:=Gk C g h2;obtain⟨u3,k3,e3⟩:=Gk C g h3;refine⟨[u1,u2,u3],⟨k1,k2,k3,trivial⟩,rfl,?_⟩;cases r1<;>cases r2<;>cases r3
   ·have e1:a.tmps.getD _ undef=u1:=e1;rw[ak]at e1;have e2:a.tmps.getD _ undef=u2:=e2;rw[ak]at e2;have e3:a.tmps.getD _ undef=u3:=e3;rw[ak]at e3;simp[results,hf,asAddr,e1,e2,e3]
   ·have e1:a.tmps.getD _ undef=u1:=e1;rw[ak]at e1;have e2:a.tmps.getD _ undef=u2:=e2;rw[ak]at e2;obtain⟨_,p3,e3⟩:=e3;rw[ak]at p3;simp[results,hf,asAddr,e1,e2,e3,p3]
   ·have e1:a.tmps.getD _ undef=u1:=e1;rw[ak]at e1;obtain⟨_,p2,e2⟩:=e2;rw[ak]at p2;have e3:a.tmps.getD _ undef=u3:=e3;rw[ak]at e3;simp[results,hf,asAddr,e1,e2,e3,p2]
   ·have e1:a.tmps.getD _ undef=u1:=e1;rw[ak]at e1;obtain⟨_,p2,e2⟩:=e2;rw[ak]at p2;obtain⟨_,p3,e3⟩:=e3;rw[ak]at p3;simp[results,hf,asAddr,e1,e2,e3,p2,p3]
   ·obtain⟨_,p1,e1⟩:=e1;rw[ak]at p1;have e2:a.tmps.getD _ undef=u2:=e2;rw[ak]at e2;have e3:a.tmps.getD _ undef=u3:=e3;rw[ak]at e3;simp[results,hf,asAddr,e1,e2,e3,p1]
   ·obtain⟨_,p1,e1⟩:=e1;rw[ak]at p1;have e2:a.tmps.getD _ undef=u2:=e2;rw[ak]at e2;obtain⟨_,p3,e3⟩:=e3;rw[ak]at p3;simp[results,hf,asAddr,e1,e2,e3,p1,p3]
   ·obtain⟨_,p1,e1⟩:=e1;rw[ak]at p1;obtain⟨_,p2,e2⟩:=e2;rw[ak]at p2;have e3:a.tmps.getD _ undef=u3:=e3;rw[ak]at e3;simp[results,hf,asAddr,e1,e2,e3,p1,p2]
   ·obtain⟨_,p1,e1⟩:=e1;rw[ak]at p1;obtain⟨_,p2,e2⟩:=e2;rw[ak]at p2;obtain⟨_,p3,e3⟩:=e3;rw[ak]at p3;simp[results,hf,asAddr,e1,e2,e3,p1,p2,p3]
 | [r1,r2,r3,r4],hf,h,_=>
   obtain⟨y1,ys,rfl,h1,h⟩:=one h;obtain⟨y2,ys,rfl,h2,h⟩:=one h;obtain⟨y3,ys,rfl,h3,h⟩:=one h;obtain⟨y4,ys,rfl,h4,h⟩:=one h;rw[nil h];obtain⟨u1,k1,e1⟩:=Gk C g h1;obtain⟨u2,k2,e2⟩:=Gk C g h2;obtain⟨u3,k3,e3⟩:=Gk C g h3;obtain⟨u4,k4,e4⟩:=Gk C g h4;refine⟨[u1,u2,u3,u4],⟨k1,k2,k3,k4,trivial⟩,rfl,?_⟩;cases r1<;>cases r2<;>cases r3<;>cases r4
   ·have e1:a.tmps.getD _ undef=u1:=e1;rw[ak]at e1;have e2:a.tmps.getD _ undef=u2:=e2;rw[ak]at e2;have e3:a.tmps.getD _ undef=u3:=e3;rw[ak]at e3;have e4:a.tmps.getD _ undef=u4:=e4;rw[ak]at e4;simp[results,hf,asAddr,e1,e2,e3,e4]
   ·have e1:a.tmps.getD _ undef=u1:=e1;rw[ak]at e1;have e2:a.tmps.getD _ undef=u2:=e2;rw[ak]at e2;have e3:a.tmps.getD _ undef=u3:=e3;rw[ak]at e3;obtain⟨_,p4,e4⟩:=e4;rw[ak]at p4;simp[results,hf,asAddr,e1,e2,e3,e4,p4]
   ·have e1:a.tmps.getD _ undef=u1:=e1;rw[ak]at e1;have e2:a.tmps.getD _ undef=u2:=e2;rw[ak]at e2;obtain⟨_,p3,e3⟩:=e3;rw[ak]at p3;have e4:a.tmps.getD _ undef=u4:=e4;rw[ak]at e4;simp[results,hf,asAddr,e1,e2,e3,e4,p3]
   ·have e1:a.tmps.getD _ undef=u1:=e1;rw[ak]at e1;have e2:a.tmps.getD _ undef=u2:=e2;rw[ak]at e2;obtain⟨_,p3,e3⟩:=e3;rw[ak]at p3;obtain⟨_,p4,e4⟩:=e4;rw[ak]at p4;simp[results,hf,asAddr,e1,e2,e3,e4,p3,p4]
   ·have e1:a.tmps.getD _ undef=u1:=e1;rw[ak]at e1;obtain⟨_,p2,e2⟩:=e2;rw[ak]at p2;have e3:a.tmps.getD _ undef=u3:=e3;rw[ak]at e3;have e4:a.tmps.getD _ undef=u4:=e4;rw[ak]at e4;simp[results,hf,asAddr,e1,e2,e3,e4,p2]
   ·have e1:a.tmps.getD _ undef=u1:=e1;rw[ak]at e1;obtain⟨_,p2,e2⟩:=e2;rw[ak]at p2;have e3:a.tmps.getD _ undef=u3:=e3;rw[ak]at e3;obtain⟨_,p4,e4⟩:=e4;rw[ak]at p4;simp[results,hf,asAddr,e1,e2,e3,e4,p2,p4]
   ·have e1:a.tmps.getD _ undef=u1:=e1;rw[ak]at e1;obtain⟨_,p2,e2⟩:=e2;rw[ak]at p2;obtain⟨_,p3,e3⟩:=e3;rw[ak]at p3;have e4:a.tmps.getD _ undef=u4:=e4;rw[ak]at e4;simp[results,hf,asAddr,e1,e2,e3,e4,p2,p3]
   ·have e1:a.tmps.getD _ undef=u1:=e1;rw[ak]at e1;obtain⟨_,p2,e2⟩:=e2;rw[ak]at p2;obtain⟨_,p3,e3⟩:=e3;rw[ak]at p3;obtain⟨_,p4,e4⟩:=e4;rw[ak]at p4;simp[results,hf,asAddr,e1,e2,e3,e4,p2,p3,p4]
   ·obtain⟨_,p1,e1⟩:=e1;rw[ak]at p1;have e2:a.tmps.getD _ undef=u2:=e2;rw[ak]at e2;have e3:a.tmps.getD _ undef=u3:=e3;rw[ak]at e3;have e4:a.tmps.getD _ undef=u4:=e4;rw[ak]at e4;simp[results,hf,asAddr,e1,e2,e3,e4,p1]
   ·obtain⟨_,p1,e1⟩:=e1;rw[ak]at p1;have e2:a.tmps.getD _ undef=u2:=e2;rw[ak]at e2;have e3:a.tmps.getD _ undef=u3:=e3;rw[ak]at e3;obtain⟨_,p4,e4⟩:=e4;rw[ak]at p4;simp[results,hf,asAddr,e1,e2,e3,e4,p1,p4]
   ·obtain⟨_,p1,e1⟩:=e1;rw[ak]at p1;have e2:a.tmps.getD _ undef=u2:=e2;rw[ak]at e2;obtain⟨_,p3,e3⟩:=e3;rw[ak]at p3;have e4:a.tmps.getD _ undef=u4:=e4;rw[ak]at e4;simp[results,hf,asAddr,e1,e2,e3,e4,p1,p3]
   ·obtain⟨_,p1,e1⟩:=e1;rw[ak]at p1;have e2:a.tmps.getD _ undef=u2:=e2;rw[ak]at e2;obtain⟨_,p3,e3⟩:=e3;rw[ak]at p3;obtain⟨_,p4,e4⟩:=e4;rw[ak]at p4;simp[results,hf,asAddr,e1,e2,e3,e4,p1,p3,p4]
   ·obtain⟨_,p1,e1⟩:=e1;rw[ak]at p1;obtain⟨_,p2,e2⟩:=e2;rw[ak]at p2;have e3:a.tmps.getD _ undef=u3:=e3;rw[ak]at e3;have e4:a.tmps.getD _ undef=u4:=e4;rw[ak]at e4;simp[results,hf,asAddr,e1,e2,e3,e4,p1,p2]
   ·obtain⟨_,p1,e1⟩:=e1;rw[ak]at p1;obtain⟨_,p2,e2⟩:=e2;rw[ak]at p2;have e3:a.tmps.getD _ undef=u3:=e3;rw[ak]at e3;obtain⟨_,p4,e4⟩:=e4;rw[ak]at p4;simp[results,hf,asAddr,e1,e2,e3,e4,p1,p2,p4]
   ·obtain⟨_,p1,e1⟩:=e1;rw[ak]at p1;obtain⟨_,p2,e2⟩:=e2;rw[ak]at p2;obtain⟨_,p3,e3⟩:=e3;rw[ak]at p3;have e4:a.tmps.getD _ undef=u4:=e4;rw[ak]at e4;simp[results,hf,asAddr,e1,e2,e3,e4,p1,p2,p3]
   ·obtain⟨_,p1,e1⟩:=e1;rw[ak]at p1;obtain⟨_,p2,e2⟩:=e2;rw[ak]at p2;obtain⟨_,p3,e3⟩:=e3;rw[ak]at p3;obtain⟨_,p4,e4⟩:=e4;rw[ak]at p4;simp[results,hf,asAddr,e1,e2,e3,e4,p1,p2,p3,p4]
 |_::_::_::_::_::_,_,_,hl=>simp at hl
end
end
section
variable{u:Value}{ty:Tag→Nat}
theorem RI.ra{w:World}{env:Env}{v:V}{fp:List Nat}(h:RI w v u fp):RA w [] env v u:=by
 have hno: ∀b, ¬Ow [] env b:=by rintro b ⟨n,o,hl,_⟩;simp[look]at hl
 cases v with
 |lit x=>exact⟨h.1,h.2.1⟩
 |sl t l=>exact⟨fp,h,fun b _=>hno b⟩
 |_=>exact h.elim
theorem R1.rs1{w:World}{env:Env}{x:S1}(h:R1 w x u):mG w [] env x u:=by
 cases x with
 |a v=>obtain⟨fp,h⟩:=h;exact h.ra
 |agg l=>
  obtain⟨cs,fp,rfl,h⟩:=h;exact⟨cs,rfl,h.O6 fun b _=>by rintro⟨n,o,hl,_⟩;simp[look]at hl⟩
theorem GN: ∀{as:List S1} {i s:Nat} {v:SV},look (enter i as) s=some v→ ∃x,v= .one x∧i≤s∧as[s-i]? =some x
 |x::r,i,s,v,h=>by
  by_cases hs:s=i
  ·subst hs;rw[enter,look_eq]at h;simp only[oI]at h;exact⟨x,h.symm,aS _,by simp⟩
  ·rw[enter,cR hs]at h;obtain⟨y,h1,h2,h3⟩:=GN h;refine⟨y,h1,aJ,?_⟩;rw[show s-i=(s-(i+1))+1 by omega,List.getElem?_cons_succ];exact h3
theorem entry{as:List S1}{us:List Value}{w:World}{n:Nat}(hA:Nc w)(ha:dG (R1 w) as us)(hn:as.length≤n):
  Inv ty ⟨w,[],fun _=>⟨.tuple #[],[]⟩⟩ ⟨n,enter 0 as,[]⟩ {tmps:=us.toArray++sI (n-us.toArray.size) undef,defers:= []} w:=by
 have hl:=ha.len;refine⟨by simp;omega,rfl,Kept.refl _ _,⟨hA,fun _ _ h=>by cases h⟩,fun _=>⟨.tuple #[],[]⟩,⟨fun n o h=>by simp[look]at h,fun n m o o' _ h=>by simp[look]at h,fun s v hv=> ?_,fun n o h=>by simp[look]at h,fun n _=>⟨rfl,fun b hb=>hb⟩⟩⟩;obtain⟨x,rfl,_,hx⟩:=GN hv;rw[Nat.sub_zero]at hx;obtain⟨u,hu,hr⟩:=ha.at hx;have hs:s<us.length:=(aU.1 hu).1;have:(us.toArray++sI (n-us.toArray.size) undef).getD s undef=u:=by
  rw[ak,Array.getElem?_append_left (by simpa using hs)];simp[hu]
 show mG w [] _ x _
 rw[this];exact hr.rs1
theorem eU{P:Program}{Γ:Nat→TK}(X:Ctx P ty Γ){f:FuncId}{fn:Func}{c:Code}{Dk:List ResultVar}{n:Nat}{as rs:List S1}
  (Yu: ∀(args:Array Value) (w:World),(callFunc f args).run P w= .ok (.enter f args) w)(hf:P.funcs[f]? =some fn)(hb:fn.body=some c)(hr:fn.results=Dk.toArray)(hl:Dk.length≤4)(hn:fn.ntmps=n)(hlen:as.length≤n)
  (h: ∀zb,W P ty zb c (Fin Γ Dk rs) ⟨n,enter 0 as,[]⟩):Sound ty P f as rs:=by
 refine⟨Yu,fun w us hA ha=>calls_of_wp hf hb ?_⟩;rw[hn];refine wp_mono (h _ _ w (entry hA ha hlen)) ?_;rintro e a w' ⟨st,iv,he,vc,va,hv⟩;have key:a.defers= []∧ ∃v,(results fn a.tmps).run P w'= .ok v w'∧Ret ty w rs (.returned v) w':=by
  obtain⟨env,g⟩:=iv.good;unfold ends at va;split at va
  ·rename_i xs hx;split at va
   ·rename_i zM k hm;split at va
    ·rename_i hnd;simp only[oI]at va;subst va;obtain⟨vs,h1,h2,h3⟩:=Yt X.kind g hr hx hl;obtain⟨fp,q1,q2,_⟩:=Ys rfl g h1 hm (rO hnd) hv.out;have hbel:Below w.heap.size w w':=⟨iv.kept.os,iv.kept.tape,iv.kept.output,iv.kept.size,fun b hb=>iv.kept.block b hb fI⟩;refine⟨iv.defers,_,h3,_,fp,rfl,hbel,q2,?_⟩;match rs,vs,q1 with
     | [],[],q1=>exact⟨[],rfl,q1⟩
     | [r],[u],⟨f1,f2,p1,p2,e⟩=>
       have p2:f2= []:=p2;rw[p2,cW]at e;rw[e];exact p1
     |r1::r2::r,u1::u2::u,q1=>exact⟨_,rfl,q1⟩
     | [],_::_,q1=>exact q1.elim
     |_::_,[],q1=>exact q1.elim
     | [r],u1::u2::u,⟨_,_,_,p,_⟩=>exact p.elim
     |r1::r2::r,[u],⟨_,_,_,p,_⟩=>exact p.elim
    ·cases va
   ·cases va
  ·cases va
 rcases he with rfl|rfl<;>exact key
theorem alv{P:Program}{Γ:Nat→TK}(X:Ctx P ty Γ){f:FuncId}{fn:Func}{c:Code}{Dk:List ResultVar}{n:Nat}{xs rs:List S1}
  (Yu: ∀(args:Array Value) (w:World),(callFunc f args).run P w= .ok (.enter f args) w)(hf:P.funcs[f]? =some fn)(hn:fn.ntmps=n)(h: ∀zb,W P ty zb c (Fin Γ Dk rs) ⟨n,enter 0 xs,[]⟩)(hb:fn.body=some c:=by exact rfl)(hr:fn.results=Dk.toArray:=by exact rfl)(hl:Dk.length≤4:=by decide)(hlen:xs.length≤n:=by simp):Sound ty P f xs rs:=eU X Yu hf hb hr hl hn hlen h
theorem RF.len{w:World}: ∀{vs:List V} {us:List Value} {eS:List (List Nat)},RF w vs us eS→us.length=vs.length∧eS.length=vs.length
 | [],[],_,h=>by rw[show _=_ from h];exact⟨rfl,rfl⟩
 |_::_,_::_,_,⟨_,_,_,h,e⟩=>by obtain⟨h1,h2⟩:=RF.len h;rw[e];exact⟨by simp[h1],by simp[h2]⟩
 | [],_::_,_,h=>h.elim
 |_::_,[],_,h=>h.elim
theorem arW.nodup: ∀{fs gs:List (List Nat)},arW fs gs→gs.flatten.Nodup→(∀f,f∈fs→f.Nodup)→fs.flatten.Nodup∧ ∀b,b∈fs.flatten→b∈gs.flatten
 | [],[],_,_,_=>⟨by simp,by simp⟩
 |f::fs,g::gs,⟨h1,h2⟩,hn,hf=>by
  rw[dM]at hn;obtain⟨_,n2,n3⟩:=bM.1 hn;obtain⟨q1,q2⟩:=arW.nodup h2 n2 (fun f hm=>hf f (aE _ hm));refine⟨?_,fun b hb=> ?_⟩
  ·rw[dM];exact bM.2 ⟨hf f fI,q1,fun b hb c hc e=>n3 b (h1 b hb) c (q2 c hc) e⟩
  ·rw[dM]at hb ⊢;rcases bg.1 hb with hb|hb
   ·exact bl _ (h1 b hb)
   ·exact aW _ (q2 b hb)
 | [],_::_,h,_,_=>h.elim
 |_::_,[],h,_,_=>h.elim
section
variable{zb:fG}{st:St}{tmps:Array Value}{w0 w:World}{env:Env}
theorem RF.one{w:World}{v:V}{eS:List (List Nat)}(h:RF w [v] [u] eS): ∃f,RI w v u f∧eS= [f]:=by
 obtain⟨f,g,h1,h2,h3⟩:=h;exact⟨f,h1,by rw[h3,show g= []from h2]⟩
end
end
end Go.Proofs.YtaalpcnbbldlaaaGreatDoor.G
