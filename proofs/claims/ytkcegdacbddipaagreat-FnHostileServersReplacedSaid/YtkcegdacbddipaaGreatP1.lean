/-
  Slices that a call builds by make and stores. Laws on the model's worlds; no program in sight.
-/
import Derived.ArgAppend
import Derived.Laws.AppendOwnNone
import Derived.Test.YtkcegdacbddipaaGreatP0
open Array renaming getElem?_eq_some_iff→dj,length_toList→gL
open Go.Builtin renaming append_→dM,firstCells→ld,lenOf→jF
open Go.Value renaming ownBlock→gS
open Go.World renaming cell?→rW,setCells→pZ
open List renaming append_assoc→ct,append_nil→cS,cons_append→iG,drop_append_of_le_length→iD,eq_nil_of_length_eq_zero→bN,flatten_append→eW,flatten_cons→bQ,flatten_nil→kK,getElem?_append_left→bT,getElem?_append_right→bU,getElem?_drop→cN,getElem?_eq_getElem→au,getElem?_eq_some_iff→aI,getElem?_take→cH,length_append→aY,length_drop→bW,length_take→bV,mem_append→aL,mem_append_left→aN,mem_append_right→aH,mem_cons_of_mem→aK,nodup_append→bf,nodup_cons→cu,size_toArray→iV
open Nat renaming add_mul→cJ,le_refl→aZ,mul_comm→nk,mul_le_mul_right→bK,zero_add→dZ
open Or renaming inl→bI,inr→bn
namespace Go.Proofs.YtkcegdacbddipaaGreat.L
set_option linter.all false
open Go.RowKit
section
def Src(w:World)(x:Value)(m:Nat)(news:List Value):Prop:=
 (x= .slice none 0 0∧m=0∧news= [])∨ ∃a c,x= .slice (some a) m c∧ ∀j u,news[j]? =some u→w.cell? (a.add j)=some u
def Shape(w w':World):Prop:= ∀(b:Nat) (c:Array Value) (e:TypeId),w.heap[b]? =some (.cells c e (0,0))→ ∃c':Array Value,w'.heap[b]? =some (.cells c' e (0,0))∧c'.size=c.size
theorem dV(g:Nat): ∀(vs:List Value) (o:Nat) (w:World) (b:Nat),b≠g→(w.setCells g o vs).heap[b]? =w.heap[b]?
 | [],_,_,_,_=>rfl
 |v::r,o,w,b,h=>by rw[pZ,dV g r (o+1) _ b h];exact Below.heap_setCell _ _ _ _ h
theorem Aq(g:Nat): ∀(vs:List Value) (o:Nat) (w:World),(w.setCells g o vs).heap.size=w.heap.size
 | [],_,_=>rfl
 |v::r,o,w=>by rw[pZ,Aq g r (o+1)];simp[World.setCell]
theorem lX(g:Nat): ∀(vs:List Value) (o:Nat) (w:World),(w.setCells g o vs).os=w.os∧(w.setCells g o vs).tape=w.tape∧(w.setCells g o vs).output=w.output
 | [],_,_=>⟨rfl,rfl,rfl⟩
 |v::r,o,w=>by rw[pZ];exact lX g r (o+1) _
theorem gf(g e:Nat): ∀(vs:List Value) (o:Nat) (w:World) (c:Array Value),w.heap[g]? =some (.cells c e (0,0))→ ∃c',(w.setCells g o vs).heap[g]? =some (.cells c' e (0,0))∧c'.size=c.size
 | [],_,_,c,h=>⟨c,h,rfl⟩
 |v::r,o,w,c,h=>by
  obtain⟨c',h1,h2⟩:=gf g e r (o+1) (w.setCell ⟨g,o,none⟩ v) _ (heap_setCell_same w g o c e v h)
  exact⟨c',by rw[pZ];exact h1,by rw[h2];simp⟩
theorem Shape.refl(w:World):Shape w w:=fun _ c _ h=>⟨c,h,rfl⟩
theorem Shape.set(w:World)(g o:Nat)(vs:List Value):Shape w (w.setCells g o vs):=fun b c e h=>by
 by_cases hb:b=g
 ·subst hb;exact gf b e vs o w c h
 ·exact⟨c,by rw[dV g vs o w b hb];exact h,rfl⟩
theorem Shape.alloc(w:World)(o:Obj):Shape w (w.drew.alloc o):=fun b c e h=>by
 refine⟨c,?_,rfl⟩
 show(w.heap.push o)[b]? =_
 have hlt:=(dj.1 h).1
 rw[Array.getElem?_push_lt hlt, ←Array.getElem?_eq_getElem hlt]
 exact h
theorem Shape.row{w:World}{g:Nat}{c c':Array Value}{e:TypeId}(hg:w.heap[g]? =some (.cells c e (0,0)))(hs:c'.size=c.size):Shape w (w.setRow g c'):=fun b d e' h=>by
 by_cases hb:b=g
 ·subst hb
  rw[hg]at h
  simp only[oI,Obj.cells.injEq,and_true]at h
  obtain⟨rfl,rfl⟩:=h
  exact⟨c',setRow_heap w b c c' e (0,0) hg,hs⟩
 ·refine⟨d,?_,rfl⟩
  show(w.heap.modify g _)[b]? =_
  rw[Array.getElem?_modify,if_neg (Ne.symm hb)];exact h
theorem Fit.set{w:World}{b m:Nat}(h:Fit w b m){c:Array Value}{e:TypeId}(hb:w.heap[b]? =some (.cells c e (0,0)))(o:Nat)(vs:List Value):Fit (w.setCells b o vs) b m:=by
 obtain⟨c1,e1,fz,h1,h2⟩:=h
 rw[hb]at h1
 simp only[oI,Obj.cells.injEq]at h1
 obtain⟨rfl,rfl,rfl⟩:=h1
 obtain⟨c',h3,h4⟩:=gf b e vs o w c hb
 exact⟨c',e,(0,0),h3,by rw[h4];exact h2⟩
theorem Fit.other{w:World}{b m g:Nat}(h:Fit w b m)(hg:b≠g)(o:Nat)(vs:List Value):Fit (w.setCells g o vs) b m:=h.agree (dV g vs o w b hg)
def k9(w:World)(base:Nat)(e:TypeId)(k:Nat)(v:Value)(n:Nat)(xs:List Value):Prop:=
 xs.length=n*k∧((v= .slice none 0 0∧n=0)∨
  ∃g o cap cur,v= .slice (some ⟨g,o,none⟩) n cap∧base≤g∧w.heap[g]? =some (.cells cur e (0,0))∧n≤cap∧cap≤maxLen∧o+cap*k≤cur.size∧(cur.toList.drop o).take (n*k)=xs)
theorem k9.of{w:World}{base:Nat}{e:TypeId}{k:Nat}{v:Value}{n:Nat}{xs:List Value}(h:w.ownsRow base e k v n xs):k9 w base e k v n xs:=by
 refine⟨h.1,?_⟩
 rcases h.2 with h| ⟨g,cap,cur,hv,hb,hg,h1,h2,h3,h4⟩
 ·exact bI h
 ·exact bn ⟨g,0,cap,cur,hv,hb,hg,h1,h2,by omega,h4⟩
theorem k9.nil(w:World)(base:Nat)(e:TypeId)(k:Nat):k9 w base e k (.slice none 0 0) 0 []:=⟨by simp,bI ⟨rfl,rfl⟩⟩
theorem k9.lt{w:World}{base:Nat}{e:TypeId}{k:Nat}{v:Value}{n:Nat}{xs:List Value}(h:k9 w base e k v n xs): ∀b,v.ownBlock=some b→base≤b∧b<w.heap.size:=by
 intro b hb
 rcases h.2 with⟨rfl,_⟩| ⟨g,o,cap,cur,rfl,hbg,hg,_⟩
 ·simp[gS]at hb
 ·simp[gS]at hb
  subst hb
  exact⟨hbg,(dj.1 hg).1⟩
theorem zm{w:World}{g o m:Nat}{e:TypeId}{fz:Nat×Nat}{cur:Array Value}(hg:w.heap[g]? =some (.cells cur e fz)): ∀(j:Nat) (u:Value),((cur.toList.drop o).take m)[j]? =some u→w.cell? ⟨g,o+j,none⟩=some u:=by
 intro j u hu
 rw[cH]at hu
 split at hu
 ·rw[cN]at hu
  simp only[rW,hg]
  simpa using hu
 ·cases hu
theorem AG{P:Program}(w:World)(t ty e:TypeId)(i:TypeInfo)(ht:P.underlying t=some (.slice e))(hi:P.info? e=some i)
  (g o sLen sCap:Nat)(cur:Array Value)(hg:w.heap[g]? =some (.cells cur e (0,0)))
  (a:Addr)(m c:Nat)(news:List Value)(hl:news.length=m*i.size)(hnews: ∀j u,news[j]? =some u→w.cell? (a.add j)=some u)(h1: ∀u∈news,u.oneCell'=true)
  (hroom:sLen+m≤sCap)(hfit:o+sLen*i.size+news.length≤cur.size):
  (dM #[t,t] ty #[.slice (some ⟨g,o,none⟩) sLen sCap, .slice (some a) m c]).run P w=
   .ok (.slice (some ⟨g,o,none⟩) (sLen+m) sCap) (w.setRow g (cur.toList.take (o+sLen*i.size)++news++cur.toList.drop (o+sLen*i.size+news.length)).toArray):=by
 have hf:=run_firstCells_some (P:=P) w i.size m a m c news hl hnews
 have hst:=run_storeCells_at P g (o+sLen*i.size) e news 0 cur w hg (by simpa using hfit) h1
 simp only[Nat.add_zero]at hst
 simp[dM,run_underlying ht,sizeOf,typeInfo,hi,jF,hroom,hf,Addr.add_mid,hst]
theorem aby{P:Program}(w:World)(base:Nat)(t ty e:TypeId)(i:TypeInfo)(z:Value)(size bytes:Nat)(ht:P.underlying t=some (.slice e))(hi:P.info? e=some i)(hz:i.zero=some z)
  (hsize:i.size=size)(hby:i.bytes=bytes)(hzs:z.cells.size=size)(hsz:0<size)
  (v:Value)(n:Nat)(xs:List Value)(hown:k9 w base e size v n xs)
  (x:Value)(m:Nat)(news:List Value)(hl:news.length=m*size)(hx:Src w x m news)(h1: ∀u∈news,u.oneCell'=true)
  (h63:n+m≤maxLen)(hbytes:(n+m)*bytes≤140737488355328)(hbase:base≤w.heap.size):
  ∃v' w',(dM #[t,t] ty #[v,x]).run P w= .ok v' w'∧k9 w' base e size v' (n+m) (xs++news)∧w.grownBy w' v.ownBlock∧
   (v'.ownBlock=v.ownBlock∨v'.ownBlock=some w.heap.size)∧Shape w w':=by
 rcases hown.2 with⟨rfl,rfl⟩| ⟨g,o,cap,cur,rfl,hbg,hg,hnc,hcm,hcs,GM⟩
 ·have hx0:xs= []:=bN (by simpa using hown.1)
  subst hx0
  rcases hx with⟨rfl,rfl,rfl⟩| ⟨a,c,rfl,hnews⟩
  ·refine⟨.slice none 0 0,w,?_,by simpa using hown,⟨rfl,rfl,rfl,aZ _,fun _ _ _=>rfl⟩,bI rfl,Shape.refl _⟩
   simp[dM,run_underlying ht,sizeOf,typeInfo,hi,jF,ld,storeCells]
  ·subst hsize
   subst hby
   by_cases hm:m=0
   ·subst hm
    have hn:news= []:=bN (by simpa using hl)
    subst hn
    have FL:(dM #[t,t] ty #[.slice none 0 0, .slice (some a) 0 c]).run P w= .ok (.slice none 0 0) w:=by
     simp[dM,run_underlying ht,sizeOf,typeInfo,hi,jF,ld,loadCells,loadCellsFrom]
    exact⟨_,_,FL,by simpa using hown,⟨rfl,rfl,rfl,aZ _,fun _ _ _=>rfl⟩,bI rfl,Shape.refl _⟩
   ·have FL:=run_append_nil (P:=P) w t ty e i z ht hi hz a m c news hl hnews (by omega) (by simp only[maxLen]at h63;omega) (by have hb:=hbytes;simp only[dZ]at hb;omega)
    obtain⟨v',w',hr,h2,h3,_⟩:=run_append_own (P:=P) w base t ty e i z i.size i.bytes ht hi hz rfl rfl hzs hsz (.slice none 0 0) 0 [] (World.ownsRow_nil w _ _ _) a m c news hl hnews h1 h63 hbytes hbase
    have e2:=FL.symm.trans hr
    simp only[Result.ok.injEq]at e2
    refine⟨v',w',hr,k9.of h2,h3,bn ?_,?_⟩
    ·rw[←e2.1];rfl
    ·rw[←e2.2];exact Shape.alloc _ _
 ·have holds: ∀j u,xs[j]? =some u→w.cell? ((⟨g,o,none⟩:Addr).add j)=some u:=by
   intro j u hu
   rw[Addr.add_mid]
   exact zm hg j u (by rw[GM];exact hu)
  rcases hx with⟨rfl,rfl,rfl⟩| ⟨a,c,rfl,hnews⟩
  ·refine⟨.slice (some ⟨g,o,none⟩) n cap,w,?_,by simpa using hown,⟨rfl,rfl,rfl,aZ _,fun _ _ _=>rfl⟩,bI rfl,Shape.refl _⟩
   simp[dM,run_underlying ht,sizeOf,typeInfo,hi,jF,ld,storeCells,hnc]
  ·by_cases hroom:n+m≤cap
   ·subst hsize
    subst hby
    have h5:(n+m)*i.size≤cap*i.size:=bK _ hroom
    have hfit:o+n*i.size+news.length≤cur.size:=by rw[hl];rw[cJ]at h5;omega
    have FL:=AG (P:=P) w t ty e i ht hi g o n cap cur hg a m c news hl hnews h1 hroom hfit
    have hxl:=hown.1
    have e1:(cur.toList.take (o+n*i.size)).drop o=xs:=by rw[List.drop_take,Nat.add_sub_cancel_left];exact GM
    have e2:(cur.toList.take (o+n*i.size)).length=o+n*i.size:=by rw[bV,gL];omega
    refine⟨_,_,FL,⟨by rw[aY,hxl,hl,cJ],bn ⟨g,o,cap,_,rfl,hbg,setRow_heap w g cur _ e _ hg,hroom,hcm,?_,?_⟩⟩,⟨rfl,rfl,rfl,by simp,fun k _ hk=>setRow_other w g k _ (fun e=>hk (by simp[gS,e]))⟩,bI rfl,Shape.row hg ?_⟩
    ·simp only[iV,aY,bV,bW,gL]
     omega
    ·rw[ct,iD (by omega),e1, ←ct]
     exact(congrArg (fun q=>List.take q _) (by rw[aY,hxl,hl,cJ])).trans List.take_left
    ·simp only[iV,aY,bV,bW,gL]
     omega
   ·obtain⟨v',w',hr,h2,h3⟩:=run_append_arg_grows (P:=P) w t ty e i z size bytes ht hi hz hsize hby hzs hsz ⟨g,o,none⟩ n cap xs hown.1 holds a m c news hl hnews (by omega) h63 hbytes
    subst hsize
    subst hby
    have FL:=run_append_grow (P:=P) w t ty e i z ht hi hz ⟨g,o,none⟩ n cap xs hown.1 holds a m c news hl hnews (by omega) (by simp only[maxLen]at h63;omega) (growslice_fits (by simp only[maxLen]at h63;omega) hbytes)
    have e2:=FL.symm.trans hr
    simp only[Result.ok.injEq]at e2
    refine⟨v',w',hr,?_,⟨h3.os,h3.tape,h3.output,h3.size,fun k hk _=>h3.block k hk (by simp)⟩,bn ?_,?_⟩
    ·have h4:=k9.of h2
     refine⟨h4.1,?_⟩
     rcases h4.2 with h5| ⟨g',o',cap',cur',q1,q2,q3⟩
     ·exact bI h5
     ·exact bn ⟨g',o',cap',cur',q1,by omega,q3⟩
    ·rw[←e2.1];rfl
    ·rw[←e2.2];exact Shape.alloc _ _
def mo{α:Type}(k:Nat)(E:ER α)(lo e:Nat)(w:World)(v:Value)(l:List α)(fp:List Nat):Prop:=
 ∃(xs:List Value) (cB:List (List Nat)),k9 w lo e k v l.length xs∧cB.length=l.length∧(∀i x f,l[i]? =some x→cB[i]? =some f→E w ((xs.drop (i*k)).take k) x f)∧
  fp=v.ownBlock.toList++cB.flatten∧Own lo w fp
theorem mo.own{α:Type}{k:Nat}{E:ER α}{lo e:Nat}{w:World}{v:Value}{l:List α}{fp:List Nat}(h:mo k E lo e w v l fp):Own lo w fp:=by
 obtain⟨xs,cB,_,_,_,_,h⟩:=h;exact h
theorem mo.nil{α:Type}(k:Nat)(E:ER α)(lo e:Nat)(w:World):mo k E lo e w (.slice none 0 0) ([]:List α) []:=
 ⟨[],[],k9.nil w lo e k,rfl,fun i x f h=>by simp at h,rfl,Own.nil lo w⟩
theorem mo.sl{α:Type}{k:Nat}{E:ER α}{lo e:Nat}{w:World}{v:Value}{l:List α}{fp:List Nat}(h:mo k E lo e w v l fp):Sl k E w v l fp:=by
 obtain⟨xs,cB,hown,hf,he,rfl,ho⟩:=h
 have hlt:=hown.lt
 rcases hown.2 with⟨rfl,h0⟩| ⟨g,o,cap,cur,rfl,hbg,hg,hnc,hcm,hcs,GM⟩
 ·have hl:l= []:=bN h0
  subst hl
  have:cB= []:=bN (by simpa using hf)
  subst this
  exact⟨none,0,rfl,aZ _,Nat.zero_le _,bI ⟨rfl,rfl,rfl⟩⟩
 ·refine⟨some ⟨g,o,none⟩,cap,rfl,hnc,hcm,bn ⟨g,o,cB,rfl,⟨cur,e,(0,0),hg,hcs⟩,rfl,qI hf (fun j u hu=> ?_) he⟩⟩
  exact zm hg j u (by rw[GM];exact hu)
theorem mo.agree{α:Type}{k:Nat}{E:ER α}(G:j0 k E){lo e:Nat}{w w':World}{v:Value}{l:List α}{fp:List Nat}(h:mo k E lo e w v l fp)(ha:Agree w w' fp):mo k E lo e w' v l fp:=by
 obtain⟨xs,cB,hown,hf,he,rfl,ho⟩:=h
 refine⟨xs,cB,⟨hown.1,?_⟩,hf,fun i x f hx Ut=>G.agree (he i x f hx Ut) (ha.sub fun b hb=>aH _ (eo Ut hb)),rfl,ho.agree ha⟩
 rcases hown.2 with h| ⟨g,o,cap,cur,rfl,hbg,hg,r⟩
 ·exact bI h
 ·exact bn ⟨g,o,cap,cur,rfl,hbg,by rw[ha g (by simp[gS])];exact hg,r⟩
theorem mo.below{α:Type}{k:Nat}{E:ER α}(G:j0 k E){lo e:Nat}{w w':World}{v:Value}{l:List α}{fp:List Nat}(h:mo k E lo e w v l fp)(hb:Below w.heap.size w w'):mo k E lo e w' v l fp:=
 h.agree G (qc hb h.own.lt)
theorem mo.mono{α:Type}{k:Nat}{E:ER α}{lo lo' e:Nat}{w:World}{v:Value}{l:List α}{fp:List Nat}(h:mo k E lo e w v l fp)(hl:lo'≤lo):mo k E lo' e w v l fp:=by
 obtain⟨xs,cB,hown,hf,he,rfl,ho⟩:=h
 refine⟨xs,cB,⟨hown.1,?_⟩,hf,he,rfl,ho.mono hl⟩
 rcases hown.2 with h| ⟨g,o,cap,cur,rfl,hbg,r⟩
 ·exact bI h
 ·exact bn ⟨g,o,cap,cur,rfl,Nat.le_trans hl hbg,r⟩
theorem vE{α:Type}{k:Nat}{E:ER α}(G:j0 k E){w:World}{l:List α}{cB:List (List Nat)}{news:List Value}(hf:cB.length=l.length)(hl:news.length=l.length*k)(hk:0<k)
  (he: ∀i x f,l[i]? =some x→cB[i]? =some f→E w ((news.drop (i*k)).take k) x f): ∀u∈news,u.oneCell'=true:=by
 intro u hu
 obtain⟨j,hj⟩:=List.getElem?_of_mem hu
 have hjl:=(aI.1 hj).1
 have hi:j/k<l.length:=Nat.div_lt_of_lt_mul (by rw[nk];omega)
 obtain⟨f,Ut⟩:=kI hf (au hi)
 refine G.one (he _ _ f (au hi) Ut) u ?_
 have hdm:=Nat.div_add_mod j k
 have hml:=Nat.mod_lt j hk
 have hmc:=nk k (j/k)
 have:((news.drop (j/k*k)).take k)[j % k]? =some u:=by
  rw[cH,if_pos hml,cN, ←hj]
  congr 1
  omega
 exact List.mem_of_getElem? this
theorem Qi{a a' f g:List Nat}(ho:(a++f++g).Nodup)(h:a'=a∨(a'.length≤1∧ ∀b,b∈a'→b∉f++g)):(a'++f++g).Nodup:=by
 rcases h with rfl| ⟨h1,h2⟩
 ·exact ho
 ·rw[ct]at ho ⊢
  have hn:=(bf.1 ho).2.1
  match a',h1,h2 with
  | [],_,_=>simpa using hn
  | [x],_,h2=>exact cu.2 ⟨h2 x (by simp),hn⟩
theorem Gh{P:Program}{w:World}{o:Oper}{a:Act}{K:Act→World→Prop}{Q:Exit→Act→World→Prop}(s x:Operand)(t:TypeId)
  (ho:o.op= .call {callee:= .builtin .append,args:= #[s,x],argTypes:= #[t,t]})
  {α:Type}{k:Nat}{E:ER α}(G:j0 k E)(hk:0<k)(lo e:Nat)(z:Value)(bytes:Nat)(ht:P.underlying t=some (.slice e))
  (WW:(P.info? e).map (fun i=>(i.zero,i.size,i.bytes))=some (some z,k,bytes))(hzs:z.cells.size=k)
  (v:Value)(l:List α)(fp:List Nat)(hs:a.eval s=v)(hB:mo k E lo e w v l fp)
  (vx:Value)(hx:a.eval x=vx)(lx:List α)(news:List Value)(fx:List (List Nat))(hsrc:Src w vx lx.length news)(GN:fx.length=lx.length)(hl:news.length=lx.length*k)
  (hel: ∀i x f,lx[i]? =some x→fx[i]? =some f→E w ((news.drop (i*k)).take k) x f)(hown:Own lo w (fp++fx.flatten))
  (h63:l.length+lx.length≤maxLen)(hbytes:(l.length+lx.length)*bytes≤140737488355328)(hbase:lo≤w.heap.size)
  (h: ∀v' w' jD,mo k E lo e w' v' (l++lx) jD→w.grownBy w' v.ownBlock→Below lo w w'→(∀b,b∈jD→b∈fp∨b∈fx.flatten∨b=w.heap.size)→Shape w w'→(∀b,b∈fx.flatten→b∈jD)→K (a.put o.dst v') w'):o.wp P a w K Q:=by
 obtain⟨i,hi,hz,hsize,hby⟩:=info_parts WW
 obtain⟨xs,cB,hrow,hf,he,rfl,Uu⟩:=hB
 have h1:=vE G GN hl hk hel
 obtain⟨v',w',hr,h2,h3,h4,Lf⟩:=aby (P:=P) w lo t o.type e i z k bytes ht hi hz hsize hby hzs hk v l.length xs hrow vx lx.length news hl hsrc h1 h63 hbytes hbase
 unfold Oper.wp execOp
 simp only[ho,resolve,invoke,builtin,Sem.run_bind,Sem.run_pure,Result.andThen_ok,List.map_toArray,List.map_cons,List.map_nil,hs,hx,hr]
 have hlt: ∀b,b∈v.ownBlock.toList++cB.flatten++fx.flatten→b<w.heap.size:=hown.lt
 have hnd:=hown.nodup
 have GO: ∀b,v.ownBlock=some b→b∉cB.flatten++fx.flatten:=by
  intro b hb hm
  rw[ct,hb]at hnd
  exact(cu.1 hnd).1 hm
 have GP:Agree w w' (cB.flatten++fx.flatten):=fun b hb=>h3.block b (hlt b (by rw[ct];exact aH _ hb)) (fun e=>GO b e.symm hb)
 have hlo: ∀b,v.ownBlock=some b→lo≤b:=fun b hb=>(hrow.lt b hb).1
 have afU:Below lo w w':=⟨h3.os,h3.tape,h3.output,h3.size,fun b hb=>h3.block b (by omega) (fun e=>by have:=hlo b e.symm;omega)⟩
 have hlt2:=h2.lt
 have hxl:=hrow.1
 have aiI:Own lo w' (v'.ownBlock.toList++(cB++fx).flatten):=by
  rw[eW, ←ct]
  refine⟨Qi hnd ?_,?_,?_⟩
  ·rcases h4 with h4|h4
   ·exact bI (by rw[h4])
   ·refine bn ⟨by rw[h4];simp,?_⟩
    intro b hb hm
    rw[h4]at hb
    simp at hb
    subst hb
    have:=hlt w.heap.size (by rw[ct];exact aH _ hm)
    omega
  ·intro b hb
   rw[ct]at hb
   rcases aL.1 hb with hb|hb
   ·exact(hlt2 b (by simpa using hb)).1
   ·exact hown.ge b (by rw[ct];exact aH _ hb)
  ·intro b hb
   rw[ct]at hb
   rcases aL.1 hb with hb|hb
   ·rcases h2.2 with⟨rfl,_⟩| ⟨g,o,cap,cur,rfl,_,hg,_⟩
    ·simp[gS]at hb
    ·simp[gS]at hb
     subst hb
     exact⟨_,_,hg⟩
   ·rw[GP b hb]
    exact hown.kind b (by rw[ct];exact aH _ hb)
 refine h v' w' _ ⟨xs++news,cB++fx,by rw[aY];exact h2,by simp[hf,GN],fun j y f hy rj=> ?_,rfl,aiI⟩ h3 afU ?_ Lf fun b hb=>by rw[eW];exact aH _ (aH _ hb)
 ·by_cases hj:j<l.length
  ·rw[bT hj]at hy
   rw[bT (by omega)]at rj
   have:=he j y f hy rj
   have h5:j*k+k≤xs.length:=by
    rw[hxl]
    have:=bK k (show j+1≤l.length by omega)
    rw[cJ]at this;omega
   rw[iD (by omega),List.take_append_of_le_length (by rw[bW];omega)]
   exact G.agree this (GP.sub fun b hb=>aN _ (eo rj hb))
  ·rw[bU (by omega)]at hy
   rw[bU (by omega),hf]at rj
   have:=hel _ y f hy rj
   have h5:(xs++news).drop (j*k)=news.drop ((j-l.length)*k):=by
    rw[List.drop_append,List.drop_eq_nil_of_le (by rw[hxl];exact bK k (by omega)),List.nil_append,hxl,Nat.sub_mul]
   rw[h5]
   exact G.agree this (GP.sub fun b hb=>aH _ (eo rj hb))
 ·intro b hb
  rw[eW]at hb
  rcases aL.1 hb with hb|hb
  ·rcases h4 with h4|h4
   ·rw[h4]at hb
    exact bI (aN _ hb)
   ·rw[h4]at hb
    exact bn (bn (by simpa using hb))
  ·rcases aL.1 hb with hb|hb
   ·exact bI (aH _ hb)
   ·exact bn (bI hb)
end
section
theorem GR{B:Nat}{a w:World}(h:Below B a w){g:Nat}(hg:B≤g)(o:Nat)(vs:List Value):Below B a (w.setCells g o vs):=
 h.trans ⟨(lX g vs o w).1,(lX g vs o w).2.1,(lX g vs o w).2.2,by rw[Aq];exact aZ _,fun k hk=>dV g vs o w k (by omega)⟩
structure Part{α:Type}(k:Nat)(E:ER α)(lo e:Nat)(w:World)(g n:Nat)(l:List α)(cB:List (List Nat)):Prop where
 AH: ∃c,w.heap[g]? =some (.cells c e (0,0))∧c.size=n*k
 el:tJ k E w g 0 l cB
 own:Own lo w (g::cB.flatten)
 cap:n≤maxLen
theorem Part.there{α:Type}{k:Nat}{E:ER α}{lo e:Nat}{w:World}{g n:Nat}{l:List α}{cB:List (List Nat)}(h:Part k E lo e w g n l cB)(i:Nat)(hi:i<n):w.there g (i*k) k:=by
 obtain⟨c,hc,hs⟩:=h.AH
 intro j hj
 have h5:i*k+k≤n*k:=by
  have:=bK k (show i+1≤n by omega)
  rw[cJ]at this;omega
 refine⟨?_,?_⟩
 ·simp[rW,hc];omega
 ·simp[World.frozen?,hc]
theorem Part.agree{α:Type}{k:Nat}{E:ER α}(G:j0 k E){lo e:Nat}{w w':World}{g n:Nat}{l:List α}{cB:List (List Nat)}(h:Part k E lo e w g n l cB)(ha:Agree w w' (g::cB.flatten)):Part k E lo e w' g n l cB:=by
 have hg:=ha g (by simp)
 obtain⟨c,hc,hs⟩:=h.AH
 exact⟨⟨c,by rw[hg];exact hc,hs⟩,h.el.agree G hg (ha.sub fun b hb=>aK _ hb),h.own.agree ha,h.cap⟩
theorem Part.below{α:Type}{k:Nat}{E:ER α}(G:j0 k E){lo e:Nat}{w w':World}{g n:Nat}{l:List α}{cB:List (List Nat)}(h:Part k E lo e w g n l cB)(hb:Below w.heap.size w w'):Part k E lo e w' g n l cB:=
 h.agree G (qc hb h.own.lt)
theorem zT{α:Type}{l:List α}{x y:α}{i:Nat}(h:(l++ [x])[i]? =some y):(l[i]? =some y∧i<l.length)∨(i=l.length∧y=x):=by
 by_cases hi:i<l.length
 ·rw[bT hi]at h;exact bI ⟨h,hi⟩
 ·rw[bU (by omega)]at h
  have h2:i-l.length=0:=by have:=(aI.1 h).1;simp at this;omega
  rw[h2]at h
  exact bn ⟨by omega,by simpa using h.symm⟩
theorem Part.push{α:Type}{k:Nat}{E:ER α}(G:j0 k E){lo e:Nat}{w:World}{g n:Nat}{l:List α}{cB:List (List Nat)}(h:Part k E lo e w g n l cB)(hn:l.length<n)
  {cs:List Value}{x:α}{f:List Nat}(hE:E w cs x f)(ho:Own lo w f)(hd: ∀b,b∈f→b∉g::cB.flatten):
  Part k E lo e (w.setCells g (l.length*k) cs) g n (l++ [x]) (cB++ [f]):=by
 have hlen:=G.len hE
 obtain⟨c,hc,hs⟩:=h.AH
 obtain⟨c',M9,hs'⟩:=gf g e cs (l.length*k) w c hc
 have Sa:w.there g (l.length*k) cs.length:=by rw[hlen];exact h.there _ hn
 have GO: ∀b,b∈cB.flatten→b≠g:=fun b hb e=>by
  have:=h.own.nodup
  rw[cu]at this
  exact this.1 (e▸hb)
 have GP:Agree w (w.setCells g (l.length*k) cs) cB.flatten:=fun b hb=>dV g cs _ w b (GO b hb)
 have Uv:Agree w (w.setCells g (l.length*k) cs) f:=fun b hb=>dV g cs _ w b (fun e=>hd b hb (by simp[e]))
 refine⟨⟨c',M9,by rw[hs',hs]⟩,⟨by simp[h.el.1],fun i y fy hy rj=> ?_⟩,⟨?_,?_,?_⟩,h.cap⟩
 ·rcases zT hy with⟨hy,hi⟩| ⟨rfl,rfl⟩
  ·rw[bT (by have:=h.el.1;omega)]at rj
   obtain⟨cy,hr,Sb⟩:=h.el.2 i y fy hy rj
   refine⟨cy,World.rangeAt_setCells_apart hr _ _ _ (bn (bI ?_)),G.agree Sb (GP.sub fun b hb=>eo rj hb)⟩
   rw[G.len Sb]
   have:=bK k (show i+1≤l.length by omega)
   rw[cJ]at this;omega
  ·rw[bU (by have:=h.el.1;omega)]at rj
   have:l.length-cB.length=0:=by have:=h.el.1;omega
   rw[this]at rj
   simp at rj
   subst rj
   refine⟨cs,?_,G.agree hE Uv⟩
   rw[dZ]
   exact World.rangeAt_setCells_same w g _ cs Sa
 ·have h1:=h.own.nodup
  have h2:=ho.nodup
  rw[eW, ←iG]
  simp only[bQ,kK,cS]
  exact bf.2 ⟨h1,h2,fun a ha b hb e=>hd b hb (e▸ha)⟩
 ·intro b hb
  rw[eW, ←iG]at hb
  simp only[bQ,kK,cS]at hb
  rcases aL.1 hb with hb|hb
  ·exact h.own.ge b hb
  ·exact ho.ge b hb
 ·intro b hb
  rw[eW, ←iG]at hb
  simp only[bQ,kK,cS]at hb
  rcases aL.1 hb with hb|hb
  ·rcases List.mem_cons.1 hb with rfl|hb
   ·exact⟨_,_,M9⟩
   ·rw[GP b hb];exact h.own.kind b (aK _ hb)
  ·rw[Uv b hb];exact ho.kind b hb
end
end Go.Proofs.YtkcegdacbddipaaGreat.L
