/-
  Slices that a call builds by make and stores. Laws on the model's worlds; no program in sight.
-/
import Derived.ArgAppend
import Derived.Laws.AppendOwnNone
import Derived.Test.YtkcegdacbddipaaGreatM0
open Array renaming getElem?_eq_some_iff→cY,length_toList→gC
open Go.Builtin renaming append_→dG,firstCells→kr,lenOf→jf
open Go.Value renaming ownBlock→gH
open Go.World renaming cell?→qX,setCells→oZ
open List renaming append_assoc→b7,append_nil→cW,cons_append→gY,drop_append_of_le_length→gW,eq_nil_of_length_eq_zero→bR,flatten_append→eP,flatten_cons→bO,flatten_nil→jW,getElem?_append_left→bP,getElem?_append_right→bQ,getElem?_drop→cJ,getElem?_eq_getElem→au,getElem?_eq_some_iff→aI,getElem?_take→cE,length_append→aX,length_drop→bM,length_take→bL,mem_append→aK,mem_append_left→aM,mem_append_right→aH,mem_cons_of_mem→aJ,nodup_append→aY,nodup_cons→b9,size_toArray→iF
open Nat renaming add_mul→cG,le_refl→bh,mul_comm→mP,mul_le_mul_right→bI,zero_add→eE
open Or renaming inl→bG,inr→bg
namespace Go.Proofs.YtkcegdacbddipaaGreat.L
set_option linter.all false
open Go.RowKit
section
def Src(w:World)(x:Value)(m:Nat)(news:List Value):Prop:=
 (x= .slice none 0 0∧m=0∧news= [])∨ ∃a c,x= .slice (some a) m c∧ ∀j u,news[j]? =some u→w.cell? (a.add j)=some u
def Shape(w w':World):Prop:= ∀(b:Nat) (c:Array Value) (e:TypeId),w.heap[b]? =some (.cells c e (0,0))→ ∃c':Array Value,w'.heap[b]? =some (.cells c' e (0,0))∧c'.size=c.size
theorem dP(g:Nat): ∀(vs:List Value) (o:Nat) (w:World) (b:Nat),b≠g→(w.setCells g o vs).heap[b]? =w.heap[b]?
 | [],_,_,_,_=>rfl
 |v::r,o,w,b,h=>by rw[oZ,dP g r (o+1) _ b h];exact Below.heap_setCell _ _ _ _ h
theorem zE(g:Nat): ∀(vs:List Value) (o:Nat) (w:World),(w.setCells g o vs).heap.size=w.heap.size
 | [],_,_=>rfl
 |v::r,o,w=>by rw[oZ,zE g r (o+1)];simp[World.setCell]
theorem lu(g:Nat): ∀(vs:List Value) (o:Nat) (w:World),(w.setCells g o vs).os=w.os∧(w.setCells g o vs).tape=w.tape∧(w.setCells g o vs).output=w.output
 | [],_,_=>⟨rfl,rfl,rfl⟩
 |v::r,o,w=>by rw[oZ];exact lu g r (o+1) _
theorem fN(g e:Nat): ∀(vs:List Value) (o:Nat) (w:World) (c:Array Value),w.heap[g]? =some (.cells c e (0,0))→ ∃c',(w.setCells g o vs).heap[g]? =some (.cells c' e (0,0))∧c'.size=c.size
 | [],_,_,c,h=>⟨c,h,rfl⟩
 |v::r,o,w,c,h=>by
  obtain⟨c',h1,h2⟩:=fN g e r (o+1) (w.setCell ⟨g,o,none⟩ v) _ (heap_setCell_same w g o c e v h)
  exact⟨c',by rw[oZ];exact h1,by rw[h2];simp⟩
theorem Shape.refl(w:World):Shape w w:=fun _ c _ h=>⟨c,h,rfl⟩
theorem Shape.set(w:World)(g o:Nat)(vs:List Value):Shape w (w.setCells g o vs):=fun b c e h=>by
 by_cases hb:b=g
 ·subst hb;exact fN b e vs o w c h
 ·exact⟨c,by rw[dP g vs o w b hb];exact h,rfl⟩
theorem Shape.alloc(w:World)(o:Obj):Shape w (w.drew.alloc o):=fun b c e h=>by
 refine⟨c,?_,rfl⟩
 show(w.heap.push o)[b]? =_
 have hlt:=(cY.1 h).1
 rw[Array.getElem?_push_lt hlt, ←Array.getElem?_eq_getElem hlt]
 exact h
theorem Shape.row{w:World}{g:Nat}{c c':Array Value}{e:TypeId}(hg:w.heap[g]? =some (.cells c e (0,0)))(hs:c'.size=c.size):Shape w (w.setRow g c'):=fun b d e' h=>by
 by_cases hb:b=g
 ·subst hb
  rw[hg]at h
  simp only[oI,Obj.cells.injEq,and_true]at h
  obtain⟨rfl,rfl⟩:=h
  exact⟨c',setRow_heap w b c c' e (0,0) hg,hs⟩
 ·refine⟨d,?_,rfl⟩
  show(w.heap.modify g _)[b]? =_
  rw[Array.getElem?_modify,if_neg (Ne.symm hb)];exact h
theorem Fit.set{w:World}{b m:Nat}(h:Fit w b m){c:Array Value}{e:TypeId}(hb:w.heap[b]? =some (.cells c e (0,0)))(o:Nat)(vs:List Value):Fit (w.setCells b o vs) b m:=by
 obtain⟨c1,e1,fz,h1,h2⟩:=h
 rw[hb]at h1
 simp only[oI,Obj.cells.injEq]at h1
 obtain⟨rfl,rfl,rfl⟩:=h1
 obtain⟨c',h3,h4⟩:=fN b e vs o w c hb
 exact⟨c',e,(0,0),h3,by rw[h4];exact h2⟩
theorem Fit.other{w:World}{b m g:Nat}(h:Fit w b m)(hg:b≠g)(o:Nat)(vs:List Value):Fit (w.setCells g o vs) b m:=h.agree (dP g vs o w b hg)
def kq(w:World)(base:Nat)(e:TypeId)(k:Nat)(v:Value)(n:Nat)(xs:List Value):Prop:=
 xs.length=n*k∧((v= .slice none 0 0∧n=0)∨
  ∃g o cap cur,v= .slice (some ⟨g,o,none⟩) n cap∧base≤g∧w.heap[g]? =some (.cells cur e (0,0))∧n≤cap∧cap≤maxLen∧o+cap*k≤cur.size∧(cur.toList.drop o).take (n*k)=xs)
theorem kq.of{w:World}{base:Nat}{e:TypeId}{k:Nat}{v:Value}{n:Nat}{xs:List Value}(h:w.ownsRow base e k v n xs):kq w base e k v n xs:=by
 refine⟨h.1,?_⟩
 rcases h.2 with h| ⟨g,cap,cur,hv,hb,hg,h1,h2,h3,h4⟩
 ·exact bG h
 ·exact bg ⟨g,0,cap,cur,hv,hb,hg,h1,h2,by omega,h4⟩
theorem kq.nil(w:World)(base:Nat)(e:TypeId)(k:Nat):kq w base e k (.slice none 0 0) 0 []:=⟨by simp,bG ⟨rfl,rfl⟩⟩
theorem kq.lt{w:World}{base:Nat}{e:TypeId}{k:Nat}{v:Value}{n:Nat}{xs:List Value}(h:kq w base e k v n xs): ∀b,v.ownBlock=some b→base≤b∧b<w.heap.size:=by
 intro b hb
 rcases h.2 with⟨rfl,_⟩| ⟨g,o,cap,cur,rfl,Zn,hg,_⟩
 ·simp[gH]at hb
 ·simp[gH]at hb
  subst hb
  exact⟨Zn,(cY.1 hg).1⟩
theorem yB{w:World}{g o m:Nat}{e:TypeId}{fz:Nat×Nat}{cur:Array Value}(hg:w.heap[g]? =some (.cells cur e fz)): ∀(j:Nat) (u:Value),((cur.toList.drop o).take m)[j]? =some u→w.cell? ⟨g,o+j,none⟩=some u:=by
 intro j u hu
 rw[cE]at hu
 split at hu
 ·rw[cJ]at hu
  simp only[qX,hg]
  simpa using hu
 ·cases hu
theorem zR{P:Program}(w:World)(t ty e:TypeId)(i:TypeInfo)(ht:P.underlying t=some (.slice e))(hi:P.info? e=some i)
  (g o sLen sCap:Nat)(cur:Array Value)(hg:w.heap[g]? =some (.cells cur e (0,0)))
  (a:Addr)(m c:Nat)(news:List Value)(hl:news.length=m*i.size)(hnews: ∀j u,news[j]? =some u→w.cell? (a.add j)=some u)(h1: ∀u∈news,u.oneCell'=true)
  (hroom:sLen+m≤sCap)(hfit:o+sLen*i.size+news.length≤cur.size):
  (dG #[t,t] ty #[.slice (some ⟨g,o,none⟩) sLen sCap, .slice (some a) m c]).run P w=
   .ok (.slice (some ⟨g,o,none⟩) (sLen+m) sCap) (w.setRow g (cur.toList.take (o+sLen*i.size)++news++cur.toList.drop (o+sLen*i.size+news.length)).toArray):=by
 have hf:=run_firstCells_some (P:=P) w i.size m a m c news hl hnews
 have hst:=run_storeCells_at P g (o+sLen*i.size) e news 0 cur w hg (by simpa using hfit) h1
 simp only[Nat.add_zero]at hst
 simp[dG,run_underlying ht,sizeOf,typeInfo,hi,jf,hroom,hf,Addr.add_mid,hst]
theorem ZL{P:Program}(w:World)(base:Nat)(t ty e:TypeId)(i:TypeInfo)(z:Value)(size bytes:Nat)(ht:P.underlying t=some (.slice e))(hi:P.info? e=some i)(hz:i.zero=some z)
  (hsize:i.size=size)(hby:i.bytes=bytes)(hzs:z.cells.size=size)(hsz:0<size)
  (v:Value)(n:Nat)(xs:List Value)(hown:kq w base e size v n xs)
  (x:Value)(m:Nat)(news:List Value)(hl:news.length=m*size)(hx:Src w x m news)(h1: ∀u∈news,u.oneCell'=true)
  (h63:n+m≤maxLen)(hbytes:(n+m)*bytes≤140737488355328)(hbase:base≤w.heap.size):
  ∃v' w',(dG #[t,t] ty #[v,x]).run P w= .ok v' w'∧kq w' base e size v' (n+m) (xs++news)∧w.grownBy w' v.ownBlock∧
   (v'.ownBlock=v.ownBlock∨v'.ownBlock=some w.heap.size)∧Shape w w':=by
 rcases hown.2 with⟨rfl,rfl⟩| ⟨g,o,cap,cur,rfl,Zn,hg,hnc,hcm,hcs,FR⟩
 ·have hx0:xs= []:=bR (by simpa using hown.1)
  subst hx0
  rcases hx with⟨rfl,rfl,rfl⟩| ⟨a,c,rfl,hnews⟩
  ·refine⟨.slice none 0 0,w,?_,by simpa using hown,⟨rfl,rfl,rfl,bh _,fun _ _ _=>rfl⟩,bG rfl,Shape.refl _⟩
   simp[dG,run_underlying ht,sizeOf,typeInfo,hi,jf,kr,storeCells]
  ·subst hsize
   subst hby
   by_cases hm:m=0
   ·subst hm
    have hn:news= []:=bR (by simpa using hl)
    subst hn
    have Kc:(dG #[t,t] ty #[.slice none 0 0, .slice (some a) 0 c]).run P w= .ok (.slice none 0 0) w:=by
     simp[dG,run_underlying ht,sizeOf,typeInfo,hi,jf,kr,loadCells,loadCellsFrom]
    exact⟨_,_,Kc,by simpa using hown,⟨rfl,rfl,rfl,bh _,fun _ _ _=>rfl⟩,bG rfl,Shape.refl _⟩
   ·have Kc:=run_append_nil (P:=P) w t ty e i z ht hi hz a m c news hl hnews (by omega) (by simp only[maxLen]at h63;omega) (by have hb:=hbytes;simp only[eE]at hb;omega)
    obtain⟨v',w',hr,h2,h3,_⟩:=run_append_own (P:=P) w base t ty e i z i.size i.bytes ht hi hz rfl rfl hzs hsz (.slice none 0 0) 0 [] (World.ownsRow_nil w _ _ _) a m c news hl hnews h1 h63 hbytes hbase
    have e2:=Kc.symm.trans hr
    simp only[Result.ok.injEq]at e2
    refine⟨v',w',hr,kq.of h2,h3,bg ?_,?_⟩
    ·rw[←e2.1];rfl
    ·rw[←e2.2];exact Shape.alloc _ _
 ·have holds: ∀j u,xs[j]? =some u→w.cell? ((⟨g,o,none⟩:Addr).add j)=some u:=by
   intro j u hu
   rw[Addr.add_mid]
   exact yB hg j u (by rw[FR];exact hu)
  rcases hx with⟨rfl,rfl,rfl⟩| ⟨a,c,rfl,hnews⟩
  ·refine⟨.slice (some ⟨g,o,none⟩) n cap,w,?_,by simpa using hown,⟨rfl,rfl,rfl,bh _,fun _ _ _=>rfl⟩,bG rfl,Shape.refl _⟩
   simp[dG,run_underlying ht,sizeOf,typeInfo,hi,jf,kr,storeCells,hnc]
  ·by_cases hroom:n+m≤cap
   ·subst hsize
    subst hby
    have h5:(n+m)*i.size≤cap*i.size:=bI _ hroom
    have hfit:o+n*i.size+news.length≤cur.size:=by rw[hl];rw[cG]at h5;omega
    have Kc:=zR (P:=P) w t ty e i ht hi g o n cap cur hg a m c news hl hnews h1 hroom hfit
    have hxl:=hown.1
    have e1:(cur.toList.take (o+n*i.size)).drop o=xs:=by rw[List.drop_take,Nat.add_sub_cancel_left];exact FR
    have e2:(cur.toList.take (o+n*i.size)).length=o+n*i.size:=by rw[bL,gC];omega
    refine⟨_,_,Kc,⟨by rw[aX,hxl,hl,cG],bg ⟨g,o,cap,_,rfl,Zn,setRow_heap w g cur _ e _ hg,hroom,hcm,?_,?_⟩⟩,⟨rfl,rfl,rfl,by simp,fun k _ hk=>setRow_other w g k _ (fun e=>hk (by simp[gH,e]))⟩,bG rfl,Shape.row hg ?_⟩
    ·simp only[iF,aX,bL,bM,gC]
     omega
    ·rw[b7,gW (by omega),e1, ←b7]
     exact(congrArg (fun q=>List.take q _) (by rw[aX,hxl,hl,cG])).trans List.take_left
    ·simp only[iF,aX,bL,bM,gC]
     omega
   ·obtain⟨v',w',hr,h2,h3⟩:=run_append_arg_grows (P:=P) w t ty e i z size bytes ht hi hz hsize hby hzs hsz ⟨g,o,none⟩ n cap xs hown.1 holds a m c news hl hnews (by omega) h63 hbytes
    subst hsize
    subst hby
    have Kc:=run_append_grow (P:=P) w t ty e i z ht hi hz ⟨g,o,none⟩ n cap xs hown.1 holds a m c news hl hnews (by omega) (by simp only[maxLen]at h63;omega) (growslice_fits (by simp only[maxLen]at h63;omega) hbytes)
    have e2:=Kc.symm.trans hr
    simp only[Result.ok.injEq]at e2
    refine⟨v',w',hr,?_,⟨h3.os,h3.tape,h3.output,h3.size,fun k hk _=>h3.block k hk (by simp)⟩,bg ?_,?_⟩
    ·have h4:=kq.of h2
     refine⟨h4.1,?_⟩
     rcases h4.2 with h5| ⟨g',o',cap',cur',q1,q2,q3⟩
     ·exact bG h5
     ·exact bg ⟨g',o',cap',cur',q1,by omega,q3⟩
    ·rw[←e2.1];rfl
    ·rw[←e2.2];exact Shape.alloc _ _
def lP{α:Type}(k:Nat)(E:ER α)(lo e:Nat)(w:World)(v:Value)(l:List α)(fp:List Nat):Prop:=
 ∃(xs:List Value) (cu:List (List Nat)),kq w lo e k v l.length xs∧cu.length=l.length∧(∀i x f,l[i]? =some x→cu[i]? =some f→E w ((xs.drop (i*k)).take k) x f)∧
  fp=v.ownBlock.toList++cu.flatten∧Own lo w fp
theorem lP.own{α:Type}{k:Nat}{E:ER α}{lo e:Nat}{w:World}{v:Value}{l:List α}{fp:List Nat}(h:lP k E lo e w v l fp):Own lo w fp:=by
 obtain⟨xs,cu,_,_,_,_,h⟩:=h;exact h
theorem lP.nil{α:Type}(k:Nat)(E:ER α)(lo e:Nat)(w:World):lP k E lo e w (.slice none 0 0) ([]:List α) []:=
 ⟨[],[],kq.nil w lo e k,rfl,fun i x f h=>by simp at h,rfl,Own.nil lo w⟩
theorem lP.sl{α:Type}{k:Nat}{E:ER α}{lo e:Nat}{w:World}{v:Value}{l:List α}{fp:List Nat}(h:lP k E lo e w v l fp):Sl k E w v l fp:=by
 obtain⟨xs,cu,hown,hf,he,rfl,ho⟩:=h
 have hlt:=hown.lt
 rcases hown.2 with⟨rfl,h0⟩| ⟨g,o,cap,cur,rfl,Zn,hg,hnc,hcm,hcs,FR⟩
 ·have hl:l= []:=bR h0
  subst hl
  have:cu= []:=bR (by simpa using hf)
  subst this
  exact⟨none,0,rfl,bh _,Nat.zero_le _,bG ⟨rfl,rfl,rfl⟩⟩
 ·refine⟨some ⟨g,o,none⟩,cap,rfl,hnc,hcm,bg ⟨g,o,cu,rfl,⟨cur,e,(0,0),hg,hcs⟩,rfl,qh hf (fun j u hu=> ?_) he⟩⟩
  exact yB hg j u (by rw[FR];exact hu)
theorem lP.agree{α:Type}{k:Nat}{E:ER α}(G:jA k E){lo e:Nat}{w w':World}{v:Value}{l:List α}{fp:List Nat}(h:lP k E lo e w v l fp)(ha:Agree w w' fp):lP k E lo e w' v l fp:=by
 obtain⟨xs,cu,hown,hf,he,rfl,ho⟩:=h
 refine⟨xs,cu,⟨hown.1,?_⟩,hf,fun i x f hx S4=>G.agree (he i x f hx S4) (ha.sub fun b hb=>aH _ (dU S4 hb)),rfl,ho.agree ha⟩
 rcases hown.2 with h| ⟨g,o,cap,cur,rfl,Zn,hg,r⟩
 ·exact bG h
 ·exact bg ⟨g,o,cap,cur,rfl,Zn,by rw[ha g (by simp[gH])];exact hg,r⟩
theorem lP.below{α:Type}{k:Nat}{E:ER α}(G:jA k E){lo e:Nat}{w w':World}{v:Value}{l:List α}{fp:List Nat}(h:lP k E lo e w v l fp)(hb:Below w.heap.size w w'):lP k E lo e w' v l fp:=
 h.agree G (pF hb h.own.lt)
theorem lP.mono{α:Type}{k:Nat}{E:ER α}{lo lo' e:Nat}{w:World}{v:Value}{l:List α}{fp:List Nat}(h:lP k E lo e w v l fp)(hl:lo'≤lo):lP k E lo' e w v l fp:=by
 obtain⟨xs,cu,hown,hf,he,rfl,ho⟩:=h
 refine⟨xs,cu,⟨hown.1,?_⟩,hf,he,rfl,ho.mono hl⟩
 rcases hown.2 with h| ⟨g,o,cap,cur,rfl,Zn,r⟩
 ·exact bG h
 ·exact bg ⟨g,o,cap,cur,rfl,Nat.le_trans hl Zn,r⟩
theorem uR{α:Type}{k:Nat}{E:ER α}(G:jA k E){w:World}{l:List α}{cu:List (List Nat)}{news:List Value}(hf:cu.length=l.length)(hl:news.length=l.length*k)(hk:0<k)
  (he: ∀i x f,l[i]? =some x→cu[i]? =some f→E w ((news.drop (i*k)).take k) x f): ∀u∈news,u.oneCell'=true:=by
 intro u hu
 obtain⟨j,hj⟩:=List.getElem?_of_mem hu
 have hjl:=(aI.1 hj).1
 have hi:j/k<l.length:=Nat.div_lt_of_lt_mul (by rw[mP];omega)
 obtain⟨f,S4⟩:=kG hf (au hi)
 refine G.one (he _ _ f (au hi) S4) u ?_
 have hdm:=Nat.div_add_mod j k
 have hml:=Nat.mod_lt j hk
 have hmc:=mP k (j/k)
 have:((news.drop (j/k*k)).take k)[j % k]? =some u:=by
  rw[cE,if_pos hml,cJ, ←hj]
  congr 1
  omega
 exact List.mem_of_getElem? this
theorem O2{a a' f g:List Nat}(ho:(a++f++g).Nodup)(h:a'=a∨(a'.length≤1∧ ∀b,b∈a'→b∉f++g)):(a'++f++g).Nodup:=by
 rcases h with rfl| ⟨h1,h2⟩
 ·exact ho
 ·rw[b7]at ho ⊢
  have hn:=(aY.1 ho).2.1
  match a',h1,h2 with
  | [],_,_=>simpa using hn
  | [x],_,h2=>exact b9.2 ⟨h2 x (by simp),hn⟩
theorem Fh{P:Program}{w:World}{o:Oper}{a:Act}{K:Act→World→Prop}{Q:Exit→Act→World→Prop}(s x:Operand)(t:TypeId)
  (ho:o.op= .call {callee:= .builtin .append,args:= #[s,x],argTypes:= #[t,t]})
  {α:Type}{k:Nat}{E:ER α}(G:jA k E)(hk:0<k)(lo e:Nat)(z:Value)(bytes:Nat)(ht:P.underlying t=some (.slice e))
  (Vi:(P.info? e).map (fun i=>(i.zero,i.size,i.bytes))=some (some z,k,bytes))(hzs:z.cells.size=k)
  (v:Value)(l:List α)(fp:List Nat)(hs:a.eval s=v)(hB:lP k E lo e w v l fp)
  (vx:Value)(hx:a.eval x=vx)(lx:List α)(news:List Value)(fx:List (List Nat))(hsrc:Src w vx lx.length news)(FT:fx.length=lx.length)(hl:news.length=lx.length*k)
  (hel: ∀i x f,lx[i]? =some x→fx[i]? =some f→E w ((news.drop (i*k)).take k) x f)(hown:Own lo w (fp++fx.flatten))
  (h63:l.length+lx.length≤maxLen)(hbytes:(l.length+lx.length)*bytes≤140737488355328)(hbase:lo≤w.heap.size)
  (h: ∀v' w' je,lP k E lo e w' v' (l++lx) je→w.grownBy w' v.ownBlock→Below lo w w'→(∀b,b∈je→b∈fp∨b∈fx.flatten∨b=w.heap.size)→Shape w w'→(∀b,b∈fx.flatten→b∈je)→K (a.put o.dst v') w'):o.wp P a w K Q:=by
 obtain⟨i,hi,hz,hsize,hby⟩:=info_parts Vi
 obtain⟨xs,cu,hrow,hf,he,rfl,S5⟩:=hB
 have h1:=uR G FT hl hk hel
 obtain⟨v',w',hr,h2,h3,h4,Ke⟩:=ZL (P:=P) w lo t o.type e i z k bytes ht hi hz hsize hby hzs hk v l.length xs hrow vx lx.length news hl hsrc h1 h63 hbytes hbase
 unfold Oper.wp execOp
 simp only[ho,resolve,invoke,builtin,Sem.run_bind,Sem.run_pure,Result.andThen_ok,List.map_toArray,List.map_cons,List.map_nil,hs,hx,hr]
 have hlt: ∀b,b∈v.ownBlock.toList++cu.flatten++fx.flatten→b<w.heap.size:=hown.lt
 have hnd:=hown.nodup
 have FU: ∀b,v.ownBlock=some b→b∉cu.flatten++fx.flatten:=by
  intro b hb hm
  rw[b7,hb]at hnd
  exact(b9.1 hnd).1 hm
 have FV:Agree w w' (cu.flatten++fx.flatten):=fun b hb=>h3.block b (hlt b (by rw[b7];exact aH _ hb)) (fun e=>FU b e.symm hb)
 have hlo: ∀b,v.ownBlock=some b→lo≤b:=fun b hb=>(hrow.lt b hb).1
 have adv:Below lo w w':=⟨h3.os,h3.tape,h3.output,h3.size,fun b hb=>h3.block b (by omega) (fun e=>by have:=hlo b e.symm;omega)⟩
 have hlt2:=h2.lt
 have hxl:=hrow.1
 have af5:Own lo w' (v'.ownBlock.toList++(cu++fx).flatten):=by
  rw[eP, ←b7]
  refine⟨O2 hnd ?_,?_,?_⟩
  ·rcases h4 with h4|h4
   ·exact bG (by rw[h4])
   ·refine bg ⟨by rw[h4];simp,?_⟩
    intro b hb hm
    rw[h4]at hb
    simp at hb
    subst hb
    have:=hlt w.heap.size (by rw[b7];exact aH _ hm)
    omega
  ·intro b hb
   rw[b7]at hb
   rcases aK.1 hb with hb|hb
   ·exact(hlt2 b (by simpa using hb)).1
   ·exact hown.ge b (by rw[b7];exact aH _ hb)
  ·intro b hb
   rw[b7]at hb
   rcases aK.1 hb with hb|hb
   ·rcases h2.2 with⟨rfl,_⟩| ⟨g,o,cap,cur,rfl,_,hg,_⟩
    ·simp[gH]at hb
    ·simp[gH]at hb
     subst hb
     exact⟨_,_,hg⟩
   ·rw[FV b hb]
    exact hown.kind b (by rw[b7];exact aH _ hb)
 refine h v' w' _ ⟨xs++news,cu++fx,by rw[aX];exact h2,by simp[hf,FT],fun j y f hy qA=> ?_,rfl,af5⟩ h3 adv ?_ Ke fun b hb=>by rw[eP];exact aH _ (aH _ hb)
 ·by_cases hj:j<l.length
  ·rw[bP hj]at hy
   rw[bP (by omega)]at qA
   have:=he j y f hy qA
   have h5:j*k+k≤xs.length:=by
    rw[hxl]
    have:=bI k (show j+1≤l.length by omega)
    rw[cG]at this;omega
   rw[gW (by omega),List.take_append_of_le_length (by rw[bM];omega)]
   exact G.agree this (FV.sub fun b hb=>aM _ (dU qA hb))
  ·rw[bQ (by omega)]at hy
   rw[bQ (by omega),hf]at qA
   have:=hel _ y f hy qA
   have h5:(xs++news).drop (j*k)=news.drop ((j-l.length)*k):=by
    rw[List.drop_append,List.drop_eq_nil_of_le (by rw[hxl];exact bI k (by omega)),List.nil_append,hxl,Nat.sub_mul]
   rw[h5]
   exact G.agree this (FV.sub fun b hb=>aH _ (dU qA hb))
 ·intro b hb
  rw[eP]at hb
  rcases aK.1 hb with hb|hb
  ·rcases h4 with h4|h4
   ·rw[h4]at hb
    exact bG (aM _ hb)
   ·rw[h4]at hb
    exact bg (bg (by simpa using hb))
  ·rcases aK.1 hb with hb|hb
   ·exact bG (aH _ hb)
   ·exact bg (bG hb)
end
section
theorem FX{B:Nat}{a w:World}(h:Below B a w){g:Nat}(hg:B≤g)(o:Nat)(vs:List Value):Below B a (w.setCells g o vs):=
 h.trans ⟨(lu g vs o w).1,(lu g vs o w).2.1,(lu g vs o w).2.2,by rw[zE];exact bh _,fun k hk=>dP g vs o w k (by omega)⟩
structure Part{α:Type}(k:Nat)(E:ER α)(lo e:Nat)(w:World)(g n:Nat)(l:List α)(cu:List (List Nat)):Prop where
 zS: ∃c,w.heap[g]? =some (.cells c e (0,0))∧c.size=n*k
 el:sM k E w g 0 l cu
 own:Own lo w (g::cu.flatten)
 cap:n≤maxLen
theorem Part.there{α:Type}{k:Nat}{E:ER α}{lo e:Nat}{w:World}{g n:Nat}{l:List α}{cu:List (List Nat)}(h:Part k E lo e w g n l cu)(i:Nat)(hi:i<n):w.there g (i*k) k:=by
 obtain⟨c,hc,hs⟩:=h.zS
 intro j hj
 have h5:i*k+k≤n*k:=by
  have:=bI k (show i+1≤n by omega)
  rw[cG]at this;omega
 refine⟨?_,?_⟩
 ·simp[qX,hc];omega
 ·simp[World.frozen?,hc]
theorem Part.agree{α:Type}{k:Nat}{E:ER α}(G:jA k E){lo e:Nat}{w w':World}{g n:Nat}{l:List α}{cu:List (List Nat)}(h:Part k E lo e w g n l cu)(ha:Agree w w' (g::cu.flatten)):Part k E lo e w' g n l cu:=by
 have hg:=ha g (by simp)
 obtain⟨c,hc,hs⟩:=h.zS
 exact⟨⟨c,by rw[hg];exact hc,hs⟩,h.el.agree G hg (ha.sub fun b hb=>aJ _ hb),h.own.agree ha,h.cap⟩
theorem Part.below{α:Type}{k:Nat}{E:ER α}(G:jA k E){lo e:Nat}{w w':World}{g n:Nat}{l:List α}{cu:List (List Nat)}(h:Part k E lo e w g n l cu)(hb:Below w.heap.size w w'):Part k E lo e w' g n l cu:=
 h.agree G (pF hb h.own.lt)
theorem ze{α:Type}{l:List α}{x y:α}{i:Nat}(h:(l++ [x])[i]? =some y):(l[i]? =some y∧i<l.length)∨(i=l.length∧y=x):=by
 by_cases hi:i<l.length
 ·rw[bP hi]at h;exact bG ⟨h,hi⟩
 ·rw[bQ (by omega)]at h
  have h2:i-l.length=0:=by have:=(aI.1 h).1;simp at this;omega
  rw[h2]at h
  exact bg ⟨by omega,by simpa using h.symm⟩
theorem Part.push{α:Type}{k:Nat}{E:ER α}(G:jA k E){lo e:Nat}{w:World}{g n:Nat}{l:List α}{cu:List (List Nat)}(h:Part k E lo e w g n l cu)(hn:l.length<n)
  {cs:List Value}{x:α}{f:List Nat}(hE:E w cs x f)(ho:Own lo w f)(hd: ∀b,b∈f→b∉g::cu.flatten):
  Part k E lo e (w.setCells g (l.length*k) cs) g n (l++ [x]) (cu++ [f]):=by
 have hlen:=G.len hE
 obtain⟨c,hc,hs⟩:=h.zS
 obtain⟨c',L2,hs'⟩:=fN g e cs (l.length*k) w c hc
 have QN:w.there g (l.length*k) cs.length:=by rw[hlen];exact h.there _ hn
 have FU: ∀b,b∈cu.flatten→b≠g:=fun b hb e=>by
  have:=h.own.nodup
  rw[b9]at this
  exact this.1 (e▸hb)
 have FV:Agree w (w.setCells g (l.length*k) cs) cu.flatten:=fun b hb=>dP g cs _ w b (FU b hb)
 have S6:Agree w (w.setCells g (l.length*k) cs) f:=fun b hb=>dP g cs _ w b (fun e=>hd b hb (by simp[e]))
 refine⟨⟨c',L2,by rw[hs',hs]⟩,⟨by simp[h.el.1],fun i y fy hy qA=> ?_⟩,⟨?_,?_,?_⟩,h.cap⟩
 ·rcases ze hy with⟨hy,hi⟩| ⟨rfl,rfl⟩
  ·rw[bP (by have:=h.el.1;omega)]at qA
   obtain⟨cy,hr,QO⟩:=h.el.2 i y fy hy qA
   refine⟨cy,World.rangeAt_setCells_apart hr _ _ _ (bg (bG ?_)),G.agree QO (FV.sub fun b hb=>dU qA hb)⟩
   rw[G.len QO]
   have:=bI k (show i+1≤l.length by omega)
   rw[cG]at this;omega
  ·rw[bQ (by have:=h.el.1;omega)]at qA
   have:l.length-cu.length=0:=by have:=h.el.1;omega
   rw[this]at qA
   simp at qA
   subst qA
   refine⟨cs,?_,G.agree hE S6⟩
   rw[eE]
   exact World.rangeAt_setCells_same w g _ cs QN
 ·have h1:=h.own.nodup
  have h2:=ho.nodup
  rw[eP, ←gY]
  simp only[bO,jW,cW]
  exact aY.2 ⟨h1,h2,fun a ha b hb e=>hd b hb (e▸ha)⟩
 ·intro b hb
  rw[eP, ←gY]at hb
  simp only[bO,jW,cW]at hb
  rcases aK.1 hb with hb|hb
  ·exact h.own.ge b hb
  ·exact ho.ge b hb
 ·intro b hb
  rw[eP, ←gY]at hb
  simp only[bO,jW,cW]at hb
  rcases aK.1 hb with hb|hb
  ·rcases List.mem_cons.1 hb with rfl|hb
   ·exact⟨_,_,L2⟩
   ·rw[FV b hb];exact h.own.kind b (aJ _ hb)
  ·rw[S6 b hb];exact ho.kind b hb
end
end Go.Proofs.YtkcegdacbddipaaGreat.L
