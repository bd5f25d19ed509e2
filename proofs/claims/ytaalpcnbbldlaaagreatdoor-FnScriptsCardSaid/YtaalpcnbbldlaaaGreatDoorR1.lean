/- Steps. -/
import Derived.ArgAppend
import Derived.Laws.AppendOwnNone
import Derived.Test.YtaalpcnbbldlaaaGreatDoorR0
open Array renaming getElem?_eq_some_iff→dZ,length_toList→nu
open Go.Builtin renaming append_→hY,firstCells→ou,lenOf→nr
open Go.Value renaming ownBlock→k9
open Go.World renaming cell?→tU,setCells→uG
open List renaming append_assoc→bU,append_nil→cW,cons_append→fE,drop_append_of_le_length→kK,eq_nil_of_length_eq_zero→ck,flatten_append→jc,flatten_cons→dM,flatten_nil→vN,getElem?_append_left→dQ,getElem?_append_right→dm,getElem?_drop→dc,getElem?_eq_getElem→az,getElem?_eq_some_iff→aU,getElem?_take→dH,length_append→aQ,length_drop→cV,length_take→ct,mem_append→bg,mem_append_left→bl,mem_append_right→aW,mem_cons_of_mem→aE,mem_singleton→aV,nodup_append→bM,nodup_cons→dx,size_toArray→mR
open Nat renaming add_mul→cM,le_refl→aS,mul_comm→kg,mul_le_mul_right→cG,zero_add→dB,zero_le→aY
open Or renaming inl→bP,inr→bw
namespace Go.Proofs.YtaalpcnbbldlaaaGreatDoor.L
set_option linter.all false
open Go.RowKit
section
variable{w:World}{g m k lo:Nat}{e:TypeId}{v:Value}{P:Program}{α:Type}{fp:List Nat}
def Src(w:World)(x:Value)(m:Nat)(news:List Value):Prop:=
 (x= .slice none 0 0∧m=0∧news= [])∨ ∃a c,x= .slice (some a) m c∧ ∀j u,news[j]? =some u→w.cell? (a.add j)=some u
def Shape(w w':World):Prop:= ∀(b:Nat) (c:Array Value) (e:TypeId),w.heap[b]? =some (.cells c e (0,0))→ ∃c':Array Value,w'.heap[b]? =some (.cells c' e (0,0))∧c'.size=c.size
theorem gh(g:Nat): ∀(vs:List Value) (o:Nat) (w:World) (b:Nat),b≠g→(w.setCells g o vs).heap[b]? =w.heap[b]?
 | [],_,_,_,_=>rfl
 |v::r,o,w,b,h=>by rw[uG,gh g r (o+1) _ b h];exact Below.heap_setCell _ _ _ _ h
theorem Gc(g:Nat): ∀(vs:List Value) (o:Nat) (w:World),(w.setCells g o vs).heap.size=w.heap.size
 | [],_,_=>rfl
 |v::r,o,w=>by rw[uG,Gc g r (o+1)];simp[World.setCell]
theorem pN(g:Nat): ∀(vs:List Value) (o:Nat) (w:World),(w.setCells g o vs).os=w.os∧(w.setCells g o vs).tape=w.tape∧(w.setCells g o vs).output=w.output
 | [],_,_=>⟨rfl,rfl,rfl⟩
 |v::r,o,w=>by rw[uG];exact pN g r (o+1) _
theorem j0(g e:Nat): ∀(vs:List Value) (o:Nat) (w:World) (c:Array Value),w.heap[g]? =some (.cells c e (0,0))→ ∃c',(w.setCells g o vs).heap[g]? =some (.cells c' e (0,0))∧c'.size=c.size
 | [],_,_,c,h=>⟨c,h,rfl⟩
 |v::r,o,w,c,h=>by
  obtain⟨c',h1,h2⟩:=j0 g e r (o+1) (w.setCell ⟨g,o,none⟩ v) _ (heap_setCell_same w g o c e v h);exact⟨c',by rw[uG];exact h1,by rw[h2];simp⟩
theorem Shape.refl(w:World):Shape w w:=fun _ c _ h=>⟨c,h,rfl⟩
theorem Shape.set(w:World)(g o:Nat)(vs:List Value):Shape w (w.setCells g o vs):=fun b c e h=>by
 by_cases hb:b=g
 ·subst hb;exact j0 b e vs o w c h
 ·exact⟨c,by rw[gh g vs o w b hb];exact h,rfl⟩
theorem Shape.alloc(w:World)(o:Obj):Shape w (w.drew.alloc o):=fun b c e h=>by
 refine⟨c,?_,rfl⟩;show(w.heap.push o)[b]? =_
 have hlt:=(dZ.1 h).1;rw[Array.getElem?_push_lt hlt, ←Array.getElem?_eq_getElem hlt];exact h
theorem Shape.row{c c':Array Value}(hg:w.heap[g]? =some (.cells c e (0,0)))(hs:c'.size=c.size):Shape w (w.setRow g c'):=fun b d e' h=>by
 by_cases hb:b=g
 ·subst hb;rw[hg]at h;simp only[oI,Obj.cells.injEq,and_true]at h;obtain⟨rfl,rfl⟩:=h;exact⟨c',setRow_heap w b c c' e (0,0) hg,hs⟩
 ·refine⟨d,?_,rfl⟩;show(w.heap.modify g _)[b]? =_
  rw[Array.getElem?_modify,if_neg (Ne.symm hb)];exact h
theorem Fit.set{b:Nat}(h:Fit w b m){c:Array Value}(hb:w.heap[b]? =some (.cells c e (0,0)))(o:Nat)(vs:List Value):Fit (w.setCells b o vs) b m:=by
 obtain⟨c1,e1,fz,h1,h2⟩:=h;rw[hb]at h1;simp only[oI,Obj.cells.injEq]at h1;obtain⟨rfl,rfl,rfl⟩:=h1;obtain⟨c',h3,h4⟩:=j0 b e vs o w c hb;exact⟨c',e,(0,0),h3,by rw[h4];exact h2⟩
theorem Fit.other{b:Nat}(h:Fit w b m)(hg:b≠g)(o:Nat)(vs:List Value):Fit (w.setCells g o vs) b m:=h.agree (gh g vs o w b hg)
def ot(w:World)(base:Nat)(e:TypeId)(k:Nat)(v:Value)(n:Nat)(xs:List Value):Prop:=
 xs.length=n*k∧((v= .slice none 0 0∧n=0)∨
  ∃g o cap cur,v= .slice (some ⟨g,o,none⟩) n cap∧base≤g∧w.heap[g]? =some (.cells cur e (0,0))∧n≤cap∧cap≤maxLen∧o+cap*k≤cur.size∧(cur.toList.drop o).take (n*k)=xs)
theorem ot.of{base:Nat}{n:Nat}{xs:List Value}(h:w.ownsRow base e k v n xs):ot w base e k v n xs:=by
 refine⟨h.1,?_⟩;rcases h.2 with h| ⟨g,cap,cur,hv,hb,hg,h1,h2,h3,h4⟩
 ·exact bP h
 ·exact bw ⟨g,0,cap,cur,hv,hb,hg,h1,h2,aJ,h4⟩
theorem ot.nil(w:World)(base:Nat)(e:TypeId)(k:Nat):ot w base e k (.slice none 0 0) 0 []:=⟨by simp,bP ⟨rfl,rfl⟩⟩
theorem ot.lt{base:Nat}{n:Nat}{xs:List Value}(h:ot w base e k v n xs): ∀b,v.ownBlock=some b→base≤b∧b<w.heap.size:=by
 intro b hb;rcases h.2 with⟨rfl,_⟩| ⟨g,o,cap,cur,rfl,hbg,hg,_⟩
 ·simp[k9]at hb
 ·simp[k9]at hb;subst hb;exact⟨hbg,(dZ.1 hg).1⟩
theorem Kt{o:Nat}{fz:Nat×Nat}{cur:Array Value}(hg:w.heap[g]? =some (.cells cur e fz)): ∀(j:Nat) (u:Value),((cur.toList.drop o).take m)[j]? =some u→w.cell? ⟨g,o+j,none⟩=some u:=by
 intro j u hu;rw[dH]at hu;split at hu
 ·rw[dc]at hu;simp only[tU,hg];simpa using hu
 ·cases hu
theorem GF(w:World)(t ty e:TypeId)(i:TypeInfo)(ht:P.underlying t=some (.slice e))(hi:P.info? e=some i)
  (g o sLen sCap:Nat)(cur:Array Value)(hg:w.heap[g]? =some (.cells cur e (0,0)))
  (a:Addr)(m c:Nat)(news:List Value)(hl:news.length=m*i.size)(hnews: ∀j u,news[j]? =some u→w.cell? (a.add j)=some u)(h1: ∀u∈news,u.oneCell'=true)
  (hroom:sLen+m≤sCap)(hfit:o+sLen*i.size+news.length≤cur.size):
  (hY #[t,t] ty #[.slice (some ⟨g,o,none⟩) sLen sCap, .slice (some a) m c]).run P w=
   .ok (.slice (some ⟨g,o,none⟩) (sLen+m) sCap) (w.setRow g (cur.toList.take (o+sLen*i.size)++news++cur.toList.drop (o+sLen*i.size+news.length)).toArray):=by
 have hf:=run_firstCells_some (P:=P) w i.size m a m c news hl hnews;have hst:=run_storeCells_at P g (o+sLen*i.size) e news 0 cur w hg (by simpa using hfit) h1;simp only[Nat.add_zero]at hst;simp[hY,run_underlying ht,sizeOf,typeInfo,hi,nr,hroom,hf,Addr.add_mid,hst]
theorem arn(w:World)(base:Nat)(t ty e:TypeId)(i:TypeInfo)(z:Value)(size bytes:Nat)(ht:P.underlying t=some (.slice e))(hi:P.info? e=some i)(hz:i.zero=some z)
  (hsize:i.size=size)(hby:i.bytes=bytes)(hzs:z.cells.size=size)(hsz:0<size)
  (v:Value)(n:Nat)(xs:List Value)(hown:ot w base e size v n xs)
  (x:Value)(m:Nat)(news:List Value)(hl:news.length=m*size)(hx:Src w x m news)(h1: ∀u∈news,u.oneCell'=true)
  (h63:n+m≤maxLen)(hbytes:(n+m)*bytes≤140737488355328)(hbase:base≤w.heap.size):
  ∃v' w',(hY #[t,t] ty #[v,x]).run P w= .ok v' w'∧ot w' base e size v' (n+m) (xs++news)∧w.grownBy w' v.ownBlock∧
   (v'.ownBlock=v.ownBlock∨v'.ownBlock=some w.heap.size)∧Shape w w':=by
 rcases hown.2 with⟨rfl,rfl⟩| ⟨g,o,cap,cur,rfl,hbg,hg,hnc,hcm,hcs,Mk⟩
 ·have hx0:xs= []:=ck (by simpa using hown.1);subst hx0;rcases hx with⟨rfl,rfl,rfl⟩| ⟨a,c,rfl,hnews⟩
  ·refine⟨.slice none 0 0,w,?_,by simpa using hown,⟨rfl,rfl,rfl,aS _,fun _ _ _=>rfl⟩,bP rfl,Shape.refl _⟩;simp[hY,run_underlying ht,sizeOf,typeInfo,hi,nr,ou,storeCells]
  ·subst hsize;subst hby;by_cases hm:m=0
   ·subst hm;have hn:news= []:=ck ag8;subst hn;have hr2:(hY #[t,t] ty #[.slice none 0 0, .slice (some a) 0 c]).run P w= .ok (.slice none 0 0) w:=by
     simp[hY,run_underlying ht,sizeOf,typeInfo,hi,nr,ou,loadCells,loadCellsFrom]
    exact⟨_,_,hr2,by simpa using hown,⟨rfl,rfl,rfl,aS _,fun _ _ _=>rfl⟩,bP rfl,Shape.refl _⟩
   ·have hr2:=run_append_nil (P:=P) w t ty e i z ht hi hz a m c news hl hnews aJ axy (by have hb:=hbytes;simp only[dB]at hb;omega);obtain⟨v',w',hr,h2,h3,_⟩:=run_append_own (P:=P) w base t ty e i z i.size i.bytes ht hi hz rfl rfl hzs hsz (.slice none 0 0) 0 [] (World.ownsRow_nil w _ _ _) a m c news hl hnews h1 h63 hbytes hbase;have e2:=hr2.symm.trans hr;simp only[Result.ok.injEq]at e2;refine⟨v',w',hr,ot.of h2,h3,bw ?_,?_⟩
    ·rw[←e2.1];rfl
    ·rw[←e2.2];exact Shape.alloc _ _
 ·have holds: ∀j u,xs[j]? =some u→w.cell? ((⟨g,o,none⟩:Addr).add j)=some u:=by
   intro j u hu;rw[Addr.add_mid];exact Kt hg j u (by rw[Mk];exact hu)
  rcases hx with⟨rfl,rfl,rfl⟩| ⟨a,c,rfl,hnews⟩
  ·refine⟨.slice (some ⟨g,o,none⟩) n cap,w,?_,by simpa using hown,⟨rfl,rfl,rfl,aS _,fun _ _ _=>rfl⟩,bP rfl,Shape.refl _⟩;simp[hY,run_underlying ht,sizeOf,typeInfo,hi,nr,ou,storeCells,hnc]
  ·by_cases hroom:n+m≤cap
   ·subst hsize;subst hby;have h5:(n+m)*i.size≤cap*i.size:=cG _ hroom;have hfit:o+n*i.size+news.length≤cur.size:=by rw[hl];rw[cM]at h5;omega
    have hr2:=GF (P:=P) w t ty e i ht hi g o n cap cur hg a m c news hl hnews h1 hroom hfit;have hxl:=hown.1;have e1:(cur.toList.take (o+n*i.size)).drop o=xs:=by rw[List.drop_take,Nat.add_sub_cancel_left];exact Mk
    have e2:(cur.toList.take (o+n*i.size)).length=o+n*i.size:=by rw[ct,nu];omega
    refine⟨_,_,hr2,⟨by rw[aQ,hxl,hl,cM],bw ⟨g,o,cap,_,rfl,hbg,setRow_heap w g cur _ e _ hg,hroom,hcm,?_,?_⟩⟩,⟨rfl,rfl,rfl,by simp,fun k _ hk=>setRow_other w g k _ (fun e=>hk (by simp[k9,e]))⟩,bP rfl,Shape.row hg ?_⟩
    ·simp only[mR,aQ,ct,cV,nu];omega
    ·rw[bU,kK aJ,e1, ←bU];exact(congrArg (fun q=>List.take q _) (by rw[aQ,hxl,hl,cM])).trans List.take_left
    ·simp only[mR,aQ,ct,cV,nu];omega
   ·obtain⟨v',w',hr,h2,h3⟩:=run_append_arg_grows (P:=P) w t ty e i z size bytes ht hi hz hsize hby hzs hsz ⟨g,o,none⟩ n cap xs hown.1 holds a m c news hl hnews aJ h63 hbytes;subst hsize;subst hby;have hr2:=run_append_grow (P:=P) w t ty e i z ht hi hz ⟨g,o,none⟩ n cap xs hown.1 holds a m c news hl hnews aJ axy (growslice_fits axy hbytes);have e2:=hr2.symm.trans hr;simp only[Result.ok.injEq]at e2;refine⟨v',w',hr,?_,⟨h3.os,h3.tape,h3.output,h3.size,fun k hk _=>h3.block k hk fI⟩,bw ?_,?_⟩
    ·have h4:=ot.of h2;refine⟨h4.1,?_⟩;rcases h4.2 with h5| ⟨g',o',cap',cur',q1,q2,q3⟩
     ·exact bP h5
     ·exact bw ⟨g',o',cap',cur',q1,aJ,q3⟩
    ·rw[←e2.1];rfl
    ·rw[←e2.2];exact Shape.alloc _ _
def qN(k:Nat)(E:ER α)(lo e:Nat)(w:World)(v:Value)(l:List α)(fp:List Nat):Prop:=
 ∃(xs:List Value) (eS:List (List Nat)),ot w lo e k v l.length xs∧eS.length=l.length∧(∀i x f,l[i]? =some x→eS[i]? =some f→E w ((xs.drop (i*k)).take k) x f)∧
  fp=v.ownBlock.toList++eS.flatten∧Own lo w fp
theorem qN.own{E:ER α}{e:Nat}{l:List α}(h:qN k E lo e w v l fp):Own lo w fp:=by
 obtain⟨xs,eS,_,_,_,_,h⟩:=h;exact h
theorem qN.nil(k:Nat)(E:ER α)(lo e:Nat)(w:World):qN k E lo e w (.slice none 0 0) ([]:List α) []:=
 ⟨[],[],ot.nil w lo e k,rfl,fun i x f h=>by simp at h,rfl,Own.nil lo w⟩
theorem XJ(w:World)(o:Obj):(w.alloc o).heap[w.heap.size]? =some o:=by
 show(w.heap.push o)[w.heap.size]? =_
 simp
theorem qN.empty(k:Nat)(E:ER α)(lo e:Nat)(w:World)(hlo:lo≤w.heap.size):qN k E lo e (w.alloc (.cells #[] e)) (.slice (some ⟨w.heap.size,0,none⟩) 0 0) ([]:List α) [w.heap.size]:=
 ⟨[],[],⟨by simp, .inr ⟨w.heap.size,0,0,#[],rfl,hlo,XJ _ _,aS _,aY _,by simp,by simp⟩⟩,rfl,fun i x f h=>by simp at h,rfl,
   ⟨by simp,by simpa using hlo,fun b hb=>by rw[aV.1 hb];exact⟨_,_,XJ _ _⟩⟩⟩
theorem qN.sl{E:ER α}{e:Nat}{l:List α}(h:qN k E lo e w v l fp):Sl k E w v l fp:=by
 obtain⟨xs,eS,hown,hf,he,rfl,ho⟩:=h;have hlt:=hown.lt;rcases hown.2 with⟨rfl,h0⟩| ⟨g,o,cap,cur,rfl,hbg,hg,hnc,hcm,hcs,Mk⟩
 ·have hl:l= []:=ck h0;subst hl;have:eS= []:=ck (by simpa using hf);subst this;exact⟨none,0,rfl,aS _,aY _,bP ⟨rfl,rfl,rfl⟩⟩
 ·refine⟨some ⟨g,o,none⟩,cap,rfl,hnc,hcm,bw ⟨g,o,eS,rfl,⟨cur,e,(0,0),hg,hcs⟩,rfl,Na hf (fun j u hu=> ?_) he⟩⟩;exact Kt hg j u (by rw[Mk];exact hu)
theorem qN.agree{E:ER α}(G:mZ k E){e:Nat}{w':World}{l:List α}(h:qN k E lo e w v l fp)(ha:Agree w w' fp):qN k E lo e w' v l fp:=by
 obtain⟨xs,eS,hown,hf,he,rfl,ho⟩:=h;refine⟨xs,eS,⟨hown.1,?_⟩,hf,fun i x f hx hfi=>G.agree (he i x f hx hfi) (ha.sub fun b hb=>aW _ (gB hfi hb)),rfl,ho.agree ha⟩;rcases hown.2 with h| ⟨g,o,cap,cur,rfl,hbg,hg,r⟩
 ·exact bP h
 ·exact bw ⟨g,o,cap,cur,rfl,hbg,by rw[ha g (by simp[k9])];exact hg,r⟩
theorem qN.below{E:ER α}(G:mZ k E){e:Nat}{w':World}{l:List α}(h:qN k E lo e w v l fp)(hb:Below w.heap.size w w'):qN k E lo e w' v l fp:=
 h.agree G (uR hb h.own.lt)
theorem qN.mono{E:ER α}{lo' e:Nat}{l:List α}(h:qN k E lo e w v l fp)(hl:lo'≤lo):qN k E lo' e w v l fp:=by
 obtain⟨xs,eS,hown,hf,he,rfl,ho⟩:=h;refine⟨xs,eS,⟨hown.1,?_⟩,hf,he,rfl,ho.mono hl⟩;rcases hown.2 with h| ⟨g,o,cap,cur,rfl,hbg,r⟩
 ·exact bP h
 ·exact bw ⟨g,o,cap,cur,rfl,Nat.le_trans hl hbg,r⟩
theorem HY{E:ER α}(G:mZ k E){l:List α}{eS:List (List Nat)}{news:List Value}(hf:eS.length=l.length)(hl:news.length=l.length*k)(hk:0<k)
  (he: ∀i x f,l[i]? =some x→eS[i]? =some f→E w ((news.drop (i*k)).take k) x f): ∀u∈news,u.oneCell'=true:=by
 intro u hu;obtain⟨j,hj⟩:=List.getElem?_of_mem hu;have hjl:=(aU.1 hj).1;have hi:j/k<l.length:=Nat.div_lt_of_lt_mul (by rw[kg];omega);obtain⟨f,hfi⟩:=mQ hf (az hi);refine G.one (he _ _ f (az hi) hfi) u ?_;have hdm:=Nat.div_add_mod j k;have hml:=Nat.mod_lt j hk;have hmc:=kg k (j/k);have:((news.drop (j/k*k)).take k)[j % k]? =some u:=by
  rw[dH,if_pos hml,dc, ←hj];congr 1;omega
 exact List.mem_of_getElem? this
theorem abB{a a' f g:List Nat}(ho:(a++f++g).Nodup)(h:a'=a∨(a'.length≤1∧ ∀b,b∈a'→b∉f++g)):(a'++f++g).Nodup:=by
 rcases h with rfl| ⟨h1,h2⟩
 ·exact ho
 ·rw[bU]at ho ⊢;have hn:=(bM.1 ho).2.1;match a',h1,h2 with
  | [],_,_=>simpa using hn
  | [x],_,h2=>exact dx.2 ⟨h2 x fI,hn⟩
theorem UD{o:Oper}{a:Act}{K:Act→World→Prop}{Q:Exit→Act→World→Prop}(s x:Operand)(t:TypeId)
  (ho:o.op= .call {callee:= .builtin .append,args:= #[s,x],argTypes:= #[t,t]})
 {E:ER α}(G:mZ k E)(hk:0<k)(lo e:Nat)(z:Value)(bytes:Nat)(ht:P.underlying t=some (.slice e))
   (akd:(P.info? e).map (fun i=>(i.zero,i.size,i.bytes))=some (some z,k,bytes))(hzs:z.cells.size=k)
   (v:Value)(l:List α)(fp:List Nat)(hs:a.eval s=v)(hB:qN k E lo e w v l fp)
   (vx:Value)(hx:a.eval x=vx)(lx:List α)(news:List Value)(fx:List (List Nat))(hsrc:Src w vx lx.length news)(hfx:fx.length=lx.length)(hl:news.length=lx.length*k)
   (hel: ∀i x f,lx[i]? =some x→fx[i]? =some f→E w ((news.drop (i*k)).take k) x f)(hown:Own lo w (fp++fx.flatten))
   (h63:l.length+lx.length≤maxLen)(hbytes:(l.length+lx.length)*bytes≤140737488355328)(hbase:lo≤w.heap.size)
   (h: ∀v' w' oK,qN k E lo e w' v' (l++lx) oK→w.grownBy w' v.ownBlock→Below lo w w'→(∀b,b∈oK→b∈fp∨b∈fx.flatten∨b=w.heap.size)→Shape w w'→(∀b,b∈fx.flatten→b∈oK)→K (a.put o.dst v') w'):o.wp P a w K Q:=by
  obtain⟨i,hi,hz,hsize,hby⟩:=info_parts akd;obtain⟨xs,eS,hrow,hf,he,rfl,aro⟩:=hB;have h1:=HY G hfx hl hk hel;obtain⟨v',w',hr,h2,h3,h4,axF⟩:=arn (P:=P) w lo t o.type e i z k bytes ht hi hz hsize hby hzs hk v l.length xs hrow vx lx.length news hl hsrc h1 h63 hbytes hbase;unfold Oper.wp execOp;simp only[ho,resolve,invoke,builtin,Sem.run_bind,Sem.run_pure,Result.andThen_ok,List.map_toArray,List.map_cons,List.map_nil,hs,hx,hr];have hlt: ∀b,b∈v.ownBlock.toList++eS.flatten++fx.flatten→b<w.heap.size:=hown.lt;have hnd:=hown.nodup;have OO: ∀b,v.ownBlock=some b→b∉eS.flatten++fx.flatten:=by
   intro b hb hm;rw[bU,hb]at hnd;exact(dx.1 hnd).1 hm
  have hag:Agree w w' (eS.flatten++fx.flatten):=fun b hb=>h3.block b (hlt b axx) (fun e=>OO b e.symm hb);have hlo: ∀b,v.ownBlock=some b→lo≤b:=fun b hb=>(hrow.lt b hb).1;have hbel:Below lo w w':=⟨h3.os,h3.tape,h3.output,h3.size,fun b hb=>h3.block b aJ (fun e=>by have:=hlo b e.symm;omega)⟩;have hlt2:=h2.lt;have hxl:=hrow.1;have aCu:Own lo w' (v'.ownBlock.toList++(eS++fx).flatten):=by
   rw[jc, ←bU];refine⟨abB hnd ?_,?_,?_⟩
   ·rcases h4 with h4|h4
    ·exact bP (by rw[h4])
    ·refine bw ⟨by rw[h4];simp,?_⟩;intro b hb hm;rw[h4]at hb;simp at hb;subst hb;have:=hlt w.heap.size (by rw[bU];exact aW _ hm);omega
   ·intro b hb;rw[bU]at hb;rcases bg.1 hb with hb|hb
    ·exact(hlt2 b Uz).1
    ·exact hown.ge b axx
   ·intro b hb;rw[bU]at hb;rcases bg.1 hb with hb|hb
    ·rcases h2.2 with⟨rfl,_⟩| ⟨g,o,cap,cur,rfl,_,hg,_⟩
     ·simp[k9]at hb
     ·simp[k9]at hb;subst hb;exact⟨_,_,hg⟩
    ·rw[hag b hb];exact hown.kind b axx
  refine h v' w' _ ⟨xs++news,eS++fx,by rw[aQ];exact h2,by simp[hf,hfx],fun j y f hy E0=> ?_,rfl,aCu⟩ h3 hbel ?_ axF fun b hb=>by rw[jc];exact aW _ (aW _ hb)
  ·by_cases hj:j<l.length
   ·rw[dQ hj]at hy;rw[dQ aJ]at E0;have:=he j y f hy E0;have h5:j*k+k≤xs.length:=by
     rw[hxl];have:=cG k (show j+1≤l.length by omega);rw[cM]at this;omega
    rw[kK aJ,List.take_append_of_le_length ag4];exact G.agree this (hag.sub fun b hb=>bl _ (gB E0 hb))
   ·rw[dm aJ]at hy;rw[dm aJ,hf]at E0;have:=hel _ y f hy E0;have h5:(xs++news).drop (j*k)=news.drop ((j-l.length)*k):=by
     rw[List.drop_append,List.drop_eq_nil_of_le (by rw[hxl];exact cG k aJ),List.nil_append,hxl,Nat.sub_mul]
    rw[h5];exact G.agree this (hag.sub fun b hb=>aW _ (gB E0 hb))
  ·intro b hb;rw[jc]at hb;rcases bg.1 hb with hb|hb
   ·rcases h4 with h4|h4
    ·rw[h4]at hb;exact bP (bl _ hb)
    ·rw[h4]at hb;exact bw (bw Uz)
   ·rcases bg.1 hb with hb|hb
    ·exact bP (aW _ hb)
    ·exact bw (bP hb)
end
variable{w:World}{g k lo e n:Nat}{α:Type}{eS:List (List Nat)}
theorem below_setCells{B:Nat}{a:World}(h:Below B a w)(hg:B≤g)(o:Nat)(vs:List Value):Below B a (w.setCells g o vs):=
 h.trans ⟨(pN g vs o w).1,(pN g vs o w).2.1,(pN g vs o w).2.2,by rw[Gc];exact aS _,fun k hk=>gh g vs o w k aJ⟩
structure Part{α:Type}(k:Nat)(E:ER α)(lo e:Nat)(w:World)(g n:Nat)(l:List α)(eS:List (List Nat)):Prop where
 blk: ∃c,w.heap[g]? =some (.cells c e (0,0))∧c.size=n*k
 el:BU k E w g 0 l eS
 own:Own lo w (g::eS.flatten)
 cap:n≤maxLen
theorem Part.start{E:ER α}{xs:List Value}(h:w.ownsRow lo e k (.slice (some ⟨g,0,none⟩) n n) n xs):Part k E lo e w g n ([]:List α) []:=by
 have hb:=(h.lt g rfl).1;rcases h.2 with⟨h1,_⟩| ⟨g',cap,cur,hv,hbg,hg,hnc,hcm,hcs,Mk⟩
 ·simp at h1
 ·simp only[Value.slice.injEq,oI,Addr.mk.injEq,and_true,true_and]at hv;obtain⟨rfl,rfl⟩:=hv;exact⟨⟨cur,hg,hcs⟩,⟨rfl,fun i x f h=>by simp at h⟩,⟨by simp,by simpa using hb,fun b hb=>by rw[aV.1 hb];exact⟨_,_,hg⟩⟩,hcm⟩
theorem Part.there{E:ER α}{l:List α}(h:Part k E lo e w g n l eS)(i:Nat)(hi:i<n):w.there g (i*k) k:=by
 obtain⟨c,hc,hs⟩:=h.blk;intro j hj;have h5:i*k+k≤n*k:=by
  have:=cG k (show i+1≤n by omega);rw[cM]at this;omega
 refine⟨?_,?_⟩
 ·simp[tU,hc];omega
 ·simp[World.frozen?,hc]
theorem Part.agree{E:ER α}(G:mZ k E){w':World}{l:List α}(h:Part k E lo e w g n l eS)(ha:Agree w w' (g::eS.flatten)):Part k E lo e w' g n l eS:=by
 have hg:=ha g fI;obtain⟨c,hc,hs⟩:=h.blk;exact⟨⟨c,by rw[hg];exact hc,hs⟩,h.el.agree G hg (ha.sub fun b hb=>aE _ hb),h.own.agree ha,h.cap⟩
theorem Part.below{E:ER α}(G:mZ k E){w':World}{l:List α}(h:Part k E lo e w g n l eS)(hb:Below w.heap.size w w'):Part k E lo e w' g n l eS:=
 h.agree G (uR hb h.own.lt)
theorem FB{l:List α}{x y:α}{i:Nat}(h:(l++ [x])[i]? =some y):(l[i]? =some y∧i<l.length)∨(i=l.length∧y=x):=by
 by_cases hi:i<l.length
 ·rw[dQ hi]at h;exact bP ⟨h,hi⟩
 ·rw[dm aJ]at h;have h2:i-l.length=0:=by have:=(aU.1 h).1;simp at this;omega
  rw[h2]at h;exact bw ⟨aJ,by simpa using h.symm⟩
theorem Part.push{E:ER α}(G:mZ k E){l:List α}(h:Part k E lo e w g n l eS)(hn:l.length<n)
  {cs:List Value}{x:α}{f:List Nat}(hE:E w cs x f)(ho:Own lo w f)(hd: ∀b,b∈f→b∉g::eS.flatten):
  Part k E lo e (w.setCells g (l.length*k) cs) g n (l++ [x]) (eS++ [f]):=by
 have hlen:=G.len hE;obtain⟨c,hc,hs⟩:=h.blk;obtain⟨c',hc',hs'⟩:=j0 g e cs (l.length*k) w c hc;have hth:w.there g (l.length*k) cs.length:=by rw[hlen];exact h.there _ hn
 have OO: ∀b,b∈eS.flatten→b≠g:=fun b hb e=>by
  have:=h.own.nodup;rw[dx]at this;exact this.1 (e▸hb)
 have hag:Agree w (w.setCells g (l.length*k) cs) eS.flatten:=fun b hb=>gh g cs _ w b (OO b hb);have ahd:Agree w (w.setCells g (l.length*k) cs) f:=fun b hb=>gh g cs _ w b (fun e=>hd b hb (by simp[e]));refine⟨⟨c',hc',by rw[hs',hs]⟩,⟨by simp[h.el.1],fun i y fy hy E0=> ?_⟩,⟨?_,?_,?_⟩,h.cap⟩
 ·rcases FB hy with⟨hy,hi⟩| ⟨rfl,rfl⟩
  ·rw[dQ (by have:=h.el.1;omega)]at E0;obtain⟨cy,hr,hEy⟩:=h.el.2 i y fy hy E0;refine⟨cy,World.rangeAt_setCells_apart hr _ _ _ (bw (bP ?_)),G.agree hEy (hag.sub fun b hb=>gB E0 hb)⟩;rw[G.len hEy];have:=cG k (show i+1≤l.length by omega);rw[cM]at this;omega
  ·rw[dm (by have:=h.el.1;omega)]at E0;have:l.length-eS.length=0:=by have:=h.el.1;omega
   rw[this]at E0;simp at E0;subst E0;refine⟨cs,?_,G.agree hE ahd⟩;rw[dB];exact World.rangeAt_setCells_same w g _ cs hth
 ·have h1:=h.own.nodup;have h2:=ho.nodup;rw[jc, ←fE];simp only[dM,vN,cW];exact bM.2 ⟨h1,h2,fun a ha b hb e=>hd b hb (e▸ha)⟩
 ·intro b hb;rw[jc, ←fE]at hb;simp only[dM,vN,cW]at hb;rcases bg.1 hb with hb|hb
  ·exact h.own.ge b hb
  ·exact ho.ge b hb
 ·intro b hb;rw[jc, ←fE]at hb;simp only[dM,vN,cW]at hb;rcases bg.1 hb with hb|hb
  ·rcases List.mem_cons.1 hb with rfl|hb
   ·exact⟨_,_,hc'⟩
   ·rw[hag b hb];exact h.own.kind b (aE _ hb)
  ·rw[ahd b hb];exact ho.kind b hb
end Go.Proofs.YtaalpcnbbldlaaaGreatDoor.L
