/-
  Slices that a call builds by make and stores. Laws on the model's worlds; no program in sight.
-/
import Derived.ArgAppend
import Derived.Laws.AppendOwnNone
import Derived.Test.YtaalpcnbbldlaaaGreatDoorR0
namespace Go.Proofs.YtaalpcnbbldlaaaGreatDoor.L
set_option linter.all false
open Go.RowKit
section
def Src(w:World)(x:Value)(m:Nat)(news:List Value):Prop:=
 (x= .slice none 0 0∧m=0∧news= [])∨ ∃a c,x= .slice (some a) m c∧ ∀j u,news[j]? =some u→w.cell? (a.add j)=some u
def Shape(w w':World):Prop:= ∀(b:Nat) (c:Array Value) (e:TypeId),w.heap[b]? =some (.cells c e (0,0))→ ∃c':Array Value,w'.heap[b]? =some (.cells c' e (0,0))∧c'.size=c.size
theorem cH(g:Nat): ∀(vs:List Value) (o:Nat) (w:World) (b:Nat),b≠g→(w.setCells g o vs).heap[b]? =w.heap[b]?
 | [],_,_,_,_=>rfl
 |v::r,o,w,b,h=>by rw[World.setCells,cH g r (o+1) _ b h];exact Below.heap_setCell _ _ _ _ h
theorem wH(g:Nat): ∀(vs:List Value) (o:Nat) (w:World),(w.setCells g o vs).heap.size=w.heap.size
 | [],_,_=>rfl
 |v::r,o,w=>by rw[World.setCells,wH g r (o+1)];simp[World.setCell]
theorem ia(g:Nat): ∀(vs:List Value) (o:Nat) (w:World),(w.setCells g o vs).os=w.os∧(w.setCells g o vs).tape=w.tape∧(w.setCells g o vs).output=w.output
 | [],_,_=>⟨rfl,rfl,rfl⟩
 |v::r,o,w=>by rw[World.setCells];exact ia g r (o+1) _
theorem ec(g e:Nat): ∀(vs:List Value) (o:Nat) (w:World) (c:Array Value),w.heap[g]? =some (.cells c e (0,0))→ ∃c',(w.setCells g o vs).heap[g]? =some (.cells c' e (0,0))∧c'.size=c.size
 | [],_,_,c,h=>⟨c,h,rfl⟩
 |v::r,o,w,c,h=>by
  obtain⟨c',h1,h2⟩:=ec g e r (o+1) (w.setCell ⟨g,o,none⟩ v) _ (heap_setCell_same w g o c e v h);exact⟨c',by rw[World.setCells];exact h1,by rw[h2];simp⟩
theorem Shape.refl(w:World):Shape w w:=fun _ c _ h=>⟨c,h,rfl⟩
theorem Shape.set(w:World)(g o:Nat)(vs:List Value):Shape w (w.setCells g o vs):=fun b c e h=>by
 by_cases hb:b=g
 ·subst hb;exact ec b e vs o w c h
 ·exact⟨c,by rw[cH g vs o w b hb];exact h,rfl⟩
theorem Shape.alloc(w:World)(o:Obj):Shape w (w.drew.alloc o):=fun b c e h=>by
 refine⟨c,?_,rfl⟩;show(w.heap.push o)[b]? =_
 have hlt:=(Array.getElem?_eq_some_iff.1 h).1;rw[Array.getElem?_push_lt hlt, ←Array.getElem?_eq_getElem hlt];exact h
theorem Shape.row{w:World}{g:Nat}{c c':Array Value}{e:TypeId}(hg:w.heap[g]? =some (.cells c e (0,0)))(hs:c'.size=c.size):Shape w (w.setRow g c'):=fun b d e' h=>by
 by_cases hb:b=g
 ·subst hb;rw[hg]at h;simp only[oI,Obj.cells.injEq,and_true]at h;obtain⟨rfl,rfl⟩:=h;exact⟨c',setRow_heap w b c c' e (0,0) hg,hs⟩
 ·refine⟨d,?_,rfl⟩;show(w.heap.modify g _)[b]? =_
  rw[Array.getElem?_modify,if_neg (Ne.symm hb)];exact h
theorem Fit.set{w:World}{b m:Nat}(h:Fit w b m){c:Array Value}{e:TypeId}(hb:w.heap[b]? =some (.cells c e (0,0)))(o:Nat)(vs:List Value):Fit (w.setCells b o vs) b m:=by
 obtain⟨c1,e1,fz,h1,h2⟩:=h;rw[hb]at h1;simp only[oI,Obj.cells.injEq]at h1;obtain⟨rfl,rfl,rfl⟩:=h1;obtain⟨c',h3,h4⟩:=ec b e vs o w c hb;exact⟨c',e,(0,0),h3,by rw[h4];exact h2⟩
theorem Fit.other{w:World}{b m g:Nat}(h:Fit w b m)(hg:b≠g)(o:Nat)(vs:List Value):Fit (w.setCells g o vs) b m:=h.agree (cH g vs o w b hg)
def gD(w:World)(base:Nat)(e:TypeId)(k:Nat)(v:Value)(n:Nat)(xs:List Value):Prop:=
 xs.length=n*k∧((v= .slice none 0 0∧n=0)∨
  ∃g o cap cur,v= .slice (some ⟨g,o,none⟩) n cap∧base≤g∧w.heap[g]? =some (.cells cur e (0,0))∧n≤cap∧cap≤maxLen∧o+cap*k≤cur.size∧(cur.toList.drop o).take (n*k)=xs)
theorem gD.of{w:World}{base:Nat}{e:TypeId}{k:Nat}{v:Value}{n:Nat}{xs:List Value}(h:w.ownsRow base e k v n xs):gD w base e k v n xs:=by
 refine⟨h.1,?_⟩;rcases h.2 with h| ⟨g,cap,cur,hv,hb,hg,h1,h2,h3,h4⟩
 ·exact Or.inl h
 ·exact Or.inr ⟨g,0,cap,cur,hv,hb,hg,h1,h2,by omega,h4⟩
theorem gD.nil(w:World)(base:Nat)(e:TypeId)(k:Nat):gD w base e k (.slice none 0 0) 0 []:=⟨by simp,Or.inl ⟨rfl,rfl⟩⟩
theorem gD.lt{w:World}{base:Nat}{e:TypeId}{k:Nat}{v:Value}{n:Nat}{xs:List Value}(h:gD w base e k v n xs): ∀b,v.ownBlock=some b→base≤b∧b<w.heap.size:=by
 intro b hb;rcases h.2 with⟨rfl,_⟩| ⟨g,o,cap,cur,rfl,Q3,hg,_⟩
 ·simp[Value.ownBlock]at hb
 ·simp[Value.ownBlock]at hb;subst hb;exact⟨Q3,(Array.getElem?_eq_some_iff.1 hg).1⟩
theorem Au{w:World}{g o m:Nat}{e:TypeId}{fz:Nat×Nat}{cur:Array Value}(hg:w.heap[g]? =some (.cells cur e fz)): ∀(j:Nat) (u:Value),((cur.toList.drop o).take m)[j]? =some u→w.cell? ⟨g,o+j,none⟩=some u:=by
 intro j u hu;rw[List.getElem?_take]at hu;split at hu
 ·rw[List.getElem?_drop]at hu;simp only[World.cell?,hg];simpa using hu
 ·cases hu
theorem w6{P:Program}(w:World)(t ty e:TypeId)(i:TypeInfo)(ht:P.underlying t=some (.slice e))(hi:P.info? e=some i)
  (g o sLen sCap:Nat)(cur:Array Value)(hg:w.heap[g]? =some (.cells cur e (0,0)))
  (a:Addr)(m c:Nat)(news:List Value)(hl:news.length=m*i.size)(hnews: ∀j u,news[j]? =some u→w.cell? (a.add j)=some u)(h1: ∀u∈news,u.oneCell'=true)
  (hroom:sLen+m≤sCap)(hfit:o+sLen*i.size+news.length≤cur.size):
  (Builtin.append_ #[t,t] ty #[.slice (some ⟨g,o,none⟩) sLen sCap, .slice (some a) m c]).run P w=
   .ok (.slice (some ⟨g,o,none⟩) (sLen+m) sCap) (w.setRow g (cur.toList.take (o+sLen*i.size)++news++cur.toList.drop (o+sLen*i.size+news.length)).toArray):=by
 have hf:=run_firstCells_some (P:=P) w i.size m a m c news hl hnews;have hst:=run_storeCells_at P g (o+sLen*i.size) e news 0 cur w hg (by simpa using hfit) h1;simp only[Nat.add_zero]at hst;simp[Builtin.append_,run_underlying ht,sizeOf,typeInfo,hi,Builtin.lenOf,hroom,hf,Addr.add_mid,hst]
theorem Vy{P:Program}(w:World)(base:Nat)(t ty e:TypeId)(i:TypeInfo)(z:Value)(size bytes:Nat)(ht:P.underlying t=some (.slice e))(hi:P.info? e=some i)(hz:i.zero=some z)
  (hsize:i.size=size)(hby:i.bytes=bytes)(hzs:z.cells.size=size)(hsz:0<size)
  (v:Value)(n:Nat)(xs:List Value)(hown:gD w base e size v n xs)
  (x:Value)(m:Nat)(news:List Value)(hl:news.length=m*size)(hx:Src w x m news)(h1: ∀u∈news,u.oneCell'=true)
  (h63:n+m≤maxLen)(hbytes:(n+m)*bytes≤140737488355328)(hbase:base≤w.heap.size):
  ∃v' w',(Builtin.append_ #[t,t] ty #[v,x]).run P w= .ok v' w'∧gD w' base e size v' (n+m) (xs++news)∧w.grownBy w' v.ownBlock∧
   (v'.ownBlock=v.ownBlock∨v'.ownBlock=some w.heap.size)∧Shape w w':=by
 rcases hown.2 with⟨rfl,rfl⟩| ⟨g,o,cap,cur,rfl,Q3,hg,hnc,hcm,hcs,BR⟩
 ·have hx0:xs= []:=List.eq_nil_of_length_eq_zero (by simpa using hown.1);subst hx0;rcases hx with⟨rfl,rfl,rfl⟩| ⟨a,c,rfl,hnews⟩
  ·refine⟨.slice none 0 0,w,?_,by simpa using hown,⟨rfl,rfl,rfl,Nat.le_refl _,fun _ _ _=>rfl⟩,Or.inl rfl,Shape.refl _⟩;simp[Builtin.append_,run_underlying ht,sizeOf,typeInfo,hi,Builtin.lenOf,Builtin.firstCells,storeCells]
  ·subst hsize;subst hby;by_cases hm:m=0
   ·subst hm;have hn:news= []:=List.eq_nil_of_length_eq_zero (by simpa using hl);subst hn;have hr2:(Builtin.append_ #[t,t] ty #[.slice none 0 0, .slice (some a) 0 c]).run P w= .ok (.slice none 0 0) w:=by
     simp[Builtin.append_,run_underlying ht,sizeOf,typeInfo,hi,Builtin.lenOf,Builtin.firstCells,loadCells,loadCellsFrom]
    exact⟨_,_,hr2,by simpa using hown,⟨rfl,rfl,rfl,Nat.le_refl _,fun _ _ _=>rfl⟩,Or.inl rfl,Shape.refl _⟩
   ·have hr2:=run_append_nil (P:=P) w t ty e i z ht hi hz a m c news hl hnews (by omega) (by simp only[maxLen]at h63;omega) (by have hb:=hbytes;simp only[Nat.zero_add]at hb;omega);obtain⟨v',w',hr,h2,h3,_⟩:=run_append_own (P:=P) w base t ty e i z i.size i.bytes ht hi hz rfl rfl hzs hsz (.slice none 0 0) 0 [] (World.ownsRow_nil w _ _ _) a m c news hl hnews h1 h63 hbytes hbase;have e2:=hr2.symm.trans hr;simp only[Result.ok.injEq]at e2;refine⟨v',w',hr,gD.of h2,h3,Or.inr ?_,?_⟩
    ·rw[←e2.1];rfl
    ·rw[←e2.2];exact Shape.alloc _ _
 ·have holds: ∀j u,xs[j]? =some u→w.cell? ((⟨g,o,none⟩:Addr).add j)=some u:=by
   intro j u hu;rw[Addr.add_mid];exact Au hg j u (by rw[BR];exact hu)
  rcases hx with⟨rfl,rfl,rfl⟩| ⟨a,c,rfl,hnews⟩
  ·refine⟨.slice (some ⟨g,o,none⟩) n cap,w,?_,by simpa using hown,⟨rfl,rfl,rfl,Nat.le_refl _,fun _ _ _=>rfl⟩,Or.inl rfl,Shape.refl _⟩;simp[Builtin.append_,run_underlying ht,sizeOf,typeInfo,hi,Builtin.lenOf,Builtin.firstCells,storeCells,hnc]
  ·by_cases hroom:n+m≤cap
   ·subst hsize;subst hby;have h5:(n+m)*i.size≤cap*i.size:=Nat.mul_le_mul_right _ hroom;have hfit:o+n*i.size+news.length≤cur.size:=by rw[hl];rw[Nat.add_mul]at h5;omega
    have hr2:=w6 (P:=P) w t ty e i ht hi g o n cap cur hg a m c news hl hnews h1 hroom hfit;have hxl:=hown.1;have e1:(cur.toList.take (o+n*i.size)).drop o=xs:=by rw[List.drop_take,Nat.add_sub_cancel_left];exact BR
    have e2:(cur.toList.take (o+n*i.size)).length=o+n*i.size:=by rw[List.length_take,Array.length_toList];omega
    refine⟨_,_,hr2,⟨by rw[List.length_append,hxl,hl,Nat.add_mul],Or.inr ⟨g,o,cap,_,rfl,Q3,setRow_heap w g cur _ e _ hg,hroom,hcm,?_,?_⟩⟩,⟨rfl,rfl,rfl,by simp,fun k _ hk=>setRow_other w g k _ (fun e=>hk (by simp[Value.ownBlock,e]))⟩,Or.inl rfl,Shape.row hg ?_⟩
    ·simp only[List.size_toArray,List.length_append,List.length_take,List.length_drop,Array.length_toList];omega
    ·rw[List.append_assoc,List.drop_append_of_le_length (by omega),e1, ←List.append_assoc];exact(congrArg (fun q=>List.take q _) (by rw[List.length_append,hxl,hl,Nat.add_mul])).trans List.take_left
    ·simp only[List.size_toArray,List.length_append,List.length_take,List.length_drop,Array.length_toList];omega
   ·obtain⟨v',w',hr,h2,h3⟩:=run_append_arg_grows (P:=P) w t ty e i z size bytes ht hi hz hsize hby hzs hsz ⟨g,o,none⟩ n cap xs hown.1 holds a m c news hl hnews (by omega) h63 hbytes;subst hsize;subst hby;have hr2:=run_append_grow (P:=P) w t ty e i z ht hi hz ⟨g,o,none⟩ n cap xs hown.1 holds a m c news hl hnews (by omega) (by simp only[maxLen]at h63;omega) (growslice_fits (by simp only[maxLen]at h63;omega) hbytes);have e2:=hr2.symm.trans hr;simp only[Result.ok.injEq]at e2;refine⟨v',w',hr,?_,⟨h3.os,h3.tape,h3.output,h3.size,fun k hk _=>h3.block k hk (by simp)⟩,Or.inr ?_,?_⟩
    ·have h4:=gD.of h2;refine⟨h4.1,?_⟩;rcases h4.2 with h5| ⟨g',o',cap',cur',q1,q2,q3⟩
     ·exact Or.inl h5
     ·exact Or.inr ⟨g',o',cap',cur',q1,by omega,q3⟩
    ·rw[←e2.1];rfl
    ·rw[←e2.2];exact Shape.alloc _ _
def iW{α:Type}(k:Nat)(E:ER α)(lo e:Nat)(w:World)(v:Value)(l:List α)(fp:List Nat):Prop:=
 ∃(xs:List Value) (bX:List (List Nat)),gD w lo e k v l.length xs∧bX.length=l.length∧(∀i x f,l[i]? =some x→bX[i]? =some f→E w ((xs.drop (i*k)).take k) x f)∧
  fp=v.ownBlock.toList++bX.flatten∧Own lo w fp
theorem iW.own{α:Type}{k:Nat}{E:ER α}{lo e:Nat}{w:World}{v:Value}{l:List α}{fp:List Nat}(h:iW k E lo e w v l fp):Own lo w fp:=by
 obtain⟨xs,bX,_,_,_,_,h⟩:=h;exact h
theorem iW.nil{α:Type}(k:Nat)(E:ER α)(lo e:Nat)(w:World):iW k E lo e w (.slice none 0 0) ([]:List α) []:=
 ⟨[],[],gD.nil w lo e k,rfl,fun i x f h=>by simp at h,rfl,Own.nil lo w⟩
theorem Jh(w:World)(o:Obj):(w.alloc o).heap[w.heap.size]? =some o:=by
 show(w.heap.push o)[w.heap.size]? =_
 simp
theorem iW.empty{α:Type}(k:Nat)(E:ER α)(lo e:Nat)(w:World)(hlo:lo≤w.heap.size):iW k E lo e (w.alloc (.cells #[] e)) (.slice (some ⟨w.heap.size,0,none⟩) 0 0) ([]:List α) [w.heap.size]:=
 ⟨[],[],⟨by simp, .inr ⟨w.heap.size,0,0,#[],rfl,hlo,Jh _ _,Nat.le_refl _,Nat.zero_le _,by simp,by simp⟩⟩,rfl,fun i x f h=>by simp at h,rfl,
   ⟨by simp,by simpa using hlo,fun b hb=>by rw[List.mem_singleton.1 hb];exact⟨_,_,Jh _ _⟩⟩⟩
theorem iW.sl{α:Type}{k:Nat}{E:ER α}{lo e:Nat}{w:World}{v:Value}{l:List α}{fp:List Nat}(h:iW k E lo e w v l fp):Sl k E w v l fp:=by
 obtain⟨xs,bX,hown,hf,he,rfl,ho⟩:=h;have hlt:=hown.lt;rcases hown.2 with⟨rfl,h0⟩| ⟨g,o,cap,cur,rfl,Q3,hg,hnc,hcm,hcs,BR⟩
 ·have hl:l= []:=List.eq_nil_of_length_eq_zero h0;subst hl;have:bX= []:=List.eq_nil_of_length_eq_zero (by simpa using hf);subst this;exact⟨none,0,rfl,Nat.le_refl _,Nat.zero_le _,Or.inl ⟨rfl,rfl,rfl⟩⟩
 ·refine⟨some ⟨g,o,none⟩,cap,rfl,hnc,hcm,Or.inr ⟨g,o,bX,rfl,⟨cur,e,(0,0),hg,hcs⟩,rfl,Co hf (fun j u hu=> ?_) he⟩⟩;exact Au hg j u (by rw[BR];exact hu)
theorem iW.agree{α:Type}{k:Nat}{E:ER α}(G:fN k E){lo e:Nat}{w w':World}{v:Value}{l:List α}{fp:List Nat}(h:iW k E lo e w v l fp)(ha:Agree w w' fp):iW k E lo e w' v l fp:=by
 obtain⟨xs,bX,hown,hf,he,rfl,ho⟩:=h;refine⟨xs,bX,⟨hown.1,?_⟩,hf,fun i x f hx hfi=>G.agree (he i x f hx hfi) (ha.sub fun b hb=>List.mem_append_right _ (cI hfi hb)),rfl,ho.agree ha⟩;rcases hown.2 with h| ⟨g,o,cap,cur,rfl,Q3,hg,r⟩
 ·exact Or.inl h
 ·exact Or.inr ⟨g,o,cap,cur,rfl,Q3,by rw[ha g (by simp[Value.ownBlock])];exact hg,r⟩
theorem iW.below{α:Type}{k:Nat}{E:ER α}(G:fN k E){lo e:Nat}{w w':World}{v:Value}{l:List α}{fp:List Nat}(h:iW k E lo e w v l fp)(hb:Below w.heap.size w w'):iW k E lo e w' v l fp:=
 h.agree G (lq hb h.own.lt)
theorem iW.mono{α:Type}{k:Nat}{E:ER α}{lo lo' e:Nat}{w:World}{v:Value}{l:List α}{fp:List Nat}(h:iW k E lo e w v l fp)(hl:lo'≤lo):iW k E lo' e w v l fp:=by
 obtain⟨xs,bX,hown,hf,he,rfl,ho⟩:=h;refine⟨xs,bX,⟨hown.1,?_⟩,hf,he,rfl,ho.mono hl⟩;rcases hown.2 with h| ⟨g,o,cap,cur,rfl,Q3,r⟩
 ·exact Or.inl h
 ·exact Or.inr ⟨g,o,cap,cur,rfl,Nat.le_trans hl Q3,r⟩
theorem yf{α:Type}{k:Nat}{E:ER α}(G:fN k E){w:World}{l:List α}{bX:List (List Nat)}{news:List Value}(hf:bX.length=l.length)(hl:news.length=l.length*k)(hk:0<k)
  (he: ∀i x f,l[i]? =some x→bX[i]? =some f→E w ((news.drop (i*k)).take k) x f): ∀u∈news,u.oneCell'=true:=by
 intro u hu;obtain⟨j,hj⟩:=List.getElem?_of_mem hu;have hjl:=(List.getElem?_eq_some_iff.1 hj).1;have hi:j/k<l.length:=Nat.div_lt_of_lt_mul (by rw[Nat.mul_comm];omega);obtain⟨f,hfi⟩:=fG hf (List.getElem?_eq_getElem hi);refine G.one (he _ _ f (List.getElem?_eq_getElem hi) hfi) u ?_;have hdm:=Nat.div_add_mod j k;have hml:=Nat.mod_lt j hk;have hmc:=Nat.mul_comm k (j/k);have:((news.drop (j/k*k)).take k)[j % k]? =some u:=by
  rw[List.getElem?_take,if_pos hml,List.getElem?_drop, ←hj];congr 1;omega
 exact List.mem_of_getElem? this
theorem LW{a a' f g:List Nat}(ho:(a++f++g).Nodup)(h:a'=a∨(a'.length≤1∧ ∀b,b∈a'→b∉f++g)):(a'++f++g).Nodup:=by
 rcases h with rfl| ⟨h1,h2⟩
 ·exact ho
 ·rw[List.append_assoc]at ho ⊢;have hn:=(List.nodup_append.1 ho).2.1;match a',h1,h2 with
  | [],_,_=>simpa using hn
  | [x],_,h2=>exact List.nodup_cons.2 ⟨h2 x (by simp),hn⟩
theorem Hf{P:Program}{w:World}{o:Oper}{a:Act}{K:Act→World→Prop}{Q:Exit→Act→World→Prop}(s x:Operand)(t:TypeId)
  (ho:o.op= .call {callee:= .builtin .append,args:= #[s,x],argTypes:= #[t,t]})
  {α:Type}{k:Nat}{E:ER α}(G:fN k E)(hk:0<k)(lo e:Nat)(z:Value)(bytes:Nat)(ht:P.underlying t=some (.slice e))
  (Q4:(P.info? e).map (fun i=>(i.zero,i.size,i.bytes))=some (some z,k,bytes))(hzs:z.cells.size=k)
  (v:Value)(l:List α)(fp:List Nat)(hs:a.eval s=v)(hB:iW k E lo e w v l fp)
  (vx:Value)(hx:a.eval x=vx)(lx:List α)(news:List Value)(fx:List (List Nat))(hsrc:Src w vx lx.length news)(LJ:fx.length=lx.length)(hl:news.length=lx.length*k)
  (hel: ∀i x f,lx[i]? =some x→fx[i]? =some f→E w ((news.drop (i*k)).take k) x f)(hown:Own lo w (fp++fx.flatten))
  (h63:l.length+lx.length≤maxLen)(hbytes:(l.length+lx.length)*bytes≤140737488355328)(hbase:lo≤w.heap.size)
  (h: ∀v' w' gC,iW k E lo e w' v' (l++lx) gC→w.grownBy w' v.ownBlock→Below lo w w'→(∀b,b∈gC→b∈fp∨b∈fx.flatten∨b=w.heap.size)→Shape w w'→(∀b,b∈fx.flatten→b∈gC)→K (a.put o.dst v') w'):o.wp P a w K Q:=by
 obtain⟨i,hi,hz,hsize,hby⟩:=info_parts Q4;obtain⟨xs,bX,hrow,hf,he,rfl,Vz⟩:=hB;have h1:=yf G LJ hl hk hel;obtain⟨v',w',hr,h2,h3,h4,YJ⟩:=Vy (P:=P) w lo t o.type e i z k bytes ht hi hz hsize hby hzs hk v l.length xs hrow vx lx.length news hl hsrc h1 h63 hbytes hbase;unfold Oper.wp execOp;simp only[ho,resolve,invoke,builtin,Sem.run_bind,Sem.run_pure,Result.andThen_ok,List.map_toArray,List.map_cons,List.map_nil,hs,hx,hr];have hlt: ∀b,b∈v.ownBlock.toList++bX.flatten++fx.flatten→b<w.heap.size:=hown.lt;have hnd:=hown.nodup;have Dm: ∀b,v.ownBlock=some b→b∉bX.flatten++fx.flatten:=by
  intro b hb hm;rw[List.append_assoc,hb]at hnd;exact(List.nodup_cons.1 hnd).1 hm
 have hag:Agree w w' (bX.flatten++fx.flatten):=fun b hb=>h3.block b (hlt b (by rw[List.append_assoc];exact List.mem_append_right _ hb)) (fun e=>Dm b e.symm hb);have hlo: ∀b,v.ownBlock=some b→lo≤b:=fun b hb=>(hrow.lt b hb).1;have hbel:Below lo w w':=⟨h3.os,h3.tape,h3.output,h3.size,fun b hb=>h3.block b (by omega) (fun e=>by have:=hlo b e.symm;omega)⟩;have hlt2:=h2.lt;have hxl:=hrow.1;have aaV:Own lo w' (v'.ownBlock.toList++(bX++fx).flatten):=by
  rw[List.flatten_append, ←List.append_assoc];refine⟨LW hnd ?_,?_,?_⟩
  ·rcases h4 with h4|h4
   ·exact Or.inl (by rw[h4])
   ·refine Or.inr ⟨by rw[h4];simp,?_⟩;intro b hb hm;rw[h4]at hb;simp at hb;subst hb;have:=hlt w.heap.size (by rw[List.append_assoc];exact List.mem_append_right _ hm);omega
  ·intro b hb;rw[List.append_assoc]at hb;rcases List.mem_append.1 hb with hb|hb
   ·exact(hlt2 b (by simpa using hb)).1
   ·exact hown.ge b (by rw[List.append_assoc];exact List.mem_append_right _ hb)
  ·intro b hb;rw[List.append_assoc]at hb;rcases List.mem_append.1 hb with hb|hb
   ·rcases h2.2 with⟨rfl,_⟩| ⟨g,o,cap,cur,rfl,_,hg,_⟩
    ·simp[Value.ownBlock]at hb
    ·simp[Value.ownBlock]at hb;subst hb;exact⟨_,_,hg⟩
   ·rw[hag b hb];exact hown.kind b (by rw[List.append_assoc];exact List.mem_append_right _ hb)
 refine h v' w' _ ⟨xs++news,bX++fx,by rw[List.length_append];exact h2,by simp[hf,LJ],fun j y f hy ve=> ?_,rfl,aaV⟩ h3 hbel ?_ YJ fun b hb=>by rw[List.flatten_append];exact List.mem_append_right _ (List.mem_append_right _ hb)
 ·by_cases hj:j<l.length
  ·rw[List.getElem?_append_left hj]at hy;rw[List.getElem?_append_left (by omega)]at ve;have:=he j y f hy ve;have h5:j*k+k≤xs.length:=by
    rw[hxl];have:=Nat.mul_le_mul_right k (show j+1≤l.length by omega);rw[Nat.add_mul]at this;omega
   rw[List.drop_append_of_le_length (by omega),List.take_append_of_le_length (by rw[List.length_drop];omega)];exact G.agree this (hag.sub fun b hb=>List.mem_append_left _ (cI ve hb))
  ·rw[List.getElem?_append_right (by omega)]at hy;rw[List.getElem?_append_right (by omega),hf]at ve;have:=hel _ y f hy ve;have h5:(xs++news).drop (j*k)=news.drop ((j-l.length)*k):=by
    rw[List.drop_append,List.drop_eq_nil_of_le (by rw[hxl];exact Nat.mul_le_mul_right k (by omega)),List.nil_append,hxl,Nat.sub_mul]
   rw[h5];exact G.agree this (hag.sub fun b hb=>List.mem_append_right _ (cI ve hb))
 ·intro b hb;rw[List.flatten_append]at hb;rcases List.mem_append.1 hb with hb|hb
  ·rcases h4 with h4|h4
   ·rw[h4]at hb;exact Or.inl (List.mem_append_left _ hb)
   ·rw[h4]at hb;exact Or.inr (Or.inr (by simpa using hb))
  ·rcases List.mem_append.1 hb with hb|hb
   ·exact Or.inl (List.mem_append_right _ hb)
   ·exact Or.inr (Or.inl hb)
end
section
theorem below_setCells{B:Nat}{a w:World}(h:Below B a w){g:Nat}(hg:B≤g)(o:Nat)(vs:List Value):Below B a (w.setCells g o vs):=
 h.trans ⟨(ia g vs o w).1,(ia g vs o w).2.1,(ia g vs o w).2.2,by rw[wH];exact Nat.le_refl _,fun k hk=>cH g vs o w k (by omega)⟩
structure Part{α:Type}(k:Nat)(E:ER α)(lo e:Nat)(w:World)(g n:Nat)(l:List α)(bX:List (List Nat)):Prop where
 blk: ∃c,w.heap[g]? =some (.cells c e (0,0))∧c.size=n*k
 el:rB k E w g 0 l bX
 own:Own lo w (g::bX.flatten)
 cap:n≤maxLen
theorem Part.start{α:Type}{k:Nat}{E:ER α}{lo e:Nat}{w:World}{g n:Nat}{xs:List Value}(h:w.ownsRow lo e k (.slice (some ⟨g,0,none⟩) n n) n xs):Part k E lo e w g n ([]:List α) []:=by
 have hb:=(h.lt g rfl).1;rcases h.2 with⟨h1,_⟩| ⟨g',cap,cur,hv,Q3,hg,hnc,hcm,hcs,BR⟩
 ·simp at h1
 ·simp only[Value.slice.injEq,oI,Addr.mk.injEq,and_true,true_and]at hv;obtain⟨rfl,rfl⟩:=hv;exact⟨⟨cur,hg,hcs⟩,⟨rfl,fun i x f h=>by simp at h⟩,⟨by simp,by simpa using hb,fun b hb=>by rw[List.mem_singleton.1 hb];exact⟨_,_,hg⟩⟩,hcm⟩
theorem Part.there{α:Type}{k:Nat}{E:ER α}{lo e:Nat}{w:World}{g n:Nat}{l:List α}{bX:List (List Nat)}(h:Part k E lo e w g n l bX)(i:Nat)(hi:i<n):w.there g (i*k) k:=by
 obtain⟨c,hc,hs⟩:=h.blk;intro j hj;have h5:i*k+k≤n*k:=by
  have:=Nat.mul_le_mul_right k (show i+1≤n by omega);rw[Nat.add_mul]at this;omega
 refine⟨?_,?_⟩
 ·simp[World.cell?,hc];omega
 ·simp[World.frozen?,hc]
theorem Part.agree{α:Type}{k:Nat}{E:ER α}(G:fN k E){lo e:Nat}{w w':World}{g n:Nat}{l:List α}{bX:List (List Nat)}(h:Part k E lo e w g n l bX)(ha:Agree w w' (g::bX.flatten)):Part k E lo e w' g n l bX:=by
 have hg:=ha g (by simp);obtain⟨c,hc,hs⟩:=h.blk;exact⟨⟨c,by rw[hg];exact hc,hs⟩,h.el.agree G hg (ha.sub fun b hb=>List.mem_cons_of_mem _ hb),h.own.agree ha,h.cap⟩
theorem Part.below{α:Type}{k:Nat}{E:ER α}(G:fN k E){lo e:Nat}{w w':World}{g n:Nat}{l:List α}{bX:List (List Nat)}(h:Part k E lo e w g n l bX)(hb:Below w.heap.size w w'):Part k E lo e w' g n l bX:=
 h.agree G (lq hb h.own.lt)
theorem vQ{α:Type}{l:List α}{x y:α}{i:Nat}(h:(l++ [x])[i]? =some y):(l[i]? =some y∧i<l.length)∨(i=l.length∧y=x):=by
 by_cases hi:i<l.length
 ·rw[List.getElem?_append_left hi]at h;exact Or.inl ⟨h,hi⟩
 ·rw[List.getElem?_append_right (by omega)]at h;have h2:i-l.length=0:=by have:=(List.getElem?_eq_some_iff.1 h).1;simp at this;omega
  rw[h2]at h;exact Or.inr ⟨by omega,by simpa using h.symm⟩
theorem Part.push{α:Type}{k:Nat}{E:ER α}(G:fN k E){lo e:Nat}{w:World}{g n:Nat}{l:List α}{bX:List (List Nat)}(h:Part k E lo e w g n l bX)(hn:l.length<n)
  {cs:List Value}{x:α}{f:List Nat}(hE:E w cs x f)(ho:Own lo w f)(hd: ∀b,b∈f→b∉g::bX.flatten):
  Part k E lo e (w.setCells g (l.length*k) cs) g n (l++ [x]) (bX++ [f]):=by
 have hlen:=G.len hE;obtain⟨c,hc,hs⟩:=h.blk;obtain⟨c',NC,hs'⟩:=ec g e cs (l.length*k) w c hc;have VA:w.there g (l.length*k) cs.length:=by rw[hlen];exact h.there _ hn
 have Dm: ∀b,b∈bX.flatten→b≠g:=fun b hb e=>by
  have:=h.own.nodup;rw[List.nodup_cons]at this;exact this.1 (e▸hb)
 have hag:Agree w (w.setCells g (l.length*k) cs) bX.flatten:=fun b hb=>cH g cs _ w b (Dm b hb);have PA:Agree w (w.setCells g (l.length*k) cs) f:=fun b hb=>cH g cs _ w b (fun e=>hd b hb (by simp[e]));refine⟨⟨c',NC,by rw[hs',hs]⟩,⟨by simp[h.el.1],fun i y fy hy ve=> ?_⟩,⟨?_,?_,?_⟩,h.cap⟩
 ·rcases vQ hy with⟨hy,hi⟩| ⟨rfl,rfl⟩
  ·rw[List.getElem?_append_left (by have:=h.el.1;omega)]at ve;obtain⟨cy,hr,Q5⟩:=h.el.2 i y fy hy ve;refine⟨cy,World.rangeAt_setCells_apart hr _ _ _ (Or.inr (Or.inl ?_)),G.agree Q5 (hag.sub fun b hb=>cI ve hb)⟩;rw[G.len Q5];have:=Nat.mul_le_mul_right k (show i+1≤l.length by omega);rw[Nat.add_mul]at this;omega
  ·rw[List.getElem?_append_right (by have:=h.el.1;omega)]at ve;have:l.length-bX.length=0:=by have:=h.el.1;omega
   rw[this]at ve;simp at ve;subst ve;refine⟨cs,?_,G.agree hE PA⟩;rw[Nat.zero_add];exact World.rangeAt_setCells_same w g _ cs VA
 ·have h1:=h.own.nodup;have h2:=ho.nodup;rw[List.flatten_append, ←List.cons_append];simp only[List.flatten_cons,List.flatten_nil,List.append_nil];exact List.nodup_append.2 ⟨h1,h2,fun a ha b hb e=>hd b hb (e▸ha)⟩
 ·intro b hb;rw[List.flatten_append, ←List.cons_append]at hb;simp only[List.flatten_cons,List.flatten_nil,List.append_nil]at hb;rcases List.mem_append.1 hb with hb|hb
  ·exact h.own.ge b hb
  ·exact ho.ge b hb
 ·intro b hb;rw[List.flatten_append, ←List.cons_append]at hb;simp only[List.flatten_cons,List.flatten_nil,List.append_nil]at hb;rcases List.mem_append.1 hb with hb|hb
  ·rcases List.mem_cons.1 hb with rfl|hb
   ·exact⟨_,_,NC⟩
   ·rw[hag b hb];exact h.own.kind b (List.mem_cons_of_mem _ hb)
  ·rw[PA b hb];exact ho.kind b hb
end
end Go.Proofs.YtaalpcnbbldlaaaGreatDoor.L
