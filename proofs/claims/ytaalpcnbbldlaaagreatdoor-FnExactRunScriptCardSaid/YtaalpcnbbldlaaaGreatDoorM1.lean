/-
  Slices that a call builds by make and stores. Laws on the model's worlds; no program in sight.
-/
import Derived.ArgAppend
import Derived.Laws.AppendOwnNone
import Derived.Test.YtaalpcnbbldlaaaGreatDoorM0
open Array renaming getElem?_eq_some_iff→dz,length_toList→kL
open Go.Builtin renaming append_→fM,firstCells→lJ,lenOf→kK
open Go.Value renaming ownBlock→jj
open Go.World renaming cell?→xh,setCells→qQ
open List renaming append_assoc→bO,append_nil→dA,cons_append→iV,drop_append_of_le_length→kZ,eq_nil_of_length_eq_zero→cq,flatten_append→gH,flatten_cons→cY,flatten_nil→rX,getElem?_append_left→dJ,getElem?_append_right→cU,getElem?_drop→cK,getElem?_eq_getElem→aC,getElem?_eq_some_iff→aV,getElem?_take→dx,length_append→bf,length_drop→b9,length_take→bV,mem_append→bg,mem_append_left→aY,mem_append_right→aS,mem_cons_of_mem→aT,mem_singleton→aZ,nodup_append→bK,nodup_cons→cN,size_toArray→j0
open Nat renaming add_mul→dr,le_refl→bq,mul_comm→lZ,mul_le_mul_right→cA,zero_add→fL,zero_le→aE
open Or renaming inl→bY,inr→bB
namespace Go.Proofs.YtaalpcnbbldlaaaGreatDoor.L
set_option linter.all false
open Go.RowKit
section
def Src(w:World)(x:Value)(m:Nat)(news:List Value):Prop:=
 (x= .slice none 0 0∧m=0∧news= [])∨ ∃a c,x= .slice (some a) m c∧ ∀j u,news[j]? =some u→w.cell? (a.add j)=some u
def Shape(w w':World):Prop:= ∀(b:Nat) (c:Array Value) (e:TypeId),w.heap[b]? =some (.cells c e (0,0))→ ∃c':Array Value,w'.heap[b]? =some (.cells c' e (0,0))∧c'.size=c.size
theorem eT(g:Nat): ∀(vs:List Value) (o:Nat) (w:World) (b:Nat),b≠g→(w.setCells g o vs).heap[b]? =w.heap[b]?
 | [],_,_,_,_=>rfl
 |v::r,o,w,b,h=>by rw[qQ,eT g r (o+1) _ b h];exact Below.heap_setCell _ _ _ _ h
theorem CF(g:Nat): ∀(vs:List Value) (o:Nat) (w:World),(w.setCells g o vs).heap.size=w.heap.size
 | [],_,_=>rfl
 |v::r,o,w=>by rw[qQ,CF g r (o+1)];simp[World.setCell]
theorem mF(g:Nat): ∀(vs:List Value) (o:Nat) (w:World),(w.setCells g o vs).os=w.os∧(w.setCells g o vs).tape=w.tape∧(w.setCells g o vs).output=w.output
 | [],_,_=>⟨rfl,rfl,rfl⟩
 |v::r,o,w=>by rw[qQ];exact mF g r (o+1) _
theorem iC(g e:Nat): ∀(vs:List Value) (o:Nat) (w:World) (c:Array Value),w.heap[g]? =some (.cells c e (0,0))→ ∃c',(w.setCells g o vs).heap[g]? =some (.cells c' e (0,0))∧c'.size=c.size
 | [],_,_,c,h=>⟨c,h,rfl⟩
 |v::r,o,w,c,h=>by
  obtain⟨c',h1,h2⟩:=iC g e r (o+1) (w.setCell ⟨g,o,none⟩ v) _ (heap_setCell_same w g o c e v h)
  exact⟨c',by rw[qQ];exact h1,by rw[h2];simp⟩
theorem Shape.refl(w:World):Shape w w:=fun _ c _ h=>⟨c,h,rfl⟩
theorem Shape.set(w:World)(g o:Nat)(vs:List Value):Shape w (w.setCells g o vs):=fun b c e h=>by
 by_cases hb:b=g
 ·subst hb;exact iC b e vs o w c h
 ·exact⟨c,by rw[eT g vs o w b hb];exact h,rfl⟩
theorem Shape.alloc(w:World)(o:Obj):Shape w (w.drew.alloc o):=fun b c e h=>by
 refine⟨c,?_,rfl⟩
 show(w.heap.push o)[b]? =_
 have hlt:=(dz.1 h).1
 rw[Array.getElem?_push_lt hlt, ←Array.getElem?_eq_getElem hlt]
 exact h
theorem Shape.row{w:World}{g:Nat}{c c':Array Value}{e:TypeId}(hg:w.heap[g]? =some (.cells c e (0,0)))(hs:c'.size=c.size):Shape w (w.setRow g c'):=fun b d e' h=>by
 by_cases hb:b=g
 ·subst hb
  rw[hg]at h
  simp only[oI,Obj.cells.injEq,and_true]at h
  obtain⟨rfl,rfl⟩:=h
  exact⟨c',setRow_heap w b c c' e (0,0) hg,hs⟩
 ·refine⟨d,?_,rfl⟩
  show(w.heap.modify g _)[b]? =_
  rw[Array.getElem?_modify,if_neg (Ne.symm hb)];exact h
theorem Fit.set{w:World}{b m:Nat}(h:Fit w b m){c:Array Value}{e:TypeId}(hb:w.heap[b]? =some (.cells c e (0,0)))(o:Nat)(vs:List Value):Fit (w.setCells b o vs) b m:=by
 obtain⟨c1,e1,fz,h1,h2⟩:=h
 rw[hb]at h1
 simp only[oI,Obj.cells.injEq]at h1
 obtain⟨rfl,rfl,rfl⟩:=h1
 obtain⟨c',h3,h4⟩:=iC b e vs o w c hb
 exact⟨c',e,(0,0),h3,by rw[h4];exact h2⟩
theorem Fit.other{w:World}{b m g:Nat}(h:Fit w b m)(hg:b≠g)(o:Nat)(vs:List Value):Fit (w.setCells g o vs) b m:=h.agree (eT g vs o w b hg)
def lI(w:World)(base:Nat)(e:TypeId)(k:Nat)(v:Value)(n:Nat)(xs:List Value):Prop:=
 xs.length=n*k∧((v= .slice none 0 0∧n=0)∨
  ∃g o cap cur,v= .slice (some ⟨g,o,none⟩) n cap∧base≤g∧w.heap[g]? =some (.cells cur e (0,0))∧n≤cap∧cap≤maxLen∧o+cap*k≤cur.size∧(cur.toList.drop o).take (n*k)=xs)
theorem lI.of{w:World}{base:Nat}{e:TypeId}{k:Nat}{v:Value}{n:Nat}{xs:List Value}(h:w.ownsRow base e k v n xs):lI w base e k v n xs:=by
 refine⟨h.1,?_⟩
 rcases h.2 with h| ⟨g,cap,cur,hv,hb,hg,h1,h2,h3,h4⟩
 ·exact bY h
 ·exact bB ⟨g,0,cap,cur,hv,hb,hg,h1,h2,by omega,h4⟩
theorem lI.nil(w:World)(base:Nat)(e:TypeId)(k:Nat):lI w base e k (.slice none 0 0) 0 []:=⟨by simp,bY ⟨rfl,rfl⟩⟩
theorem lI.lt{w:World}{base:Nat}{e:TypeId}{k:Nat}{v:Value}{n:Nat}{xs:List Value}(h:lI w base e k v n xs): ∀b,v.ownBlock=some b→base≤b∧b<w.heap.size:=by
 intro b hb
 rcases h.2 with⟨rfl,_⟩| ⟨g,o,cap,cur,rfl,hbg,hg,_⟩
 ·simp[jj]at hb
 ·simp[jj]at hb
  subst hb
  exact⟨hbg,(dz.1 hg).1⟩
theorem F9{w:World}{g o m:Nat}{e:TypeId}{fz:Nat×Nat}{cur:Array Value}(hg:w.heap[g]? =some (.cells cur e fz)): ∀(j:Nat) (u:Value),((cur.toList.drop o).take m)[j]? =some u→w.cell? ⟨g,o+j,none⟩=some u:=by
 intro j u hu
 rw[dx]at hu
 split at hu
 ·rw[cK]at hu
  simp only[xh,hg]
  simpa using hu
 ·cases hu
theorem C0{P:Program}(w:World)(t ty e:TypeId)(i:TypeInfo)(ht:P.underlying t=some (.slice e))(hi:P.info? e=some i)
  (g o sLen sCap:Nat)(cur:Array Value)(hg:w.heap[g]? =some (.cells cur e (0,0)))
  (a:Addr)(m c:Nat)(news:List Value)(hl:news.length=m*i.size)(hnews: ∀j u,news[j]? =some u→w.cell? (a.add j)=some u)(h1: ∀u∈news,u.oneCell'=true)
  (hroom:sLen+m≤sCap)(hfit:o+sLen*i.size+news.length≤cur.size):
  (fM #[t,t] ty #[.slice (some ⟨g,o,none⟩) sLen sCap, .slice (some a) m c]).run P w=
   .ok (.slice (some ⟨g,o,none⟩) (sLen+m) sCap) (w.setRow g (cur.toList.take (o+sLen*i.size)++news++cur.toList.drop (o+sLen*i.size+news.length)).toArray):=by
 have hf:=run_firstCells_some (P:=P) w i.size m a m c news hl hnews
 have hst:=run_storeCells_at P g (o+sLen*i.size) e news 0 cur w hg (by simpa using hfit) h1
 simp only[Nat.add_zero]at hst
 simp[fM,run_underlying ht,sizeOf,typeInfo,hi,kK,hroom,hf,Addr.add_mid,hst]
theorem age{P:Program}(w:World)(base:Nat)(t ty e:TypeId)(i:TypeInfo)(z:Value)(size bytes:Nat)(ht:P.underlying t=some (.slice e))(hi:P.info? e=some i)(hz:i.zero=some z)
  (hsize:i.size=size)(hby:i.bytes=bytes)(hzs:z.cells.size=size)(hsz:0<size)
  (v:Value)(n:Nat)(xs:List Value)(hown:lI w base e size v n xs)
  (x:Value)(m:Nat)(news:List Value)(hl:news.length=m*size)(hx:Src w x m news)(h1: ∀u∈news,u.oneCell'=true)
  (h63:n+m≤maxLen)(hbytes:(n+m)*bytes≤140737488355328)(hbase:base≤w.heap.size):
  ∃v' w',(fM #[t,t] ty #[v,x]).run P w= .ok v' w'∧lI w' base e size v' (n+m) (xs++news)∧w.grownBy w' v.ownBlock∧
   (v'.ownBlock=v.ownBlock∨v'.ownBlock=some w.heap.size)∧Shape w w':=by
 rcases hown.2 with⟨rfl,rfl⟩| ⟨g,o,cap,cur,rfl,hbg,hg,hnc,hcm,hcs,HU⟩
 ·have hx0:xs= []:=cq (by simpa using hown.1)
  subst hx0
  rcases hx with⟨rfl,rfl,rfl⟩| ⟨a,c,rfl,hnews⟩
  ·refine⟨.slice none 0 0,w,?_,by simpa using hown,⟨rfl,rfl,rfl,bq _,fun _ _ _=>rfl⟩,bY rfl,Shape.refl _⟩
   simp[fM,run_underlying ht,sizeOf,typeInfo,hi,kK,lJ,storeCells]
  ·subst hsize
   subst hby
   by_cases hm:m=0
   ·subst hm
    have hn:news= []:=cq (by simpa using hl)
    subst hn
    have hr2:(fM #[t,t] ty #[.slice none 0 0, .slice (some a) 0 c]).run P w= .ok (.slice none 0 0) w:=by
     simp[fM,run_underlying ht,sizeOf,typeInfo,hi,kK,lJ,loadCells,loadCellsFrom]
    exact⟨_,_,hr2,by simpa using hown,⟨rfl,rfl,rfl,bq _,fun _ _ _=>rfl⟩,bY rfl,Shape.refl _⟩
   ·have hr2:=run_append_nil (P:=P) w t ty e i z ht hi hz a m c news hl hnews (by omega) (by simp only[maxLen]at h63;omega) (by have hb:=hbytes;simp only[fL]at hb;omega)
    obtain⟨v',w',hr,h2,h3,_⟩:=run_append_own (P:=P) w base t ty e i z i.size i.bytes ht hi hz rfl rfl hzs hsz (.slice none 0 0) 0 [] (World.ownsRow_nil w _ _ _) a m c news hl hnews h1 h63 hbytes hbase
    have e2:=hr2.symm.trans hr
    simp only[Result.ok.injEq]at e2
    refine⟨v',w',hr,lI.of h2,h3,bB ?_,?_⟩
    ·rw[←e2.1];rfl
    ·rw[←e2.2];exact Shape.alloc _ _
 ·have holds: ∀j u,xs[j]? =some u→w.cell? ((⟨g,o,none⟩:Addr).add j)=some u:=by
   intro j u hu
   rw[Addr.add_mid]
   exact F9 hg j u (by rw[HU];exact hu)
  rcases hx with⟨rfl,rfl,rfl⟩| ⟨a,c,rfl,hnews⟩
  ·refine⟨.slice (some ⟨g,o,none⟩) n cap,w,?_,by simpa using hown,⟨rfl,rfl,rfl,bq _,fun _ _ _=>rfl⟩,bY rfl,Shape.refl _⟩
   simp[fM,run_underlying ht,sizeOf,typeInfo,hi,kK,lJ,storeCells,hnc]
  ·by_cases hroom:n+m≤cap
   ·subst hsize
    subst hby
    have h5:(n+m)*i.size≤cap*i.size:=cA _ hroom
    have hfit:o+n*i.size+news.length≤cur.size:=by rw[hl];rw[dr]at h5;omega
    have hr2:=C0 (P:=P) w t ty e i ht hi g o n cap cur hg a m c news hl hnews h1 hroom hfit
    have hxl:=hown.1
    have e1:(cur.toList.take (o+n*i.size)).drop o=xs:=by rw[List.drop_take,Nat.add_sub_cancel_left];exact HU
    have e2:(cur.toList.take (o+n*i.size)).length=o+n*i.size:=by rw[bV,kL];omega
    refine⟨_,_,hr2,⟨by rw[bf,hxl,hl,dr],bB ⟨g,o,cap,_,rfl,hbg,setRow_heap w g cur _ e _ hg,hroom,hcm,?_,?_⟩⟩,⟨rfl,rfl,rfl,by simp,fun k _ hk=>setRow_other w g k _ (fun e=>hk (by simp[jj,e]))⟩,bY rfl,Shape.row hg ?_⟩
    ·simp only[j0,bf,bV,b9,kL]
     omega
    ·rw[bO,kZ (by omega),e1, ←bO]
     exact(congrArg (fun q=>List.take q _) (by rw[bf,hxl,hl,dr])).trans List.take_left
    ·simp only[j0,bf,bV,b9,kL]
     omega
   ·obtain⟨v',w',hr,h2,h3⟩:=run_append_arg_grows (P:=P) w t ty e i z size bytes ht hi hz hsize hby hzs hsz ⟨g,o,none⟩ n cap xs hown.1 holds a m c news hl hnews (by omega) h63 hbytes
    subst hsize
    subst hby
    have hr2:=run_append_grow (P:=P) w t ty e i z ht hi hz ⟨g,o,none⟩ n cap xs hown.1 holds a m c news hl hnews (by omega) (by simp only[maxLen]at h63;omega) (growslice_fits (by simp only[maxLen]at h63;omega) hbytes)
    have e2:=hr2.symm.trans hr
    simp only[Result.ok.injEq]at e2
    refine⟨v',w',hr,?_,⟨h3.os,h3.tape,h3.output,h3.size,fun k hk _=>h3.block k hk (by simp)⟩,bB ?_,?_⟩
    ·have h4:=lI.of h2
     refine⟨h4.1,?_⟩
     rcases h4.2 with h5| ⟨g',o',cap',cur',q1,q2,q3⟩
     ·exact bY h5
     ·exact bB ⟨g',o',cap',cur',q1,by omega,q3⟩
    ·rw[←e2.1];rfl
    ·rw[←e2.2];exact Shape.alloc _ _
def nL{α:Type}(k:Nat)(E:ER α)(lo e:Nat)(w:World)(v:Value)(l:List α)(fp:List Nat):Prop:=
 ∃(xs:List Value) (dN:List (List Nat)),lI w lo e k v l.length xs∧dN.length=l.length∧(∀i x f,l[i]? =some x→dN[i]? =some f→E w ((xs.drop (i*k)).take k) x f)∧
  fp=v.ownBlock.toList++dN.flatten∧Own lo w fp
theorem nL.own{α:Type}{k:Nat}{E:ER α}{lo e:Nat}{w:World}{v:Value}{l:List α}{fp:List Nat}(h:nL k E lo e w v l fp):Own lo w fp:=by
 obtain⟨xs,dN,_,_,_,_,h⟩:=h;exact h
theorem nL.nil{α:Type}(k:Nat)(E:ER α)(lo e:Nat)(w:World):nL k E lo e w (.slice none 0 0) ([]:List α) []:=
 ⟨[],[],lI.nil w lo e k,rfl,fun i x f h=>by simp at h,rfl,Own.nil lo w⟩
theorem QO(w:World)(o:Obj):(w.alloc o).heap[w.heap.size]? =some o:=by
 show(w.heap.push o)[w.heap.size]? =_
 simp
theorem nL.empty{α:Type}(k:Nat)(E:ER α)(lo e:Nat)(w:World)(hlo:lo≤w.heap.size):nL k E lo e (w.alloc (.cells #[] e)) (.slice (some ⟨w.heap.size,0,none⟩) 0 0) ([]:List α) [w.heap.size]:=
 ⟨[],[],⟨by simp, .inr ⟨w.heap.size,0,0,#[],rfl,hlo,QO _ _,bq _,aE _,by simp,by simp⟩⟩,rfl,fun i x f h=>by simp at h,rfl,
   ⟨by simp,by simpa using hlo,fun b hb=>by rw[aZ.1 hb];exact⟨_,_,QO _ _⟩⟩⟩
theorem nL.sl{α:Type}{k:Nat}{E:ER α}{lo e:Nat}{w:World}{v:Value}{l:List α}{fp:List Nat}(h:nL k E lo e w v l fp):Sl k E w v l fp:=by
 obtain⟨xs,dN,hown,hf,he,rfl,ho⟩:=h
 have hlt:=hown.lt
 rcases hown.2 with⟨rfl,h0⟩| ⟨g,o,cap,cur,rfl,hbg,hg,hnc,hcm,hcs,HU⟩
 ·have hl:l= []:=cq h0
  subst hl
  have:dN= []:=cq (by simpa using hf)
  subst this
  exact⟨none,0,rfl,bq _,aE _,bY ⟨rfl,rfl,rfl⟩⟩
 ·refine⟨some ⟨g,o,none⟩,cap,rfl,hnc,hcm,bB ⟨g,o,dN,rfl,⟨cur,e,(0,0),hg,hcs⟩,rfl,II hf (fun j u hu=> ?_) he⟩⟩
  exact F9 hg j u (by rw[HU];exact hu)
theorem nL.agree{α:Type}{k:Nat}{E:ER α}(G:kq k E){lo e:Nat}{w w':World}{v:Value}{l:List α}{fp:List Nat}(h:nL k E lo e w v l fp)(ha:Agree w w' fp):nL k E lo e w' v l fp:=by
 obtain⟨xs,dN,hown,hf,he,rfl,ho⟩:=h
 refine⟨xs,dN,⟨hown.1,?_⟩,hf,fun i x f hx hfi=>G.agree (he i x f hx hfi) (ha.sub fun b hb=>aS _ (eW hfi hb)),rfl,ho.agree ha⟩
 rcases hown.2 with h| ⟨g,o,cap,cur,rfl,hbg,hg,r⟩
 ·exact bY h
 ·exact bB ⟨g,o,cap,cur,rfl,hbg,by rw[ha g (by simp[jj])];exact hg,r⟩
theorem nL.below{α:Type}{k:Nat}{E:ER α}(G:kq k E){lo e:Nat}{w w':World}{v:Value}{l:List α}{fp:List Nat}(h:nL k E lo e w v l fp)(hb:Below w.heap.size w w'):nL k E lo e w' v l fp:=
 h.agree G (qW hb h.own.lt)
theorem nL.mono{α:Type}{k:Nat}{E:ER α}{lo lo' e:Nat}{w:World}{v:Value}{l:List α}{fp:List Nat}(h:nL k E lo e w v l fp)(hl:lo'≤lo):nL k E lo' e w v l fp:=by
 obtain⟨xs,dN,hown,hf,he,rfl,ho⟩:=h
 refine⟨xs,dN,⟨hown.1,?_⟩,hf,he,rfl,ho.mono hl⟩
 rcases hown.2 with h| ⟨g,o,cap,cur,rfl,hbg,r⟩
 ·exact bY h
 ·exact bB ⟨g,o,cap,cur,rfl,Nat.le_trans hl hbg,r⟩
theorem DV{α:Type}{k:Nat}{E:ER α}(G:kq k E){w:World}{l:List α}{dN:List (List Nat)}{news:List Value}(hf:dN.length=l.length)(hl:news.length=l.length*k)(hk:0<k)
  (he: ∀i x f,l[i]? =some x→dN[i]? =some f→E w ((news.drop (i*k)).take k) x f): ∀u∈news,u.oneCell'=true:=by
 intro u hu
 obtain⟨j,hj⟩:=List.getElem?_of_mem hu
 have hjl:=(aV.1 hj).1
 have hi:j/k<l.length:=Nat.div_lt_of_lt_mul (by rw[lZ];omega)
 obtain⟨f,hfi⟩:=jZ hf (aC hi)
 refine G.one (he _ _ f (aC hi) hfi) u ?_
 have hdm:=Nat.div_add_mod j k
 have hml:=Nat.mod_lt j hk
 have hmc:=lZ k (j/k)
 have:((news.drop (j/k*k)).take k)[j % k]? =some u:=by
  rw[dx,if_pos hml,cK, ←hj]
  congr 1
  omega
 exact List.mem_of_getElem? this
theorem Ur{a a' f g:List Nat}(ho:(a++f++g).Nodup)(h:a'=a∨(a'.length≤1∧ ∀b,b∈a'→b∉f++g)):(a'++f++g).Nodup:=by
 rcases h with rfl| ⟨h1,h2⟩
 ·exact ho
 ·rw[bO]at ho ⊢
  have hn:=(bK.1 ho).2.1
  match a',h1,h2 with
  | [],_,_=>simpa using hn
  | [x],_,h2=>exact cN.2 ⟨h2 x (by simp),hn⟩
theorem Ol{P:Program}{w:World}{o:Oper}{a:Act}{K:Act→World→Prop}{Q:Exit→Act→World→Prop}(s x:Operand)(t:TypeId)
  (ho:o.op= .call {callee:= .builtin .append,args:= #[s,x],argTypes:= #[t,t]})
  {α:Type}{k:Nat}{E:ER α}(G:kq k E)(hk:0<k)(lo e:Nat)(z:Value)(bytes:Nat)(ht:P.underlying t=some (.slice e))
  (aa8:(P.info? e).map (fun i=>(i.zero,i.size,i.bytes))=some (some z,k,bytes))(hzs:z.cells.size=k)
  (v:Value)(l:List α)(fp:List Nat)(hs:a.eval s=v)(hB:nL k E lo e w v l fp)
  (vx:Value)(hx:a.eval x=vx)(lx:List α)(news:List Value)(fx:List (List Nat))(hsrc:Src w vx lx.length news)(T7:fx.length=lx.length)(hl:news.length=lx.length*k)
  (hel: ∀i x f,lx[i]? =some x→fx[i]? =some f→E w ((news.drop (i*k)).take k) x f)(hown:Own lo w (fp++fx.flatten))
  (h63:l.length+lx.length≤maxLen)(hbytes:(l.length+lx.length)*bytes≤140737488355328)(hbase:lo≤w.heap.size)
  (h: ∀v' w' lH,nL k E lo e w' v' (l++lx) lH→w.grownBy w' v.ownBlock→Below lo w w'→(∀b,b∈lH→b∈fp∨b∈fx.flatten∨b=w.heap.size)→Shape w w'→(∀b,b∈fx.flatten→b∈lH)→K (a.put o.dst v') w'):o.wp P a w K Q:=by
 obtain⟨i,hi,hz,hsize,hby⟩:=info_parts aa8
 obtain⟨xs,dN,hrow,hf,he,rfl,agf⟩:=hB
 have h1:=DV G T7 hl hk hel
 obtain⟨v',w',hr,h2,h3,h4,akS⟩:=age (P:=P) w lo t o.type e i z k bytes ht hi hz hsize hby hzs hk v l.length xs hrow vx lx.length news hl hsrc h1 h63 hbytes hbase
 unfold Oper.wp execOp
 simp only[ho,resolve,invoke,builtin,Sem.run_bind,Sem.run_pure,Result.andThen_ok,List.map_toArray,List.map_cons,List.map_nil,hs,hx,hr]
 have hlt: ∀b,b∈v.ownBlock.toList++dN.flatten++fx.flatten→b<w.heap.size:=hown.lt
 have hnd:=hown.nodup
 have JU: ∀b,v.ownBlock=some b→b∉dN.flatten++fx.flatten:=by
  intro b hb hm
  rw[bO,hb]at hnd
  exact(cN.1 hnd).1 hm
 have hag:Agree w w' (dN.flatten++fx.flatten):=fun b hb=>h3.block b (hlt b (by rw[bO];exact aS _ hb)) (fun e=>JU b e.symm hb)
 have hlo: ∀b,v.ownBlock=some b→lo≤b:=fun b hb=>(hrow.lt b hb).1
 have hbel:Below lo w w':=⟨h3.os,h3.tape,h3.output,h3.size,fun b hb=>h3.block b (by omega) (fun e=>by have:=hlo b e.symm;omega)⟩
 have hlt2:=h2.lt
 have hxl:=hrow.1
 have anv:Own lo w' (v'.ownBlock.toList++(dN++fx).flatten):=by
  rw[gH, ←bO]
  refine⟨Ur hnd ?_,?_,?_⟩
  ·rcases h4 with h4|h4
   ·exact bY (by rw[h4])
   ·refine bB ⟨by rw[h4];simp,?_⟩
    intro b hb hm
    rw[h4]at hb
    simp at hb
    subst hb
    have:=hlt w.heap.size (by rw[bO];exact aS _ hm)
    omega
  ·intro b hb
   rw[bO]at hb
   rcases bg.1 hb with hb|hb
   ·exact(hlt2 b (by simpa using hb)).1
   ·exact hown.ge b (by rw[bO];exact aS _ hb)
  ·intro b hb
   rw[bO]at hb
   rcases bg.1 hb with hb|hb
   ·rcases h2.2 with⟨rfl,_⟩| ⟨g,o,cap,cur,rfl,_,hg,_⟩
    ·simp[jj]at hb
    ·simp[jj]at hb
     subst hb
     exact⟨_,_,hg⟩
   ·rw[hag b hb]
    exact hown.kind b (by rw[bO];exact aS _ hb)
 refine h v' w' _ ⟨xs++news,dN++fx,by rw[bf];exact h2,by simp[hf,T7],fun j y f hy BD=> ?_,rfl,anv⟩ h3 hbel ?_ akS fun b hb=>by rw[gH];exact aS _ (aS _ hb)
 ·by_cases hj:j<l.length
  ·rw[dJ hj]at hy
   rw[dJ (by omega)]at BD
   have:=he j y f hy BD
   have h5:j*k+k≤xs.length:=by
    rw[hxl]
    have:=cA k (show j+1≤l.length by omega)
    rw[dr]at this;omega
   rw[kZ (by omega),List.take_append_of_le_length (by rw[b9];omega)]
   exact G.agree this (hag.sub fun b hb=>aY _ (eW BD hb))
  ·rw[cU (by omega)]at hy
   rw[cU (by omega),hf]at BD
   have:=hel _ y f hy BD
   have h5:(xs++news).drop (j*k)=news.drop ((j-l.length)*k):=by
    rw[List.drop_append,List.drop_eq_nil_of_le (by rw[hxl];exact cA k (by omega)),List.nil_append,hxl,Nat.sub_mul]
   rw[h5]
   exact G.agree this (hag.sub fun b hb=>aS _ (eW BD hb))
 ·intro b hb
  rw[gH]at hb
  rcases bg.1 hb with hb|hb
  ·rcases h4 with h4|h4
   ·rw[h4]at hb
    exact bY (aY _ hb)
   ·rw[h4]at hb
    exact bB (bB (by simpa using hb))
  ·rcases bg.1 hb with hb|hb
   ·exact bY (aS _ hb)
   ·exact bB (bY hb)
end
section
theorem below_setCells{B:Nat}{a w:World}(h:Below B a w){g:Nat}(hg:B≤g)(o:Nat)(vs:List Value):Below B a (w.setCells g o vs):=
 h.trans ⟨(mF g vs o w).1,(mF g vs o w).2.1,(mF g vs o w).2.2,by rw[CF];exact bq _,fun k hk=>eT g vs o w k (by omega)⟩
structure Part{α:Type}(k:Nat)(E:ER α)(lo e:Nat)(w:World)(g n:Nat)(l:List α)(dN:List (List Nat)):Prop where
 blk: ∃c,w.heap[g]? =some (.cells c e (0,0))∧c.size=n*k
 el:yD k E w g 0 l dN
 own:Own lo w (g::dN.flatten)
 cap:n≤maxLen
theorem Part.start{α:Type}{k:Nat}{E:ER α}{lo e:Nat}{w:World}{g n:Nat}{xs:List Value}(h:w.ownsRow lo e k (.slice (some ⟨g,0,none⟩) n n) n xs):Part k E lo e w g n ([]:List α) []:=by
 have hb:=(h.lt g rfl).1
 rcases h.2 with⟨h1,_⟩| ⟨g',cap,cur,hv,hbg,hg,hnc,hcm,hcs,HU⟩
 ·simp at h1
 ·simp only[Value.slice.injEq,oI,Addr.mk.injEq,and_true,true_and]at hv
  obtain⟨rfl,rfl⟩:=hv
  exact⟨⟨cur,hg,hcs⟩,⟨rfl,fun i x f h=>by simp at h⟩,⟨by simp,by simpa using hb,fun b hb=>by rw[aZ.1 hb];exact⟨_,_,hg⟩⟩,hcm⟩
theorem Part.there{α:Type}{k:Nat}{E:ER α}{lo e:Nat}{w:World}{g n:Nat}{l:List α}{dN:List (List Nat)}(h:Part k E lo e w g n l dN)(i:Nat)(hi:i<n):w.there g (i*k) k:=by
 obtain⟨c,hc,hs⟩:=h.blk
 intro j hj
 have h5:i*k+k≤n*k:=by
  have:=cA k (show i+1≤n by omega)
  rw[dr]at this;omega
 refine⟨?_,?_⟩
 ·simp[xh,hc];omega
 ·simp[World.frozen?,hc]
theorem Part.agree{α:Type}{k:Nat}{E:ER α}(G:kq k E){lo e:Nat}{w w':World}{g n:Nat}{l:List α}{dN:List (List Nat)}(h:Part k E lo e w g n l dN)(ha:Agree w w' (g::dN.flatten)):Part k E lo e w' g n l dN:=by
 have hg:=ha g (by simp)
 obtain⟨c,hc,hs⟩:=h.blk
 exact⟨⟨c,by rw[hg];exact hc,hs⟩,h.el.agree G hg (ha.sub fun b hb=>aT _ hb),h.own.agree ha,h.cap⟩
theorem Part.below{α:Type}{k:Nat}{E:ER α}(G:kq k E){lo e:Nat}{w w':World}{g n:Nat}{l:List α}{dN:List (List Nat)}(h:Part k E lo e w g n l dN)(hb:Below w.heap.size w w'):Part k E lo e w' g n l dN:=
 h.agree G (qW hb h.own.lt)
theorem Ca{α:Type}{l:List α}{x y:α}{i:Nat}(h:(l++ [x])[i]? =some y):(l[i]? =some y∧i<l.length)∨(i=l.length∧y=x):=by
 by_cases hi:i<l.length
 ·rw[dJ hi]at h;exact bY ⟨h,hi⟩
 ·rw[cU (by omega)]at h
  have h2:i-l.length=0:=by have:=(aV.1 h).1;simp at this;omega
  rw[h2]at h
  exact bB ⟨by omega,by simpa using h.symm⟩
theorem Part.push{α:Type}{k:Nat}{E:ER α}(G:kq k E){lo e:Nat}{w:World}{g n:Nat}{l:List α}{dN:List (List Nat)}(h:Part k E lo e w g n l dN)(hn:l.length<n)
  {cs:List Value}{x:α}{f:List Nat}(hE:E w cs x f)(ho:Own lo w f)(hd: ∀b,b∈f→b∉g::dN.flatten):
  Part k E lo e (w.setCells g (l.length*k) cs) g n (l++ [x]) (dN++ [f]):=by
 have hlen:=G.len hE
 obtain⟨c,hc,hs⟩:=h.blk
 obtain⟨c',Ws,hs'⟩:=iC g e cs (l.length*k) w c hc
 have hth:w.there g (l.length*k) cs.length:=by rw[hlen];exact h.there _ hn
 have JU: ∀b,b∈dN.flatten→b≠g:=fun b hb e=>by
  have:=h.own.nodup
  rw[cN]at this
  exact this.1 (e▸hb)
 have hag:Agree w (w.setCells g (l.length*k) cs) dN.flatten:=fun b hb=>eT g cs _ w b (JU b hb)
 have YY:Agree w (w.setCells g (l.length*k) cs) f:=fun b hb=>eT g cs _ w b (fun e=>hd b hb (by simp[e]))
 refine⟨⟨c',Ws,by rw[hs',hs]⟩,⟨by simp[h.el.1],fun i y fy hy BD=> ?_⟩,⟨?_,?_,?_⟩,h.cap⟩
 ·rcases Ca hy with⟨hy,hi⟩| ⟨rfl,rfl⟩
  ·rw[dJ (by have:=h.el.1;omega)]at BD
   obtain⟨cy,hr,hEy⟩:=h.el.2 i y fy hy BD
   refine⟨cy,World.rangeAt_setCells_apart hr _ _ _ (bB (bY ?_)),G.agree hEy (hag.sub fun b hb=>eW BD hb)⟩
   rw[G.len hEy]
   have:=cA k (show i+1≤l.length by omega)
   rw[dr]at this;omega
  ·rw[cU (by have:=h.el.1;omega)]at BD
   have:l.length-dN.length=0:=by have:=h.el.1;omega
   rw[this]at BD
   simp at BD
   subst BD
   refine⟨cs,?_,G.agree hE YY⟩
   rw[fL]
   exact World.rangeAt_setCells_same w g _ cs hth
 ·have h1:=h.own.nodup
  have h2:=ho.nodup
  rw[gH, ←iV]
  simp only[cY,rX,dA]
  exact bK.2 ⟨h1,h2,fun a ha b hb e=>hd b hb (e▸ha)⟩
 ·intro b hb
  rw[gH, ←iV]at hb
  simp only[cY,rX,dA]at hb
  rcases bg.1 hb with hb|hb
  ·exact h.own.ge b hb
  ·exact ho.ge b hb
 ·intro b hb
  rw[gH, ←iV]at hb
  simp only[cY,rX,dA]at hb
  rcases bg.1 hb with hb|hb
  ·rcases List.mem_cons.1 hb with rfl|hb
   ·exact⟨_,_,Ws⟩
   ·rw[hag b hb];exact h.own.kind b (aT _ hb)
  ·rw[YY b hb];exact ho.kind b hb
end
end Go.Proofs.YtaalpcnbbldlaaaGreatDoor.L
