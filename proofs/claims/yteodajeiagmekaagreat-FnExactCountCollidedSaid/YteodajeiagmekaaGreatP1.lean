/-
  Slices that a call builds by make and stores. Laws on the model's worlds; no program in sight.
-/
import Derived.Laws.AppendOwnNone
import Derived.Test.YteodajeiagmekaaGreatP0
namespace Go.Proofs.YteodajeiagmekaaGreat.L
set_option linter.all false
open Go.RowKit
section
def Src(w:World)(x:Value)(m:Nat)(news:List Value):Prop:=
 (x= .slice none 0 0∧m=0∧news= [])∨ ∃a c,x= .slice (some a) m c∧ ∀j u,news[j]? =some u→w.cell? (a.add j)=some u
def Shape(w w':World):Prop:= ∀(b:Nat) (c:Array Value) (e:TypeId),w.heap[b]? =some (.cells c e (0,0))→ ∃c':Array Value,w'.heap[b]? =some (.cells c' e (0,0))∧c'.size=c.size
theorem aR(g:Nat): ∀(vs:List Value) (o:Nat) (w:World) (b:Nat),b≠g→(w.setCells g o vs).heap[b]? =w.heap[b]?
 | [],_,_,_,_=>rfl
 |v::r,o,w,b,h=>by rw[World.setCells,aR g r (o+1) _ b h];exact Below.heap_setCell _ _ _ _ h
theorem dZ(g:Nat): ∀(vs:List Value) (o:Nat) (w:World),(w.setCells g o vs).heap.size=w.heap.size
 | [],_,_=>rfl
 |v::r,o,w=>by rw[World.setCells,dZ g r (o+1)];simp[World.setCell]
theorem cN(g:Nat): ∀(vs:List Value) (o:Nat) (w:World),(w.setCells g o vs).os=w.os∧(w.setCells g o vs).tape=w.tape∧(w.setCells g o vs).output=w.output
 | [],_,_=>⟨rfl,rfl,rfl⟩
 |v::r,o,w=>by rw[World.setCells];exact cN g r (o+1) _
theorem bC(g e:Nat): ∀(vs:List Value) (o:Nat) (w:World) (c:Array Value),w.heap[g]? =some (.cells c e (0,0))→ ∃c',(w.setCells g o vs).heap[g]? =some (.cells c' e (0,0))∧c'.size=c.size
 | [],_,_,c,h=>⟨c,h,rfl⟩
 |v::r,o,w,c,h=>by
  obtain⟨c',h1,h2⟩:=bC g e r (o+1) (w.setCell ⟨g,o,none⟩ v) _ (heap_setCell_same w g o c e v h)
  exact⟨c',by rw[World.setCells];exact h1,by rw[h2];simp⟩
theorem Shape.refl(w:World):Shape w w:=fun _ c _ h=>⟨c,h,rfl⟩
theorem Shape.set(w:World)(g o:Nat)(vs:List Value):Shape w (w.setCells g o vs):=fun b c e h=>by
 by_cases hb:b=g
 ·subst hb;exact bC b e vs o w c h
 ·exact⟨c,by rw[aR g vs o w b hb];exact h,rfl⟩
theorem Shape.alloc(w:World)(o:Obj):Shape w (w.drew.alloc o):=fun b c e h=>by
 refine⟨c,?_,rfl⟩
 show(w.heap.push o)[b]? =_
 have hlt:=(Array.getElem?_eq_some_iff.1 h).1
 rw[Array.getElem?_push_lt hlt, ←Array.getElem?_eq_getElem hlt]
 exact h
theorem Shape.row{w:World}{g:Nat}{c c':Array Value}{e:TypeId}(hg:w.heap[g]? =some (.cells c e (0,0)))(hs:c'.size=c.size):Shape w (w.setRow g c'):=fun b d e' h=>by
 by_cases hb:b=g
 ·subst hb
  rw[hg]at h
  simp only[Option.some.injEq,Obj.cells.injEq,and_true]at h
  obtain⟨rfl,rfl⟩:=h
  exact⟨c',setRow_heap w b c c' e (0,0) hg,hs⟩
 ·refine⟨d,?_,rfl⟩
  show(w.heap.modify g _)[b]? =_
  rw[Array.getElem?_modify,if_neg (Ne.symm hb)];exact h
theorem Ck{P:Program}(w:World)(base:Nat)(t ty e:TypeId)(i:TypeInfo)(z:Value)(size bytes:Nat)(ht:P.underlying t=some (.slice e))(hi:P.info? e=some i)(hz:i.zero=some z)
  (hsize:i.size=size)(hby:i.bytes=bytes)(hzs:z.cells.size=size)(hsz:0<size)
  (v:Value)(n:Nat)(xs:List Value)(hown:w.ownsRow base e size v n xs)
  (x:Value)(m:Nat)(news:List Value)(hl:news.length=m*size)(hx:Src w x m news)(h1: ∀u∈news,u.oneCell'=true)
  (h63:n+m≤maxLen)(hbytes:(n+m)*bytes≤140737488355328)(hbase:base≤w.heap.size):
  ∃v' w',(Builtin.append_ #[t,t] ty #[v,x]).run P w= .ok v' w'∧w'.ownsRow base e size v' (n+m) (xs++news)∧w.grownBy w' v.ownBlock∧
   (v'.ownBlock=v.ownBlock∨v'.ownBlock=some w.heap.size)∧Shape w w':=by
 rcases hx with⟨rfl,rfl,rfl⟩| ⟨a,c,rfl,hnews⟩
 ·refine⟨v,w,run_append_owned_none (P:=P) (w:=w) base t ty e i size ht hi v n xs hown,by simpa using hown,⟨rfl,rfl,rfl,Nat.le_refl _,fun _ _ _=>rfl⟩,Or.inl rfl,Shape.refl _⟩
 obtain⟨v',w',hr,h2,h3,_⟩:=run_append_own (P:=P) w base t ty e i z size bytes ht hi hz hsize hby hzs hsz v n xs hown a m c news hl hnews h1 h63 hbytes hbase
 refine⟨v',w',hr,h2,h3,?_⟩
 subst hsize
 subst hby
 have B8:n+m≤9223372036854775807:=by simp only[maxLen]at h63;omega
 rcases hown.2 with⟨rfl,rfl⟩| ⟨g,cap,cur,rfl,D9,hg,hnc,FI,hcs,DH⟩
 ·by_cases hm:m=0
  ·subst hm
   have hn:news= []:=List.eq_nil_of_length_eq_zero (by simpa using hl)
   subst hn
   have B9:(Builtin.append_ #[t,t] ty #[.slice none 0 0, .slice (some a) 0 c]).run P w= .ok (.slice none 0 0) w:=by
    simp[Builtin.append_,run_underlying ht,sizeOf,typeInfo,hi,Builtin.lenOf,Builtin.firstCells,loadCells,loadCellsFrom]
   rw[B9]at hr
   simp only[Result.ok.injEq]at hr
   exact⟨Or.inl (by rw[hr.1]),by rw[←hr.2];exact Shape.refl _⟩
  ·have B9:=run_append_nil (P:=P) w t ty e i z ht hi hz a m c news hl hnews (by omega) (by omega) (by have hb:=hbytes;simp only[Nat.zero_add]at hb;omega)
   rw[B9]at hr
   simp only[Result.ok.injEq]at hr
   exact⟨Or.inr (by rw[←hr.1];rfl),by rw[←hr.2];exact Shape.alloc _ _⟩
 ·by_cases hroom:n+m≤cap
  ·have hfit:n*i.size+news.length≤cur.size:=by rw[hl,hcs, ←Nat.add_mul];exact Nat.mul_le_mul_right _ hroom
   have B9:=run_append_room (P:=P) w t ty e i ht hi g n cap cur hg a m c news hl hnews h1 hroom hfit
   rw[B9]at hr
   simp only[Result.ok.injEq]at hr
   exact⟨Or.inl (by rw[←hr.1];rfl),by rw[←hr.2];exact Shape.row hg (by simp;omega)⟩
  ·have holds: ∀j u,xs[j]? =some u→w.cell? ((⟨g,0,none⟩:Addr).add j)=some u:=hown.cells (g:=g) rfl
   have B9:=run_append_grow (P:=P) w t ty e i z ht hi hz ⟨g,0,none⟩ n cap xs hown.1 holds a m c news hl hnews (by omega) (by omega) (growslice_fits (by omega) hbytes)
   rw[B9]at hr
   simp only[Result.ok.injEq]at hr
   exact⟨Or.inr (by rw[←hr.1];rfl),by rw[←hr.2];exact Shape.alloc _ _⟩
def dy{α:Type}(k:Nat)(E:ER α)(lo e:Nat)(w:World)(v:Value)(l:List α)(fp:List Nat):Prop:=
 ∃(xs:List Value) (az:List (List Nat)),w.ownsRow lo e k v l.length xs∧az.length=l.length∧(∀i x f,l[i]? =some x→az[i]? =some f→E w ((xs.drop (i*k)).take k) x f)∧
  fp=v.ownBlock.toList++az.flatten∧Own lo w fp
theorem dy.own{α:Type}{k:Nat}{E:ER α}{lo e:Nat}{w:World}{v:Value}{l:List α}{fp:List Nat}(h:dy k E lo e w v l fp):Own lo w fp:=by
 obtain⟨xs,az,_,_,_,_,h⟩:=h;exact h
theorem dy.nil{α:Type}(k:Nat)(E:ER α)(lo e:Nat)(w:World):dy k E lo e w (.slice none 0 0) ([]:List α) []:=
 ⟨[],[],World.ownsRow_nil w lo e k,rfl,fun i x f h=>by simp at h,rfl,Own.nil lo w⟩
theorem dy.sl{α:Type}{k:Nat}{E:ER α}{lo e:Nat}{w:World}{v:Value}{l:List α}{fp:List Nat}(h:dy k E lo e w v l fp):Sl k E w v l fp:=by
 obtain⟨xs,az,hown,hf,he,rfl,ho⟩:=h
 have hlt:=hown.lt
 have vu: ∀g,v.ownBlock=some g→ ∀j u,xs[j]? =some u→w.cell? ((⟨g,0,none⟩:Addr).add j)=some u:=fun g hg=>hown.cells (g:=g) hg
 rcases hown.2 with⟨rfl,h0⟩| ⟨g,cap,cur,rfl,D9,hg,hnc,FI,hcs,DH⟩
 ·have hl:l= []:=List.eq_nil_of_length_eq_zero h0
  subst hl
  have:az= []:=List.eq_nil_of_length_eq_zero (by simpa using hf)
  subst this
  exact⟨none,0,rfl,Nat.le_refl _,Nat.zero_le _,Or.inl ⟨rfl,rfl,fun _=>rfl⟩⟩
 ·refine⟨some ⟨g,0,none⟩,cap,rfl,hnc,FI,Or.inr ⟨g,0,az,rfl,(hlt g rfl).2,rfl,kM hf (fun j u hu=> ?_) he⟩⟩
  have:=vu g rfl j u hu
  rwa [Addr.add_mid,Nat.zero_add]at this
theorem dy.aB{α:Type}{k:Nat}{E:ER α}(G:bW k E){lo e:Nat}{w w':World}{v:Value}{l:List α}{fp:List Nat}(h:dy k E lo e w v l fp)(ha:bF w w' fp):dy k E lo e w' v l fp:=by
 obtain⟨xs,az,hown,hf,he,rfl,ho⟩:=h
 refine⟨xs,az,⟨hown.1,?_⟩,hf,fun i x f hx FH=>G.aB (he i x f hx FH) (ha.sub fun b hb=>List.mem_append_right _ (aP FH hb)),rfl,ho.aB ha⟩
 rcases hown.2 with h| ⟨g,cap,cur,rfl,D9,hg,r⟩
 ·exact Or.inl h
 ·exact Or.inr ⟨g,cap,cur,rfl,D9,by rw[ha g (by simp[Value.ownBlock])];exact hg,r⟩
theorem dy.below{α:Type}{k:Nat}{E:ER α}(G:bW k E){lo e:Nat}{w w':World}{v:Value}{l:List α}{fp:List Nat}(h:dy k E lo e w v l fp)(hb:Below w.heap.size w w'):dy k E lo e w' v l fp:=
 h.aB G (eo hb h.own.lt)
theorem dy.mono{α:Type}{k:Nat}{E:ER α}{lo lo' e:Nat}{w:World}{v:Value}{l:List α}{fp:List Nat}(h:dy k E lo e w v l fp)(hl:lo'≤lo):dy k E lo' e w v l fp:=by
 obtain⟨xs,az,hown,hf,he,rfl,ho⟩:=h
 refine⟨xs,az,⟨hown.1,?_⟩,hf,he,rfl,ho.mono hl⟩
 rcases hown.2 with h| ⟨g,cap,cur,rfl,D9,r⟩
 ·exact Or.inl h
 ·exact Or.inr ⟨g,cap,cur,rfl,Nat.le_trans hl D9,r⟩
theorem kN{α:Type}{k:Nat}{E:ER α}(G:bW k E){w:World}{l:List α}{az:List (List Nat)}{news:List Value}(hf:az.length=l.length)(hl:news.length=l.length*k)(hk:0<k)
  (he: ∀i x f,l[i]? =some x→az[i]? =some f→E w ((news.drop (i*k)).take k) x f): ∀u∈news,u.oneCell'=true:=by
 intro u hu
 obtain⟨j,hj⟩:=List.getElem?_of_mem hu
 have hjl:=(List.getElem?_eq_some_iff.1 hj).1
 have hi:j/k<l.length:=Nat.div_lt_of_lt_mul (by rw[Nat.mul_comm];omega)
 obtain⟨f,FH⟩:=cW hf (List.getElem?_eq_getElem hi)
 refine G.one (he _ _ f (List.getElem?_eq_getElem hi) FH) u ?_
 have Ix:=Nat.div_add_mod j k
 have hml:=Nat.mod_lt j hk
 have Kx:=Nat.mul_comm k (j/k)
 have:((news.drop (j/k*k)).take k)[j % k]? =some u:=by
  rw[List.getElem?_take,if_pos hml,List.getElem?_drop, ←hj]
  congr 1
  omega
 exact List.mem_of_getElem? this
theorem vv{a a' f g:List Nat}(ho:(a++f++g).Nodup)(h:a'=a∨(a'.length≤1∧ ∀b,b∈a'→b∉f++g)):(a'++f++g).Nodup:=by
 rcases h with rfl| ⟨h1,h2⟩
 ·exact ho
 ·rw[List.append_assoc]at ho ⊢
  have hn:=(List.nodup_append.1 ho).2.1
  match a',h1,h2 with
  | [],_,_=>simpa using hn
  | [x],_,h2=>exact List.nodup_cons.2 ⟨h2 x (by simp),hn⟩
theorem wX{P:Program}{w:World}{o:Oper}{a:Act}{K:Act→World→Prop}{Q:Exit→Act→World→Prop}(s x:Operand)(t:TypeId)
  (ho:o.op= .call {callee:= .builtin .append,args:= #[s,x],argTypes:= #[t,t]})
  {α:Type}{k:Nat}{E:ER α}(G:bW k E)(hk:0<k)(lo e:Nat)(z:Value)(bytes:Nat)(ht:P.underlying t=some (.slice e))
  (zC:(P.info? e).map (fun i=>(i.zero,i.size,i.bytes))=some (some z,k,bytes))(hzs:z.cells.size=k)
  (v:Value)(l:List α)(fp:List Nat)(hs:a.eval s=v)(hB:dy k E lo e w v l fp)
  (vx:Value)(hx:a.eval x=vx)(lx:List α)(news:List Value)(fx:List (List Nat))(hsrc:Src w vx lx.length news)(vm:fx.length=lx.length)(hl:news.length=lx.length*k)
  (hel: ∀i x f,lx[i]? =some x→fx[i]? =some f→E w ((news.drop (i*k)).take k) x f)(hown:Own lo w (fp++fx.flatten))
  (h63:l.length+lx.length≤maxLen)(hbytes:(l.length+lx.length)*bytes≤140737488355328)(hbase:lo≤w.heap.size)
  (h: ∀v' w' cL,dy k E lo e w' v' (l++lx) cL→w.grownBy w' v.ownBlock→Below lo w w'→(∀b,b∈cL→b∈fp∨b∈fx.flatten∨b=w.heap.size)→Shape w w'→(∀b,b∈fx.flatten→b∈cL)→K (a.put o.dst v') w'):o.wp P a w K Q:=by
 obtain⟨i,hi,hz,hsize,hby⟩:=info_parts zC
 obtain⟨xs,az,hrow,hf,he,rfl,FU⟩:=hB
 have h1:=kN G vm hl hk hel
 obtain⟨v',w',hr,h2,h3,h4,Ea⟩:=Ck (P:=P) w lo t o.type e i z k bytes ht hi hz hsize hby hzs hk v l.length xs hrow vx lx.length news hl hsrc h1 h63 hbytes hbase
 unfold Oper.wp execOp
 simp only[ho,resolve,invoke,builtin,Sem.run_bind,Sem.run_pure,Result.andThen_ok,List.map_toArray,List.map_cons,List.map_nil,hs,hx,hr]
 have hlt: ∀b,b∈v.ownBlock.toList++az.flatten++fx.flatten→b<w.heap.size:=hown.lt
 have hnd:=hown.nodup
 have nW: ∀b,v.ownBlock=some b→b∉az.flatten++fx.flatten:=by
  intro b hb hm
  rw[List.append_assoc,hb]at hnd
  exact(List.nodup_cons.1 hnd).1 hm
 have wY:bF w w' (az.flatten++fx.flatten):=fun b hb=>h3.block b (hlt b (by rw[List.append_assoc];exact List.mem_append_right _ hb)) (fun e=>nW b e.symm hb)
 have hlo: ∀b,v.ownBlock=some b→lo≤b:=fun b hb=>(hrow.lt b hb).1
 have Eb:Below lo w w':=⟨h3.os,h3.tape,h3.output,h3.size,fun b hb=>h3.block b (by omega) (fun e=>by have:=hlo b e.symm;omega)⟩
 have Hy:=h2.lt
 have hxl:=hrow.1
 have FV:Own lo w' (v'.ownBlock.toList++(az++fx).flatten):=by
  rw[List.flatten_append, ←List.append_assoc]
  refine⟨vv hnd ?_,?_,?_⟩
  ·rcases h4 with h4|h4
   ·exact Or.inl (by rw[h4])
   ·refine Or.inr ⟨by rw[h4];simp,?_⟩
    intro b hb hm
    rw[h4]at hb
    simp at hb
    subst hb
    have:=hlt w.heap.size (by rw[List.append_assoc];exact List.mem_append_right _ hm)
    omega
  ·intro b hb
   rw[List.append_assoc]at hb
   rcases List.mem_append.1 hb with hb|hb
   ·exact(Hy b (by simpa using hb)).1
   ·exact hown.ge b (by rw[List.append_assoc];exact List.mem_append_right _ hb)
  ·intro b hb
   rw[List.append_assoc]at hb
   rcases List.mem_append.1 hb with hb|hb
   ·rcases h2.2 with⟨rfl,_⟩| ⟨g,cap,cur,rfl,_,hg,_⟩
    ·simp[Value.ownBlock]at hb
    ·simp[Value.ownBlock]at hb
     subst hb
     exact⟨_,_,hg⟩
   ·rw[wY b hb]
    exact hown.kind b (by rw[List.append_assoc];exact List.mem_append_right _ hb)
 refine h v' w' _ ⟨xs++news,az++fx,by rw[List.length_append];exact h2,by simp[hf,vm],fun j y f hy jl=> ?_,rfl,FV⟩ h3 Eb ?_ Ea fun b hb=>by rw[List.flatten_append];exact List.mem_append_right _ (List.mem_append_right _ hb)
 ·by_cases hj:j<l.length
  ·rw[List.getElem?_append_left hj]at hy
   rw[List.getElem?_append_left (by omega)]at jl
   have:=he j y f hy jl
   have h5:j*k+k≤xs.length:=by
    rw[hxl]
    have:=Nat.mul_le_mul_right k (show j+1≤l.length by omega)
    rw[Nat.add_mul]at this;omega
   rw[List.drop_append_of_le_length (by omega),List.take_append_of_le_length (by rw[List.length_drop];omega)]
   exact G.aB this (wY.sub fun b hb=>List.mem_append_left _ (aP jl hb))
  ·rw[List.getElem?_append_right (by omega)]at hy
   rw[List.getElem?_append_right (by omega),hf]at jl
   have:=hel _ y f hy jl
   have h5:(xs++news).drop (j*k)=news.drop ((j-l.length)*k):=by
    rw[List.drop_append,List.drop_eq_nil_of_le (by rw[hxl];exact Nat.mul_le_mul_right k (by omega)),List.nil_append,hxl,Nat.sub_mul]
   rw[h5]
   exact G.aB this (wY.sub fun b hb=>List.mem_append_right _ (aP jl hb))
 ·intro b hb
  rw[List.flatten_append]at hb
  rcases List.mem_append.1 hb with hb|hb
  ·rcases h4 with h4|h4
   ·rw[h4]at hb
    exact Or.inl (List.mem_append_left _ hb)
   ·rw[h4]at hb
    exact Or.inr (Or.inr (by simpa using hb))
  ·rcases List.mem_append.1 hb with hb|hb
   ·exact Or.inl (List.mem_append_right _ hb)
   ·exact Or.inr (Or.inl hb)
end
section
theorem nX{B:Nat}{a w:World}(h:Below B a w){g:Nat}(hg:B≤g)(o:Nat)(vs:List Value):Below B a (w.setCells g o vs):=
 h.trans ⟨(cN g vs o w).1,(cN g vs o w).2.1,(cN g vs o w).2.2,by rw[dZ];exact Nat.le_refl _,fun k hk=>aR g vs o w k (by omega)⟩
structure Part{α:Type}(k:Nat)(E:ER α)(lo e:Nat)(w:World)(g n:Nat)(l:List α)(az:List (List Nat)):Prop where
 l5: ∃c,w.heap[g]? =some (.cells c e (0,0))∧c.size=n*k
 el:jQ k E w g 0 l az
 own:Own lo w (g::az.flatten)
 cap:n≤maxLen
theorem Part.there{α:Type}{k:Nat}{E:ER α}{lo e:Nat}{w:World}{g n:Nat}{l:List α}{az:List (List Nat)}(h:Part k E lo e w g n l az)(i:Nat)(hi:i<n):w.there g (i*k) k:=by
 obtain⟨c,hc,hs⟩:=h.l5
 intro j hj
 have h5:i*k+k≤n*k:=by
  have:=Nat.mul_le_mul_right k (show i+1≤n by omega)
  rw[Nat.add_mul]at this;omega
 refine⟨?_,?_⟩
 ·simp[World.cell?,hc];omega
 ·simp[World.frozen?,hc]
theorem Part.aB{α:Type}{k:Nat}{E:ER α}(G:bW k E){lo e:Nat}{w w':World}{g n:Nat}{l:List α}{az:List (List Nat)}(h:Part k E lo e w g n l az)(ha:bF w w' (g::az.flatten)):Part k E lo e w' g n l az:=by
 have hg:=ha g (by simp)
 obtain⟨c,hc,hs⟩:=h.l5
 exact⟨⟨c,by rw[hg];exact hc,hs⟩,h.el.aB G hg (ha.sub fun b hb=>List.mem_cons_of_mem _ hb),h.own.aB ha,h.cap⟩
theorem Part.below{α:Type}{k:Nat}{E:ER α}(G:bW k E){lo e:Nat}{w w':World}{g n:Nat}{l:List α}{az:List (List Nat)}(h:Part k E lo e w g n l az)(hb:Below w.heap.size w w'):Part k E lo e w' g n l az:=
 h.aB G (eo hb h.own.lt)
theorem jF{α:Type}{l:List α}{x y:α}{i:Nat}(h:(l++ [x])[i]? =some y):(l[i]? =some y∧i<l.length)∨(i=l.length∧y=x):=by
 by_cases hi:i<l.length
 ·rw[List.getElem?_append_left hi]at h;exact Or.inl ⟨h,hi⟩
 ·rw[List.getElem?_append_right (by omega)]at h
  have h2:i-l.length=0:=by have:=(List.getElem?_eq_some_iff.1 h).1;simp at this;omega
  rw[h2]at h
  exact Or.inr ⟨by omega,by simpa using h.symm⟩
theorem Part.push{α:Type}{k:Nat}{E:ER α}(G:bW k E){lo e:Nat}{w:World}{g n:Nat}{l:List α}{az:List (List Nat)}(h:Part k E lo e w g n l az)(hn:l.length<n)
  {cs:List Value}{x:α}{f:List Nat}(hE:E w cs x f)(ho:Own lo w f)(hd: ∀b,b∈f→b∉g::az.flatten):
  Part k E lo e (w.setCells g (l.length*k) cs) g n (l++ [x]) (az++ [f]):=by
 have hlen:=G.len hE
 obtain⟨c,hc,hs⟩:=h.l5
 obtain⟨c',vn,hs'⟩:=bC g e cs (l.length*k) w c hc
 have Cl:w.there g (l.length*k) cs.length:=by rw[hlen];exact h.there _ hn
 have nW: ∀b,b∈az.flatten→b≠g:=fun b hb e=>by
  have:=h.own.nodup
  rw[List.nodup_cons]at this
  exact this.1 (e▸hb)
 have wY:bF w (w.setCells g (l.length*k) cs) az.flatten:=fun b hb=>aR g cs _ w b (nW b hb)
 have yl:bF w (w.setCells g (l.length*k) cs) f:=fun b hb=>aR g cs _ w b (fun e=>hd b hb (by simp[e]))
 refine⟨⟨c',vn,by rw[hs',hs]⟩,⟨by simp[h.el.1],fun i y fy hy jl=> ?_⟩,⟨?_,?_,?_⟩,h.cap⟩
 ·rcases jF hy with⟨hy,hi⟩| ⟨rfl,rfl⟩
  ·rw[List.getElem?_append_left (by have:=h.el.1;omega)]at jl
   obtain⟨cy,hr,zD⟩:=h.el.2 i y fy hy jl
   refine⟨cy,World.rangeAt_setCells_apart hr _ _ _ (Or.inr (Or.inl ?_)),G.aB zD (wY.sub fun b hb=>aP jl hb)⟩
   rw[G.len zD]
   have:=Nat.mul_le_mul_right k (show i+1≤l.length by omega)
   rw[Nat.add_mul]at this;omega
  ·rw[List.getElem?_append_right (by have:=h.el.1;omega)]at jl
   have:l.length-az.length=0:=by have:=h.el.1;omega
   rw[this]at jl
   simp at jl
   subst jl
   refine⟨cs,?_,G.aB hE yl⟩
   rw[Nat.zero_add]
   exact World.rangeAt_setCells_same w g _ cs Cl
 ·have h1:=h.own.nodup
  have h2:=ho.nodup
  rw[List.flatten_append, ←List.cons_append]
  simp only[List.flatten_cons,List.flatten_nil,List.append_nil]
  exact List.nodup_append.2 ⟨h1,h2,fun a ha b hb e=>hd b hb (e▸ha)⟩
 ·intro b hb
  rw[List.flatten_append, ←List.cons_append]at hb
  simp only[List.flatten_cons,List.flatten_nil,List.append_nil]at hb
  rcases List.mem_append.1 hb with hb|hb
  ·exact h.own.ge b hb
  ·exact ho.ge b hb
 ·intro b hb
  rw[List.flatten_append, ←List.cons_append]at hb
  simp only[List.flatten_cons,List.flatten_nil,List.append_nil]at hb
  rcases List.mem_append.1 hb with hb|hb
  ·rcases List.mem_cons.1 hb with rfl|hb
   ·exact⟨_,_,vn⟩
   ·rw[wY b hb];exact h.own.kind b (List.mem_cons_of_mem _ hb)
  ·rw[yl b hb];exact ho.kind b hb
theorem Part.done{α:Type}{k:Nat}{E:ER α}(G:bW k E){lo e:Nat}{w:World}{g n:Nat}{l:List α}{az:List (List Nat)}(h:Part k E lo e w g n l az)(hn:l.length=n):
  dy k E lo e w (.slice (some ⟨g,0,none⟩) n n) l (g::az.flatten):=by
 obtain⟨c,hc,hs⟩:=h.l5
 refine⟨c.toList,az,⟨by simp[hs,hn],Or.inr ⟨g,n,c,by rw[hn],h.own.ge g (by simp),hc,by omega,h.cap,hs,?_⟩⟩,h.el.1,fun i x f hx hf=> ?_,rfl,h.own⟩
 ·exact List.take_of_length_le (by rw[Array.length_toList,hs,hn];exact Nat.le_refl _)
 ·obtain⟨cs,hr,hE⟩:=h.el.2 i x f hx hf
  have hlen:=G.len hE
  have hi:i<l.length:=(List.getElem?_eq_some_iff.1 hx).1
  have h5:i*k+k≤c.size:=by
   rw[hs]
   have:=Nat.mul_le_mul_right k (show i+1≤n by omega)
   rw[Nat.add_mul]at this;omega
  have:(c.toList.drop (i*k)).take k=cs:=by
   apply List.ext_getElem?
   intro j
   by_cases hj:j<k
   ·rw[List.getElem?_take,if_pos hj,List.getElem?_drop]
    have h6:=hr j _ (List.getElem?_eq_getElem (by omega))
    rw[Nat.zero_add]at h6
    simp[World.cell?,hc]at h6
    rw[List.getElem?_eq_getElem (show j<cs.length by omega)]
    simp[h6]
   ·rw[List.getElem?_take,if_neg hj,List.getElem?_eq_none (by omega)]
  rw[this];exact hE
end
end Go.Proofs.YteodajeiagmekaaGreat.L
