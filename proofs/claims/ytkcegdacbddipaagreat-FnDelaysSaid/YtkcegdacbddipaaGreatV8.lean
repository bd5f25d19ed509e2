/-
  Contracts of functions that are lent memory: from the walk through their bodies.
-/
import Derived.Test.YtkcegdacbddipaaGreatV7
namespace Go.Proofs.YtkcegdacbddipaaGreat.G
set_option linter.all false
open Go.RowKit L D
section
variable{ty:Tag→Nat}
theorem QN{P:Program}(w:World)(t ty e:TypeId)(i:TypeInfo)(z:Value)(size bytes:Nat)(ht:P.underlying t=some (.slice e))(hi:P.info? e=some i)(hz:i.zero=some z)
  (hsize:i.size=size)(hby:i.bytes=bytes)(hzs:z.cells.size=size)(hsz:0<size)
  (oa:Option Addr)(n cap:Nat)(xs:List Value)(hxl:xs.length=n*size)
  (hown:(n=0∧cap=0)∨ ∃g o cur e2,oa=some ⟨g,o,none⟩∧w.heap[g]? =some (.cells cur e2 (0,0))∧n≤cap∧o+cap*size≤cur.size∧w.rangeAt g o xs)
  (x:Value)(m:Nat)(news:List Value)(hl:news.length=m*size)(hx:Src w x m news)(h1: ∀u∈news,u.oneCell'=true)(hm:0<m)
  (h63:n+m≤maxLen)(hbytes:(n+m)*bytes≤140737488355328):
  ∃v' w',(Builtin.append_ #[t,t] ty #[.slice oa n cap,x]).run P w= .ok v' w'∧
   ((∃g o cur e2 cur',oa=some ⟨g,o,none⟩∧w.heap[g]? =some (.cells cur e2 (0,0))∧v'= .slice oa (n+m) cap∧n+m≤cap∧w'=w.setRow g cur'∧cur'.size=cur.size∧w'.heap[g]? =some (.cells cur' e2 (0,0))∧w'.rangeAt g o (xs++news))∨
    (World.ownsRow w' w.heap.size e size v' (n+m) (xs++news)∧w.grownBy w' none∧v'.ownBlock=some w.heap.size∧Shape w w')):=by
 subst hsize
 subst hby
 rcases hx with⟨_,rfl,_⟩| ⟨a,c,rfl,hnews⟩
 ·omega
 have hgrow:cap<n+m→ ∀b,oa=some b→(∀j u,xs[j]? =some u→w.cell? (b.add j)=some u)→ ∃v' w',(Builtin.append_ #[t,t] ty #[.slice oa n cap, .slice (some a) m c]).run P w= .ok v' w'∧(World.ownsRow w' w.heap.size e i.size v' (n+m) (xs++news)∧w.grownBy w' none∧v'.ownBlock=some w.heap.size∧Shape w w'):=by
  intro hg b hb holds
  subst hb
  obtain⟨v',w',hr,h2,h3⟩:=run_append_arg_grows (P:=P) w t ty e i z i.size i.bytes ht hi hz rfl rfl hzs hsz b n cap xs hxl holds a m c news hl hnews hg h63 hbytes
  have yL:=run_append_grow (P:=P) w t ty e i z ht hi hz b n cap xs hxl holds a m c news hl hnews hg (by simp only[maxLen]at h63;omega) (growslice_fits (by simp only[maxLen]at h63;omega) hbytes)
  have e2:=yL.symm.trans hr
  simp only[Result.ok.injEq]at e2
  exact⟨v',w',hr,h2,h3,by rw[←e2.1];rfl,by rw[←e2.2];exact Shape.alloc _ _⟩
 rcases hown with⟨rfl,rfl⟩| ⟨g,o,cur,e2,rfl,hg,hnc,hcs,hr⟩
 ·have hx0:xs= []:=List.eq_nil_of_length_eq_zero (by simpa using hxl)
  subst hx0
  cases oa with
  |none=>
   have yL:=run_append_nil (P:=P) w t ty e i z ht hi hz a m c news hl hnews (by omega) (by simp only[maxLen]at h63;omega) (by have hb:=hbytes;simp only[Nat.zero_add]at hb;omega)
   obtain⟨v',w',hr,h2,h3,_⟩:=run_append_own (P:=P) w w.heap.size t ty e i z i.size i.bytes ht hi hz rfl rfl hzs hsz (.slice none 0 0) 0 [] (World.ownsRow_nil w _ _ _) a m c news hl hnews h1 h63 hbytes (Nat.le_refl _)
   have e2:=yL.symm.trans hr
   simp only[Result.ok.injEq]at e2
   exact⟨v',w',hr,Or.inr ⟨h2,h3,by rw[←e2.1];rfl,by rw[←e2.2];exact Shape.alloc _ _⟩⟩
  |some b=>
   obtain⟨v',w',h⟩:=hgrow (by omega) b rfl (by simp)
   exact⟨v',w',h.1,Or.inr h.2⟩
 ·by_cases hroom:n+m≤cap
  ·have h5:(n+m)*i.size≤cap*i.size:=Nat.mul_le_mul_right _ hroom
   have hfit:o+n*i.size+news.length≤cur.size:=by rw[hl];rw[Nat.add_mul]at h5;omega
   have hf:=run_firstCells_some (P:=P) w i.size m a m c news hl hnews
   have hst:=run_storeCells_at P g (o+n*i.size) e2 news 0 cur w hg (by simpa using hfit) h1
   simp only[Nat.add_zero]at hst
   have yL:(Builtin.append_ #[t,t] ty #[.slice (some ⟨g,o,none⟩) n cap, .slice (some a) m c]).run P w=
     .ok (.slice (some ⟨g,o,none⟩) (n+m) cap) (w.setRow g (cur.toList.take (o+n*i.size)++news++cur.toList.drop (o+n*i.size+news.length)).toArray):=by
    simp[Builtin.append_,run_underlying ht,sizeOf,typeInfo,hi,Builtin.lenOf,hroom,hf,Addr.add_mid,hst]
   refine⟨_,_,yL,Or.inl ⟨g,o,cur,e2,_,rfl,hg,rfl,hroom,rfl,?_,setRow_heap w g cur _ e2 _ hg,?_⟩⟩
   ·simp only[List.size_toArray,List.length_append,List.length_take,List.length_drop,Array.length_toList]
    omega
   ·refine L8 (setRow_heap w g cur _ e2 _ hg) _ _ fun j v hv=> ?_
    have qY:(cur.toList.take (o+n*i.size)).length=o+n*i.size:=by rw[List.length_take,Array.length_toList];omega
    rw[List.getElem?_toArray,List.append_assoc]
    by_cases hj:j<xs.length
    ·rw[List.getElem?_append_left hj]at hv
     have:=hr j v hv
     rw[Ca hg]at this
     rw[List.getElem?_append_left (by omega),List.getElem?_take,if_pos (by omega),Array.getElem?_toList]
     exact this
    ·rw[List.getElem?_append_right (by omega)]at hv
     have hlt:=(List.getElem?_eq_some_iff.1 hv).1
     rw[List.getElem?_append_right (by omega),List.getElem?_append_left (by omega),qY]
     rw[show o+j-(o+n*i.size)=j-xs.length by omega]
     exact hv
  ·obtain⟨v',w',h⟩:=hgrow (by omega) _ rfl (fun j u hu=>by rw[Addr.add_mid];exact hr j u hu)
   exact⟨v',w',h.1,Or.inr h.2⟩
theorem QO{P:Program}{w:World}(t tyr e:TypeId)(i:TypeInfo)(z:Value)(size bytes:Nat)(ht:P.underlying t=some (.slice e))(hi:P.info? e=some i)(hz:i.zero=some z)
  (hsize:i.size=size)(hby:i.bytes=bytes)(hzs:z.cells.size=size)(hsz:0<size){α:Type}{E:ER α}(G:fJ size E)
  {u0:Value}{l:List α}{fv:List Nat}(hS:Sl size E w u0 l fv){x:Value}{lx:List α}{news:List Value}{fx:List (List Nat)}(hx:Src w x lx.length news)(BW:fx.length=lx.length)(hl:news.length=lx.length*size)
  (hel: ∀i x f,lx[i]? =some x→fx[i]? =some f→E w ((news.drop (i*size)).take size) x f)(hO:Own 0 w (fv++fx.flatten))(hm:0<lx.length)
  (h63:l.length+lx.length≤maxLen)(hbytes:(l.length+lx.length)*bytes≤140737488355328):
  ∃v' w' UF nb,(Builtin.append_ #[t,t] tyr #[u0,x]).run P w= .ok v' w'∧(∀y,y<w.heap.size→y∉fv→w'.heap[y]? =w.heap[y]?)∧w'.os=w.os∧w'.tape=w.tape∧w'.output=w.output∧w.heap.size≤w'.heap.size∧Shape w w'∧
   Sl size E w' u0 l fv∧Own 0 w' fv∧Sl size E w' v' (l++lx) UF∧Own 0 w' UF∧(∀y,y∈UF→y∈fv∨y∈fx.flatten++nb)∧Own 0 w' (fx.flatten++nb)∧(∀y,y∈nb→w.heap.size≤y)∧ ∃oa m cap,v'= .slice oa m cap:=by
 obtain⟨hO1,Zy,hO3⟩:=List.nodup_append.1 hO.nodup
 have Oi: ∀y,y∈fx.flatten→y<w.heap.size:=fun y hy=>hO.lt y (List.mem_append_right _ hy)
 have XV: ∀y,y∈fv→y<w.heap.size:=fun y hy=>hO.lt y (List.mem_append_left _ hy)
 obtain⟨oa,cap,rfl,hc,hcm,h3⟩:=hS
 have key: ∃(xs:List Value) (bn:List (List Nat)),xs.length=l.length*size∧bn.length=l.length∧(∀i x f,l[i]? =some x→bn[i]? =some f→E w ((xs.drop (i*size)).take size) x f)∧(∀y,y∈bn.flatten→y∈fv)∧bn.flatten.Nodup∧
   ((l.length=0∧cap=0∧fv= [])∨ ∃g o cur e2,oa=some ⟨g,o,none⟩∧w.heap[g]? =some (.cells cur e2 (0,0))∧l.length≤cap∧o+cap*size≤cur.size∧w.rangeAt g o xs∧fv=g::bn.flatten):=by
  have hS0:Sl size E w (.slice oa l.length cap) l fv:=⟨oa,cap,rfl,hc,hcm,h3⟩
  obtain⟨xs,bn,h1,h2,h4,h5,h6,h7⟩:=oP G hsz hS0
  refine⟨xs,bn,h4,h2,h5,fun y hy=>h6.subset hy,h6.nodup hO1,?_⟩
  rcases h3 with⟨rfl,rfl,rfl⟩| ⟨g,o,XI,rfl,hfit,rfl,hE⟩
  ·exact Or.inl ⟨rfl,rfl,rfl⟩
  ·obtain⟨c1,e1,fz1,hq,Et⟩:=hfit
   obtain⟨cur,e2,hk⟩:=hO.kind g (by simp)
   rw[hq]at hk
   simp only[oI,Go.Obj.cells.injEq]at hk
   obtain⟨rfl,rfl,rfl⟩:=hk
   refine Or.inr ⟨g,o,c1,e1,rfl,hq,hc,Et,?_,by rw[h7 g _ rfl]⟩
   rcases h1 with⟨hs,_⟩| ⟨a,c,hs,hcells⟩
   ·cases hs
   ·simp only[Value.slice.injEq,oI]at hs
    obtain⟨rfl,_,_⟩:=hs
    intro j u hu
    have:=hcells j u hu
    rwa [Addr.add_mid]at this
 obtain⟨xs,bn,hxl,hfl,hxe,hsub,Qs,Wv⟩:=key
 have h1:=pS G BW hl hsz hel
 obtain⟨v',w',hr,hres⟩:=QN (P:=P) w t tyr e i z size bytes ht hi hz hsize hby hzs hsz oa l.length cap xs hxl
  (Wv.imp (fun h=>⟨h.1,h.2.1⟩) fun⟨g,o,cur,e2,q1,q2,q3,q4,q5,_⟩=>⟨g,o,cur,e2,q1,q2,q3,q4,q5⟩) x lx.length news hl hx h1 hm h63 hbytes
 have hall: ∀{w':World},Agree w w' (bn.flatten++fx.flatten)→ ∀j y f,(l++lx)[j]? =some y→(bn++fx)[j]? =some f→E w' (((xs++news).drop (j*size)).take size) y f:=by
  intro w' BY j y f hy lX
  by_cases hj:j<l.length
  ·rw[List.getElem?_append_left hj]at hy
   rw[List.getElem?_append_left (by omega)]at lX
   have:=hxe j y f hy lX
   have h5:j*size+size≤xs.length:=by
    rw[hxl]
    have:=Nat.mul_le_mul_right size (show j+1≤l.length by omega)
    rw[Nat.add_mul]at this;omega
   rw[List.drop_append_of_le_length (by omega),List.take_append_of_le_length (by rw[List.length_drop];omega)]
   exact G.agree this (BY.sub fun b hb=>List.mem_append_left _ (bX lX hb))
  ·rw[List.getElem?_append_right (by omega)]at hy
   rw[List.getElem?_append_right (by omega),hfl]at lX
   have:=hel _ y f hy lX
   have h5:(xs++news).drop (j*size)=news.drop ((j-l.length)*size):=by
    rw[List.drop_append,List.drop_eq_nil_of_le (by rw[hxl];exact Nat.mul_le_mul_right size (by omega)),List.nil_append,hxl,Nat.sub_mul]
   rw[h5]
   exact G.agree this (BY.sub fun b hb=>List.mem_append_right _ (bX lX hb))
 have qN:(bn++fx).flatten=bn.flatten++fx.flatten:=List.flatten_append
 rcases hres with⟨g,o,cur,e2,cur',rfl,hg,rfl,hroom,rfl,hcs,hg',XW⟩| ⟨hrow,Qk,AD,hsh⟩
 ·
  rcases Wv with⟨hl0,rfl,_⟩| ⟨g1,o1,afI,e3,q1,q2,q3,q4,q5,rfl⟩
  ·omega
  simp only[oI,Addr.mk.injEq,and_true]at q1
  obtain⟨rfl,rfl⟩:=q1
  rw[hg]at q2
  simp only[oI,Go.Obj.cells.injEq,and_true]at q2
  obtain⟨rfl,rfl⟩:=q2
  have hgn:g∉bn.flatten:=(List.nodup_cons.1 hO1).1
  have hgx:g∉fx.flatten:=fun h=>hO3 g (by simp) g h rfl
  have hkeep: ∀y,y≠g→(w.setRow g cur').heap[y]? =w.heap[y]? :=fun y hy=>setRow_other w g y _ hy
  have BY:Agree w (w.setRow g cur') (bn.flatten++fx.flatten):=fun y hy=>hkeep y fun h=>by
   subst h
   rcases List.mem_append.1 hy with hy|hy
   ·exact hgn hy
   ·exact hgx hy
  have hsh:Shape w (w.setRow g cur'):=Shape.row hg hcs
  have CL: ∀{f:List Nat},Own 0 w f→Own 0 (w.setRow g cur') f:=fun h=>⟨h.nodup,h.ge,fun b hb=>by
   obtain⟨c,e,hc⟩:=h.kind b hb
   obtain⟨c',h5,_⟩:=hsh b c e hc
   exact⟨_,_,h5⟩⟩
  have hOv:Own 0 w (g::bn.flatten):=⟨hO1,fun _ _=>Nat.zero_le _,fun b hb=>hO.kind b (List.mem_append_left _ hb)⟩
  have hOx:Own 0 w fx.flatten:=⟨Zy,fun _ _=>Nat.zero_le _,fun b hb=>hO.kind b (List.mem_append_right _ hb)⟩
  have hOa:Own 0 w (g::(bn++fx).flatten):=by rw[qN];exact hO
  have hE':=lI (w:=w.setRow g cur') (b:=g) (o:=o) (l:=l++lx) (xs:=xs++news) (bn:=bn++fx) (by simp[hfl,BW]) XW (hall BY)
  have hE0:nJ size E (w.setRow g cur') g o l bn:=by
   refine⟨hfl,fun j y f hy hf=> ?_⟩
   have hj:=(List.getElem?_eq_some_iff.1 hy).1
   have hjf:=(List.getElem?_eq_some_iff.1 hf).1
   obtain⟨cs,r1,r2⟩:=hE'.2 j y f (by rw[List.getElem?_append_left hj];exact hy) (by rw[List.getElem?_append_left hjf];exact hf)
   exact⟨cs,r1,r2⟩
  have hfit:Fit (w.setRow g cur') g (o+cap*size):=⟨cur',e2,(0,0),hg',by rw[hcs];exact q4⟩
  refine⟨_,_,g::(bn++fx).flatten,[],hr,fun y hy hn=>hkeep y fun h=>hn (by simp[h]),rfl,rfl,rfl,by simp[World.setRow],hsh,⟨_,cap,rfl,hc,hcm,Or.inr ⟨g,o,bn,rfl,hfit,rfl,hE0⟩⟩,CL hOv,
   ⟨_,cap,by rw[List.length_append],by rw[List.length_append];exact hroom,hcm,Or.inr ⟨g,o,bn++fx,rfl,hfit,rfl,hE'⟩⟩,CL hOa,fun y hy=> ?_,by rw[List.append_nil];exact CL hOx,by simp,_,_,_,rfl⟩
  rw[qN]at hy
  simp only[List.mem_cons,List.mem_append]at hy ⊢
  rcases hy with h|h|h
  ·exact Or.inl (Or.inl h)
  ·exact Or.inl (Or.inr h)
  ·exact Or.inr (Or.inl h)
 ·
  have hkeep: ∀y,y<w.heap.size→w'.heap[y]? =w.heap[y]? :=fun y hy=>Qk.block y hy (by simp)
  have BY: ∀{f:List Nat},(∀y,y∈f→y<w.heap.size)→Agree w w' f:=fun h y hy=>hkeep y (h y hy)
  obtain⟨g,cap',cur,rfl,hgb,hg,hn1,hn2,TM,hn4⟩: ∃g cap' cur,v'= .slice (some ⟨g,0,none⟩) (l.length+lx.length) cap'∧w.heap.size≤g∧w'.heap[g]? =some (.cells cur e (0,0))∧l.length+lx.length≤cap'∧cap'≤maxLen∧cap'*size≤cur.size∧cur.toList.take ((l.length+lx.length)*size)=xs++news:=by
   rcases hrow.2 with⟨_,h0⟩| ⟨g,cap',cur,r1,r2,r3,r4,r5,r6,r7⟩
   ·omega
   ·exact⟨g,cap',cur,r1,r2,r3,r4,r5,Nat.le_of_eq r6.symm,r7⟩
  have afO:g=w.heap.size:=by simpa[Value.ownBlock]using AD
  have hOv:Own 0 w fv:=⟨hO1,fun _ _=>Nat.zero_le _,fun b hb=>hO.kind b (List.mem_append_left _ hb)⟩
  have hS0:Sl size E w (.slice oa l.length cap) l fv:=⟨oa,cap,rfl,hc,hcm,h3⟩
  have hlt2: ∀y,y∈(bn++fx).flatten→y<w.heap.size:=by
   intro y hy
   rw[qN]at hy
   rcases List.mem_append.1 hy with hy|hy
   ·exact XV y (hsub y hy)
   ·exact Oi y hy
  have acT:(bn++fx).flatten.Nodup:=by
   rw[qN]
   exact List.nodup_append.2 ⟨Qs,Zy,fun a ha b hb e=>hO3 a (hsub a ha) b hb e⟩
  have Ww: ∀y,y∈(bn++fx).flatten→ ∃c e,w'.heap[y]? =some (.cells c e (0,0)):=by
   intro y hy
   rw[hkeep y (hlt2 y hy)]
   rw[qN]at hy
   rcases List.mem_append.1 hy with hy|hy
   ·exact hO.kind y (List.mem_append_left _ (hsub y hy))
   ·exact hO.kind y (List.mem_append_right _ hy)
  have hE':=lI (w:=w') (b:=g) (o:=0) (l:=l++lx) (xs:=xs++news) (bn:=bn++fx) (by simp[hfl,BW])
   (fun j u hu=>tF (o:=0) (m:=(l.length+lx.length)*size) hg j u (by rw[List.drop_zero,hn4];exact hu)) (hall (BY (by rw[←qN];exact hlt2)))
  refine⟨_,_,g::(bn++fx).flatten,[g],hr,fun y hy _=>hkeep y hy,Qk.os,Qk.tape,Qk.output,Qk.size,hsh,Sl.agree G hS0 (BY XV),hOv.agree (BY XV),
   ⟨_,cap',by rw[List.length_append],by rw[List.length_append];exact hn1,hn2,Or.inr ⟨g,0,bn++fx,rfl,⟨cur,e,(0,0),hg,by omega⟩,rfl,hE'⟩⟩,⟨List.nodup_cons.2 ⟨fun h=>by have:=hlt2 g h;omega,acT⟩,fun _ _=>Nat.zero_le _,fun y hy=> ?_⟩,fun y hy=> ?_,⟨?_,fun _ _=>Nat.zero_le _,fun y hy=> ?_⟩,fun y hy=>by simp at hy;omega,_,_,_,rfl⟩
  ·rcases List.mem_cons.1 hy with rfl|hy
   ·exact⟨_,_,hg⟩
   ·exact Ww y hy
  ·rw[qN]at hy
   simp only[List.mem_cons,List.mem_append,List.not_mem_nil,or_false]at hy ⊢
   rcases hy with h|h|h
   ·exact Or.inr (Or.inr h)
   ·exact Or.inl (hsub y h)
   ·exact Or.inr (Or.inl h)
  ·refine List.nodup_append.2 ⟨Zy,by simp,fun a ha b hb e=> ?_⟩
   simp at hb
   have:=Oi a ha
   omega
  ·rcases List.mem_append.1 hy with hy|hy
   ·exact Ww y (by rw[qN];exact List.mem_append_right _ hy)
   ·simp at hy;subst hy;exact⟨_,_,hg⟩
section
variable{P:Program}{zb:cm}{st st':St}{a:Act}{w:World}{env:Env}{Q:Exit→Act→World→Prop}{o:Oper}
theorem IE{bn:List (List Nat)}{i:Nat}{f:List Nat}(h:i<bn.length):(bn.set i f).flatten=(bn.take i).flatten++(f++(bn.drop (i+1)).flatten):=by
 rw[List.set_eq_take_append_cons_drop,if_pos h,List.flatten_append,List.flatten_cons]
theorem yZ{w w':World}: ∀{c:List V} {us:List Value} {f:List Nat},bT w c us f→Agree w w' f→bT w' c us f
 | [],[],_,h,_=>h
 | [],_::_,_,h,_=>h.elim
 |_::_,[],_,h,_=>h.elim
 |v::r,u::us,f,h,ha=>by
  obtain⟨f1,f2,h1,h2,rfl⟩:=h
  refine⟨f1,f2,?_,yZ h2 (ha.sub fun y hy=>List.mem_append_right _ hy),rfl⟩
  cases v with
  |lit x=>exact h1
  |sl t l=>exact Sl.agree (cX t) h1 (ha.sub fun y hy=>List.mem_append_left _ hy)
  |_=>exact h1.elim
theorem Om{n i off:Nat}{t:Tag}{l:List (T t)}{u0:Value}{gt:Tag}{l0:List (T gt)}(g:Good ty zb st a.tmps w env)(TN:RV w st.hp env n (some (i,off)) t l u0)(hl:look st.hp n=some (.arr gt l0)):
  ∃(b o1 len cap:Nat) (fv A B:List Nat),(env n).v= .slice (some ⟨b,o1,none⟩) len cap∧(env n).fp=b::(A++(fv++B))∧Sl (kk t) (rd t) w u0 l fv∧Own 0 w (b::(A++(fv++B)))∧w.cell? ⟨b,o1+i*kk gt+off,none⟩=some u0∧
   ∀(l2:List (T t)) c nH x',Es (dec gt (l0.getD i (aB gt))) off [.sl t l2]=some c→enc gt c=some (nH,x')→(∀q,q∈nH→q)→ ∀(w':World) (u':Value) (Bb:List Nat),
    (∀y,y∈A++B→w'.heap[y]? =w.heap[y]?)→(∀o cs,w.rangeAt b o cs→(o+cs.length≤o1+i*kk gt+off∨o1+i*kk gt+off+1≤o)→w'.rangeAt b o cs)→
    w'.cell? ⟨b,o1+i*kk gt+off,none⟩=some u'→(∀c e,w.heap[b]? =some (.cells c e (0,0))→ ∃c',w'.heap[b]? =some (.cells c' e (0,0))∧c'.size=c.size)→
    Sl (kk t) (rd t) w' u' l2 Bb→Own 0 w' (b::(A++(Bb++B)))→kZ ty w' n gt (l0.set i x') ⟨(env n).v,b::(A++(Bb++B))⟩:=by
 obtain⟨_,_,Qw⟩:=TN
 obtain⟨t1,l1,b2,o2,XG,Uq,hl1,hi,KJ,Oh,Eu,hcell⟩:=Qw i off rfl
 rw[hl]at hl1
 simp only[oI,Obj.arr.injEq]at hl1
 obtain⟨rfl,hl1⟩:=hl1
 cases hl1
 have hro:=g.obj n _ hl
 obtain⟨oa,cap,lP,vk,Gk,h3⟩:=RO.sl hro
 have hown:=RO.own hro
 rcases h3 with⟨rfl,_⟩| ⟨b,o1,bn,KI,bU,eR,hE⟩
 ·simp at hi
 rw[lP,KI]at Oh
 simp only[Value.slice.injEq,oI,Addr.mk.injEq,and_true]at Oh
 obtain⟨⟨rfl,rfl⟩,rfl,rfl⟩:=Oh
 have Qq:l0[i]? =some (l0.getD i (aB gt)):=by rw[List.getD_eq_getElem?_getD,List.getElem?_eq_getElem hi];rfl
 obtain⟨fe,hf⟩:=gd hE.1 Qq
 have NO:=(List.getElem?_eq_some_iff.1 hf).1
 obtain⟨cs,wL,TQ⟩:=hE.2 _ _ fe Qq hf
 have hlen:=(cX gt).len TQ
 have hR:=reads gt TQ
 obtain⟨f1,f',Ur,k1,k2⟩:=bT.split off hR
 have uu: ∃r',(dec gt (l0.getD i (aB gt))).drop off= .sl t l::r':=by
  rw[wI]at KJ
  have hlt:=(List.getElem?_eq_some_iff.1 KJ).1
  rw[List.drop_eq_getElem_cons hlt]
  have:=(List.getElem?_eq_some_iff.1 KJ).2
  rw[this]
  exact⟨_,rfl⟩
 obtain⟨r',uu⟩:=uu
 rw[uu]at k2
 have CK: ∃u us,cs.drop off=u::us:=by
  cases hq:cs.drop off with
  |nil=>rw[hq]at k2;exact k2.elim
  |cons u us=>exact⟨u,us,rfl⟩
 obtain⟨u,us,CK⟩:=CK
 rw[CK]at k2
 obtain⟨fv,f3,Kn,Qx,hf'⟩:=k2
 have huc:cs[off]? =some u:=by
  have:=congrArg (fun l=>l[0]?) CK
  simpa using this
 have hoff:off<cs.length:=(List.getElem?_eq_some_iff.1 huc).1
 have ZZ:u0=u:=by
  have:=wL off u huc
  rw[hcell]at this
  simpa using this
 subst ZZ
 have hfl:bn.flatten=((bn.take i).flatten++f1)++(fv++(f3++(bn.drop (i+1)).flatten)):=by
  have h1:bn.set i fe=bn:=by
   obtain⟨_,h⟩:=List.getElem?_eq_some_iff.1 hf
   rw[←h];exact List.set_getElem_self NO
  have h2:=IE (bn:=bn) (f:=fe) NO
  rw[h1]at h2
  rw[h2,Ur,hf']
  simp only[List.append_assoc]
 refine⟨b,o1,l0.length,cap,fv,(bn.take i).flatten++f1,f3++(bn.drop (i+1)).flatten,by rw[lP,KI],by rw[eR,hfl],Kn,by rw[←hfl, ←eR];exact hown,hcell,?_⟩
 intro l2 c nH x' hs he hv w' u' Bb hAB hbr hbc FW hS' TR
 have HI:c=(dec gt (l0.getD i (aB gt))).take off++([.sl t l2]++r'):=by
  unfold Es at hs
  split at hs
  ·simp only[oI]at hs
   rw[←hs]
   congr 2
   have:(dec gt (l0.getD i (aB gt))).drop (off+ [V.sl t l2].length)=((dec gt (l0.getD i (aB gt))).drop off).drop 1:=by rw[List.drop_drop];rfl
   rw[this,uu];rfl
  ·cases hs
 have ag1:Agree w w' f1:=fun y hy=>hAB y (by simp[hy])
 have ag3:Agree w w' f3:=fun y hy=>hAB y (by simp[hy])
 have hrd:bT w' c (cs.take off++([u']++us)) (f1++(Bb++f3)):=by
  rw[HI]
  exact bT.XC (yZ k1 ag1) (y:= [.sl t l2]) (vs:= [u']) ⟨Bb,[],hS',rfl,by simp⟩ (yZ Qx ag3)
 have XH:=pX gt he (fun q hq=>hv q hq) hrd
 have hkk:0<kk gt:=eS gt
 have Qi:us=cs.drop (off+1):=by
  have:=congrArg (fun l=>l.drop 1) CK
  simp only[List.drop_drop,List.drop_succ_cons,List.drop_zero]at this
  exact this.symm
 have htl:(cs.take off).length=off:=by rw[List.length_take];omega
 have XW:w'.rangeAt b (o1+i*kk gt) (cs.take off++([u']++us)):=by
  refine nO (hbr _ _ (wT wL) (Or.inl (by rw[htl];omega))) ?_
  rw[htl]
  refine nO (x:= [u']) (fun j v hj=> ?_) ?_
  ·have hj0:j=0:=by have:=(List.getElem?_eq_some_iff.1 hj).1;simpa using this
   subst hj0
   simp at hj
   rw[Nat.add_zero,hbc,hj]
  ·rw[Qi]
   refine hbr _ _ ?_ (Or.inr (by simp))
   have:=wU (n:=off+1) wL
   rwa [←Nat.add_assoc]at this
 have Gl:nJ (kk gt) (rd gt) w' b o1 (l0.set i x') (bn.set i (f1++(Bb++f3))):=by
  refine⟨by rw[List.length_set,List.length_set];exact hE.1,fun j y fy hy lX=> ?_⟩
  by_cases hj:i=j
  ·subst hj
   rw[List.getElem?_set_self hi]at hy
   rw[List.getElem?_set_self NO]at lX
   simp only[oI]at hy lX
   subst hy;subst lX
   exact⟨_,XW,XH⟩
  ·rw[List.getElem?_set_ne hj]at hy lX
   obtain⟨cy,XD,L0⟩:=hE.2 j y fy hy lX
   refine⟨cy,hbr _ _ XD ?_,(cX gt).agree L0 fun z hz=>hAB z ?_⟩
   ·rw[(cX gt).len L0]
    rcases Nat.lt_or_ge j i with h1|h1
    ·left
     have:=Nat.mul_le_mul_right (kk gt) (show j+1≤i by omega)
     rw[Nat.add_mul]at this;omega
    ·right
     have:=Nat.mul_le_mul_right (kk gt) (show i+1≤j by omega)
     rw[Nat.add_mul]at this;omega
   ·rcases Nat.lt_or_ge j i with h1|h1
    ·refine List.mem_append_left _ (List.mem_append_left _ (bX (i:=j) ?_ hz))
     rw[List.getElem?_take,if_pos h1];exact lX
    ·refine List.mem_append_right _ (List.mem_append_right _ (bX (i:=j-(i+1)) ?_ hz))
     rw[List.getElem?_drop,show i+1+(j-(i+1))=j by omega];exact lX
 have acW:(bn.set i (f1++(Bb++f3))).flatten=((bn.take i).flatten++f1)++(Bb++(f3++(bn.drop (i+1)).flatten)):=by
  rw[IE NO];simp only[List.append_assoc]
 rw[←acW]at TR ⊢
 have hfit:Fit w' b (o1+cap*kk gt):=by
  obtain⟨c0,e0,fz0,q1,q2⟩:=bU
  obtain⟨c1,e1,q3⟩:=hown.kind b (by rw[eR];simp)
  rw[q3]at q1
  simp only[oI,Go.Obj.cells.injEq]at q1
  obtain⟨rfl,rfl,rfl⟩:=q1
  obtain⟨c',q4,q5⟩:=FW _ _ q3
  exact⟨c',_,_,q4,by rw[q5];exact q2⟩
 have Qt:Sl (kk gt) (rd gt) w' (env n).v (l0.set i x') (b::(bn.set i (f1++(Bb++f3))).flatten):=
  ⟨some ⟨b,o1,none⟩,cap,by rw[lP,KI,List.length_set],by rw[List.length_set];exact vk,Gk,Or.inr ⟨b,o1,_,rfl,hfit,rfl,Gl⟩⟩
 unfold kZ
 cases hp:soft n with
 |true=>exact⟨Qt,TR⟩
 |false=>
  have hB:=RO.TJ hp hro
  rcases hB.parts with⟨h1,rfl,_⟩| ⟨g0,o0,n0,cc,XI,h1,hn0,Od,q1,q2,_⟩
  ·simp at hi
  ·rw[lP,KI]at h1
   simp only[Value.slice.injEq,oI,Addr.mk.injEq,and_true,true_and]at h1
   obtain⟨⟨rfl,rfl⟩,rfl⟩:=h1
   obtain⟨cc',q3,q4⟩:=FW _ _ q1
   show ig (kk gt) (rd gt) 0 (ty gt) w' (env n).v (l0.set i x') _
   rw[lP,KI, ←List.length_set (as:=l0) (i:=i) (a:=x')]
   exact iU (cX gt) q3 (by rw[q4];exact q2) (by rw[List.length_set];exact vk) Gk Gl TR
def UG(P:Program)(ty:Tag→Nat)(Γ:Nat→TK)(st:St)(m0:Nat):Op→Option (List Prop×St×SV)
 | .call ⟨.builtin .append,xs,ts⟩=>match xs.toList,ts.toList with
   | [s,x],[t1,t2]=>match Γ t1,Nat.beq t1 t2 with
     | .sl t e,true=>match Nat.beq e (ty t),ff st [] s,ff st [] x with
       |true,some (.a (.vw n (some (i,off)) t' l')),some vx=>match gf t t' l',Gj st t vx,look st.hp n with
        |some l,some (lx,m),some (.arr gt l0)=>match wP [n] m&& !pinned m&& !jg m0,look (bW m [n] st.hp) m0,(Es (dec gt (l0.getD i (aB gt))) off [.sl t l]).bind (enc gt)with
         |true,none,some (vc0,x0)=>some (El P ty t::(0<lx.length)::((l.length+lx.length)*cK t≤140737488355328∧l.length+lx.length≤maxLen)::(x0=l0.getD i (aB gt))::vc0,
           ⟨st.n,st.sl.map fun e=>(e.1,e.2.bz m [n]),(m0, .eZ t (l++lx) (.uq (some (n,i,off))))::bW m [n] st.hp⟩, .one (.a (.tG m0)))
         |_,_,_=>none
        |_,_,_=>none
       |_,_,_=>none
     |_,_=>none
   |_,_=>none
 |_=>none
theorem UH{Γ:Nat→TK}(C: ∀t,cG P t (Γ t)){m0:Nat}{vc:List Prop}{v:SV}(h:UG P ty Γ st m0 o.op=some (vc,st',v))(g:Good ty zb st a.tmps w env)(hB:zb.w.heap.size≤w.heap.size)(hv: ∀q,q∈vc→q):
  o.wp P a w (fun a' w'=> ∃u env',a'=a.put o.dst u∧Kept zb w w'∧Good ty zb st' a.tmps w' env'∧st'.n=st.n∧nG w' st'.hp env' a.tmps v u) Q:=by
 have hop: ∀{x v},ff st [] x=some v→eT w st.hp env v (a.eval x):=fun hx=>dB g (fun e he=>by simp at he) hx
 generalize eJ:o.op=op at h
 unfold UG at h
 split at h
 case h_2=>cases h
 rename_i xs ts
 split at h
 case h_2=>cases h
 rename_i s x t1 t2 hxl htl
 obtain rfl:xs= #[s,x]:=Array.ext' hxl
 obtain rfl:ts= #[t1,t2]:=Array.ext' htl
 split at h
 case h_2=>cases h
 rename_i t0 e hk vi
 have vi:=Nat.eq_of_beq_eq_true vi
 subst vi
 split at h
 case h_2=>cases h
 rename_i n i off t l vx he hs hx
 have he:=Nat.eq_of_beq_eq_true he
 split at h
 case h_2=>cases h
 rename_i l2 lx m gt l0 hc Um UI
 split at h
 case h_2=>cases h
 rename_i vc0 x0 hno hlk hse
 simp only[oI,pI]at h
 obtain⟨rfl,rfl,rfl⟩:=h
 obtain⟨ec,lO⟩:=cU hc
 subst ec
 obtain rfl:l=l2:=lO.symm
 simp only[Bool.and_eq_true,Bool.not_eq_true']at hno
 obtain⟨⟨hno,hpk⟩,Cx⟩:=hno
 have hnm:n∉m:=by
  intro hm
  simp only[wP,List.all_cons,List.all_nil,Bool.and_true,Bool.not_eq_true',List.any_eq_false]at hno
  exact hno n hm (by simp)
 obtain⟨c0,hs0,he0⟩:=Option.bind_eq_some_iff.1 hse
 have qM:El P ty t:=hv _ (by simp)
 have hlx:0<lx.length:=hv _ (by simp)
 obtain⟨bf,bU⟩:(l.length+lx.length)*cK t≤140737488355328∧l.length+lx.length≤maxLen:=hv _ (by simp)
 have hx0:x0=l0.getD i (aB gt):=hv _ (by simp)
 have hv0: ∀q,q∈vc0→q:=fun q hq=>hv q (by simp[hq])
 have TN:RV w st.hp env n (some (i,off)) t l (a.eval s):=hop hs
 obtain⟨b,o1,len,cap,fv,A,B,Oh,eR,hS,hO,hcell,hput⟩:=Om g TN UI
 obtain⟨news,fx,n1,n2,n3,n4,n5,n6⟩:=E2 g (hop hx) Um
 have hC:=C t1
 rw[hk]at hC
 obtain⟨inf,hi,hz,hsize,hby⟩:=info_parts qM
 have hxn: ∀y,y∈fx.flatten→y∉(env n).fp:=by
  intro y hy hyn
  obtain⟨j,oj,hj,h1,h2⟩:=n5 y hy
  exact g.iq j n _ _ (fun e=>hnm (e▸hj)) h1 UI y h2 hyn
 have On: ∀y,y∈fv→y∈(env n).fp:=fun y hy=>by rw[eR];simp[hy]
 obtain⟨d1,d2⟩:=List.nodup_cons.1 hO.nodup
 obtain⟨d3,d4,d5⟩:=List.nodup_append.1 d2
 obtain⟨d6,d7,d8⟩:=List.nodup_append.1 d4
 have hOv:Own 0 w (fv++fx.flatten):=by
  refine⟨List.nodup_append.2 ⟨d6,n6.nodup,fun y hy z hz e=>hxn z hz (e▸On y hy)⟩,fun _ _=>Nat.zero_le _,fun y hy=> ?_⟩
  rcases List.mem_append.1 hy with hy|hy
  ·exact hO.kind y (by simp[hy])
  ·exact n6.kind y hy
 obtain⟨v',w',UF,nb,hr,hkeep,k1,k2,k3,k4,hsh,ZX,hO1,ZY,Zy,hsub,hO3,hnb,TH,m',cap',CC⟩:=QO (P:=P) t1 o.type (ty t) inf (eF t) (kk t) (cK t) (by rw[←he];exact hC.1) hi hz hsize hby (iJ t) (eS t) (cX t) hS n1 n2 n3 n4 hOv hlx bU bf
 have hnlt: ∀y,y∈(env n).fp→y<w.heap.size:=(g.obj n _ UI).va
 have hdn: ∀y,y∈fx.flatten++nb→y∉(env n).fp:=by
  intro y hy hyn
  rcases List.mem_append.1 hy with hy|hy
  ·exact hxn y hy hyn
  ·have:=hnb y hy;have:=hnlt y hyn;omega
 have hkA: ∀y,y∈A++B→w'.heap[y]? =w.heap[y]? :=by
  intro y hy
  have hyf:y∈(env n).fp:=by rw[eR];rcases List.mem_append.1 hy with h|h<;>simp[h]
  refine hkeep y (hnlt y hyf) fun hf=> ?_
  rcases List.mem_append.1 hy with h|h
  ·exact d5 y h y (by simp[hf]) rfl
  ·exact d8 y hf y h rfl
 have hkb:w'.heap[b]? =w.heap[b]? :=hkeep b (hnlt b (by rw[eR];simp)) fun hf=>d1 (by simp[hf])
 obtain⟨cb,eb,qa⟩:=hO.kind b (by simp)
 have mK:o1+i*kk gt+off<cb.size:=by
  rw[Ca qa]at hcell
  exact(Array.getElem?_eq_some_iff.1 hcell).1
 have aam:l0.set i x0=l0:=by
  rw[hx0]
  by_cases hi:i<l0.length
  ·rw[List.getD_eq_getElem?_getD,List.getElem?_eq_getElem hi];exact List.set_getElem_self hi
  ·rw[List.set_eq_of_length_le (by omega)]
 have hRn:kZ ty w' n gt l0 (env n):=by
  have:=hput l c0 vc0 x0 hs0 he0 hv0 w' (a.eval s) fv hkA (fun o cs hr _ j u hu=>by rw[World.cell?_of_block (w:=w) (a:=⟨b,_,none⟩) hkb];exact hr j u hu)
   (by rw[World.cell?_of_block (w:=w) (a:=⟨b,_,none⟩) hkb];exact hcell) (fun c e h=>hsh b c e h) ZX (hO.nodup|>fun hn=>⟨hn,fun _ _=>Nat.zero_le _,fun y hy=>by
    obtain⟨c,e,h1⟩:=hO.kind y hy
    obtain⟨c',h2,_⟩:=hsh y c e h1
    exact⟨_,_,h2⟩⟩)
  rw[aam, ←eR]at this
  exact this
 have hnd: ∀k o,k∉m→look st.hp k=some o→k≠m0:=by
  rintro k o hks h1 rfl
  rw[bI,if_neg hks,h1]at hlk
  cases hlk
 have Od:n≠m0:=hnd n _ hnm UI
 have QS: ∀k o,look ((m0,Obj.eZ t (l++lx) (.uq (some (n,i,off))))::bW m [n] st.hp) k=some o→(k=m0∧o= .eZ t (l++lx) (.uq (some (n,i,off))))∨(k≠m0∧k∉m∧ ∃o',look st.hp k=some o'∧o=o'.bz m [n]):=by
  intro k o hm
  by_cases gE:k=m0
  ·subst gE;rw[look_eq]at hm;simp only[oI]at hm;exact Or.inl ⟨rfl,hm.symm⟩
  ·rw[aZ gE,bI]at hm
   split at hm
   ·cases hm
   ·rename_i hks
    cases hq:look st.hp k with
    |none=>rw[hq]at hm;cases hm
    |some o'=>rw[hq]at hm;simp only[Option.map_some,oI]at hm;exact Or.inr ⟨gE,hks,o',rfl,hm.symm⟩
 have Mo: ∀y,y∈fx.flatten++nb→y<w.heap.size→ ∃j oj,j∈m∧look st.hp j=some oj∧y∈(env j).fp:=by
  intro y hy hlt
  rcases List.mem_append.1 hy with hy|hy
  ·exact n5 y hy
  ·have:=hnb y hy;omega
 have hst: ∀k o,k≠n→look st.hp k=some o→ ∀y,y∈(env k).fp→w'.heap[y]? =w.heap[y]? :=fun k o hkn h1 y hy=>
  hkeep y ((g.obj k o h1).va y hy) fun hf=>g.iq k n _ _ hkn h1 UI y hy (On y hf)
 have ac1:look ((m0,Obj.eZ t (l++lx) (.uq (some (n,i,off))))::bW m [n] st.hp) n=some (.arr gt l0):=by
  rw[aZ Od,bI,if_neg hnm,UI];rfl
 have hs':oQ m [n] w st.hp env w' ((m0, .eZ t (l++lx) (.uq (some (n,i,off))))::bW m [n] st.hp) (fun k=>if k=m0 then⟨v',fx.flatten++nb⟩else env k):=by
  refine⟨fun y hy hno=>hkeep y hy fun hf=>hno ⟨n,_,UI,On y hf⟩,?_,?_,?_⟩
  ·rintro y hy ⟨k,o',h1,h2⟩
   rcases QS k o' h1 with⟨rfl,_⟩| ⟨gE,hks,we,h3,rfl⟩
   ·simp only[if_true]at h2
    obtain⟨j,oj,_,h3,h4⟩:=Mo y h2 hy
    exact⟨j,oj,h3,h4⟩
   ·simp only[if_neg gE]at h2
    exact⟨k,we,h3,h2⟩
  ·intro k o' hks h1
   have gE:=hnd k o' hks h1
   exact⟨o'.bz m [n],by rw[aZ gE,bI,if_neg hks,h1];rfl,by cases o'<;>simp[Obj.like,Obj.bz],by simp[gE]⟩
  ·rintro k t2 l2 ⟨hks,hkn⟩ h1
   have gE:=hnd k _ hks h1
   exact⟨by rw[aZ gE,bI,if_neg hks,h1];rfl,by simp[gE],hst k _ (by simpa using hkn) h1⟩
 have aan:=g.gr hs' (fun k o' hm=> ?_) (fun k k' q1 q2 hne h1 h2 y hy hy'=> ?_) (fun k o' hm y hy=> ?_) (fun k hm=> ?_)
 ·refine ?_
  unfold Oper.wp execOp
  simp only[eJ,resolve,invoke,builtin,Sem.run_bind,Sem.run_pure,Result.andThen_ok,List.map_toArray,List.map_cons,List.map_nil,hr]
  exact⟨v',_,rfl,⟨k1,k2,k3,k4,fun y hy hn=>hkeep y (by omega) fun hf=>by
   rcases g.dom n _ UI y (On y hf)with h|h
   ·exact hn h
   ·omega,hsh⟩,aan,trivial,⟨t,_,_,look_eq⟩,by simp⟩
 ·rcases QS k o' hm with⟨e1,e2⟩| ⟨gE,hks,we,h3,rfl⟩
  ·rw[e1,e2]
   simp only[if_true]
   refine⟨hO3,⟨TH,m',cap',CC⟩,fun n' i' off' e=> ?_⟩
   simp only[oI,pI]at e
   obtain⟨rfl,rfl,rfl⟩:=e
   refine⟨gt,l0,b,o1,len,cap,ac1,by simp only[if_neg Od];exact Oh,by simp only[if_neg Od];rw[eR];simp,?_⟩
   simp only[if_neg Od]
   intro w2 a1 a2 d vc y' hs1 he1 A9
   have Zx:b∈(env n).fp:=by rw[eR];simp
   have aao:w2.heap[b]? =w.heap[b]? :=(a1 b Zx).trans hkb
   have QT:w2.heap[b]? =some (.cells cb eb (0,0)):=aao.trans qa
   have LZ:w2.there b (o1+i*kk gt+off) [v'].length:=FY QT _ _ (by simp only[List.length_singleton];omega)
   have hbA: ∀y,y∈A++B→y≠b:=by
    rintro y hy rfl
    apply d1
    rcases List.mem_append.1 hy with h|h<;>simp[h]
   have hAf: ∀y,y∈A++B→y∈(env n).fp:=by
    intro y hy
    rw[eR];rcases List.mem_append.1 hy with h|h<;>simp[h]
   have QU: ∀y,y≠b→(w2.setCells b (o1+i*kk gt+off) [v']).heap[y]? =w2.heap[y]? :=fun y hy=>bV b _ _ w2 y hy
   have XX: ∀y,y∈A++B→(w2.setCells b (o1+i*kk gt+off) [v']).heap[y]? =w.heap[y]? :=fun y hy=>(QU y (hbA y hy)).trans ((a1 y (hAf y hy)).trans (hkA y hy))
   have hfb: ∀y,y∈UF→y≠b:=by
    rintro y hy rfl
    rcases hsub y hy with h|h
    ·exact d1 (by simp[h])
    ·exact hdn y h Zx
   have hfa: ∀y,y∈UF→(w2.setCells b (o1+i*kk gt+off) [v']).heap[y]? =w'.heap[y]? :=by
    intro y hy
    refine(QU y (hfb y hy)).trans ?_
    rcases hsub y hy with h|h
    ·exact a1 y (On y h)
    ·exact a2 y h
   have aap: ∀y,y∈UF→y∉A++B:=by
    intro y hy hyA
    rcases hsub y hy with h|h
    ·rcases List.mem_append.1 hyA with h2|h2
     ·exact d5 y h2 y (by simp[h]) rfl
     ·exact d8 y h y h2 rfl
    ·exact hdn y h (hAf y hyA)
   refine⟨by simpa using LZ,b::(A++(UF++B)),fun y hy=> ?_,?_⟩
   ·simp only[List.mem_cons,List.mem_append]at hy
    rcases hy with rfl|h|h|h
    ·exact Or.inl Zx
    ·exact Or.inl (hAf y (by simp[h]))
    ·rcases hsub y h with h|h
     ·exact Or.inl (On y h)
     ·exact Or.inr h
    ·exact Or.inl (hAf y (by simp[h]))
   ·refine hput (l++lx) d vc y' hs1 he1 A9 _ v' UF XX (fun o cs hr hd=> ?_) ?_ (fun c e h=> ?_) (Sl.agree (cX t) ZY hfa) ⟨List.nodup_cons.2 ⟨fun hm=> ?_,?_⟩,fun _ _=>Nat.zero_le _,fun y hy=> ?_⟩
    ·refine World.rangeAt_setCells_apart (fun j u hu=> ?_) _ _ _ (Or.inr (hd.imp id fun h=>by simpa using h))
     rw[World.cell?_of_block (w:=w) (a:=⟨b,_,none⟩) aao];exact hr j u hu
    ·have:=World.rangeAt_setCells_same w2 b _ [v'] LZ 0 v' rfl
     simpa using this
    ·rw[qa]at h
     simp only[oI,Go.Obj.cells.injEq,and_true]at h
     obtain⟨rfl,rfl⟩:=h
     exact cW b eb [v'] _ w2 cb QT
    ·simp only[List.mem_append]at hm
     rcases hm with h|h|h
     ·exact hbA b (by simp[h]) rfl
     ·exact hfb b h rfl
     ·exact hbA b (by simp[h]) rfl
    ·refine List.nodup_append.2 ⟨d3,List.nodup_append.2 ⟨Zy.nodup,d7,fun y hy z hz e=>aap y hy (by simp[e▸hz])⟩,fun y hy z hz e=> ?_⟩
     rcases List.mem_append.1 hz with h|h
     ·exact aap z h (by simp[e▸hy])
     ·exact d5 y hy z (by simp[h]) e
    ·rcases List.mem_cons.1 hy with rfl|hy
     ·obtain⟨c',q1,_⟩:=cW y eb [v'] (o1+i*kk gt+off) w2 cb QT
      exact⟨_,_,q1⟩
     ·simp only[List.mem_append]at hy
      rcases hy with h|h|h
      ·rw[XX y (by simp[h])];exact hO.kind y (by simp[h])
      ·rw[hfa y h];exact Zy.kind y h
      ·rw[XX y (by simp[h])];exact hO.kind y (by simp[h])
  ·simp only[if_neg gE]
   by_cases hkn:k=n
   ·subst hkn
    rw[UI]at h3
    simp only[oI]at h3
    subst h3
    exact hRn
   ·exact(g.obj k we h3).gr hs' (hst k we hkn h3)
 ·rcases QS k q1 h1 with⟨e1,_⟩| ⟨gE,hks,r1,h3,_⟩<;>rcases QS k' q2 h2 with⟨e2,_⟩| ⟨Ba,KE,r2,h4,_⟩
  ·exact hne (e1.trans e2.symm)
  ·simp only[if_pos e1]at hy
   simp only[if_neg Ba]at hy'
   obtain⟨j,oj,hj,h5,h6⟩:=Mo y hy ((g.obj k' r2 h4).va y hy')
   exact g.iq k' j _ _ (fun e=>KE (e▸hj)) h4 h5 y hy' h6
  ·simp only[if_pos e2]at hy'
   simp only[if_neg gE]at hy
   obtain⟨j,oj,hj,h5,h6⟩:=Mo y hy' ((g.obj k r1 h3).va y hy)
   exact g.iq k j _ _ (fun e=>hks (e▸hj)) h3 h5 y hy h6
  ·simp only[if_neg gE]at hy
   simp only[if_neg Ba]at hy'
   exact g.iq k k' _ _ hne h3 h4 y hy hy'
 ·rcases QS k o' hm with⟨e1,_⟩| ⟨gE,hks,q1,h3,_⟩
  ·simp only[if_pos e1]at hy
   by_cases hlt:y<w.heap.size
   ·obtain⟨j,oj,_,h5,h6⟩:=Mo y hy hlt
    exact g.dom j oj h5 y h6
   ·exact Or.inr (by omega)
  ·simp only[if_neg gE]at hy
   exact g.dom k q1 h3 y hy
 ·have:k≠m0:=by rintro rfl;rw[Cx]at hm;cases hm
  simp only[if_neg this]
  exact g.pins k hm
def XY(Γ:Nat→TK)(st:St):Op→Option (List Prop×St)
 | .store t x y=>match ff st [] x,ff st [] y with
   |some (.a (.mG n i off)),some (.a (.tG d))=>match look st.hp n,look st.hp d with
    |some (.arr gt l0),some (.eZ t' l (.uq (some (n',i',off'))))=>match Nat.beq n n'&&(Nat.beq i i'&&Nat.beq off off')&& !jg n&&Im n [d]&&fits (Γ t) (.a (.tG d)),(Es (dec gt (l0.getD i (aB gt))) off [.sl t' l]).bind (enc gt)with
     |true,some (vc,y')=>some (vc,st.KH [d] n gt (l0.set i y'))
     |_,_=>none
    |_,_=>none
   |_,_=>none
 |_=>none
theorem UJ{Γ:Nat→TK}(Z: ∀t,(∀z tg fo,Γ t≠ .st z tg fo)→Γ t≠ .other→(P.info? t).map (·.size)=some 1){vc:List Prop}(h:XY Γ st o.op=some (vc,st'))(g:Good ty zb st a.tmps w env)(hv: ∀q,q∈vc→q):
  o.wp P a w (fun a' w'=> ∃env',a'=a.put o.dst undef∧Kept zb w w'∧Good ty zb st' a.tmps w' env'∧st'.n=st.n) Q:=by
 have hop: ∀{x v},ff st [] x=some v→eT w st.hp env v (a.eval x):=fun hx=>dB g (fun e he=>by simp at he) hx
 generalize eJ:o.op=op at h
 unfold XY at h
 split at h
 case h_2=>cases h
 rename_i t x y
 split at h
 case h_2=>cases h
 rename_i n i off d hx hy
 have hx:=hop hx
 have hy:=hop hy
 split at h
 case h_2=>cases h
 rename_i gt l0 t' l n' i' off' hl hd
 split at h
 case h_2=>cases h
 rename_i nH y' hok hse
 simp only[oI,pI]at h
 obtain⟨rfl,rfl⟩:=h
 simp only[Bool.and_eq_true,Bool.not_eq_true']at hok
 obtain⟨⟨⟨⟨e1,e2,e3⟩,XF⟩,hok⟩,hfit⟩:=hok
 obtain rfl:=Nat.eq_of_beq_eq_true e1
 obtain rfl:=Nat.eq_of_beq_eq_true e2
 obtain rfl:=Nat.eq_of_beq_eq_true e3
 obtain⟨c0,hs0,he0⟩:=Option.bind_eq_some_iff.1 hse
 obtain⟨hOd,⟨oa,m,cp,wK⟩,hpr⟩:yP ty w st.hp env t' l (some (n,i,off)) (env d):=g.obj d _ hd
 obtain⟨tA,lA,b,o1,len,cap,q1,q2,q3,q4⟩:=hpr n i off rfl
 rw[hl]at q1
 simp only[oI,Obj.arr.injEq]at q1
 obtain⟨rfl,q1⟩:=q1
 cases q1
 obtain⟨LZ,H8,hsub,hR⟩:=q4 w (fun _ _=>rfl) (fun _ _=>rfl) c0 nH y' hs0 he0 hv
 obtain⟨t1,l1,hl1,b2,o2,XG,Uq,A9,hu⟩:=hx
 rw[hl]at hl1
 simp only[oI,Obj.arr.injEq]at hl1
 obtain⟨rfl,_⟩:=hl1
 rw[q2]at A9
 simp only[Value.slice.injEq,oI,Addr.mk.injEq,and_true]at A9
 obtain⟨⟨rfl,rfl⟩,_,_⟩:=A9
 obtain⟨_,huy⟩:=(show RA w st.hp env (.tG d) (a.eval y)from hy)
 have qY:(a.eval y).cells.toList= [(env d).v]:=by rw[huy,wK];rfl
 have hsz:(P.info? t).map (·.size)=some 1:=Z t (wV hfit).1 (wV hfit).2
 obtain⟨cb,eb,qa⟩:=(RO.own (g.obj n _ hl)).kind b q3
 obtain⟨env',hg',CC⟩:=AE (fx:=(env d).fp) g hl hok (w':=w.setCells b (o1+i*kk gt+off) [(env d).v]) (fun y hy=>⟨d,_,by simp,hd,hy⟩) hsub (fun h=>by rw[XF]at h;cases h) (fun y h1 _ _=>bV b _ _ w y fun e=>h1 (e▸q3)) hR
 have hrun:(storeVar t ⟨b,o1+i*kk gt+off,none⟩ (a.eval y)).run P w= .ok () (w.setCells b (o1+i*kk gt+off) [(env d).v]):=l5 (by rw[←qY]) LZ hsz (by intro u hu;simp at hu;rw[hu,wK];rfl)
 unfold Oper.wp execOp
 simp only[eJ,hu,Instr.storeAt,Instr.sureAddr,Sem.run_bind,Sem.run_pure,Result.andThen_ok,hrun]
 exact⟨env',rfl,wM (g.dom n _ hl b q3) qa _ _,hg',rfl⟩
end
end
section
variable{ty:Tag→Nat}
def fV:V→Option V
 | .any=>some .any
 | .lit (.int k n)=>some (.lit (.int k n))
 | .lit (.bool b)=>some (.lit (.bool b))
 | .lit (.string s)=>some (.lit (.string s))
 | .lit v=>some (.lit v)
 | .sl t l=>some (.sl t l)
 | .own n=>some (.own n)
 | .ptr n o=>some (.ptr n o)
 | .mG n i o=>some (.mG n i o)
 | .ip t x o=>some (.ip t x o)
 | .vw n p t l=>some (.vw n p t l)
 | .Eh n p t x o=>some (.Eh n p t x o)
 | .Ei n t l=>some (.Ei n t l)
 | .mix n c t l=>some (.mix n c t l)
 | .tG n=>some (.tG n)
 | .Bt f n=>some (.Bt f n)
 | .uo k=>some (.uo k)
 | .raw v=>some (.raw v)
 | .qK v t l=>some (.qK v t l)
theorem Wx(v:V):fV v=some v:=by
 unfold fV;split<;>rfl
def Zz:List V→Option (List V)
 | []=>some []
 |v::r=>match fV v,Zz r with
  |some x,some y=>some (x::y)
  |_,_=>none
theorem KS: ∀l:List V,Zz l=some l
 | []=>rfl
 |v::r=>by simp[Zz,Wx,KS r]
def fS:SV→Option SV
 | .one (.a v)=>match fV v with|some v=>some (.one (.a v))|none=>none
 | .one (.agg l)=>match Zz l with|some l=>some (.one (.agg l))|none=>none
 | .uQ l=>some (.uQ l)
 | .cond p (.a v)=>match fV v with|some v=>some (.cond p (.a v))|none=>none
 | .cond p (.agg l)=>match Zz l with|some l=>some (.cond p (.agg l))|none=>none
theorem QV{x y:SV}(h:fS x=some y):y=x:=by
 unfold fS at h
 split at h<;>simp_all [Wx,KS]
def fO:Obj→Option Obj
 | .box c=>match Zz c with|some c=>some (.box c)|none=>none
 | .arr t l=>some (.arr t l)
 | .eZ t l .gone=>some (.eZ t l .gone)
 | .eZ t l .mH=>some (.eZ t l .mH)
 | .eZ t l .mp=>some (.eZ t l .mp)
 | .eZ t l (.HJ u)=>some (.eZ t l (.HJ u))
 | .eZ t l (.of n)=>some (.eZ t l (.of n))
 | .eZ t l (.uq p)=>some (.eZ t l (.uq p))
theorem Wy{x y:Obj}(h:fO x=some y):y=x:=by
 unfold fO at h
 split at h<;>simp_all [KS]
def fSl:List (Nat×SV)→Option (List (Nat×SV))
 | []=>some []
 | (n,x)::r=>match fS x,fSl r with
   |some x,some r=>some ((n,x)::r)
   |_,_=>none
theorem QW: ∀{l m:List (Nat×SV)},fSl l=some m→m=l
 | [],m,h=>by simp only[fSl,oI]at h;exact h.symm
 | (n,x)::r,m,h=>by
   simp only[fSl]at h
   split at h
   ·rename_i y r' h1 h2
    simp only[oI]at h
    rw[←h,QV h1,QW h2]
   ·cases h
def XZ:Hp→Option Hp
 | []=>some []
 | (n,x)::r=>match fO x,XZ r with
   |some x,some r=>some ((n,x)::r)
   |_,_=>none
theorem Gv: ∀{l m:Hp},XZ l=some m→m=l
 | [],m,h=>by simp only[XZ,oI]at h;exact h.symm
 | (n,x)::r,m,h=>by
   simp only[XZ]at h
   split at h
   ·rename_i y r' h1 h2
    simp only[oI]at h
    rw[←h,Wy h1,Gv h2]
   ·cases h
def Oo:St→Option St
 | ⟨n,sl,hp⟩=>match fSl sl,XZ hp with
   |some sl,some hp=>some ⟨n,sl,hp⟩
   |_,_=>none
theorem mP{s s':St}(h:Oo s=some s'):s'=s:=by
 obtain⟨n,sl,hp⟩:=s
 simp only[Oo]at h
 split at h
 ·rename_i a b h1 h2
  simp only[oI]at h
  rw[←h,QW h1,Gv h2]
 ·cases h
def Wz:TypeDesc→Bool
 | .struct _=>false
 | .array _ _=>false
 |_=>true
def UK(P:Program)(t f k:Nat):Prop:= ∃fs fd d,P.underlying t=some (.struct fs)∧fs[f]? =some fd∧fd.offset=k∧P.underlying fd.type=some d∧Wz d=true
def Fa:List V→Option (List Int)
 | []=>some []
 | .lit (.int .i64 a)::r=>match Fa r with|some l=>some (a::l)|none=>none
 |_=>none
def WA(P:Program)(t n:Nat):Prop:= ∀(xs ys:List Int) (X Y:Operand) (w:World),xs.length=n→ys.length=n→
 (do eqGuard .neq t X Y (.agg (xs.map (Value.int .i64)).toArray) (.agg (ys.map (Value.int .i64)).toArray);binOp .neq t (.agg (xs.map (Value.int .i64)).toArray) (.agg (ys.map (Value.int .i64)).toArray):Sem Value).run P w= .ok (.bool (xs !=ys)) w
theorem CT{w:World}{hp:Hp}{env:Env}: ∀{l:List V} {xs:List Int} {cs:List Value},Fa l=some xs→bA (RA w hp env) l cs→cs=xs.map (Value.int .i64)
 | [],xs,[],h,_=>by simp only[Fa,oI]at h;subst h;rfl
 | [],_,_::_,_,h=>h.elim
 |v::r,xs,[],_,h=>h.elim
 |v::r,xs,c::cs,h,⟨h1,h2⟩=>by
  unfold Fa at h
  split at h
  ·rename_i e;cases e
  ·rename_i a r' e
   simp only[List.cons.injEq]at e
   obtain⟨rfl,rfl⟩:=e
   split at h
   ·rename_i l' hl
    simp only[oI]at h
    subst h
    rw[CT hl h2,List.map_cons,h1.1]
   ·cases h
  ·cases h
def KT(P:Program)(Γ:Nat→TK)(st:St):Op→Option (List Prop×St×SV)
 | .field t x f=>match ff st [] x,Γ t with
   |some (.agg c), .st _ _ fo=>match nF fo f with
    |some k=>match wv c k with
     |some v=>some ([UK P t f k],st, .one (.a v))
     |none=>none
    |none=>none
   |_,_=>none
 | .binOp .neq t x y _=>match ff st [] x,ff st [] y with
   |some (.agg l),some (.agg l')=>match Fa l,Fa l' with
    |some xs,some ys=>match Nat.beq xs.length ys.length with
     |true=>some ([WA P t xs.length],st, .one (.a (.lit (.bool (xs !=ys)))))
     |false=>none
    |_,_=>none
   |_,_=>none
 |_=>none
theorem KU{P:Program}{t:TypeId}{d:TypeDesc}(h:P.underlying t=some d)(hd:Wz d=true)(w:World):(isAgg t).run P w= .ok false w:=by
 cases d<;>first| (cases hd;done)|simp[isAgg,run_underlying h]
section
variable{P:Program}{zb:cm}{st st':St}{a:Act}{w:World}{env:Env}{Q:Exit→Act→World→Prop}{o:Oper}
theorem UL{Γ:Nat→TK}{vc:List Prop}{v:SV}(h:KT P Γ st o.op=some (vc,st',v))(g:Good ty zb st a.tmps w env)(hv: ∀q,q∈vc→q):
  o.wp P a w (fun a' w'=> ∃u env',a'=a.put o.dst u∧Kept zb w w'∧Good ty zb st' a.tmps w' env'∧st'.n=st.n∧nG w' st'.hp env' a.tmps v u) Q:=by
 generalize eJ:o.op=op at h
 cases op with
 |field t x f=>
  simp only[KT]at h
  split at h
  case h_2=>cases h
  rename_i c z tg fo hx hk
  split at h
  case h_2=>cases h
  rename_i k hf
  split at h
  case h_2=>cases h
  rename_i v' hel
  simp only[oI,pI]at h
  obtain⟨rfl,rfl,rfl⟩:=h
  obtain⟨fs,fd,d,h1,h2,h3,h4,h5⟩:=hv _ (List.mem_singleton.2 rfl)
  obtain⟨us,hu,hA⟩:=dB g (fun e he=>by simp at he) hx
  obtain⟨u,k1,k2⟩:=hA.at (Ge hel)
  have hr:(execOp a.eval o).run P w= .ok (.value u) w:=by
   unfold execOp
   simp[eJ,hu,Instr.field,part,run_underlying h1,h2,h3,KU h4 h5,asAgg,k1]
  unfold Oper.wp
  rw[hr]
  exact⟨u,env,rfl,Kept.refl _ _,g,rfl,k2⟩
 |binOp b t x y t'=>
  cases b with
  |neq=>
   simp only[KT]at h
   split at h
   case h_2=>cases h
   rename_i l l' hx hy
   split at h
   case h_2=>cases h
   rename_i xs ys h1 h2
   split at h
   case h_2=>cases h
   rename_i hn
   have hn:=Nat.eq_of_beq_eq_true hn
   simp only[oI,pI]at h
   obtain⟨rfl,rfl,rfl⟩:=h
   have hS:WA P t xs.length:=hv _ (List.mem_singleton.2 rfl)
   obtain⟨us,hu,hA⟩:=dB g (fun e he=>by simp at he) hx
   obtain⟨us',Zu,hA'⟩:=dB g (fun e he=>by simp at he) hy
   rw[CT h1 hA]at hu
   rw[CT h2 hA']at Zu
   have hr:(execOp a.eval o).run P w= .ok (.value (.bool (xs !=ys))) w:=by
    unfold execOp
    simp only[eJ,hu,Zu]
    rw[Sem.run_bind,hS xs ys x y w rfl hn.symm]
    rfl
   unfold Oper.wp
   rw[hr]
   exact⟨_,env,rfl,Kept.refl _ _,g,rfl,rfl,rfl⟩
  |_=>simp[KT]at h
 |_=>simp[KT]at h
end
def QX(P:Program)(ty:Tag→Nat)(Γ:Nat→TK)(cr:List (Nat×CR))(st:St)(m:Nat)(d:Option Nat)(op:Op):Option (List Prop×St×SV):=
 match KF P ty Γ st m op with
 |some r=>some r
 |none=>match CE P ty Γ st m op with
  |some r=>some r
  |none=>match eio P ty Γ cr st d op with
   |some r=>some r
   |none=>match eiv P ty cr st d op with
    |some r=>some r
    |none=>match QD P ty Γ cr st d op with
     |some r=>some r
     |none=>match Z3 P ty Γ st op with
      |some r=>some r
      |none=>match KT P Γ st op with
       |some r=>some r
       |none=>match KR P ty Γ st m op with
        |some r=>some r
        |none=>match UB P ty Γ st m op with
         |some r=>some r
         |none=>match UD Γ cr st m d op with
          |some r=>some r
          |none=>UG P ty Γ st m op
def QY(Γ:Nat→TK)(st:St)(op:Op):Option (List Prop×St):=
 match Uo Γ st op with
 |some r=>some r
 |none=>match evs Γ st op with
  |some r=>some r
  |none=>XY Γ st op
def step(P:Program)(ty:Tag→Nat)(Γ:Nat→TK)(cO:List (Nat×Nat))(cr:List (Nat×CR))(ops:List Oper)(st:St)(o:Oper):Option (List Prop×St):=
 match P0 Γ (Gb P ty) (Sound ty P) cO cr ops st o with
 |some r=>some r
 |none=>match o.guard,wD st o.dst,ZN cO o.dst with
  |none,true,some m=>match Cy Γ st o.op with
   |some st'=>match o.dst with|none=>some ([],st')|some _=>none
   |none=>match QY Γ st o.op with
    |some (vc,st')=>match o.dst,Oo st' with|none,some st'=>some (vc,st')|_,_=>none
    |none=>match QX P ty Γ cr st m o.dst o.op with
     |some (vc,st',v)=>match Oo st' with|some st'=>some (vc,st'.put o.dst v)|none=>none
     |none=>none
  |_,_,_=>none
def run(P:Program)(ty:Tag→Nat)(Γ:Nat→TK)(cO:List (Nat×Nat))(cr:List (Nat×CR))(ops:List Oper):List Oper→St→List Prop→Option (List Prop×St)
 | [],st,acc=>some (acc,st)
 |o::r,st,acc=>match step P ty Γ cO cr ops st o with
  |some ([],⟨n,sl,hp⟩)=>run P ty Γ cO cr ops r ⟨n,sl,hp⟩ acc
  |some ([p],⟨n,sl,hp⟩)=>run P ty Γ cO cr ops r ⟨n,sl,hp⟩ (p::acc)
  |some ([p,q],⟨n,sl,hp⟩)=>run P ty Γ cO cr ops r ⟨n,sl,hp⟩ (p::q::acc)
  |some (l,⟨n,sl,hp⟩)=>run P ty Γ cO cr ops r ⟨n,sl,hp⟩ (l++acc)
  |none=>none
@[reducible] def jX:List Prop→Prop
  | []=>True
  |p::r=>p∧jX r
theorem jX.out: ∀{l:List Prop},jX l→ ∀q,q∈l→q
 |p::r,h,q,hq=>by
  rcases List.mem_cons.1 hq with rfl|hq
  ·exact h.1
  ·exact jX.out h.2 q hq
section
variable{P:Program}{zb:cm}{st st':St}{a:Act}{w:World}{Q:Exit→Act→World→Prop}{o:Oper}
theorem nP{v:SV}{d:Nat}(h: ∃x,v= .one x):v.mentions d=false:=by
 obtain⟨x,rfl⟩:=h;rfl
theorem gD.mono{ops:Array Oper}{K K':Act→World→Prop}(h: ∀a w,K a w→K' a w)(hr:gD P ops o a w K Q):gD P ops o a w K' Q:=by
 unfold gD at*
 split
 ·rename_i hw;rw[if_pos hw]at hr;exact hr.imp (Oper.wp_mono h) id
 ·rename_i hw;rw[if_neg hw]at hr;exact h _ _ hr
theorem QZ{Γ:Nat→TK}(C: ∀t,cG P t (Γ t)){cr:List (Nat×CR)}{m:Nat}{vc:List Prop}{v:SV}{env:Env}{d:Option Nat}(h:QX P ty Γ cr st m d o.op=some (vc,st',v))(g:Good ty zb st a.tmps w env)(hB:zb.w.heap.size≤w.heap.size)(hA:Ga zb)(hN:F5 w)(hv: ∀q,q∈vc→q):
  (∀k,v.mentions k=false)∧o.wp P a w (fun a' w'=> ∃u env',a'=a.put o.dst u∧Kept zb w w'∧Good ty zb st' a.tmps w' env'∧st'.n=st.n∧nG w' st'.hp env' a.tmps v u) Q:=by
 have one:(∃x,v= .one x)→ ∀k,v.mentions k=false:=fun hx k=>nP hx
 unfold QX at h
 split at h
 ·rename_i r he
  simp only[oI]at h
  subst h
  refine⟨one ?_,Ul C he g hB hv⟩
  unfold KF at he
  repeat' split at he
  all_goals first
   | (cases he;done)
   | (simp only[oI,pI]at he;exact⟨_,he.2.2.symm⟩)
 ·split at h
  ·rename_i r he
   simp only[oI]at h
   subst h
   refine⟨one ?_,Ob C he g hB hv⟩
   unfold CE at he
   repeat' split at he
   all_goals first
    | (cases he;done)
    | (simp only[oI,pI]at he;exact⟨_,he.2.2.symm⟩)
  ·split at h
   ·rename_i r he
    simp only[oI]at h
    subst h
    refine⟨one ?_,XL he g hB hA hN hv⟩
    unfold eio at he
    repeat' split at he
    all_goals first
     | (cases he;done)
     | (simp only[oI,pI]at he;exact⟨_,he.2.2.symm⟩)
   ·split at h
    ·rename_i r he
     simp only[oI]at h
     subst h
     refine⟨one ?_,XN (Γ:=Γ) he g hB hA hN hv⟩
     unfold eiv at he
     repeat' split at he
     all_goals first
      | (cases he;done)
      | (simp only[oI,pI]at he;exact⟨_,he.2.2.symm⟩)
    ·split at h
     ·rename_i r he
      simp only[oI]at h
      subst h
      exact Ux he g hB hA hN hv
     ·split at h
      ·rename_i r he
       simp only[oI]at h
       subst h
       refine⟨one ?_,XP C he g hB hv⟩
       unfold Z3 at he
       repeat' split at he
       all_goals first
        | (cases he;done)
        | (simp only[oI,pI]at he;exact⟨_,he.2.2.symm⟩)
      ·split at h
       ·rename_i r he
        simp only[oI]at h
        subst h
        refine⟨one ?_,UL he g hv⟩
        unfold KT at he
        repeat' split at he
        all_goals first
         | (cases he;done)
         | (simp only[oI,pI]at he;exact⟨_,he.2.2.symm⟩)
       ·split at h
        ·rename_i r he
         simp only[oI]at h
         subst h
         refine⟨one ?_,Uz C he g hB hv⟩
         unfold KR at he
         repeat' split at he
         all_goals first
          | (cases he;done)
          | (simp only[oI,pI]at he;exact⟨_,he.2.2.symm⟩)
        ·split at h
         ·rename_i r he
          simp only[oI]at h
          subst h
          refine⟨one ?_,UC C he g hB hv⟩
          unfold UB at he
          repeat' split at he
          all_goals first
           | (cases he;done)
           | (simp only[oI,pI]at he;exact⟨_,he.2.2.symm⟩)
         ·split at h
          ·rename_i r he
           simp only[oI]at h
           subst h
           refine⟨one ?_,UE C he g hB hv⟩
           unfold UD at he
           repeat' split at he
           all_goals first
            | (cases he;done)
            | (simp only[oI,pI]at he;exact⟨_,he.2.2.symm⟩)
          ·refine⟨one ?_,UH C h g hB hv⟩
           unfold UG at h
           repeat' split at h
           all_goals first
            | (cases h;done)
            | (simp only[oI,pI]at h;exact⟨_,h.2.2.symm⟩)
theorem Q0{Γ:Nat→TK}(C: ∀t,cG P t (Γ t))(Z: ∀t,(∀z tg fo,Γ t≠ .st z tg fo)→Γ t≠ .other→(P.info? t).map (·.size)=some 1){vc:List Prop}{env:Env}(h:QY Γ st o.op=some (vc,st'))(g:Good ty zb st a.tmps w env)(hB:zb.w.heap.size≤w.heap.size)(hv: ∀q,q∈vc→q):
  o.wp P a w (fun a' w'=> ∃env',a'=a.put o.dst undef∧Kept zb w w'∧Good ty zb st' a.tmps w' env'∧st'.n=st.n) Q:=by
 unfold QY at h
 split at h
 ·rename_i r hr
  simp only[oI]at h
  subst h
  exact Up C Z hr g hv
 ·split at h
  ·rename_i r hr
   simp only[oI]at h
   subst h
   exact XO C Z hr g hB hv
  ·exact UJ Z h g hv
theorem tR{Γ:Nat→TK}(C: ∀t,cG P t (Γ t))(Z: ∀t,(∀z tg fo,Γ t≠ .st z tg fo)→Γ t≠ .other→(P.info? t).map (·.size)=some 1){cO:List (Nat×Nat)}{cr:List (Nat×CR)}{ops:List Oper}{vc:List Prop}(h:step P ty Γ cO cr ops st o=some (vc,st'))(iv:Inv ty zb st a w)(hv: ∀q,q∈vc→q):
  gD P ops.toArray o a w (fun a' w'=>Inv ty zb st' a' w') Q:=by
 simp only[step]at h
 split at h
 ·rename_i r hq
  simp only[oI]at h
  subst h
  exact Qm C hq iv hv
 ·split at h
  ·rename_i m hg hd _
   have uu:=Gi iv hd
   obtain⟨env,g⟩:=iv.good
   have Xx:=iv.kept.size
   split at h
   ·rename_i s1 hs
    split at h
    ·rename_i X0
     simp only[oI,pI]at h
     obtain⟨rfl,rfl⟩:=h
     refine iK hg (Oper.wp_mono ?_ (Oa (Q:=Q) C Z hs g))
     rintro a' w' ⟨rfl,hb,hg',hn,w6⟩
     rw[X0]
     exact⟨by rw[gC,hn];exact iv.size,by rw[put_defers];exact iv.defers,iv.kept.trans hb,iv.Ej,env,hg'⟩
    ·cases h
   ·split at h
    ·rename_i nH s1 hs
     split at h
     ·rename_i s2 X0 hfs
      have hfs:=mP hfs
      subst hfs
      simp only[oI,pI]at h
      obtain⟨rfl,rfl⟩:=h
      refine iK hg (Oper.wp_mono ?_ (Q0 (Q:=Q) C Z hs g Xx hv))
      rintro a' w' ⟨env',rfl,hb,hg',hn⟩
      rw[X0]
      exact⟨by rw[gC,hn];exact iv.size,by rw[put_defers];exact iv.defers,iv.kept.trans hb,iv.Ej,env',hg'⟩
     ·cases h
    ·split at h
     ·rename_i nH s1 v he
      split at h
      case h_2=>cases h
      rename_i s2 hfs
      have hfs:=mP hfs
      subst hfs
      simp only[oI,pI]at h
      obtain⟨rfl,rfl⟩:=h
      obtain⟨A9,hwp⟩:=QZ (Q:=Q) C he g Xx iv.Ej (iv.Ej.now iv.kept) hv
      refine iK hg (Oper.wp_mono ?_ hwp)
      rintro a' w' ⟨u,env',rfl,hb,hg',hn,hr⟩
      refine⟨by rw[gC,uR,hn];exact iv.size,by rw[put_defers];exact iv.defers,iv.kept.trans hb,iv.Ej,env',mL hg' uu hr fun d _=>A9 d⟩
     ·cases h
  ·cases h
theorem y8{Γ:Nat→TK}{cO:List (Nat×Nat)}{cr:List (Nat×CR)}{ops:List Oper}{r:List Oper}{acc vcs:List Prop}{BC:St}(h:run P ty Γ cO cr ops (o::r) st acc=some (vcs,BC)):
  ∃vc Bc,step P ty Γ cO cr ops st o=some (vc,Bc)∧run P ty Γ cO cr ops r Bc (vc++acc)=some (vcs,BC):=by
 simp only[run]at h
 split at h
 ·rename_i n sl hp hs;exact⟨[],⟨n,sl,hp⟩,hs,h⟩
 ·rename_i p n sl hp hs;exact⟨[p],⟨n,sl,hp⟩,hs,h⟩
 ·rename_i p q n sl hp hs;exact⟨[p,q],⟨n,sl,hp⟩,hs,h⟩
 ·rename_i l n sl hp _ _ _ hs;exact⟨_,⟨n,sl,hp⟩,hs,h⟩
 ·cases h
theorem w7{Γ:Nat→TK}{cO:List (Nat×Nat)}{cr:List (Nat×CR)}{ops:List Oper}: ∀{l:List Oper} {st BC:St} {acc vcs:List Prop},run P ty Γ cO cr ops l st acc=some (vcs,BC)→ ∀q,q∈acc→q∈vcs
 | [],st,BC,acc,vcs,h,q,hq=>by
   simp only[run,oI,pI]at h
   rw[←h.1];exact hq
 |o::r,st,BC,acc,vcs,h,q,hq=>by
  obtain⟨vc,Bc,_,h2⟩:=y8 h
  exact w7 h2 q (List.mem_append_right _ hq)
theorem KW{Γ:Nat→TK}(C: ∀t,cG P t (Γ t))(Z: ∀t,(∀z tg fo,Γ t≠ .st z tg fo)→Γ t≠ .other→(P.info? t).map (·.size)=some 1){cO:List (Nat×Nat)}{cr:List (Nat×CR)}{ops:List Oper}{BC:St}{vcs:List Prop}
  (hQ: ∀a w,Inv ty zb BC a w→Q .normal a w): ∀{l:List Oper} {st:St} {acc:List Prop} {a:Act} {w:World},run P ty Γ cO cr ops l st acc=some (vcs,BC)→(∀q,q∈vcs→q)→Inv ty zb st a w→wpList P ops.toArray Q l a w
 | [],st,acc,a,w,h,hv,iv=>by
   simp only[run,oI,pI]at h
   obtain⟨_,rfl⟩:=h
   exact hQ a w iv
 |o::r,st,acc,a,w,h,hv,iv=>by
  obtain⟨vc,Bc,h1,h2⟩:=y8 h
  have:=tR (Q:=Q) C Z h1 iv (fun q hq=>hv q (w7 h2 q (List.mem_append_left _ hq)))
  exact this.mono fun a' w' oA=>KW C Z hQ h2 hv oA
end
abbrev Post:=Exit→St→Prop
def Ey(ty:Tag→Nat)(zb:cm)(Q:Post):Exit→Act→World→Prop:=fun e a w=> ∃st,Inv ty zb st a w∧Q e st
def W(P:Program)(ty:Tag→Nat)(zb:cm)(c:Code)(Q:Post)(st:St):Prop:= ∀a w,Inv ty zb st a w→c.wp P (Ey ty zb Q) a w
def Post.then(next:St→Prop)(Q:Post):Post
 | .normal,st=>next st
 |e,st=>Q e st
def Post.inBlock(id:Nat)(Q:Post):Post
 | .exit i,st=>if i=id then Q .normal st else Q (.exit i) st
 |e,st=>Q e st
def AI(sl:List (Nat×SV)):List Nat→Option (List (Nat×SV))
 | []=>some []
 |s::r=>match look sl s with
  |some x=>match fS x,AI sl r with
   |some x,some l=>some ((s,x)::l)
   |_,_=>none
  |none=>none
def AJ(hp:Hp):List Nat→Option Hp
 | []=>some []
 |s::r=>match look hp s with
  |some x=>match fO x,AJ hp r with
   |some x,some l=>some ((s,x)::l)
   |_,_=>none
  |none=>none
def lJ(hp:Hp)(v:V):Bool:=match v.name with|some n=>(match look hp n with|some _=>true|none=>false)|none=>true
def qc(hp:Hp):S1→Bool
 | .a v=>lJ hp v
 | .agg l=>l.all (lJ hp)
def Mp(hp:Hp):SV→Bool
 | .one x=>qc hp x
 | .uQ l=>l.all (qc hp)
 | .cond _ x=>qc hp x
def w8(hp:Hp):Obj→Bool
 | .box c=>c.all (lJ hp)
 | .arr _ _=>true
 | .eZ _ _ s=>match s.name with|some n=>(match look hp n with|some _=>true|none=>false)|none=>true
def qd(sl:List (Nat×SV))(hp:Hp):Bool:=(sl.all fun e=>Mp hp e.2)&&hp.all fun e=>w8 hp e.2
def V.UM(v:V):List Nat:=match v.name with|some n=> [n]|none=> []
def SV.UM:SV→List Nat
 | .one (.a v)=>v.UM
 | .one (.agg l)=>l.flatMap V.UM
 | .uQ l=>l.flatMap fun x=>(match x with| .a v=>v.UM| .agg l=>l.flatMap V.UM)
 | .cond _ (.a v)=>v.UM
 | .cond _ (.agg l)=>l.flatMap V.UM
def KX:Nat→Hp→List Nat→List Nat→List Nat
 |0,_,_,acc=>acc
 |_,_,[],acc=>acc
 |f+1,hp,n::r,acc=>match acc.any (Nat.beq n)with
  |true=>KX f hp r acc
  |false=>KX f hp (match look hp n with|some (.box c)=>c.flatMap V.UM++r|some (.eZ _ _ (.of m))=>m::r|_=>r) (acc++ [n])
def Gw(sl:List (Nat×SV)):List Nat→List Nat
 | []=> []
 |s::r=>match look sl s with|some x=>x.UM++Gw sl r|none=>Gw sl r
def Mq(sl:List (Nat×SV))(hp:Hp)(ks:List Nat):List Nat→List Nat
 | []=>KX 300 hp (Gw sl ks++(hp.map Prod.fst).filter jg) []
 |hs=>hs
def TT(P:Program)(ty:Tag→Nat)(Γ:Nat→TK)(cO:List (Nat×Nat))(cr:List (Nat×CR))(ks hs:List Nat)(ops:List Oper):St→Option (List Prop×St)
 | ⟨n,WB,gl⟩=>match run P ty Γ cO cr ops ops ⟨n,WB,gl⟩ []with
 |some (vc,st')=>match AI st'.sl ks,AJ st'.hp (Mq st'.sl st'.hp ks hs)with
  |some sl,some hp=>match qd sl hp,Nat.beq st'.n n with
   |true,true=>some (vc,⟨n,sl,hp⟩)
   |_,_=>none
  |_,_=>none
 |none=>none
theorem kj{sl:List (Nat×SV)}: ∀{ks:List Nat} {l:List (Nat×SV)},AI sl ks=some l→ ∀s v,look l s=some v→look sl s=some v
 | [],l,h,s,v,hl=>by
   simp only[AI,oI]at h
   subst h;cases hl
 |k::r,l,h,s,v,hl=>by
  simp only[AI]at h
  split at h
  ·rename_i x0 h1
   split at h
   ·rename_i x l' hf h2
    simp only[oI]at h
    subst h
    by_cases hs:s=k
    ·subst hs;rw[look_eq]at hl;rw[←hl,QV hf];exact h1
    ·rw[aZ hs]at hl;exact kj h2 s v hl
   ·cases h
  ·cases h
theorem ko{hp:Hp}: ∀{ks:List Nat} {l:Hp},AJ hp ks=some l→ ∀s v,look l s=some v→look hp s=some v
 | [],l,h,s,v,hl=>by
   simp only[AJ,oI]at h
   subst h;cases hl
 |k::r,l,h,s,v,hl=>by
  simp only[AJ]at h
  split at h
  ·rename_i x0 h1
   split at h
   ·rename_i x l' hf h2
    simp only[oI]at h
    subst h
    by_cases hs:s=k
    ·subst hs;rw[look_eq]at hl;rw[←hl,Wy hf];exact h1
    ·rw[aZ hs]at hl;exact ko h2 s v hl
   ·cases h
  ·cases h
theorem tS{hp:Hp}{v:V}(h:lJ hp v=true): ∀n,v.name=some n→look hp n≠none:=by
 intro n hn hl
 simp[lJ,hn,hl]at h
theorem vm{hp:Hp}{x:S1}(h:qc hp x=true): ∀v,v∈x.vs→lJ hp v=true:=by
 intro v hv
 cases x with
 |a y=>simp only[S1.vs,List.mem_singleton]at hv;subst hv;exact h
 |agg l=>exact List.all_eq_true.1 h v hv
theorem KY{hp:Hp}{x:SV}(h:Mp hp x=true): ∀v,v∈x.vs→lJ hp v=true:=by
 intro v hv
 cases x with
 |one x=>exact vm h v hv
 |uQ l=>
  simp only[SV.vs,List.mem_flatMap]at hv
  obtain⟨y,hy,hv⟩:=hv
  exact vm (List.all_eq_true.1 h y hy) v hv
 |cond p x=>exact vm h v hv
theorem Good.weaken{zb:cm}{st st':St}{tmps:Array Value}{w:World}{env:Env}(g:Good ty zb st tmps w env)(hs: ∀s v,look st'.sl s=some v→look st.sl s=some v)(hh: ∀n o,look st'.hp n=some o→look st.hp n=some o)
  (vk: ∀s v,look st'.sl s=some v→ ∀x,x∈v.vs→lJ st'.hp x=true)(Gk: ∀m o,look st'.hp m=some o→w8 st'.hp o=true):Good ty zb st' tmps w env:=by
 have s:Step (fun n=>look st'.hp n≠none) (fun n=>look st'.hp n≠none) w st.hp env w st'.hp env:=by
  refine⟨fun _ _ _=>rfl,?_,?_,?_⟩
  ·rintro b _ ⟨n,o,h1,h2⟩;exact⟨n,o,hh n o h1,h2⟩
  ·intro n o hK h1
   cases hq:look st'.hp n with
   |none=>exact absurd hq hK
   |some o'=>
    have:=hh n o' hq
    rw[h1]at this
    simp only[oI]at this
    subst this
    exact⟨o,rfl,by cases o<;>simp[Obj.like],rfl⟩
  ·intro n t l hK h1
   cases hq:look st'.hp n with
   |none=>exact absurd hq hK
   |some o'=>
    have:=hh n o' hq
    rw[h1]at this
    simp only[oI]at this
    subst this
    exact⟨rfl,rfl,fun _ _=>rfl⟩
 have aar: ∀v,lJ st'.hp v=true→v.rR (fun n=>look st'.hp n≠none) (fun n=>look st'.hp n≠none):=fun v h=>⟨fun n hn=>tS h n hn,fun n hn=>tS h n (V.oO hn)⟩
 refine⟨fun n o hl=> ?_,fun n m o o' hne h1 h2=>g.iq n m o o' hne (hh n o h1) (hh m o' h2),fun t v hl=>nG.step s (fun x hx=>aar x (vk t v hl x hx)) (g.slot t v (hs t v hl)),fun n o hl=>g.dom n o (hh n o hl),g.pins⟩
 refine(g.obj n o (hh n o hl)).step s ?_ (fun _ _=>rfl)
 have hO:=Gk n o hl
 cases o with
 |box c=>exact fun v hv=>aar v (List.all_eq_true.1 hO v hv)
 |arr t l=>trivial
 |eZ t l r=>
  intro m hm
  simp only[w8,hm]at hO
  intro he
  rw[he]at hO
  cases hO
theorem KZ{sl:List (Nat×SV)}{hp:Hp}(h:qd sl hp=true):(∀s v,look sl s=some v→ ∀x,x∈v.vs→lJ hp x=true)∧(∀m o,look hp m=some o→w8 hp o=true):=by
 simp only[qd,Bool.and_eq_true,List.all_eq_true]at h
 exact⟨fun s v hl=>KY (h.1 _ (dQ hl)),fun m o hl=>h.2 _ (dQ hl)⟩
theorem Inv.weaken{zb:cm}{st st':St}{a:Act}{w:World}(iv:Inv ty zb st a w)(hn:st'.n=st.n)(hs: ∀s v,look st'.sl s=some v→look st.sl s=some v)(hh: ∀n o,look st'.hp n=some o→look st.hp n=some o)(hc:qd st'.sl st'.hp=true):Inv ty zb st' a w:=by
 obtain⟨env,g⟩:=iv.good
 obtain⟨c1,c2⟩:=KZ hc
 exact⟨by rw[iv.size,hn],iv.defers,iv.kept,iv.Ej,env,g.weaken hs hh c1 c2⟩
structure Ctx(P:Program)(ty:Tag→Nat)(Γ:Nat→TK):Prop where
 kind: ∀t,cG P t (Γ t)
 one: ∀t,(∀z tg fo,Γ t≠ .st z tg fo)→Γ t≠ .other→(P.info? t).map (·.size)=some 1
section
variable{P:Program}{Γ:Nat→TK}{zb:cm}{Q:Post}{st:St}
theorem Oq{cO:List (Nat×Nat)}{cr:List (Nat×CR)}{ks hs:List Nat}{ops:List Oper}{vc:List Prop}{st':St}(h:TT P ty Γ cO cr ks hs ops st=some (vc,st')): ∃s1,run P ty Γ cO cr ops ops st []=some (vc,s1)∧
  ∀a w,Inv ty zb s1 a w→Inv ty zb st' a w:=by
 obtain⟨n,WB,gl⟩:=st
 simp only[TT]at h
 split at h
 ·rename_i nH s1 hr
  split at h
  ·rename_i sl hp h1 h2
   split at h
   ·rename_i hc hn
    simp only[oI,pI]at h
    obtain⟨rfl,rfl⟩:=h
    exact⟨s1,hr,fun a w iv=>iv.weaken (Nat.eq_of_beq_eq_true hn).symm (kj h1) (ko h2) hc⟩
   ·cases h
  ·cases h
 ·cases h
theorem aN(X:Ctx P ty Γ)(cO:List (Nat×Nat))(cr:List (Nat×CR))(ks hs:List Nat){id:Nat}{ops:List Oper}{vc:List Prop}{st':St}(h:TT P ty Γ cO cr ks hs ops st=some (vc,st'))(hv:jX vc)(k:Q .normal st'):W P ty zb (.region id ops.toArray false) Q st:=by
 intro a w iv
 obtain⟨s1,h1,h2⟩:=Oq (zb:=zb) h
 exact wp_region_lit (KW X.kind X.one (fun a w oA=>⟨st',h2 a w oA,k⟩) h1 hv.out iv)
theorem iV(X:Ctx P ty Γ)(ks:List Nat){id:Nat}{ops:List Oper}{vc:List Prop}{st':St}(h:G.TT P ty Γ [] [] ks [] ops st=some (vc,st'))(hv:jX vc)(k:Q .normal st'):W P ty zb (.region id ops.toArray false) Q st:=aN X [] [] ks [] h hv k
theorem bu(X:Ctx P ty Γ)(ks:List Nat){id:Nat}{ops:List Oper}{st':St}(h:G.TT P ty Γ [] [] ks [] ops st=some ([],st'))(k:Q .normal st'):W P ty zb (.region id ops.toArray false) Q st:=iV X ks h ⟨⟩ k
theorem af{x y:Code}(h:W P ty zb x (Post.then (W P ty zb y Q) Q) st):W P ty zb (.seq x y) Q st:=by
 intro a w iv
 refine wp_seq (wp_mono (h a w iv) ?_)
 rintro e a' w' ⟨st',oA,hq⟩
 cases e with
 |normal=>exact hq a' w' oA
 |_=>exact⟨st',oA,hq⟩
theorem aC(X:Ctx P ty Γ)(cO:List (Nat×Nat))(cr:List (Nat×CR))(ks hs:List Nat){y:Code}{id:Nat}{ops:List Oper}{vc:List Prop}{st':St}(h:G.TT P ty Γ cO cr ks hs ops st=some (vc,st'))(hv:jX vc)(k:W P ty zb y Q st'):W P ty zb (.seq (.region id ops.toArray false) y) Q st:=af (aN X cO cr ks hs h hv k)
theorem aD(X:Ctx P ty Γ)(ks:List Nat){y:Code}{id:Nat}{ops:List Oper}{vc:List Prop}{st':St}(h:G.TT P ty Γ [] [] ks [] ops st=some (vc,st'))(hv:jX vc)(k:W P ty zb y Q st'):W P ty zb (.seq (.region id ops.toArray false) y) Q st:=aC X [] [] ks [] h hv k
theorem av(X:Ctx P ty Γ)(ks:List Nat){y:Code}{id:Nat}{ops:List Oper}{st':St}(h:G.TT P ty Γ [] [] ks [] ops st=some ([],st'))(k:W P ty zb y Q st'):W P ty zb (.seq (.region id ops.toArray false) y) Q st:=aD X ks h ⟨⟩ k
theorem au(h:Q .normal st):W P ty zb .skip Q st:=fun _ _ iv=>wp_skip ⟨st,iv,h⟩
theorem aH{id:Nat}(h:Q (.exit id) st):W P ty zb (.exit id) Q st:=fun _ _ iv=>wp_exit ⟨st,iv,h⟩
theorem ak(h:Q .ret st):W P ty zb .ret Q st:=fun _ _ iv=>wp_ret ⟨st,iv,h⟩
theorem ay{id:Nat}{c:Code}(h:W P ty zb c (Post.inBlock id Q) st):W P ty zb (.block id c) Q st:=by
 intro a w iv
 refine wp_block (wp_mono (h a w iv) ?_)
 rintro e a' w' ⟨st',oA,hq⟩
 cases e with
 |exit i=>
  simp only[Post.inBlock]at hq
  simp only[Exit.inBlock]
  split
  ·rename_i hi;rw[if_pos hi]at hq;exact⟨st',oA,hq⟩
  ·rename_i hi;rw[if_neg hi]at hq;exact⟨st',oA,hq⟩
 |_=>exact⟨st',oA,hq⟩
theorem an{c:Operand}{x y:Code}{b:Bool}(hc:ff st [] c=some (.a (.lit (.bool b))))(h1:b=true→W P ty zb x Q st)(h2:b=false→W P ty zb y Q st):W P ty zb (.cond c x y) Q st:=by
 intro a w iv
 obtain⟨env,g⟩:=iv.good
 have:=(dB g (fun e he=>by simp at he) hc).lit
 exact wp_cond_split this (fun hb=>h1 hb a w iv) (fun hb=>h2 hb a w iv)
theorem UN{ι:Type}(p:ι→Prop)(I:ι→St)(μ:ι→Nat)(i:ι){c:Code}(hp:p i)(h0: ∀a w,Inv ty zb st a w→Inv ty zb (I i) a w)
  (round: ∀i,p i→W P ty zb c (Post.then (fun st'=> ∃j,p j∧μ j<μ i∧ ∀a w,Inv ty zb st' a w→Inv ty zb (I j) a w) Q) (I i)):W P ty zb (.loop c) Q st:=by
 intro a w iv b k cs
 have key: ∀n i a w,μ i=n→p i→Inv ty zb (I i) a w→ ∃e a' w',Ey ty zb Q e a' w'∧Arrives P (lone (b.at a (.code c:: .inLoop c::k)) cs w) b k cs e a' w':=by
  intro n
  induction n using Nat.strongRecOn with
  |_ n ih=>
   intro i a w hn hpi iv
   obtain⟨e,a₁,w₁,⟨st',oA,hq⟩,IF⟩:=round i hpi a w iv b (.inLoop c::k) cs
   cases e with
   |normal=>
    obtain⟨j,hpj,hlt,hj⟩:=hq
    obtain⟨e₂,a₂,w₂,hq₂,aat⟩:=ih (μ j) (hn▸hlt) j a₁ w₁ rfl hpj (hj _ _ oA)
    exact⟨e₂,a₂,w₂,hq₂, .of_steps (Steps.trans IF (.one step_inLoop)) aat⟩
   |exit id=>exact⟨_,a₁,w₁,⟨st',oA,hq⟩, .pass (x:= .inLoop c) rfl (fun _ _=> .inl (by simp)) IF⟩
   |goto l=>exact⟨_,a₁,w₁,⟨st',oA,hq⟩, .pass (x:= .inLoop c) rfl (fun _ _=> .inl (by simp)) IF⟩
   |ret=>exact⟨_,a₁,w₁,⟨st',oA,hq⟩, .pass (x:= .inLoop c) rfl (fun _ _=> .inl (by simp)) IF⟩
   |panic ch=>exact⟨_,a₁,w₁,⟨st',oA,hq⟩, .pass (x:= .inLoop c) rfl (fun _ _=> .inl (by simp)) IF⟩
   |outgrown=>exact⟨_,a₁,w₁,⟨st',oA,hq⟩, .pass (x:= .inLoop c) rfl (fun _ _=> .inl (by simp)) IF⟩
 obtain⟨e,a',w',hq,IF⟩:=key _ i a w rfl hp (h0 a w iv)
 exact⟨e,a',w',hq, .of_steps (.one step_loop) IF⟩
def WC:List (Nat×SV)→List (Nat×SV)→Option (List (Nat×SV))
 | [],_=>some []
 | (s,x)::r,ov=>match fS (match look ov s with|some y=>y|none=>x),WC r ov with
   |some x,some l=>some ((s,x)::l)
   |_,_=>none
def WD:Hp→Hp→Option Hp
 | [],_=>some []
 | (s,x)::r,ov=>match fO (match look ov s with|some y=>y|none=>x),WD r ov with
   |some x,some l=>some ((s,x)::l)
   |_,_=>none
def over:St→List (Nat×SV)→Hp→Option St
 | ⟨n,sl,hp⟩,ov,oh=>match WC sl ov,WD hp oh with
   |some sl,some hp=>some ⟨n,sl,hp⟩
   |_,_=>none
theorem aE{ι:Type}(p:ι→Prop)(ov:ι→List (Nat×SV))(oh:ι→Hp)(μ:ι→Nat)(i:ι){c:Code}{I:ι→St}(_hI: ∀k,over st (ov k) (oh k)=some (I k))(hp:p i)(h0:I i=st)
  (round: ∀i,p i→W P ty zb c (Post.then (fun st'=> ∃j,p j∧μ j<μ i∧st'=I j) Q) (I i)):W P ty zb (.loop c) Q st:=by
 refine UN p I μ i hp (fun a w iv=>by rw[h0];exact iv) fun i hi=> ?_
 intro a w iv
 refine wp_mono (round i hi a w iv) ?_
 rintro e a' w' ⟨st',oA,hq⟩
 cases e with
 |normal=>
  obtain⟨j,h1,h2,rfl⟩:=hq
  exact⟨_,oA,j,h1,h2,fun a w h=>h⟩
 |_=>exact⟨st',oA,hq⟩
end
end
section
variable{ty:Tag→Nat}
def enter:Nat→List S1→List (Nat×SV)
 |_,[]=> []
 |i,x::r=>(i, .one x)::enter (i+1) r
def Q1(Γ:Nat→TK)(st:St):ResultVar→Option S1
 | .tmp t=>match look st.sl t with|some (.one x)=>some x|_=>none
 | .cell p t=>match look st.sl p with
   |some (.one (.a (.ptr n 0)))=>match look st.hp n,Γ t with
    |some (.box c), .st z _ _=>match Nat.beq c.length z.length with|true=>some (.agg c)|false=>none
    |_,_=>none
   |_=>none
def w9(Γ:Nat→TK)(st:St):List ResultVar→Option (List S1)
 | []=>some []
 |r::rs=>match Q1 Γ st r,w9 Γ st rs with|some x,some xs=>some (x::xs)|_,_=>none
def Q2(st:St):V→V→Option (List Prop×List Nat)
 | .lit v, .lit u=>some ([v=u],[])
 | .lit (.slice none 0 0), .sl _ l=>some ([l= []],[])
 | .own n, .sl t l=>match look st.hp n,soft n with
   |some (.arr t' l'),false=>match gf t t' l' with
    |some l2=>some ([l2=l],[n])
    |none=>none
   |_,_=>none
 | .lit (.slice none 0 0), .vw _ _ _ l=>some ([l= []],[])
 | .own n, .vw _ _ t l=>match look st.hp n with
   |some (.arr t' l')=>match gf t t' l' with
    |some l2=>some ([l2=l],[n])
    |none=>none
   |_=>none
 | .vw n _ t' l', .vw _ _ t l=>match gf t t' l' with
   |some l2=>some ([l2=l],[n])
   |none=>none
 |_,_=>none
def meet(st:St):List V→List V→Option (List Prop×List Nat)
 | [],[]=>some ([],[])
 |x::r,y::s=>match Q2 st x y,meet st r s with
  |some (vc,k),some (vcs,ks)=>some (l6 vc vcs,l6 k ks)
  |_,_=>none
 |_,_=>none
def Mr(st:St):S1→S1→Option (List Prop×List Nat)
 | .a v, .a u=>meet st [v] [u]
 | .agg l, .agg m=>meet st l m
 |_,_=>none
def meets(st:St):List S1→List S1→Option (List Prop×List Nat)
 | [],[]=>some ([],[])
 |x::r,y::s=>match Mr st x y,meets st r s with
  |some (vc,k),some (vcs,ks)=>some (l6 vc vcs,l6 k ks)
  |_,_=>none
 |_,_=>none
def ends(Γ:Nat→TK)(st:St)(tT:List ResultVar)(rs:List S1):Option (List Prop):=
 match w9 Γ st tT with
 |some xs=>match meets st xs rs with
  |some (vc,k)=>match oy k with|true=>some vc|false=>none
  |none=>none
 |none=>none
def Fin(Γ:Nat→TK)(tT:List ResultVar)(rs:List S1):Post:=fun e st=>(e= .ret∨e= .normal)∧ ∃vc,ends Γ st tT rs=some vc∧jX vc
theorem ah{Γ:Nat→TK}{tT:List ResultVar}{rs:List S1}{st:St}{vc:List Prop}(h:ends Γ st tT rs=some vc)(hv:jX vc):Fin Γ tT rs .ret st:=⟨.inl rfl,vc,h,hv⟩
theorem ig.lift{α:Type}{k:Nat}{E:ER α}{lo e:Nat}{w:World}{v:Value}{l:List α}{fp:List Nat}(h:ig k E 0 e w v l fp)(hl: ∀b,b∈fp→lo≤b):ig k E lo e w v l fp:=by
 obtain⟨xs,bn,hown,hf,he,rfl,ho⟩:=h
 refine⟨xs,bn,⟨hown.1,?_⟩,hf,he,rfl,⟨ho.nodup,hl,ho.kind⟩⟩
 rcases hown.2 with h| ⟨g,o,cap,cur,rfl,TI,r⟩
 ·exact Or.inl h
 ·exact Or.inr ⟨g,o,cap,cur,rfl,hl g (by simp[Value.ownBlock]),r⟩
section
variable{P:Program}{zb:cm}{st:St}{a:Act}{w:World}{env:Env}
theorem uT{Γ:Nat→TK}(C: ∀t,cG P t (Γ t))(g:Good ty zb st a.tmps w env){r:ResultVar}{x:S1}(h:Q1 Γ st r=some x):
  ∃u,eT w st.hp env x u∧(match r with| .tmp t=>a.tmps.getD t undef=u| .cell p t=> ∃ad,a.tmps.getD p undef= .pointer (some ad)∧(loadVar t ad).run P w= .ok u w):=by
 cases r with
 |tmp t=>
  simp only[Q1]at h
  split at h
  ·rename_i y hl
   simp only[oI]at h
   subst h
   exact⟨_,g.slot t _ hl,rfl⟩
  ·cases h
 |cell p t=>
  simp only[Q1]at h
  split at h
  ·rename_i n hl
   split at h
   ·rename_i c z tg fo hb hk
    split at h
    ·rename_i hlen
     have hlen:=Nat.eq_of_beq_eq_true hlen
     simp only[oI]at h
     subst h
     obtain⟨_,b,hv,hu⟩:=g.slot p _ hl
     obtain⟨b',cs,e,wK,hh,hc⟩:=g.obj n _ hb
     have TO:b=b':=by rw[wK]at hv;simpa using hv.symm
     subst TO
     have hC:=C t
     rw[hk]at hC
     obtain⟨fs,Pn,hi,_⟩:=hC
     have hi':(P.info? t).map (·.size)=some cs.length:=by
      rw[hc.len,hlen]
      cases hq:P.info? t with
      |none=>simp[hq]at hi
      |some i=>simp[hq]at hi;simp[hi.1]
     refine⟨.agg cs.toArray,⟨cs,rfl,hc⟩,?_⟩
     have wL:w.rangeAt b 0 cs:=by simpa using PS hh
     exact⟨_,hu,run_loadVar_mid w b 0 t cs _ wL Pn rfl hi'⟩
    ·cases h
   ·cases h
  ·cases h
theorem Ms(g:Good ty zb st a.tmps w env){k1 k2:List Nat}{f1 f2:List Nat}(hnd:(k1++k2).Nodup)(p2:Own zb.w.heap.size w f1)(p3: ∀b,b∈f1→ ∃i o,i∈k1∧look st.hp i=some o∧b∈(env i).fp)(q2:Own zb.w.heap.size w f2)(q3: ∀b,b∈f2→ ∃i o,i∈k2∧look st.hp i=some o∧b∈(env i).fp):
  Own zb.w.heap.size w (f1++f2)∧ ∀b,b∈f1++f2→ ∃i o,i∈k1++k2∧look st.hp i=some o∧b∈(env i).fp:=by
 obtain⟨n1,n2,n3⟩:=List.nodup_append.1 hnd
 refine⟨⟨List.nodup_append.2 ⟨p2.nodup,q2.nodup,?_⟩,fun b hb=> ?_,fun b hb=> ?_⟩,fun b hb=> ?_⟩
 ·rintro b hb z hz rfl
  obtain⟨n,o1,h1,h2,h3⟩:=p3 b hb
  obtain⟨m,o2,h4,h5,h6⟩:=q3 b hz
  exact g.iq n m _ _ (fun e=>n3 n h1 m h4 e) h2 h5 b h3 h6
 ·rcases List.mem_append.1 hb with hb|hb
  ·exact p2.ge b hb
  ·exact q2.ge b hb
 ·rcases List.mem_append.1 hb with hb|hb
  ·exact p2.kind b hb
  ·exact q2.kind b hb
 ·rcases List.mem_append.1 hb with hb|hb
  ·obtain⟨n,o1,h1,h2,h3⟩:=p3 b hb;exact⟨n,o1,List.mem_append_left _ h1,h2,h3⟩
  ·obtain⟨n,o1,h1,h2,h3⟩:=q3 b hb;exact⟨n,o1,List.mem_append_right _ h1,h2,h3⟩
theorem Q3(hL:zb.L= [])(g:Good ty zb st a.tmps w env){x y:V}{u:Value}{vc:List Prop}{k:List Nat}(hr:RA w st.hp env x u)(h:Q2 st x y=some (vc,k))(hv: ∀q,q∈vc→q):
  ∃fp,RB ty w zb.w.heap.size y u fp∧Own zb.w.heap.size w fp∧ ∀b,b∈fp→ ∃i o,i∈k∧look st.hp i=some o∧b∈(env i).fp:=by
 unfold Q2 at h
 split at h
 ·simp only[oI,pI]at h
  obtain⟨rfl,rfl⟩:=h
  have hl:=hv _ (List.mem_singleton.2 rfl)
  obtain⟨rfl,ho⟩:=hr
  exact⟨[],⟨hl,hl▸ho,rfl⟩,Own.nil _ _,by simp⟩
 ·simp only[oI,pI]at h
  obtain⟨rfl,rfl⟩:=h
  have hl:=hv _ (List.mem_singleton.2 rfl)
  subst hl
  obtain⟨rfl,ho⟩:=hr
  exact⟨[],ig.nil _ _ _ _ _,Own.nil _ _,by simp⟩
 ·rename_i n t l
  split at h
  ·rename_i t' l' hl Io
   split at h
   ·rename_i l2 hc
    simp only[oI,pI]at h
    obtain⟨rfl,rfl⟩:=h
    have jV:=hv _ (List.mem_singleton.2 rfl)
    subst jV
    obtain⟨e,rfl⟩:=cU hc
    subst e
    obtain⟨_,rfl⟩:=hr
    have hb:=ig.lift (RO.TJ Io (g.obj n _ hl)) (lo:=zb.w.heap.size) (fun b hb=>by
     rcases g.dom n _ hl b hb with h|h
     ·rw[hL]at h;cases h
     ·exact h)
    exact⟨(env n).fp,hb,hb.own,fun b hb=>⟨n,_,by simp,hl,hb⟩⟩
   ·cases h
  ·cases h
 ·simp only[oI,pI]at h
  obtain⟨rfl,rfl⟩:=h
  have hl:=hv _ (List.mem_singleton.2 rfl)
  subst hl
  obtain⟨rfl,ho⟩:=hr
  exact⟨[],⟨ig.sl (ig.nil _ _ 0 0 _),Own.nil _ _⟩,Own.nil _ _,by simp⟩
 ·rename_i n _ _ t l
  split at h
  ·rename_i t' l' hl
   split at h
   ·rename_i l2 hc
    simp only[oI,pI]at h
    obtain⟨rfl,rfl⟩:=h
    have jV:=hv _ (List.mem_singleton.2 rfl)
    subst jV
    obtain⟨e,rfl⟩:=cU hc
    subst e
    obtain⟨_,rfl⟩:=hr
    have hs:=RO.sl (g.obj n _ hl)
    have ho0:=RO.own (g.obj n _ hl)
    have ho:Own zb.w.heap.size w (env n).fp:=⟨ho0.nodup,fun b hb=>by
     rcases g.dom n _ hl b hb with h|h
     ·rw[hL]at h;cases h
     ·exact h,ho0.kind⟩
    exact⟨(env n).fp,⟨hs,ho⟩,ho,fun b hb=>⟨n,_,by simp,hl,hb⟩⟩
   ·cases h
  ·cases h
 ·rename_i n _ t' l' _ _ t l
  split at h
  ·rename_i l2 hc
   simp only[oI,pI]at h
   obtain⟨rfl,rfl⟩:=h
   have jV:=hv _ (List.mem_singleton.2 rfl)
   subst jV
   obtain⟨e,rfl⟩:=cU hc
   subst e
   obtain⟨⟨t0,l0,hl⟩,⟨fp,hs,hnd,hsub⟩,_⟩:=hr
   have ho0:=RO.own (g.obj n _ hl)
   have ho:Own zb.w.heap.size w fp:=⟨hnd,fun b hb=>by
    rcases g.dom n _ hl b (hsub b hb)with h|h
    ·rw[hL]at h;cases h
    ·exact h,fun b hb=>ho0.kind b (hsub b hb)⟩
   exact⟨fp,⟨hs,ho⟩,ho,fun b hb=>⟨n,_,by simp,hl,hsub b hb⟩⟩
  ·cases h
 ·cases h
theorem Gx(hL:zb.L= [])(g:Good ty zb st a.tmps w env): ∀{xs ys:List V} {us:List Value} {vc:List Prop} {k:List Nat},bA (RA w st.hp env) xs us→meet st xs ys=some (vc,k)→k.Nodup→(∀q,q∈vc→q)→
  ∃fp,P7 ty w zb.w.heap.size ys us fp∧Own zb.w.heap.size w fp∧ ∀b,b∈fp→ ∃i o,i∈k∧look st.hp i=some o∧b∈(env i).fp
 | [],ys,us,vc,k,hr,h,hnd,hv=>by
   cases ys with
   |nil=>
    simp only[meet,oI,pI]at h
    obtain⟨rfl,rfl⟩:=h
    cases us with
    |nil=>exact⟨[],rfl,Own.nil _ _,by simp⟩
    |cons _ _=>exact hr.elim
   |cons y ys=>simp[meet]at h
 |x::r,ys,us,vc,k,hr,h,hnd,hv=>by
  cases us with
  |nil=>exact hr.elim
  |cons u us=>
   cases ys with
   |nil=>simp[meet]at h
   |cons y s=>
    simp only[meet]at h
    split at h
    ·rename_i nH k1 Zv k2 h1 h2
     simp only[oI,pI,dM]at h
     obtain⟨rfl,rfl⟩:=h
     obtain⟨n1,n2,n3⟩:=List.nodup_append.1 hnd
     obtain⟨f1,p1,p2,p3⟩:=Q3 hL g hr.1 h1 (fun q hq=>hv q (List.mem_append_left _ hq))
     obtain⟨f2,q1,q2,q3⟩:=Gx hL g hr.2 h2 n2 (fun q hq=>hv q (List.mem_append_right _ hq))
     obtain⟨r1,r2⟩:=Ms g hnd p2 p3 q2 q3
     exact⟨f1++f2,⟨_,_,p1,q1,rfl⟩,r1,r2⟩
    ·cases h
theorem Q4(hL:zb.L= [])(g:Good ty zb st a.tmps w env){x y:S1}{u:Value}{vc:List Prop}{k:List Nat}(hr:eT w st.hp env x u)(h:Mr st x y=some (vc,k))(hnd:k.Nodup)(hv: ∀q,q∈vc→q):
  ∃fp,Wm ty w zb.w.heap.size y u fp∧Own zb.w.heap.size w fp∧ ∀b,b∈fp→ ∃i o,i∈k∧look st.hp i=some o∧b∈(env i).fp:=by
 cases x with
 |a v=>
  cases y with
  |a v'=>exact Gx hL g (xs:= [v]) (us:= [u]) ⟨hr,trivial⟩ h hnd hv
  |agg _=>simp[Mr]at h
 |agg l=>
  cases y with
  |a v'=>simp[Mr]at h
  |agg m=>
   obtain⟨cs,rfl,hl⟩:=hr
   obtain⟨fp,h1,h2,h3⟩:=Gx hL g hl h hnd hv
   exact⟨fp,⟨cs,rfl,h1⟩,h2,h3⟩
theorem IG(hL:zb.L= [])(g:Good ty zb st a.tmps w env): ∀{xs ys:List S1} {us:List Value} {vc:List Prop} {k:List Nat},bA (eT w st.hp env) xs us→meets st xs ys=some (vc,k)→k.Nodup→(∀q,q∈vc→q)→
  ∃fp,TL ty w zb.w.heap.size ys us fp∧Own zb.w.heap.size w fp∧ ∀b,b∈fp→ ∃i o,i∈k∧look st.hp i=some o∧b∈(env i).fp
 | [],ys,us,vc,k,hr,h,hnd,hv=>by
   cases ys with
   |nil=>
    simp only[meets,oI,pI]at h
    obtain⟨rfl,rfl⟩:=h
    cases us with
    |nil=>exact⟨[],rfl,Own.nil _ _,by simp⟩
    |cons _ _=>exact hr.elim
   |cons y ys=>simp[meets]at h
 |x::r,ys,us,vc,k,hr,h,hnd,hv=>by
  cases us with
  |nil=>exact hr.elim
  |cons u us=>
   cases ys with
   |nil=>simp[meets]at h
   |cons y s=>
    simp only[meets]at h
    split at h
    ·rename_i nH k1 Zv k2 h1 h2
     simp only[oI,pI,dM]at h
     obtain⟨rfl,rfl⟩:=h
     obtain⟨n1,n2,n3⟩:=List.nodup_append.1 hnd
     obtain⟨f1,p1,p2,p3⟩:=Q4 hL g hr.1 h1 n1 (fun q hq=>hv q (List.mem_append_left _ hq))
     obtain⟨f2,q1,q2,q3⟩:=IG hL g hr.2 h2 n2 (fun q hq=>hv q (List.mem_append_right _ hq))
     obtain⟨r1,r2⟩:=Ms g hnd p2 p3 q2 q3
     exact⟨f1++f2,⟨_,_,p1,q1,rfl⟩,r1,r2⟩
    ·cases h
theorem II{Γ:Nat→TK}(C: ∀t,cG P t (Γ t))(g:Good ty zb st a.tmps w env){fn:Func}{tT:List ResultVar}(hf:fn.results=tT.toArray){xs:List S1}(h:w9 Γ st tT=some xs)(hl:tT.length≤4):
  ∃us,bA (eT w st.hp env) xs us∧us.length=tT.length∧(results fn a.tmps).run P w= .ok (match us with| [u]=>u|us=> .tuple us.toArray) w:=by
 have one: ∀{r:ResultVar} {rs:List ResultVar} {xs:List S1},w9 Γ st (r::rs)=some xs→ ∃y ys,xs=y::ys∧Q1 Γ st r=some y∧w9 Γ st rs=some ys:=by
  intro r rs xs h
  simp only[w9]at h
  split at h
  ·rename_i y ys h1 h2
   simp only[oI]at h
   exact⟨y,ys,h.symm,h1,h2⟩
  ·cases h
 have nil: ∀{xs:List S1},w9 Γ st []=some xs→xs= []:=by
  intro xs h
  simp only[w9,oI]at h
  exact h.symm
 match tT,hf,h,hl with
 | [],hf,h,_=>
   rw[nil h]
   exact⟨[],trivial,rfl,by simp[results,hf]⟩
 | [r1],hf,h,_=>
   obtain⟨y1,ys,rfl,h1,h⟩:=one h
   rw[nil h]
   obtain⟨u1,k1,e1⟩:=uT C g h1
   refine⟨[u1],⟨k1,trivial⟩,rfl,?_⟩
   cases r1
   ·have e1:a.tmps.getD _ undef=u1:=e1
    rw[Array.getD_eq_getD_getElem?]at e1
    simp[results,hf,asAddr,e1]
   ·obtain⟨_,p1,e1⟩:=e1
    rw[Array.getD_eq_getD_getElem?]at p1
    simp[results,hf,asAddr,e1,p1]
 | [r1,r2],hf,h,_=>
   obtain⟨y1,ys,rfl,h1,h⟩:=one h
   obtain⟨y2,ys,rfl,h2,h⟩:=one h
   rw[nil h]
   obtain⟨u1,k1,e1⟩:=uT C g h1
   obtain⟨u2,k2,e2⟩:=uT C g h2
   refine⟨[u1,u2],⟨k1,k2,trivial⟩,rfl,?_⟩
   cases r1<;>cases r2
   ·have e1:a.tmps.getD _ undef=u1:=e1
    rw[Array.getD_eq_getD_getElem?]at e1
    have e2:a.tmps.getD _ undef=u2:=e2
    rw[Array.getD_eq_getD_getElem?]at e2
    simp[results,hf,asAddr,e1,e2]
   ·have e1:a.tmps.getD _ undef=u1:=e1
    rw[Array.getD_eq_getD_getElem?]at e1
    obtain⟨_,p2,e2⟩:=e2
    rw[Array.getD_eq_getD_getElem?]at p2
    simp[results,hf,asAddr,e1,e2,p2]
   ·obtain⟨_,p1,e1⟩:=e1
    rw[Array.getD_eq_getD_getElem?]at p1
    have e2:a.tmps.getD _ undef=u2:=e2
    rw[Array.getD_eq_getD_getElem?]at e2
    simp[results,hf,asAddr,e1,e2,p1]
   ·obtain⟨_,p1,e1⟩:=e1
    rw[Array.getD_eq_getD_getElem?]at p1
    obtain⟨_,p2,e2⟩:=e2
    rw[Array.getD_eq_getD_getElem?]at p2
    simp[results,hf,asAddr,e1,e2,p1,p2]
 | [r1,r2,r3],hf,h,_=>
   obtain⟨y1,ys,rfl,h1,h⟩:=one h
   obtain⟨y2,ys,rfl,h2,h⟩:=one h
   obtain⟨y3,ys,rfl,h3,h⟩:=one h
   rw[nil h]
   obtain⟨u1,k1,e1⟩:=uT C g h1
   obtain⟨u2,k2,e2⟩:=uT C g h2
   obtain⟨u3,k3,e3⟩:=uT C g h3
   refine⟨[u1,u2,u3],⟨k1,k2,k3,trivial⟩,rfl,?_⟩
   cases r1<;>cases r2<;>cases r3
   ·have e1:a.tmps.getD _ undef=u1:=e1
    rw[Array.getD_eq_getD_getElem?]at e1
    have e2:a.tmps.getD _ undef=u2:=e2
    rw[Array.getD_eq_getD_getElem?]at e2
    have e3:a.tmps.getD _ undef=u3:=e3
    rw[Array.getD_eq_getD_getElem?]at e3
    simp[results,hf,asAddr,e1,e2,e3]
   ·have e1:a.tmps.getD _ undef=u1:=e1
    rw[Array.getD_eq_getD_getElem?]at e1
    have e2:a.tmps.getD _ undef=u2:=e2
    rw[Array.getD_eq_getD_getElem?]at e2
    obtain⟨_,p3,e3⟩:=e3
    rw[Array.getD_eq_getD_getElem?]at p3
    simp[results,hf,asAddr,e1,e2,e3,p3]
   ·have e1:a.tmps.getD _ undef=u1:=e1
    rw[Array.getD_eq_getD_getElem?]at e1
    obtain⟨_,p2,e2⟩:=e2
    rw[Array.getD_eq_getD_getElem?]at p2
    have e3:a.tmps.getD _ undef=u3:=e3
    rw[Array.getD_eq_getD_getElem?]at e3
    simp[results,hf,asAddr,e1,e2,e3,p2]
   ·have e1:a.tmps.getD _ undef=u1:=e1
    rw[Array.getD_eq_getD_getElem?]at e1
    obtain⟨_,p2,e2⟩:=e2
    rw[Array.getD_eq_getD_getElem?]at p2
    obtain⟨_,p3,e3⟩:=e3
    rw[Array.getD_eq_getD_getElem?]at p3
    simp[results,hf,asAddr,e1,e2,e3,p2,p3]
   ·obtain⟨_,p1,e1⟩:=e1
    rw[Array.getD_eq_getD_getElem?]at p1
    have e2:a.tmps.getD _ undef=u2:=e2
    rw[Array.getD_eq_getD_getElem?]at e2
    have e3:a.tmps.getD _ undef=u3:=e3
    rw[Array.getD_eq_getD_getElem?]at e3
    simp[results,hf,asAddr,e1,e2,e3,p1]
   ·obtain⟨_,p1,e1⟩:=e1
    rw[Array.getD_eq_getD_getElem?]at p1
    have e2:a.tmps.getD _ undef=u2:=e2
    rw[Array.getD_eq_getD_getElem?]at e2
    obtain⟨_,p3,e3⟩:=e3
    rw[Array.getD_eq_getD_getElem?]at p3
    simp[results,hf,asAddr,e1,e2,e3,p1,p3]
   ·obtain⟨_,p1,e1⟩:=e1
    rw[Array.getD_eq_getD_getElem?]at p1
    obtain⟨_,p2,e2⟩:=e2
    rw[Array.getD_eq_getD_getElem?]at p2
    have e3:a.tmps.getD _ undef=u3:=e3
    rw[Array.getD_eq_getD_getElem?]at e3
    simp[results,hf,asAddr,e1,e2,e3,p1,p2]
   ·obtain⟨_,p1,e1⟩:=e1
    rw[Array.getD_eq_getD_getElem?]at p1
    obtain⟨_,p2,e2⟩:=e2
    rw[Array.getD_eq_getD_getElem?]at p2
    obtain⟨_,p3,e3⟩:=e3
    rw[Array.getD_eq_getD_getElem?]at p3
    simp[results,hf,asAddr,e1,e2,e3,p1,p2,p3]
 | [r1,r2,r3,r4],hf,h,_=>
   obtain⟨y1,ys,rfl,h1,h⟩:=one h
   obtain⟨y2,ys,rfl,h2,h⟩:=one h
   obtain⟨y3,ys,rfl,h3,h⟩:=one h
   obtain⟨y4,ys,rfl,h4,h⟩:=one h
   rw[nil h]
   obtain⟨u1,k1,e1⟩:=uT C g h1
   obtain⟨u2,k2,e2⟩:=uT C g h2
   obtain⟨u3,k3,e3⟩:=uT C g h3
   obtain⟨u4,k4,e4⟩:=uT C g h4
   refine⟨[u1,u2,u3,u4],⟨k1,k2,k3,k4,trivial⟩,rfl,?_⟩
   cases r1<;>cases r2<;>cases r3<;>cases r4
   ·have e1:a.tmps.getD _ undef=u1:=e1
    rw[Array.getD_eq_getD_getElem?]at e1
    have e2:a.tmps.getD _ undef=u2:=e2
    rw[Array.getD_eq_getD_getElem?]at e2
    have e3:a.tmps.getD _ undef=u3:=e3
    rw[Array.getD_eq_getD_getElem?]at e3
    have e4:a.tmps.getD _ undef=u4:=e4
    rw[Array.getD_eq_getD_getElem?]at e4
    simp[results,hf,asAddr,e1,e2,e3,e4]
   ·have e1:a.tmps.getD _ undef=u1:=e1
    rw[Array.getD_eq_getD_getElem?]at e1
    have e2:a.tmps.getD _ undef=u2:=e2
    rw[Array.getD_eq_getD_getElem?]at e2
    have e3:a.tmps.getD _ undef=u3:=e3
    rw[Array.getD_eq_getD_getElem?]at e3
    obtain⟨_,p4,e4⟩:=e4
    rw[Array.getD_eq_getD_getElem?]at p4
    simp[results,hf,asAddr,e1,e2,e3,e4,p4]
   ·have e1:a.tmps.getD _ undef=u1:=e1
    rw[Array.getD_eq_getD_getElem?]at e1
    have e2:a.tmps.getD _ undef=u2:=e2
    rw[Array.getD_eq_getD_getElem?]at e2
    obtain⟨_,p3,e3⟩:=e3
    rw[Array.getD_eq_getD_getElem?]at p3
    have e4:a.tmps.getD _ undef=u4:=e4
    rw[Array.getD_eq_getD_getElem?]at e4
    simp[results,hf,asAddr,e1,e2,e3,e4,p3]
   ·have e1:a.tmps.getD _ undef=u1:=e1
    rw[Array.getD_eq_getD_getElem?]at e1
    have e2:a.tmps.getD _ undef=u2:=e2
    rw[Array.getD_eq_getD_getElem?]at e2
    obtain⟨_,p3,e3⟩:=e3
    rw[Array.getD_eq_getD_getElem?]at p3
    obtain⟨_,p4,e4⟩:=e4
    rw[Array.getD_eq_getD_getElem?]at p4
    simp[results,hf,asAddr,e1,e2,e3,e4,p3,p4]
   ·have e1:a.tmps.getD _ undef=u1:=e1
    rw[Array.getD_eq_getD_getElem?]at e1
    obtain⟨_,p2,e2⟩:=e2
    rw[Array.getD_eq_getD_getElem?]at p2
    have e3:a.tmps.getD _ undef=u3:=e3
    rw[Array.getD_eq_getD_getElem?]at e3
    have e4:a.tmps.getD _ undef=u4:=e4
    rw[Array.getD_eq_getD_getElem?]at e4
    simp[results,hf,asAddr,e1,e2,e3,e4,p2]
   ·have e1:a.tmps.getD _ undef=u1:=e1
    rw[Array.getD_eq_getD_getElem?]at e1
    obtain⟨_,p2,e2⟩:=e2
    rw[Array.getD_eq_getD_getElem?]at p2
    have e3:a.tmps.getD _ undef=u3:=e3
    rw[Array.getD_eq_getD_getElem?]at e3
    obtain⟨_,p4,e4⟩:=e4
    rw[Array.getD_eq_getD_getElem?]at p4
    simp[results,hf,asAddr,e1,e2,e3,e4,p2,p4]
   ·have e1:a.tmps.getD _ undef=u1:=e1
    rw[Array.getD_eq_getD_getElem?]at e1
    obtain⟨_,p2,e2⟩:=e2
    rw[Array.getD_eq_getD_getElem?]at p2
    obtain⟨_,p3,e3⟩:=e3
    rw[Array.getD_eq_getD_getElem?]at p3
    have e4:a.tmps.getD _ undef=u4:=e4
    rw[Array.getD_eq_getD_getElem?]at e4
    simp[results,hf,asAddr,e1,e2,e3,e4,p2,p3]
   ·have e1:a.tmps.getD _ undef=u1:=e1
    rw[Array.getD_eq_getD_getElem?]at e1
    obtain⟨_,p2,e2⟩:=e2
    rw[Array.getD_eq_getD_getElem?]at p2
    obtain⟨_,p3,e3⟩:=e3
    rw[Array.getD_eq_getD_getElem?]at p3
    obtain⟨_,p4,e4⟩:=e4
    rw[Array.getD_eq_getD_getElem?]at p4
    simp[results,hf,asAddr,e1,e2,e3,e4,p2,p3,p4]
   ·obtain⟨_,p1,e1⟩:=e1
    rw[Array.getD_eq_getD_getElem?]at p1
    have e2:a.tmps.getD _ undef=u2:=e2
    rw[Array.getD_eq_getD_getElem?]at e2
    have e3:a.tmps.getD _ undef=u3:=e3
    rw[Array.getD_eq_getD_getElem?]at e3
    have e4:a.tmps.getD _ undef=u4:=e4
    rw[Array.getD_eq_getD_getElem?]at e4
    simp[results,hf,asAddr,e1,e2,e3,e4,p1]
   ·obtain⟨_,p1,e1⟩:=e1
    rw[Array.getD_eq_getD_getElem?]at p1
    have e2:a.tmps.getD _ undef=u2:=e2
    rw[Array.getD_eq_getD_getElem?]at e2
    have e3:a.tmps.getD _ undef=u3:=e3
    rw[Array.getD_eq_getD_getElem?]at e3
    obtain⟨_,p4,e4⟩:=e4
    rw[Array.getD_eq_getD_getElem?]at p4
    simp[results,hf,asAddr,e1,e2,e3,e4,p1,p4]
   ·obtain⟨_,p1,e1⟩:=e1
    rw[Array.getD_eq_getD_getElem?]at p1
    have e2:a.tmps.getD _ undef=u2:=e2
    rw[Array.getD_eq_getD_getElem?]at e2
    obtain⟨_,p3,e3⟩:=e3
    rw[Array.getD_eq_getD_getElem?]at p3
    have e4:a.tmps.getD _ undef=u4:=e4
    rw[Array.getD_eq_getD_getElem?]at e4
    simp[results,hf,asAddr,e1,e2,e3,e4,p1,p3]
   ·obtain⟨_,p1,e1⟩:=e1
    rw[Array.getD_eq_getD_getElem?]at p1
    have e2:a.tmps.getD _ undef=u2:=e2
    rw[Array.getD_eq_getD_getElem?]at e2
    obtain⟨_,p3,e3⟩:=e3
    rw[Array.getD_eq_getD_getElem?]at p3
    obtain⟨_,p4,e4⟩:=e4
    rw[Array.getD_eq_getD_getElem?]at p4
    simp[results,hf,asAddr,e1,e2,e3,e4,p1,p3,p4]
   ·obtain⟨_,p1,e1⟩:=e1
    rw[Array.getD_eq_getD_getElem?]at p1
    obtain⟨_,p2,e2⟩:=e2
    rw[Array.getD_eq_getD_getElem?]at p2
    have e3:a.tmps.getD _ undef=u3:=e3
    rw[Array.getD_eq_getD_getElem?]at e3
    have e4:a.tmps.getD _ undef=u4:=e4
    rw[Array.getD_eq_getD_getElem?]at e4
    simp[results,hf,asAddr,e1,e2,e3,e4,p1,p2]
   ·obtain⟨_,p1,e1⟩:=e1
    rw[Array.getD_eq_getD_getElem?]at p1
    obtain⟨_,p2,e2⟩:=e2
    rw[Array.getD_eq_getD_getElem?]at p2
    have e3:a.tmps.getD _ undef=u3:=e3
    rw[Array.getD_eq_getD_getElem?]at e3
    obtain⟨_,p4,e4⟩:=e4
    rw[Array.getD_eq_getD_getElem?]at p4
    simp[results,hf,asAddr,e1,e2,e3,e4,p1,p2,p4]
   ·obtain⟨_,p1,e1⟩:=e1
    rw[Array.getD_eq_getD_getElem?]at p1
    obtain⟨_,p2,e2⟩:=e2
    rw[Array.getD_eq_getD_getElem?]at p2
    obtain⟨_,p3,e3⟩:=e3
    rw[Array.getD_eq_getD_getElem?]at p3
    have e4:a.tmps.getD _ undef=u4:=e4
    rw[Array.getD_eq_getD_getElem?]at e4
    simp[results,hf,asAddr,e1,e2,e3,e4,p1,p2,p3]
   ·obtain⟨_,p1,e1⟩:=e1
    rw[Array.getD_eq_getD_getElem?]at p1
    obtain⟨_,p2,e2⟩:=e2
    rw[Array.getD_eq_getD_getElem?]at p2
    obtain⟨_,p3,e3⟩:=e3
    rw[Array.getD_eq_getD_getElem?]at p3
    obtain⟨_,p4,e4⟩:=e4
    rw[Array.getD_eq_getD_getElem?]at p4
    simp[results,hf,asAddr,e1,e2,e3,e4,p1,p2,p3,p4]
 |_::_::_::_::_::_,_,_,hl=>simp at hl
end
end
section
variable{ty:Tag→Nat}
theorem RI.ra{w:World}{env:Env}{v:V}{u:Value}{fp:List Nat}(h:RI w v u fp):RA w [] env v u:=by
 have hno: ∀b, ¬Ow [] env b:=by rintro b ⟨n,o,hl,_⟩;simp[look]at hl
 cases v with
 |lit x=>exact⟨h.1,h.2.1⟩
 |sl t l=>exact⟨fp,h,fun b _=>hno b⟩
 |_=>exact h.elim
theorem Gc.rs1{w:World}{env:Env}{x:S1}{u:Value}(h:Gc w x u):eT w [] env x u:=by
 cases x with
 |a v=>obtain⟨fp,h⟩:=h;exact h.ra
 |agg l=>
  obtain⟨cs,fp,rfl,h⟩:=h
  exact⟨cs,rfl,h.Cn fun b _=>by rintro⟨n,o,hl,_⟩;simp[look]at hl⟩
theorem vn: ∀{as:List S1} {i s:Nat} {v:SV},look (enter i as) s=some v→ ∃x,v= .one x∧i≤s∧as[s-i]? =some x
 |x::r,i,s,v,h=>by
  by_cases hs:s=i
  ·subst hs
   rw[enter,look_eq]at h
   simp only[oI]at h
   exact⟨x,h.symm,Nat.le_refl _,by simp⟩
  ·rw[enter,aZ hs]at h
   obtain⟨y,h1,h2,h3⟩:=vn h
   refine⟨y,h1,by omega,?_⟩
   rw[show s-i=(s-(i+1))+1 by omega,List.getElem?_cons_succ];exact h3
theorem entry{as:List S1}{us:List Value}{w:World}{n:Nat}(hA:F5 w)(ha:bA (Gc w) as us)(hn:as.length≤n):
  Inv ty ⟨w,[],fun _=>⟨.tuple #[],[]⟩⟩ ⟨n,enter 0 as,[]⟩ {tmps:=us.toArray++Array.replicate (n-us.toArray.size) undef,defers:= []} w:=by
 have hl:=ha.len
 refine⟨by simp;omega,rfl,Kept.refl _ _,⟨hA,fun _ _ h=>by cases h⟩,fun _=>⟨.tuple #[],[]⟩,⟨fun n o h=>by simp[look]at h,fun n m o o' _ h=>by simp[look]at h,fun s v hv=> ?_,fun n o h=>by simp[look]at h,fun n _=>⟨rfl,fun b hb=>hb⟩⟩⟩
 obtain⟨x,rfl,_,hx⟩:=vn hv
 rw[Nat.sub_zero]at hx
 obtain⟨u,hu,hr⟩:=ha.at hx
 have hs:s<us.length:=(List.getElem?_eq_some_iff.1 hu).1
 have:(us.toArray++Array.replicate (n-us.toArray.size) undef).getD s undef=u:=by
  rw[Array.getD_eq_getD_getElem?,Array.getElem?_append_left (by simpa using hs)]
  simp[hu]
 show eT w [] _ x _
 rw[this]
 exact hr.rs1
theorem Fb{P:Program}{Γ:Nat→TK}(X:Ctx P ty Γ){f:FuncId}{fn:Func}{c:Code}{tT:List ResultVar}{n:Nat}{as rs:List S1}
  (IJ: ∀(args:Array Value) (w:World),(callFunc f args).run P w= .ok (.enter f args) w)(hf:P.funcs[f]? =some fn)(hb:fn.body=some c)(hr:fn.results=tT.toArray)(hl:tT.length≤4)(hn:fn.ntmps=n)(hlen:as.length≤n)
  (h: ∀zb,W P ty zb c (Fin Γ tT rs) ⟨n,enter 0 as,[]⟩):Sound ty P f as rs:=by
 refine⟨IJ,fun w us hA ha=>calls_of_wp hf hb ?_⟩
 rw[hn]
 refine wp_mono (h _ _ w (entry hA ha hlen)) ?_
 rintro e a w' ⟨st,iv,he,vc,k9,hv⟩
 have key:a.defers= []∧ ∃v,(results fn a.tmps).run P w'= .ok v w'∧ZO ty w rs (.returned v) w':=by
  obtain⟨env,g⟩:=iv.good
  unfold ends at k9
  split at k9
  ·rename_i xs hx
   split at k9
   ·rename_i nH k hm
    split at k9
    ·rename_i hnd
     simp only[oI]at k9
     subst k9
     obtain⟨vs,h1,h2,h3⟩:=II X.kind g hr hx hl
     obtain⟨fp,q1,q2,_⟩:=IG rfl g h1 hm (iT hnd) hv.out
     have Xh:Below w.heap.size w w':=⟨iv.kept.os,iv.kept.tape,iv.kept.output,iv.kept.size,fun b hb=>iv.kept.block b hb (by simp)⟩
     refine⟨iv.defers,_,h3,_,fp,rfl,Xh,q2,?_⟩
     match rs,vs,q1 with
     | [],[],q1=>exact⟨[],rfl,q1⟩
     | [r],[u],⟨f1,f2,p1,p2,e⟩=>
       have p2:f2= []:=p2
       rw[p2,List.append_nil]at e
       rw[e];exact p1
     |r1::r2::r,u1::u2::u,q1=>exact⟨_,rfl,q1⟩
     | [],_::_,q1=>exact q1.elim
     |_::_,[],q1=>exact q1.elim
     | [r],u1::u2::u,⟨_,_,_,p,_⟩=>exact p.elim
     |r1::r2::r,[u],⟨_,_,_,p,_⟩=>exact p.elim
    ·cases k9
   ·cases k9
  ·cases k9
 rcases he with rfl|rfl<;>exact key
theorem aq{P:Program}{Γ:Nat→TK}(X:Ctx P ty Γ){f:FuncId}{fn:Func}{c:Code}{tT:List ResultVar}{n:Nat}{xs rs:List S1}
  (IJ: ∀(args:Array Value) (w:World),(callFunc f args).run P w= .ok (.enter f args) w)(hf:P.funcs[f]? =some fn)(hn:fn.ntmps=n)(hb:fn.body=some c)(hr:fn.results=tT.toArray)
  (h: ∀zb,W P ty zb c (Fin Γ tT rs) ⟨n,enter 0 xs,[]⟩)(hl:tT.length≤4:=by decide)(hlen:xs.length≤n:=by simp):Sound ty P f xs rs:=Fb X IJ hf hb hr hl hn hlen h
theorem RF.len{w:World}: ∀{vs:List V} {us:List Value} {bn:List (List Nat)},RF w vs us bn→us.length=vs.length∧bn.length=vs.length
 | [],[],_,h=>by rw[show _=_ from h];exact⟨rfl,rfl⟩
 |_::_,_::_,_,⟨_,_,_,h,e⟩=>by obtain⟨h1,h2⟩:=RF.len h;rw[e];exact⟨by simp[h1],by simp[h2]⟩
 | [],_::_,_,h=>h.elim
 |_::_,[],_,h=>h.elim
theorem Oe.nodup: ∀{fs gs:List (List Nat)},Oe fs gs→gs.flatten.Nodup→(∀f,f∈fs→f.Nodup)→fs.flatten.Nodup∧ ∀b,b∈fs.flatten→b∈gs.flatten
 | [],[],_,_,_=>⟨by simp,by simp⟩
 |f::fs,g::gs,⟨h1,h2⟩,hn,hf=>by
  rw[List.flatten_cons]at hn
  obtain⟨_,n2,n3⟩:=List.nodup_append.1 hn
  obtain⟨q1,q2⟩:=Oe.nodup h2 n2 (fun f hm=>hf f (List.mem_cons_of_mem _ hm))
  refine⟨?_,fun b hb=> ?_⟩
  ·rw[List.flatten_cons]
   exact List.nodup_append.2 ⟨hf f (by simp),q1,fun b hb c hc e=>n3 b (h1 b hb) c (q2 c hc) e⟩
  ·rw[List.flatten_cons]at hb ⊢
   rcases List.mem_append.1 hb with hb|hb
   ·exact List.mem_append_left _ (h1 b hb)
   ·exact List.mem_append_right _ (q2 b hb)
 | [],_::_,h,_,_=>h.elim
 |_::_,[],h,_,_=>h.elim
section
variable{zb:cm}{st:St}{tmps:Array Value}{w0 w:World}{env:Env}
theorem RF.one{w:World}{v:V}{u:Value}{bn:List (List Nat)}(h:RF w [v] [u] bn): ∃f,RI w v u f∧bn= [f]:=by
 obtain⟨f,g,h1,h2,h3⟩:=h
 exact⟨f,h1,by rw[h3,show g= []from h2]⟩
end
end
section
variable{ty:Tag→Nat}
def RQ:V→V→Option (List Prop)
 |_, .any=>some []
 | .lit v, .lit u=>some [v=u]
 | .qK v t l, .qK u t' l'=>match gf t' t l with|some l2=>some [v=u,l2=l']|none=>none
 | .own n, .own m=>match Nat.beq n m with|true=>some []|false=>none
 | .ptr n o, .ptr m q=>match Nat.beq n m&&Nat.beq o q with|true=>some []|false=>none
 |_,_=>none
def sM:List V→List V→Option (List Prop)
 | [],[]=>some []
 |x::r,y::s=>match RQ x y,sM r s with|some vc,some vcs=>some (l6 vc vcs)|_,_=>none
 |_,_=>none
def m8:Obj→Obj→Option (List Prop)
 | .arr t l, .arr t' l'=>match gf t' t l with|some l2=>some [l2=l']|none=>none
 | .box c, .box d=>sM c d
 |_,_=>none
def GU(hp:Hp):Hp→Option (List Prop)
 | []=>some []
 | (n,o)::r=>match look hp n with
   |some x=>match m8 x o,GU hp r with|some vc,some vcs=>some (l6 vc vcs)|_,_=>none
   |none=>none
def GV:S1→S1→Option (List Prop)
 | .a v, .a u=>sM [v] [u]
 | .agg l, .agg m=>sM l m
 |_,_=>none
def zL:List S1→List S1→Option (List Prop)
 | [],[]=>some []
 |x::r,y::s=>match GV x y,zL r s with|some vc,some vcs=>some (l6 vc vcs)|_,_=>none
 |_,_=>none
def MP(Γ:Nat→TK)(st:St)(tT:List ResultVar)(eO:Hp)(rs:List S1):Option (List Prop):=
 match w9 Γ st tT with
 |some xs=>match zL xs rs,GU st.hp eO with
  |some vc,some vcs=>some (l6 vc vcs)
  |_,_=>none
 |none=>none
def Yv(Γ:Nat→TK)(tT:List ResultVar)(eO:Hp)(rs:List S1):Post:=fun e st=>(e= .ret∨e= .normal)∧ ∃vc,MP Γ st tT eO rs=some vc∧jX vc
theorem pz{Γ:Nat→TK}{tT:List ResultVar}{eO:Hp}{rs:List S1}{st:St}{vc:List Prop}(h:MP Γ st tT eO rs=some vc)(hv:jX vc):Yv Γ tT eO rs .ret st:=⟨.inl rfl,vc,h,hv⟩
theorem qw{Γ:Nat→TK}{tT:List ResultVar}{eO:Hp}{rs:List S1}{st:St}{vc:List Prop}(h:MP Γ st tT eO rs=some vc)(hv:jX vc):Yv Γ tT eO rs .normal st:=⟨.inr rfl,vc,h,hv⟩
def okT(eO:Hp)(rs:List S1):Bool:=(rs.all (qc eO))&&(eO.all fun e=>w8 eO e.2)&&gm eO
section
variable{P:Program}{zb:cm}{st:St}{a:Act}{w:World}{env:Env}
theorem Dy{x o:Obj}{vc:List Prop}(h:m8 x o=some vc):(∀t l,x= .arr t l→ ∃t' l',o= .arr t' l')∧ ∀c,x= .box c→ ∃d,o= .box d:=by
 cases x<;>cases o<;>simp[m8]at h ⊢
theorem Dz{hp:Hp}: ∀{eO:Hp} {vc:List Prop},GU hp eO=some vc→(∀q,q∈vc→q)→ ∀n o,(n,o)∈eO→ ∃x v1,look hp n=some x∧m8 x o=some v1∧ ∀q,q∈v1→q
 | (k,y)::r,vc,h,hv,n,o,hm=>by
   simp only[GU]at h
   split at h
   ·rename_i x hx
    split at h
    ·rename_i v1 v2 h1 h2
     simp only[oI,dM]at h
     subst h
     rcases List.mem_cons.1 hm with h'|h'
     ·simp only[pI]at h'
      obtain⟨rfl,rfl⟩:=h'
      exact⟨x,v1,hx,h1,fun q hq=>hv q (List.mem_append_left _ hq)⟩
     ·exact Dz h2 (fun q hq=>hv q (List.mem_append_right _ hq)) n o h'
    ·cases h
   ·cases h
theorem RR{hp eO:Hp}(hT: ∀n o,look eO n=some o→ ∃x v1,look hp n=some x∧m8 x o=some v1){x y:V}{u:Value}{vc:List Prop}(hr:RA w hp env x u)(h:RQ x y=some vc)(hv: ∀q,q∈vc→q)(hn:lJ eO y=true):RA w eO env y u:=by
 unfold RQ at h
 split at h
 ·trivial
 ·simp only[oI]at h
  subst h
  have e:=hv _ (List.mem_singleton.2 rfl)
  subst e
  exact hr
 ·split at h
  ·rename_i l2 hc
   simp only[oI]at h
   subst h
   have e1:=hv _ (List.mem_cons_self ..)
   have e2:=hv _ (List.mem_cons_of_mem _ (List.mem_singleton.2 rfl))
   obtain⟨et,rfl⟩:=cU hc
   subst et
   subst e1;subst e2
   obtain⟨hu,fp,h1,h2⟩:=hr
   refine⟨hu,fp,h1,fun b hb ho=>h2 b hb ?_⟩
   obtain⟨n,o,q1,q2⟩:=ho
   obtain⟨x,_,p1,_⟩:=hT n o q1
   exact⟨n,x,p1,q2⟩
  ·cases h
 ·rename_i n m
  split at h
  ·rename_i hb
   have hb:=Nat.eq_of_beq_eq_true hb
   subst hb
   obtain⟨⟨t,l,hl⟩,hu⟩:=hr
   have hno:=tS hn n rfl
   cases hq:look eO n with
   |none=>exact absurd hq hno
   |some o=>
    obtain⟨x,v1,h1,h2⟩:=hT n o hq
    rw[hl]at h1
    simp only[oI]at h1
    subst h1
    obtain⟨t',l',rfl⟩:=(Dy h2).1 t l rfl
    exact⟨⟨t',l',hq⟩,hu⟩
  ·cases h
 ·rename_i n o m q
  split at h
  ·rename_i hb
   simp only[Bool.and_eq_true]at hb
   have bf:=Nat.eq_of_beq_eq_true hb.1
   have bU:=Nat.eq_of_beq_eq_true hb.2
   subst bf;subst bU
   obtain⟨⟨c,hl⟩,hu⟩:=hr
   have hno:=tS hn n rfl
   cases hq:look eO n with
   |none=>exact absurd hq hno
   |some z=>
    obtain⟨x,v1,h1,h2⟩:=hT n z hq
    rw[hl]at h1
    simp only[oI]at h1
    subst h1
    obtain⟨d,rfl⟩:=(Dy h2).2 c rfl
    exact⟨⟨d,hq⟩,hu⟩
  ·cases h
 ·cases h
theorem ud{hp eO:Hp}(hT: ∀n o,look eO n=some o→ ∃x v1,look hp n=some x∧m8 x o=some v1): ∀{xs ys:List V} {us:List Value} {vc:List Prop},bA (RA w hp env) xs us→sM xs ys=some vc→(∀q,q∈vc→q)→(∀y,y∈ys→lJ eO y=true)→bA (RA w eO env) ys us
 | [],ys,us,vc,hr,h,_,_=>by
   cases ys with
   |nil=>
    cases us with
    |nil=>trivial
    |cons _ _=>exact hr.elim
   |cons _ _=>simp[sM]at h
 |x::r,ys,us,vc,hr,h,hv,hn=>by
  cases us with
  |nil=>exact hr.elim
  |cons u us=>
   cases ys with
   |nil=>simp[sM]at h
   |cons y s=>
    simp only[sM]at h
    split at h
    ·rename_i v1 v2 h1 h2
     simp only[oI,dM]at h
     subst h
     exact⟨RR hT hr.1 h1 (fun q hq=>hv q (List.mem_append_left _ hq)) (hn y (by simp)),ud hT hr.2 h2 (fun q hq=>hv q (List.mem_append_right _ hq)) (fun z hz=>hn z (List.mem_cons_of_mem _ hz))⟩
    ·cases h
theorem ON{hp eO:Hp}(hT: ∀n o,look eO n=some o→ ∃x v1,look hp n=some x∧m8 x o=some v1){x y:S1}{u:Value}{vc:List Prop}(hr:eT w hp env x u)(h:GV x y=some vc)(hv: ∀q,q∈vc→q)(hn:qc eO y=true):eT w eO env y u:=by
 cases x with
 |a v=>
  cases y with
  |a v'=>
   have:=ud hT (xs:= [v]) (us:= [u]) ⟨hr,trivial⟩ h hv (fun z hz=>by rw[List.mem_singleton.1 hz];exact hn)
   exact this.1
  |agg _=>simp[GV]at h
 |agg l=>
  cases y with
  |a v'=>simp[GV]at h
  |agg m=>
   obtain⟨cs,rfl,hl⟩:=hr
   exact⟨cs,rfl,ud hT hl h hv (fun z hz=>List.all_eq_true.1 hn z hz)⟩
theorem Ft{hp eO:Hp}(hT: ∀n o,look eO n=some o→ ∃x v1,look hp n=some x∧m8 x o=some v1): ∀{xs ys:List S1} {us:List Value} {vc:List Prop},bA (eT w hp env) xs us→zL xs ys=some vc→(∀q,q∈vc→q)→(∀y,y∈ys→qc eO y=true)→bA (eT w eO env) ys us
 | [],ys,us,vc,hr,h,_,_=>by
   cases ys with
   |nil=>
    cases us with
    |nil=>trivial
    |cons _ _=>exact hr.elim
   |cons _ _=>simp[zL]at h
 |x::r,ys,us,vc,hr,h,hv,hn=>by
  cases us with
  |nil=>exact hr.elim
  |cons u us=>
   cases ys with
   |nil=>simp[zL]at h
   |cons y s=>
    simp only[zL]at h
    split at h
    ·rename_i v1 v2 h1 h2
     simp only[oI,dM]at h
     subst h
     exact⟨ON hT hr.1 h1 (fun q hq=>hv q (List.mem_append_left _ hq)) (hn y (by simp)),Ft hT hr.2 h2 (fun q hq=>hv q (List.mem_append_right _ hq)) (fun z hz=>hn z (List.mem_cons_of_mem _ hz))⟩
    ·cases h
end
theorem Yw{as:List S1}{us:List Value}{w:World}{env:Env}{gl:Hp}{n:Nat}(hA:F5 w)(hL: ∀b,Ky b→b∉wY gl env)(hG:Ix ty w gl env)(ha:bA (eT w gl env) as us)(hn:as.length≤n):
  Inv ty ⟨w,wY gl env,env⟩ ⟨n,enter 0 as,gl⟩ {tmps:=us.toArray++Array.replicate (n-us.toArray.size) undef,defers:= []} w:=by
 have hl:=ha.len
 refine⟨by simp;omega,rfl,Kept.refl _ _,⟨hA,hL⟩,env,⟨hG.1,hG.2,fun s v hv=> ?_,fun n o h b hb=>Or.inl (List.mem_flatMap.2 ⟨_,dQ h,hb⟩),fun n _=>⟨rfl,fun b hb=>hb⟩⟩⟩
 obtain⟨x,rfl,_,hx⟩:=vn hv
 rw[Nat.sub_zero]at hx
 obtain⟨u,hu,hr⟩:=ha.at hx
 have hs:s<us.length:=(List.getElem?_eq_some_iff.1 hu).1
 have:(us.toArray++Array.replicate (n-us.toArray.size) undef).getD s undef=u:=by
  rw[Array.getD_eq_getD_getElem?,Array.getElem?_append_left (by simpa using hs)]
  simp[hu]
 show eT w gl env x _
 rw[this]
 exact hr
theorem kI{P:Program}{Γ:Nat→TK}(X:Ctx P ty Γ){f:FuncId}{fn:Func}{c:Code}{tT:List ResultVar}{n:Nat}{gl eO:Hp}{as rs:List S1}
  (IJ: ∀(args:Array Value) (w:World),(callFunc f args).run P w= .ok (.enter f args) w)(hf:P.funcs[f]? =some fn)(hb:fn.body=some c)(hr:fn.results=tT.toArray)(hl:tT.length≤4)(hn:fn.ntmps=n)(hlen:as.length≤n)(hT:okT eO rs=true)
  (h: ∀zb,W P ty zb c (Yv Γ tT eO rs) ⟨n,enter 0 as,gl⟩):mN ty P f gl as eO rs:=by
 refine⟨IJ,fun w env us hA hL hG ha=>calls_of_wp hf hb ?_⟩
 rw[hn]
 refine wp_mono (h _ _ w (Yw hA hL hG ha hlen)) ?_
 simp only[okT,Bool.and_eq_true,List.all_eq_true]at hT
 obtain⟨⟨t1,t2⟩,t3⟩:=hT
 rintro e a w' ⟨st,iv,he,vc,k9,hv⟩
 have key:a.defers= []∧ ∃v,(results fn a.tmps).run P w'= .ok v w'∧ ∃env' u,Ending.returned v= .returned u∧Kept ⟨w,wY gl env,env⟩ w w'∧Ix ty w' eO env'∧
   (∀n o,look eO n=some o→ ∀b,b∈(env' n).fp→b∈wY gl env∨w.heap.size≤b)∧(∀n,jg n=true→(env' n).v=(env n).v∧ ∀b,b∈(env' n).fp→b∈(env n).fp)∧Z8 w' eO env' rs u:=by
  obtain⟨env',g⟩:=iv.good
  unfold MP at k9
  split at k9
  ·rename_i xs hx
   split at k9
   ·rename_i v1 v2 hm1 hm2
    simp only[oI,dM]at k9
    subst k9
    have A9: ∀q,q∈v1→q:=fun q hq=>hv.out q (List.mem_append_left _ hq)
    have N9: ∀q,q∈v2→q:=fun q hq=>hv.out q (List.mem_append_right _ hq)
    obtain⟨vs,h1,h2,h3⟩:=II X.kind g hr hx hl
    have hmem:=Dz hm2 N9
    have hT: ∀n o,look eO n=some o→ ∃x v1,look st.hp n=some x∧m8 x o=some v1:=fun n o hl=>by
     obtain⟨x,v1,p1,p2,_⟩:=hmem n o (dQ hl)
     exact⟨x,v1,p1,p2⟩
    have hres:=Ft hT h1 hm1 A9 t1
    refine⟨iv.defers,_,h3,env',_,rfl,iv.kept,⟨fun n o hl=> ?_,fun n m o o' hne hl1 lO=> ?_⟩,fun n o hl b hb=> ?_,fun n hp=>g.pins n hp,?_⟩
    ·obtain⟨x,v1,p1,p2,p3⟩:=hmem n o (dQ hl)
     have hro:=g.obj n x p1
     cases x with
     |arr t l=>
      cases o with
      |box d=>simp[m8]at p2
      |eZ t' l' s'=>simp[m8]at p2
      |arr t' l'=>
       simp only[m8]at p2
       split at p2
       ·rename_i l2 hc
        simp only[oI]at p2
        subst p2
        have e2:=p3 _ (List.mem_singleton.2 rfl)
        subst e2
        obtain⟨e,rfl⟩:=cU hc
        subst e
        exact Mk (fun h=>h) hro
       ·cases p2
     |eZ t l s=>cases o<;>simp[m8]at p2
     |box c=>
      cases o with
      |arr t' l'=>simp[m8]at p2
      |eZ t' l' s'=>simp[m8]at p2
      |box d=>
       obtain⟨b,cs,e,q1,q2,q3⟩:=hro
       exact⟨b,cs,e,q1,q2,ud hT q3 p2 p3 (fun y hy=>List.all_eq_true.1 (t2 _ (dQ hl)) y hy)⟩
    ·obtain⟨x,_,p1,_⟩:=hT n o hl1
     obtain⟨y,_,p2,_⟩:=hT m o' lO
     exact g.iq n m x y hne p1 p2
    ·obtain⟨x,_,p1,_⟩:=hT n o hl
     exact g.dom n x p1 b hb
    ·match rs,vs,hres with
     | [r],[u],hres=>exact hres.1
     | [],[],hres=>exact⟨[],rfl,trivial⟩
     |r1::r2::r,u1::u2::u,hres=>exact⟨_,rfl,hres⟩
     | [],_::_,hres=>exact hres.elim
     |_::_,[],hres=>exact hres.elim
     | [_],_::_::_,hres=>exact hres.2.elim
     |_::_::_,[_],hres=>exact hres.2.elim
   ·cases k9
  ·cases k9
 rcases he with rfl|rfl<;>exact key
end
end Go.Proofs.YtkcegdacbddipaaGreat.G
