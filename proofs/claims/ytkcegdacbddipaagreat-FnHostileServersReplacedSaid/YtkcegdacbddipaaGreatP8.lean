/-
  Contracts of functions that are lent memory: from the walk through their bodies.
-/
import Derived.Test.YtkcegdacbddipaaGreatP7
open Array renaming ext'→DH,getD_eq_getD_getElem?→aa,getElem?_append_left→tH,length_toList→gL,replicate→nV
open Bool renaming and_eq_true→ak,not_eq_true'→bq
open Go.Addr.mk renaming injEq→fA
open Go.Builtin renaming append_→dM
open Go.Obj.cells renaming injEq→lf
open Go.Oper renaming wp→iE,wp_mono→qm
open Go.Value renaming int→xZ,ownBlock→gS
open Go.Value.slice renaming injEq→cP
open Go.World renaming cell?_of_block→eJ,ownsRow→LX
open List renaming all_eq_true→bw,append_assoc→ct,append_nil→cS,drop_drop→mG,drop_zero→eS,flatten_append→eW,flatten_cons→bQ,getD_eq_getElem?_getD→an,getElem?_append_left→bT,getElem?_append_right→bU,getElem?_eq_getElem→au,getElem?_eq_some_iff→aI,getElem?_set_self→fm,getElem?_take→cH,length_append→aY,length_drop→bW,length_set→bA,length_take→bV,map_cons→cA,mem_append→aL,mem_append_left→aN,mem_append_right→aH,mem_cons→bh,mem_cons_of_mem→aK,mem_flatMap→kM,mem_singleton→aR,nodup_append→bf,nodup_cons→cu,set_getElem_self→xY
open Nat renaming add_mul→cJ,add_zero→jE,beq→aU,eq_of_beq_eq_true→ay,le_refl→aZ,lt_or_ge→nu,mul_le_mul_right→bK,sub_zero→Od,zero_le→aD
open Or renaming inl→bI,inr→bn
namespace Go.Proofs.YtkcegdacbddipaaGreat.G
set_option linter.all false
open Go.RowKit L D
section
variable{ty:Tag→Nat}
theorem Ya{P:Program}(w:World)(t ty e:TypeId)(i:TypeInfo)(z:Value)(size bytes:Nat)(ht:P.underlying t=some (.slice e))(hi:P.info? e=some i)(hz:i.zero=some z)
  (hsize:i.size=size)(hby:i.bytes=bytes)(hzs:z.cells.size=size)(hsz:0<size)
  (oa:Option Addr)(n cap:Nat)(xs:List Value)(hxl:xs.length=n*size)
  (hown:(n=0∧cap=0)∨ ∃g o cur e2,oa=some ⟨g,o,none⟩∧w.heap[g]? =some (.cells cur e2 (0,0))∧n≤cap∧o+cap*size≤cur.size∧w.rangeAt g o xs)
  (x:Value)(m:Nat)(news:List Value)(hl:news.length=m*size)(hx:Src w x m news)(h1: ∀u∈news,u.oneCell'=true)(hm:0<m)
  (h63:n+m≤maxLen)(hbytes:(n+m)*bytes≤140737488355328):
  ∃v' w',(dM #[t,t] ty #[.slice oa n cap,x]).run P w= .ok v' w'∧
   ((∃g o cur e2 cur',oa=some ⟨g,o,none⟩∧w.heap[g]? =some (.cells cur e2 (0,0))∧v'= .slice oa (n+m) cap∧n+m≤cap∧w'=w.setRow g cur'∧cur'.size=cur.size∧w'.heap[g]? =some (.cells cur' e2 (0,0))∧w'.rangeAt g o (xs++news))∨
    (LX w' w.heap.size e size v' (n+m) (xs++news)∧w.grownBy w' none∧v'.ownBlock=some w.heap.size∧Shape w w')):=by
 subst hsize
 subst hby
 rcases hx with⟨_,rfl,_⟩| ⟨a,c,rfl,hnews⟩
 ·omega
 have hgrow:cap<n+m→ ∀b,oa=some b→(∀j u,xs[j]? =some u→w.cell? (b.add j)=some u)→ ∃v' w',(dM #[t,t] ty #[.slice oa n cap, .slice (some a) m c]).run P w= .ok v' w'∧(LX w' w.heap.size e i.size v' (n+m) (xs++news)∧w.grownBy w' none∧v'.ownBlock=some w.heap.size∧Shape w w'):=by
  intro hg b hb holds
  subst hb
  obtain⟨v',w',hr,h2,h3⟩:=run_append_arg_grows (P:=P) w t ty e i z i.size i.bytes ht hi hz rfl rfl hzs hsz b n cap xs hxl holds a m c news hl hnews hg h63 hbytes
  have FL:=run_append_grow (P:=P) w t ty e i z ht hi hz b n cap xs hxl holds a m c news hl hnews hg (by simp only[maxLen]at h63;omega) (growslice_fits (by simp only[maxLen]at h63;omega) hbytes)
  have e2:=FL.symm.trans hr
  simp only[Result.ok.injEq]at e2
  exact⟨v',w',hr,h2,h3,by rw[←e2.1];rfl,by rw[←e2.2];exact Shape.alloc _ _⟩
 rcases hown with⟨rfl,rfl⟩| ⟨g,o,cur,e2,rfl,hg,hnc,hcs,hr⟩
 ·have hx0:xs= []:=List.eq_nil_of_length_eq_zero (by simpa using hxl)
  subst hx0
  cases oa with
  |none=>
   have FL:=run_append_nil (P:=P) w t ty e i z ht hi hz a m c news hl hnews (by omega) (by simp only[maxLen]at h63;omega) (by have hb:=hbytes;simp only[Nat.zero_add]at hb;omega)
   obtain⟨v',w',hr,h2,h3,_⟩:=run_append_own (P:=P) w w.heap.size t ty e i z i.size i.bytes ht hi hz rfl rfl hzs hsz (.slice none 0 0) 0 [] (World.ownsRow_nil w _ _ _) a m c news hl hnews h1 h63 hbytes (aZ _)
   have e2:=FL.symm.trans hr
   simp only[Result.ok.injEq]at e2
   exact⟨v',w',hr,bn ⟨h2,h3,by rw[←e2.1];rfl,by rw[←e2.2];exact Shape.alloc _ _⟩⟩
  |some b=>
   obtain⟨v',w',h⟩:=hgrow (by omega) b rfl (by simp)
   exact⟨v',w',h.1,bn h.2⟩
 ·by_cases hroom:n+m≤cap
  ·have h5:(n+m)*i.size≤cap*i.size:=bK _ hroom
   have hfit:o+n*i.size+news.length≤cur.size:=by rw[hl];rw[cJ]at h5;omega
   have hf:=run_firstCells_some (P:=P) w i.size m a m c news hl hnews
   have hst:=run_storeCells_at P g (o+n*i.size) e2 news 0 cur w hg (by simpa using hfit) h1
   simp only[jE]at hst
   have FL:(dM #[t,t] ty #[.slice (some ⟨g,o,none⟩) n cap, .slice (some a) m c]).run P w=
     .ok (.slice (some ⟨g,o,none⟩) (n+m) cap) (w.setRow g (cur.toList.take (o+n*i.size)++news++cur.toList.drop (o+n*i.size+news.length)).toArray):=by
    simp[dM,run_underlying ht,sizeOf,typeInfo,hi,Builtin.lenOf,hroom,hf,Addr.add_mid,hst]
   refine⟨_,_,FL,bI ⟨g,o,cur,e2,_,rfl,hg,rfl,hroom,rfl,?_,setRow_heap w g cur _ e2 _ hg,?_⟩⟩
   ·simp only[List.size_toArray,aY,bV,bW,gL]
    omega
   ·refine Sj (setRow_heap w g cur _ e2 _ hg) _ _ fun j v hv=> ?_
    have xA:(cur.toList.take (o+n*i.size)).length=o+n*i.size:=by rw[bV,gL];omega
    rw[List.getElem?_toArray,ct]
    by_cases hj:j<xs.length
    ·rw[bT hj]at hv
     have:=hr j v hv
     rw[G1 hg]at this
     rw[bT (by omega),cH,if_pos (by omega),Array.getElem?_toList]
     exact this
    ·rw[bU (by omega)]at hv
     have hlt:=(aI.1 hv).1
     rw[bU (by omega),bT (by omega),xA]
     rw[show o+j-(o+n*i.size)=j-xs.length by omega]
     exact hv
  ·obtain⟨v',w',h⟩:=hgrow (by omega) _ rfl (fun j u hu=>by rw[Addr.add_mid];exact hr j u hu)
   exact⟨v',w',h.1,bn h.2⟩
theorem Yb{P:Program}{w:World}(t tyr e:TypeId)(i:TypeInfo)(z:Value)(size bytes:Nat)(ht:P.underlying t=some (.slice e))(hi:P.info? e=some i)(hz:i.zero=some z)
  (hsize:i.size=size)(hby:i.bytes=bytes)(hzs:z.cells.size=size)(hsz:0<size){α:Type}{E:ER α}(G:j0 size E)
  {u0:Value}{l:List α}{fv:List Nat}(hS:Sl size E w u0 l fv){x:Value}{lx:List α}{news:List Value}{fx:List (List Nat)}(hx:Src w x lx.length news)(GN:fx.length=lx.length)(hl:news.length=lx.length*size)
  (hel: ∀i x f,lx[i]? =some x→fx[i]? =some f→E w ((news.drop (i*size)).take size) x f)(hO:Own 0 w (fv++fx.flatten))(hm:0<lx.length)
  (h63:l.length+lx.length≤maxLen)(hbytes:(l.length+lx.length)*bytes≤140737488355328):
  ∃v' w' fvn nb,(dM #[t,t] tyr #[u0,x]).run P w= .ok v' w'∧(∀y,y<w.heap.size→y∉fv→w'.heap[y]? =w.heap[y]?)∧w'.os=w.os∧w'.tape=w.tape∧w'.output=w.output∧w.heap.size≤w'.heap.size∧Shape w w'∧
   Sl size E w' u0 l fv∧Own 0 w' fv∧Sl size E w' v' (l++lx) fvn∧Own 0 w' fvn∧(∀y,y∈fvn→y∈fv∨y∈fx.flatten++nb)∧Own 0 w' (fx.flatten++nb)∧(∀y,y∈nb→w.heap.size≤y)∧ ∃oa m cap,v'= .slice oa m cap:=by
 obtain⟨hO1,hO2,hO3⟩:=bf.1 hO.nodup
 have U0: ∀y,y∈fx.flatten→y<w.heap.size:=fun y hy=>hO.lt y (aH _ hy)
 have agC: ∀y,y∈fv→y<w.heap.size:=fun y hy=>hO.lt y (aN _ hy)
 obtain⟨oa,cap,rfl,hc,hcm,h3⟩:=hS
 have key: ∃(xs:List Value) (cB:List (List Nat)),xs.length=l.length*size∧cB.length=l.length∧(∀i x f,l[i]? =some x→cB[i]? =some f→E w ((xs.drop (i*size)).take size) x f)∧(∀y,y∈cB.flatten→y∈fv)∧cB.flatten.Nodup∧
   ((l.length=0∧cap=0∧fv= [])∨ ∃g o cur e2,oa=some ⟨g,o,none⟩∧w.heap[g]? =some (.cells cur e2 (0,0))∧l.length≤cap∧o+cap*size≤cur.size∧w.rangeAt g o xs∧fv=g::cB.flatten):=by
  have hS0:Sl size E w (.slice oa l.length cap) l fv:=⟨oa,cap,rfl,hc,hcm,h3⟩
  obtain⟨xs,cB,h1,h2,h4,h5,h6,h7⟩:=uO G hsz hS0
  refine⟨xs,cB,h4,h2,h5,fun y hy=>h6.subset hy,h6.nodup hO1,?_⟩
  rcases h3 with⟨rfl,rfl,rfl⟩| ⟨g,o,agp,rfl,hfit,rfl,hE⟩
  ·exact bI ⟨rfl,rfl,rfl⟩
  ·obtain⟨c1,e1,fz1,hq,LO⟩:=hfit
   obtain⟨cur,e2,hk⟩:=hO.kind g (by simp)
   rw[hq]at hk
   simp only[oI,lf]at hk
   obtain⟨rfl,rfl,rfl⟩:=hk
   refine bn ⟨g,o,c1,e1,rfl,hq,hc,LO,?_,by rw[h7 g _ rfl]⟩
   rcases h1 with⟨hs,_⟩| ⟨a,c,hs,hcells⟩
   ·cases hs
   ·simp only[cP,oI]at hs
    obtain⟨rfl,_,_⟩:=hs
    intro j u hu
    have:=hcells j u hu
    rwa [Addr.add_mid]at this
 obtain⟨xs,cB,hxl,hfl,hxe,hsub,XP,aeC⟩:=key
 have h1:=vE G GN hl hsz hel
 obtain⟨v',w',hr,hres⟩:=Ya (P:=P) w t tyr e i z size bytes ht hi hz hsize hby hzs hsz oa l.length cap xs hxl
  (aeC.imp (fun h=>⟨h.1,h.2.1⟩) fun⟨g,o,cur,e2,q1,q2,q3,q4,q5,_⟩=>⟨g,o,cur,e2,q1,q2,q3,q4,q5⟩) x lx.length news hl hx h1 hm h63 hbytes
 have hall: ∀{w':World},Agree w w' (cB.flatten++fx.flatten)→ ∀j y f,(l++lx)[j]? =some y→(cB++fx)[j]? =some f→E w' (((xs++news).drop (j*size)).take size) y f:=by
  intro w' GP j y f hy rj
  by_cases hj:j<l.length
  ·rw[bT hj]at hy
   rw[bT (by omega)]at rj
   have:=hxe j y f hy rj
   have h5:j*size+size≤xs.length:=by
    rw[hxl]
    have:=bK size (show j+1≤l.length by omega)
    rw[cJ]at this;omega
   rw[List.drop_append_of_le_length (by omega),List.take_append_of_le_length (by rw[bW];omega)]
   exact G.agree this (GP.sub fun b hb=>aN _ (eo rj hb))
  ·rw[bU (by omega)]at hy
   rw[bU (by omega),hfl]at rj
   have:=hel _ y f hy rj
   have h5:(xs++news).drop (j*size)=news.drop ((j-l.length)*size):=by
    rw[List.drop_append,List.drop_eq_nil_of_le (by rw[hxl];exact bK size (by omega)),List.nil_append,hxl,Nat.sub_mul]
   rw[h5]
   exact G.agree this (GP.sub fun b hb=>aH _ (eo rj hb))
 have wN:(cB++fx).flatten=cB.flatten++fx.flatten:=eW
 rcases hres with⟨g,o,cur,e2,cur',rfl,hg,rfl,hroom,rfl,hcs,hg',agD⟩| ⟨hrow,XH,Fb,hsh⟩
 ·
  rcases aeC with⟨hl0,rfl,_⟩| ⟨g1,o1,aoC,e3,q1,q2,q3,q4,q5,rfl⟩
  ·omega
  simp only[oI,fA,and_true]at q1
  obtain⟨rfl,rfl⟩:=q1
  rw[hg]at q2
  simp only[oI,lf,and_true]at q2
  obtain⟨rfl,rfl⟩:=q2
  have hgn:g∉cB.flatten:=(cu.1 hO1).1
  have hgx:g∉fx.flatten:=fun h=>hO3 g (by simp) g h rfl
  have hkeep: ∀y,y≠g→(w.setRow g cur').heap[y]? =w.heap[y]? :=fun y hy=>setRow_other w g y _ hy
  have GP:Agree w (w.setRow g cur') (cB.flatten++fx.flatten):=fun y hy=>hkeep y fun h=>by
   subst h
   rcases aL.1 hy with hy|hy
   ·exact hgn hy
   ·exact hgx hy
  have hsh:Shape w (w.setRow g cur'):=Shape.row hg hcs
  have HM: ∀{f:List Nat},Own 0 w f→Own 0 (w.setRow g cur') f:=fun h=>⟨h.nodup,h.ge,fun b hb=>by
   obtain⟨c,e,hc⟩:=h.kind b hb
   obtain⟨c',h5,_⟩:=hsh b c e hc
   exact⟨_,_,h5⟩⟩
  have hOv:Own 0 w (g::cB.flatten):=⟨hO1,fun _ _=>aD _,fun b hb=>hO.kind b (aN _ hb)⟩
  have hOx:Own 0 w fx.flatten:=⟨hO2,fun _ _=>aD _,fun b hb=>hO.kind b (aH _ hb)⟩
  have hOa:Own 0 w (g::(cB++fx).flatten):=by rw[wN];exact hO
  have hE':=qI (w:=w.setRow g cur') (b:=g) (o:=o) (l:=l++lx) (xs:=xs++news) (cB:=cB++fx) (by simp[hfl,GN]) agD (hall GP)
  have hE0:tJ size E (w.setRow g cur') g o l cB:=by
   refine⟨hfl,fun j y f hy hf=> ?_⟩
   have hj:=(aI.1 hy).1
   have hjf:=(aI.1 hf).1
   obtain⟨cs,r1,r2⟩:=hE'.2 j y f (by rw[bT hj];exact hy) (by rw[bT hjf];exact hf)
   exact⟨cs,r1,r2⟩
  have hfit:Fit (w.setRow g cur') g (o+cap*size):=⟨cur',e2,(0,0),hg',by rw[hcs];exact q4⟩
  refine⟨_,_,g::(cB++fx).flatten,[],hr,fun y hy hn=>hkeep y fun h=>hn (by simp[h]),rfl,rfl,rfl,by simp[World.setRow],hsh,⟨_,cap,rfl,hc,hcm,bn ⟨g,o,cB,rfl,hfit,rfl,hE0⟩⟩,HM hOv,
   ⟨_,cap,by rw[aY],by rw[aY];exact hroom,hcm,bn ⟨g,o,cB++fx,rfl,hfit,rfl,hE'⟩⟩,HM hOa,fun y hy=> ?_,by rw[cS];exact HM hOx,by simp,_,_,_,rfl⟩
  rw[wN]at hy
  simp only[bh,aL]at hy ⊢
  rcases hy with h|h|h
  ·exact bI (bI h)
  ·exact bI (bn h)
  ·exact bn (bI h)
 ·
  have hkeep: ∀y,y<w.heap.size→w'.heap[y]? =w.heap[y]? :=fun y hy=>XH.block y hy (by simp)
  have GP: ∀{f:List Nat},(∀y,y∈f→y<w.heap.size)→Agree w w' f:=fun h y hy=>hkeep y (h y hy)
  obtain⟨g,cap',cur,rfl,hgb,hg,hn1,hn2,hn3,hn4⟩: ∃g cap' cur,v'= .slice (some ⟨g,0,none⟩) (l.length+lx.length) cap'∧w.heap.size≤g∧w'.heap[g]? =some (.cells cur e (0,0))∧l.length+lx.length≤cap'∧cap'≤maxLen∧cap'*size≤cur.size∧cur.toList.take ((l.length+lx.length)*size)=xs++news:=by
   rcases hrow.2 with⟨_,h0⟩| ⟨g,cap',cur,r1,r2,r3,r4,r5,r6,r7⟩
   ·omega
   ·exact⟨g,cap',cur,r1,r2,r3,r4,r5,Nat.le_of_eq r6.symm,r7⟩
  have aoI:g=w.heap.size:=by simpa[gS]using Fb
  have hOv:Own 0 w fv:=⟨hO1,fun _ _=>aD _,fun b hb=>hO.kind b (aN _ hb)⟩
  have hS0:Sl size E w (.slice oa l.length cap) l fv:=⟨oa,cap,rfl,hc,hcm,h3⟩
  have hlt2: ∀y,y∈(cB++fx).flatten→y<w.heap.size:=by
   intro y hy
   rw[wN]at hy
   rcases aL.1 hy with hy|hy
   ·exact agC y (hsub y hy)
   ·exact U0 y hy
  have alW:(cB++fx).flatten.Nodup:=by
   rw[wN]
   exact bf.2 ⟨XP,hO2,fun a ha b hb e=>hO3 a (hsub a ha) b hb e⟩
  have aeF: ∀y,y∈(cB++fx).flatten→ ∃c e,w'.heap[y]? =some (.cells c e (0,0)):=by
   intro y hy
   rw[hkeep y (hlt2 y hy)]
   rw[wN]at hy
   rcases aL.1 hy with hy|hy
   ·exact hO.kind y (aN _ (hsub y hy))
   ·exact hO.kind y (aH _ hy)
  have hE':=qI (w:=w') (b:=g) (o:=0) (l:=l++lx) (xs:=xs++news) (cB:=cB++fx) (by simp[hfl,GN])
   (fun j u hu=>zm (o:=0) (m:=(l.length+lx.length)*size) hg j u (by rw[eS,hn4];exact hu)) (hall (GP (by rw[←wN];exact hlt2)))
  refine⟨_,_,g::(cB++fx).flatten,[g],hr,fun y hy _=>hkeep y hy,XH.os,XH.tape,XH.output,XH.size,hsh,Sl.agree G hS0 (GP agC),hOv.agree (GP agC),
   ⟨_,cap',by rw[aY],by rw[aY];exact hn1,hn2,bn ⟨g,0,cB++fx,rfl,⟨cur,e,(0,0),hg,by omega⟩,rfl,hE'⟩⟩,⟨cu.2 ⟨fun h=>by have:=hlt2 g h;omega,alW⟩,fun _ _=>aD _,fun y hy=> ?_⟩,fun y hy=> ?_,⟨?_,fun _ _=>aD _,fun y hy=> ?_⟩,fun y hy=>by simp at hy;omega,_,_,_,rfl⟩
  ·rcases bh.1 hy with rfl|hy
   ·exact⟨_,_,hg⟩
   ·exact aeF y hy
  ·rw[wN]at hy
   simp only[bh,aL,List.not_mem_nil,or_false]at hy ⊢
   rcases hy with h|h|h
   ·exact bn (bn h)
   ·exact bI (hsub y h)
   ·exact bn (bI h)
  ·refine bf.2 ⟨hO2,by simp,fun a ha b hb e=> ?_⟩
   simp at hb
   have:=U0 a ha
   omega
  ·rcases aL.1 hy with hy|hy
   ·exact aeF y (by rw[wN];exact aH _ hy)
   ·simp at hy;subst hy;exact⟨_,_,hg⟩
section
variable{P:Program}{zb:eK}{st st':St}{a:Act}{w:World}{env:Env}{Q:Exit→Act→World→Prop}{o:Oper}
theorem N9{cB:List (List Nat)}{i:Nat}{f:List Nat}(h:i<cB.length):(cB.set i f).flatten=(cB.take i).flatten++(f++(cB.drop (i+1)).flatten):=by
 rw[List.set_eq_take_append_cons_drop,if_pos h,eW,bQ]
theorem DR{w w':World}: ∀{c:List V} {us:List Value} {f:List Nat},dQ w c us f→Agree w w' f→dQ w' c us f
 | [],[],_,h,_=>h
 | [],_::_,_,h,_=>h.elim
 |_::_,[],_,h,_=>h.elim
 |v::r,u::us,f,h,ha=>by
  obtain⟨f1,f2,h1,h2,rfl⟩:=h
  refine⟨f1,f2,?_,DR h2 (ha.sub fun y hy=>aH _ hy),rfl⟩
  cases v with
  |lit x=>exact h1
  |sl t l=>exact Sl.agree (gh t) h1 (ha.sub fun y hy=>aN _ hy)
  |_=>exact h1.elim
theorem U4{n i off:Nat}{t:Tag}{l:List (T t)}{u0:Value}{gt:Tag}{l0:List (T gt)}(g:Good ty zb st a.tmps w env)(hRV:RV w st.hp env n (some (i,off)) t l u0)(hl:look st.hp n=some (.arr gt l0)):
  ∃(b o1 len cap:Nat) (fv A B:List Nat),(env n).v= .slice (some ⟨b,o1,none⟩) len cap∧(env n).fp=b::(A++(fv++B))∧Sl (kk t) (rd t) w u0 l fv∧Own 0 w (b::(A++(fv++B)))∧w.cell? ⟨b,o1+i*kk gt+off,none⟩=some u0∧
   ∀(l2:List (T t)) c tG x',JK (dec gt (l0.getD i (aP gt))) off [.sl t l2]=some c→enc gt c=some (tG,x')→(∀q,q∈tG→q)→ ∀(w':World) (u':Value) (FU:List Nat),
    (∀y,y∈A++B→w'.heap[y]? =w.heap[y]?)→(∀o cs,w.rangeAt b o cs→(o+cs.length≤o1+i*kk gt+off∨o1+i*kk gt+off+1≤o)→w'.rangeAt b o cs)→
    w'.cell? ⟨b,o1+i*kk gt+off,none⟩=some u'→(∀c e,w.heap[b]? =some (.cells c e (0,0))→ ∃c',w'.heap[b]? =some (.cells c' e (0,0))∧c'.size=c.size)→
    Sl (kk t) (rd t) w' u' l2 FU→Own 0 w' (b::(A++(FU++B)))→qg ty w' n gt (l0.set i x') ⟨(env n).v,b::(A++(FU++B))⟩:=by
 obtain⟨_,_,XT⟩:=hRV
 obtain⟨t1,l1,b2,o2,agn,ab1,hl1,hi,QH,UZ,JL,hcell⟩:=XT i off rfl
 rw[hl]at hl1
 simp only[oI,Obj.arr.injEq]at hl1
 obtain⟨rfl,hl1⟩:=hl1
 cases hl1
 have hro:=g.obj n _ hl
 obtain⟨oa,cap,qT,AQ,LL,h3⟩:=RO.sl hro
 have hown:=RO.own hro
 rcases h3 with⟨rfl,_⟩| ⟨b,o1,cB,QG,dY,jr,hE⟩
 ·simp at hi
 rw[qT,QG]at UZ
 simp only[cP,oI,fA,and_true]at UZ
 obtain⟨⟨rfl,rfl⟩,rfl,rfl⟩:=UZ
 have XN:l0[i]? =some (l0.getD i (aP gt)):=by rw[an,au hi];rfl
 obtain⟨fe,hf⟩:=kI hE.1 XN
 have Ut:=(aI.1 hf).1
 obtain⟨cs,BV,hEi⟩:=hE.2 _ _ fe XN hf
 have hlen:=(gh gt).len hEi
 have hR:=reads gt hEi
 obtain⟨f1,f',hfe,k1,k2⟩:=dQ.split off hR
 have Fa: ∃r',(dec gt (l0.getD i (aP gt))).drop off= .sl t l::r':=by
  rw[BS]at QH
  have hlt:=(aI.1 QH).1
  rw[List.drop_eq_getElem_cons hlt]
  have:=(aI.1 QH).2
  rw[this]
  exact⟨_,rfl⟩
 obtain⟨r',Fa⟩:=Fa
 rw[Fa]at k2
 have HL: ∃u us,cs.drop off=u::us:=by
  cases hq:cs.drop off with
  |nil=>rw[hq]at k2;exact k2.elim
  |cons u us=>exact⟨u,us,rfl⟩
 obtain⟨u,us,HL⟩:=HL
 rw[HL]at k2
 obtain⟨fv,f3,P8,XU,hf'⟩:=k2
 have huc:cs[off]? =some u:=by
  have:=congrArg (fun l=>l[0]?) HL
  simpa using this
 have hoff:off<cs.length:=(aI.1 huc).1
 have hue:u0=u:=by
  have:=BV off u huc
  rw[hcell]at this
  simpa using this
 subst hue
 have hfl:cB.flatten=((cB.take i).flatten++f1)++(fv++(f3++(cB.drop (i+1)).flatten)):=by
  have h1:cB.set i fe=cB:=by
   obtain⟨_,h⟩:=aI.1 hf
   rw[←h];exact xY Ut
  have h2:=N9 (cB:=cB) (f:=fe) Ut
  rw[h1]at h2
  rw[h2,hfe,hf']
  simp only[ct]
 refine⟨b,o1,l0.length,cap,fv,(cB.take i).flatten++f1,f3++(cB.drop (i+1)).flatten,by rw[qT,QG],by rw[jr,hfl],P8,by rw[←hfl, ←jr];exact hown,hcell,?_⟩
 intro l2 c tG x' hs he hv w' u' FU hAB hbr hbc Lf hS' hO'
 have M9:c=(dec gt (l0.getD i (aP gt))).take off++([.sl t l2]++r'):=by
  unfold JK at hs
  split at hs
  ·simp only[oI]at hs
   rw[←hs]
   congr 2
   have:(dec gt (l0.getD i (aP gt))).drop (off+ [V.sl t l2].length)=((dec gt (l0.getD i (aP gt))).drop off).drop 1:=by rw[mG];rfl
   rw[this,Fa];rfl
  ·cases hs
 have ag1:Agree w w' f1:=fun y hy=>hAB y (by simp[hy])
 have ag3:Agree w w' f3:=fun y hy=>hAB y (by simp[hy])
 have hrd:dQ w' c (cs.take off++([u']++us)) (f1++(FU++f3)):=by
  rw[M9]
  exact dQ.agj (DR k1 ag1) (y:= [.sl t l2]) (vs:= [u']) ⟨FU,[],hS',rfl,by simp⟩ (DR XU ag3)
 have hEn:=vJ gt he (fun q hq=>hv q hq) hrd
 have hkk:0<kk gt:=jt gt
 have XE:us=cs.drop (off+1):=by
  have:=congrArg (fun l=>l.drop 1) HL
  simp only[mG,List.drop_succ_cons,eS]at this
  exact this.symm
 have htl:(cs.take off).length=off:=by rw[bV];omega
 have agD:w'.rangeAt b (o1+i*kk gt) (cs.take off++([u']++us)):=by
  refine tO (hbr _ _ (B5 BV) (bI (by rw[htl];omega))) ?_
  rw[htl]
  refine tO (x:= [u']) (fun j v hj=> ?_) ?_
  ·have hj0:j=0:=by have:=(aI.1 hj).1;simpa using this
   subst hj0
   simp at hj
   rw[jE,hbc,hj]
  ·rw[XE]
   refine hbr _ _ ?_ (bn (by simp))
   have:=B6 (n:=off+1) BV
   rwa [←Nat.add_assoc]at this
 have LM:tJ (kk gt) (rd gt) w' b o1 (l0.set i x') (cB.set i (f1++(FU++f3))):=by
  refine⟨by rw[bA,bA];exact hE.1,fun j y fy hy rj=> ?_⟩
  by_cases hj:i=j
  ·subst hj
   rw[fm hi]at hy
   rw[fm Ut]at rj
   simp only[oI]at hy rj
   subst hy;subst rj
   exact⟨_,agD,hEn⟩
  ·rw[List.getElem?_set_ne hj]at hy rj
   obtain⟨cy,hry,Sb⟩:=hE.2 j y fy hy rj
   refine⟨cy,hbr _ _ hry ?_,(gh gt).agree Sb fun z hz=>hAB z ?_⟩
   ·rw[(gh gt).len Sb]
    rcases nu j i with h1|h1
    ·left
     have:=bK (kk gt) (show j+1≤i by omega)
     rw[cJ]at this;omega
    ·right
     have:=bK (kk gt) (show i+1≤j by omega)
     rw[cJ]at this;omega
   ·rcases nu j i with h1|h1
    ·refine aN _ (aN _ (eo (i:=j) ?_ hz))
     rw[cH,if_pos h1];exact rj
    ·refine aH _ (aH _ (eo (i:=j-(i+1)) ?_ hz))
     rw[List.getElem?_drop,show i+1+(j-(i+1))=j by omega];exact rj
 have alZ:(cB.set i (f1++(FU++f3))).flatten=((cB.take i).flatten++f1)++(FU++(f3++(cB.drop (i+1)).flatten)):=by
  rw[N9 Ut];simp only[ct]
 rw[←alZ]at hO' ⊢
 have hfit:Fit w' b (o1+cap*kk gt):=by
  obtain⟨c0,e0,fz0,q1,q2⟩:=dY
  obtain⟨c1,e1,q3⟩:=hown.kind b (by rw[jr];simp)
  rw[q3]at q1
  simp only[oI,lf]at q1
  obtain⟨rfl,rfl,rfl⟩:=q1
  obtain⟨c',q4,q5⟩:=Lf _ _ q3
  exact⟨c',_,_,q4,by rw[q5];exact q2⟩
 have XQ:Sl (kk gt) (rd gt) w' (env n).v (l0.set i x') (b::(cB.set i (f1++(FU++f3))).flatten):=
  ⟨some ⟨b,o1,none⟩,cap,by rw[qT,QG,bA],by rw[bA];exact AQ,LL,bn ⟨b,o1,_,rfl,hfit,rfl,LM⟩⟩
 unfold qg
 cases hp:soft n with
 |true=>exact⟨XQ,hO'⟩
 |false=>
  have hB:=RO.bld hp hro
  rcases hB.parts with⟨h1,rfl,_⟩| ⟨g0,o0,n0,cc,agp,h1,hn0,UU,q1,q2,_⟩
  ·simp at hi
  ·rw[qT,QG]at h1
   simp only[cP,oI,fA,and_true,true_and]at h1
   obtain⟨⟨rfl,rfl⟩,rfl⟩:=h1
   obtain⟨cc',q3,q4⟩:=Lf _ _ q1
   show mo (kk gt) (rd gt) 0 (ty gt) w' (env n).v (l0.set i x') _
   rw[qT,QG, ←bA (as:=l0) (i:=i) (a:=x')]
   exact nv (gh gt) q3 (by rw[q4];exact q2) (by rw[bA];exact AQ) LL LM hO'
def acm(P:Program)(ty:Tag→Nat)(Γ:Nat→TK)(st:St)(m0:Nat):Op→Option (List Prop×St×SV)
 | .call ⟨.builtin .append,xs,ts⟩=>match xs.toList,ts.toList with
   | [s,x],[t1,t2]=>match Γ t1,aU t1 t2 with
     | .sl t e,true=>match aU e (ty t),jH st [] s,jH st [] x with
       |true,some (.a (.vw n (some (i,off)) t' l')),some vx=>match kL t t' l',LJ st t vx,look st.hp n with
        |some l,some (lx,m),some (.arr gt l0)=>match B0 [n] m&& !pinned m&& !nI m0,look (dX m [n] st.hp) m0,(JK (dec gt (l0.getD i (aP gt))) off [.sl t l]).bind (enc gt)with
         |true,none,some (vc0,x0)=>some (El P ty t::(0<lx.length)::((l.length+lx.length)*gb t≤140737488355328∧l.length+lx.length≤maxLen)::(x0=l0.getD i (aP gt))::vc0,
           ⟨st.n,st.sl.map fun e=>(e.1,e.2.cR m [n]),(m0, .jG t (l++lx) (.zV (some (n,i,off))))::dX m [n] st.hp⟩, .one (.a (.zn m0)))
         |_,_,_=>none
        |_,_,_=>none
       |_,_,_=>none
     |_,_=>none
   |_,_=>none
 |_=>none
theorem acn{Γ:Nat→TK}(C: ∀t,fK P t (Γ t)){m0:Nat}{vc:List Prop}{v:SV}(h:acm P ty Γ st m0 o.op=some (vc,st',v))(g:Good ty zb st a.tmps w env)(hB:zb.w.heap.size≤w.heap.size)(hv: ∀q,q∈vc→q):
  o.wp P a w (fun a' w'=> ∃u env',a'=a.put o.dst u∧Kept zb w w'∧Good ty zb st' a.tmps w' env'∧st'.n=st.n∧tF w' st'.hp env' a.tmps v u) Q:=by
 have hop: ∀{x v},jH st [] x=some v→ju w st.hp env v (a.eval x):=fun hx=>gG g (fun e he=>by simp at he) hx
 generalize jf:o.op=op at h
 unfold acm at h
 split at h
 case h_2=>cases h
 rename_i xs ts
 split at h
 case h_2=>cases h
 rename_i s x t1 t2 hxl htl
 obtain rfl:xs= #[s,x]:=DH hxl
 obtain rfl:ts= #[t1,t2]:=DH htl
 split at h
 case h_2=>cases h
 rename_i t0 e hk AP
 have AP:=ay AP
 subst AP
 split at h
 case h_2=>cases h
 rename_i n i off t l vx he hs hx
 have he:=ay he
 split at h
 case h_2=>cases h
 rename_i l2 lx m gt l0 hc hsr hln
 split at h
 case h_2=>cases h
 rename_i vc0 x0 hno hlk hse
 simp only[oI,pI]at h
 obtain⟨rfl,rfl,rfl⟩:=h
 obtain⟨ec,ru⟩:=ga hc
 subst ec
 obtain rfl:l=l2:=ru.symm
 simp only[ak,bq]at hno
 obtain⟨⟨hno,hpk⟩,Hx⟩:=hno
 have hnm:n∉m:=by
  intro hm
  simp only[B0,List.all_cons,List.all_nil,Bool.and_true,bq,List.any_eq_false]at hno
  exact hno n hm (by simp)
 obtain⟨c0,hs0,he0⟩:=Option.bind_eq_some_iff.1 hse
 have wL:El P ty t:=hv _ (by simp)
 have hlx:0<lx.length:=hv _ (by simp)
 obtain⟨cx,dY⟩:(l.length+lx.length)*gb t≤140737488355328∧l.length+lx.length≤maxLen:=hv _ (by simp)
 have hx0:x0=l0.getD i (aP gt):=hv _ (by simp)
 have hv0: ∀q,q∈vc0→q:=fun q hq=>hv q (by simp[hq])
 have hRV:RV w st.hp env n (some (i,off)) t l (a.eval s):=hop hs
 obtain⟨b,o1,len,cap,fv,A,B,UZ,jr,hS,hO,hcell,hput⟩:=U4 g hRV hln
 obtain⟨news,fx,n1,n2,n3,n4,n5,n6⟩:=Kr g (hop hx) hsr
 have hC:=C t1
 rw[hk]at hC
 obtain⟨inf,hi,hz,hsize,hby⟩:=info_parts wL
 have hxn: ∀y,y∈fx.flatten→y∉(env n).fp:=by
  intro y hy hyn
  obtain⟨j,oj,hj,h1,h2⟩:=n5 y hy
  exact g.mu j n _ _ (fun e=>hnm (e▸hj)) h1 hln y h2 hyn
 have U5: ∀y,y∈fv→y∈(env n).fp:=fun y hy=>by rw[jr];simp[hy]
 obtain⟨d1,d2⟩:=cu.1 hO.nodup
 obtain⟨d3,d4,d5⟩:=bf.1 d2
 obtain⟨d6,d7,d8⟩:=bf.1 d4
 have hOv:Own 0 w (fv++fx.flatten):=by
  refine⟨bf.2 ⟨d6,n6.nodup,fun y hy z hz e=>hxn z hz (e▸U5 y hy)⟩,fun _ _=>aD _,fun y hy=> ?_⟩
  rcases aL.1 hy with hy|hy
  ·exact hO.kind y (by simp[hy])
  ·exact n6.kind y hy
 obtain⟨v',w',fvn,nb,hr,hkeep,k1,k2,k3,k4,hsh,hS1,hO1,hS2,hO2,hsub,hO3,hnb,oa',m',cap',HC⟩:=Yb (P:=P) t1 o.type (ty t) inf (iX t) (kk t) (gb t) (by rw[←he];exact hC.1) hi hz hsize hby (mW t) (jt t) (gh t) hS n1 n2 n3 n4 hOv hlx dY cx
 have hnlt: ∀y,y∈(env n).fp→y<w.heap.size:=(g.obj n _ hln).AH
 have hdn: ∀y,y∈fx.flatten++nb→y∉(env n).fp:=by
  intro y hy hyn
  rcases aL.1 hy with hy|hy
  ·exact hxn y hy hyn
  ·have:=hnb y hy;have:=hnlt y hyn;omega
 have hkA: ∀y,y∈A++B→w'.heap[y]? =w.heap[y]? :=by
  intro y hy
  have hyf:y∈(env n).fp:=by rw[jr];rcases aL.1 hy with h|h<;>simp[h]
  refine hkeep y (hnlt y hyf) fun hf=> ?_
  rcases aL.1 hy with h|h
  ·exact d5 y h y (by simp[hf]) rfl
  ·exact d8 y hf y h rfl
 have hkb:w'.heap[b]? =w.heap[b]? :=hkeep b (hnlt b (by rw[jr];simp)) fun hf=>d1 (by simp[hf])
 obtain⟨cb,eb,vR⟩:=hO.kind b (by simp)
 have sr:o1+i*kk gt+off<cb.size:=by
  rw[G1 vR]at hcell
  exact(Array.getElem?_eq_some_iff.1 hcell).1
 have ajn:l0.set i x0=l0:=by
  rw[hx0]
  by_cases hi:i<l0.length
  ·rw[an,au hi];exact xY hi
  ·rw[List.set_eq_of_length_le (by omega)]
 have hRn:qg ty w' n gt l0 (env n):=by
  have:=hput l c0 vc0 x0 hs0 he0 hv0 w' (a.eval s) fv hkA (fun o cs hr _ j u hu=>by rw[eJ (w:=w) (a:=⟨b,_,none⟩) hkb];exact hr j u hu)
   (by rw[eJ (w:=w) (a:=⟨b,_,none⟩) hkb];exact hcell) (fun c e h=>hsh b c e h) hS1 (hO.nodup|>fun hn=>⟨hn,fun _ _=>aD _,fun y hy=>by
    obtain⟨c,e,h1⟩:=hO.kind y hy
    obtain⟨c',h2,_⟩:=hsh y c e h1
    exact⟨_,_,h2⟩⟩)
  rw[ajn, ←jr]at this
  exact this
 have hnd: ∀k o,k∉m→look st.hp k=some o→k≠m0:=by
  rintro k o hks h1 rfl
  rw[dr,if_neg hks,h1]at hlk
  cases hlk
 have UU:n≠m0:=hnd n _ hnm hln
 have Yc: ∀k o,look ((m0,Obj.jG t (l++lx) (.zV (some (n,i,off))))::dX m [n] st.hp) k=some o→(k=m0∧o= .jG t (l++lx) (.zV (some (n,i,off))))∨(k≠m0∧k∉m∧ ∃o',look st.hp k=some o'∧o=o'.cR m [n]):=by
  intro k o hm
  by_cases lG:k=m0
  ·subst lG;rw[look_eq]at hm;simp only[oI]at hm;exact bI ⟨rfl,hm.symm⟩
  ·rw[cj lG,dr]at hm
   split at hm
   ·cases hm
   ·rename_i hks
    cases hq:look st.hp k with
    |none=>rw[hq]at hm;cases hm
    |some o'=>rw[hq]at hm;simp only[Option.map_some,oI]at hm;exact bn ⟨lG,hks,o',rfl,hm.symm⟩
 have SG: ∀y,y∈fx.flatten++nb→y<w.heap.size→ ∃j oj,j∈m∧look st.hp j=some oj∧y∈(env j).fp:=by
  intro y hy hlt
  rcases aL.1 hy with hy|hy
  ·exact n5 y hy
  ·have:=hnb y hy;omega
 have hst: ∀k o,k≠n→look st.hp k=some o→ ∀y,y∈(env k).fp→w'.heap[y]? =w.heap[y]? :=fun k o hkn h1 y hy=>
  hkeep y ((g.obj k o h1).AH y hy) fun hf=>g.mu k n _ _ hkn h1 hln y hy (U5 y hf)
 have al4:look ((m0,Obj.jG t (l++lx) (.zV (some (n,i,off))))::dX m [n] st.hp) n=some (.arr gt l0):=by
  rw[cj UU,dr,if_neg hnm,hln];rfl
 have hs':uP m [n] w st.hp env w' ((m0, .jG t (l++lx) (.zV (some (n,i,off))))::dX m [n] st.hp) (fun k=>if k=m0 then⟨v',fx.flatten++nb⟩else env k):=by
  refine⟨fun y hy hno=>hkeep y hy fun hf=>hno ⟨n,_,hln,U5 y hf⟩,?_,?_,?_⟩
  ·rintro y hy ⟨k,o',h1,h2⟩
   rcases Yc k o' h1 with⟨rfl,_⟩| ⟨lG,hks,By,h3,rfl⟩
   ·simp only[if_true]at h2
    obtain⟨j,oj,_,h3,h4⟩:=SG y h2 hy
    exact⟨j,oj,h3,h4⟩
   ·simp only[if_neg lG]at h2
    exact⟨k,By,h3,h2⟩
  ·intro k o' hks h1
   have lG:=hnd k o' hks h1
   exact⟨o'.cR m [n],by rw[cj lG,dr,if_neg hks,h1];rfl,by cases o'<;>simp[Obj.like,Obj.cR],by simp[lG]⟩
  ·rintro k t2 l2 ⟨hks,hkn⟩ h1
   have lG:=hnd k _ hks h1
   exact⟨by rw[cj lG,dr,if_neg hks,h1];rfl,by simp[lG],hst k _ (by simpa using hkn) h1⟩
 have ajo:=g.kZ hs' (fun k o' hm=> ?_) (fun k k' q1 q2 hne h1 h2 y hy hy'=> ?_) (fun k o' hm y hy=> ?_) (fun k hm=> ?_)
 ·refine ?_
  unfold iE execOp
  simp only[jf,resolve,invoke,builtin,Sem.run_bind,Sem.run_pure,Result.andThen_ok,List.map_toArray,cA,List.map_nil,hr]
  exact⟨v',_,rfl,⟨k1,k2,k3,k4,fun y hy hn=>hkeep y (by omega) fun hf=>by
   rcases g.dom n _ hln y (U5 y hf)with h|h
   ·exact hn h
   ·omega,hsh⟩,ajo,trivial,⟨t,_,_,look_eq⟩,by simp⟩
 ·rcases Yc k o' hm with⟨e1,e2⟩| ⟨lG,hks,By,h3,rfl⟩
  ·rw[e1,e2]
   simp only[if_true]
   refine⟨hO3,⟨oa',m',cap',HC⟩,fun n' i' off' e=> ?_⟩
   simp only[oI,pI]at e
   obtain⟨rfl,rfl,rfl⟩:=e
   refine⟨gt,l0,b,o1,len,cap,al4,by simp only[if_neg UU];exact UZ,by simp only[if_neg UU];rw[jr];simp,?_⟩
   simp only[if_neg UU]
   intro w2 a1 a2 d vc y' hs1 he1 FR
   have hbn:b∈(env n).fp:=by rw[jr];simp
   have ajp:w2.heap[b]? =w.heap[b]? :=(a1 b hbn).trans hkb
   have Yd:w2.heap[b]? =some (.cells cb eb (0,0)):=ajp.trans vR
   have Sa:w2.there b (o1+i*kk gt+off) [v'].length:=Li Yd _ _ (by simp only[List.length_singleton];omega)
   have hbA: ∀y,y∈A++B→y≠b:=by
    rintro y hy rfl
    apply d1
    rcases aL.1 hy with h|h<;>simp[h]
   have hAf: ∀y,y∈A++B→y∈(env n).fp:=by
    intro y hy
    rw[jr];rcases aL.1 hy with h|h<;>simp[h]
   have Ye: ∀y,y≠b→(w2.setCells b (o1+i*kk gt+off) [v']).heap[y]? =w2.heap[y]? :=fun y hy=>dV b _ _ w2 y hy
   have agE: ∀y,y∈A++B→(w2.setCells b (o1+i*kk gt+off) [v']).heap[y]? =w.heap[y]? :=fun y hy=>(Ye y (hbA y hy)).trans ((a1 y (hAf y hy)).trans (hkA y hy))
   have hfb: ∀y,y∈fvn→y≠b:=by
    rintro y hy rfl
    rcases hsub y hy with h|h
    ·exact d1 (by simp[h])
    ·exact hdn y h hbn
   have hfa: ∀y,y∈fvn→(w2.setCells b (o1+i*kk gt+off) [v']).heap[y]? =w'.heap[y]? :=by
    intro y hy
    refine(Ye y (hfb y hy)).trans ?_
    rcases hsub y hy with h|h
    ·exact a1 y (U5 y h)
    ·exact a2 y h
   have ajq: ∀y,y∈fvn→y∉A++B:=by
    intro y hy hyA
    rcases hsub y hy with h|h
    ·rcases aL.1 hyA with h2|h2
     ·exact d5 y h2 y (by simp[h]) rfl
     ·exact d8 y h y h2 rfl
    ·exact hdn y h (hAf y hyA)
   refine⟨by simpa using Sa,b::(A++(fvn++B)),fun y hy=> ?_,?_⟩
   ·simp only[bh,aL]at hy
    rcases hy with rfl|h|h|h
    ·exact bI hbn
    ·exact bI (hAf y (by simp[h]))
    ·rcases hsub y h with h|h
     ·exact bI (U5 y h)
     ·exact bn h
    ·exact bI (hAf y (by simp[h]))
   ·refine hput (l++lx) d vc y' hs1 he1 FR _ v' fvn agE (fun o cs hr hd=> ?_) ?_ (fun c e h=> ?_) (Sl.agree (gh t) hS2 hfa) ⟨cu.2 ⟨fun hm=> ?_,?_⟩,fun _ _=>aD _,fun y hy=> ?_⟩
    ·refine World.rangeAt_setCells_apart (fun j u hu=> ?_) _ _ _ (bn (hd.imp id fun h=>by simpa using h))
     rw[eJ (w:=w) (a:=⟨b,_,none⟩) ajp];exact hr j u hu
    ·have:=World.rangeAt_setCells_same w2 b _ [v'] Sa 0 v' rfl
     simpa using this
    ·rw[vR]at h
     simp only[oI,lf,and_true]at h
     obtain⟨rfl,rfl⟩:=h
     exact gf b eb [v'] _ w2 cb Yd
    ·simp only[aL]at hm
     rcases hm with h|h|h
     ·exact hbA b (by simp[h]) rfl
     ·exact hfb b h rfl
     ·exact hbA b (by simp[h]) rfl
    ·refine bf.2 ⟨d3,bf.2 ⟨hO2.nodup,d7,fun y hy z hz e=>ajq y hy (by simp[e▸hz])⟩,fun y hy z hz e=> ?_⟩
     rcases aL.1 hz with h|h
     ·exact ajq z h (by simp[e▸hy])
     ·exact d5 y hy z (by simp[h]) e
    ·rcases bh.1 hy with rfl|hy
     ·obtain⟨c',q1,_⟩:=gf y eb [v'] (o1+i*kk gt+off) w2 cb Yd
      exact⟨_,_,q1⟩
     ·simp only[aL]at hy
      rcases hy with h|h|h
      ·rw[agE y (by simp[h])];exact hO.kind y (by simp[h])
      ·rw[hfa y h];exact hO2.kind y h
      ·rw[agE y (by simp[h])];exact hO.kind y (by simp[h])
  ·simp only[if_neg lG]
   by_cases hkn:k=n
   ·subst hkn
    rw[hln]at h3
    simp only[oI]at h3
    subst h3
    exact hRn
   ·exact(g.obj k By h3).kZ hs' (hst k By hkn h3)
 ·rcases Yc k q1 h1 with⟨e1,_⟩| ⟨lG,hks,r1,h3,_⟩<;>rcases Yc k' q2 h2 with⟨e2,_⟩| ⟨FT,QC,r2,h4,_⟩
  ·exact hne (e1.trans e2.symm)
  ·simp only[if_pos e1]at hy
   simp only[if_neg FT]at hy'
   obtain⟨j,oj,hj,h5,h6⟩:=SG y hy ((g.obj k' r2 h4).AH y hy')
   exact g.mu k' j _ _ (fun e=>QC (e▸hj)) h4 h5 y hy' h6
  ·simp only[if_pos e2]at hy'
   simp only[if_neg lG]at hy
   obtain⟨j,oj,hj,h5,h6⟩:=SG y hy' ((g.obj k r1 h3).AH y hy)
   exact g.mu k j _ _ (fun e=>hks (e▸hj)) h3 h5 y hy h6
  ·simp only[if_neg lG]at hy
   simp only[if_neg FT]at hy'
   exact g.mu k k' _ _ hne h3 h4 y hy hy'
 ·rcases Yc k o' hm with⟨e1,_⟩| ⟨lG,hks,q1,h3,_⟩
  ·simp only[if_pos e1]at hy
   by_cases hlt:y<w.heap.size
   ·obtain⟨j,oj,_,h5,h6⟩:=SG y hy hlt
    exact g.dom j oj h5 y h6
   ·exact bn (by omega)
  ·simp only[if_neg lG]at hy
   exact g.dom k q1 h3 y hy
 ·have:k≠m0:=by rintro rfl;rw[Hx]at hm;cases hm
  simp only[if_neg this]
  exact g.pins k hm
def agF(Γ:Nat→TK)(st:St):Op→Option (List Prop×St)
 | .store t x y=>match jH st [] x,jH st [] y with
   |some (.a (.rZ n i off)),some (.a (.zn d))=>match look st.hp n,look st.hp d with
    |some (.arr gt l0),some (.jG t' l (.zV (some (n',i',off'))))=>match aU n n'&&(aU i i'&&aU off off')&& !nI n&&NR n [d]&&fits (Γ t) (.a (.zn d)),(JK (dec gt (l0.getD i (aP gt))) off [.sl t' l]).bind (enc gt)with
     |true,some (vc,y')=>some (vc,st.QF [d] n gt (l0.set i y'))
     |_,_=>none
    |_,_=>none
   |_,_=>none
 |_=>none
theorem acq{Γ:Nat→TK}(Z: ∀t,(∀z tg fo,Γ t≠ .st z tg fo)→Γ t≠ .other→(P.info? t).map (·.size)=some 1){vc:List Prop}(h:agF Γ st o.op=some (vc,st'))(g:Good ty zb st a.tmps w env)(hv: ∀q,q∈vc→q):
  o.wp P a w (fun a' w'=> ∃env',a'=a.put o.dst undef∧Kept zb w w'∧Good ty zb st' a.tmps w' env'∧st'.n=st.n) Q:=by
 have hop: ∀{x v},jH st [] x=some v→ju w st.hp env v (a.eval x):=fun hx=>gG g (fun e he=>by simp at he) hx
 generalize jf:o.op=op at h
 unfold agF at h
 split at h
 case h_2=>cases h
 rename_i t x y
 split at h
 case h_2=>cases h
 rename_i n i off d hx hy
 have hx:=hop hx
 have hy:=hop hy
 split at h
 case h_2=>cases h
 rename_i gt l0 t' l n' i' off' hl hd
 split at h
 case h_2=>cases h
 rename_i tG y' hok hse
 simp only[oI,pI]at h
 obtain⟨rfl,rfl⟩:=h
 simp only[ak,bq]at hok
 obtain⟨⟨⟨⟨e1,e2,e3⟩,hpn⟩,hok⟩,hfit⟩:=hok
 obtain rfl:=ay e1
 obtain rfl:=ay e2
 obtain rfl:=ay e3
 obtain⟨c0,hs0,he0⟩:=Option.bind_eq_some_iff.1 hse
 obtain⟨hOd,⟨oa,m,cp,BU⟩,hpr⟩:DE ty w st.hp env t' l (some (n,i,off)) (env d):=g.obj d _ hd
 obtain⟨tA,lA,b,o1,len,cap,q1,q2,q3,q4⟩:=hpr n i off rfl
 rw[hl]at q1
 simp only[oI,Obj.arr.injEq]at q1
 obtain⟨rfl,q1⟩:=q1
 cases q1
 obtain⟨Sa,NA,hsub,hR⟩:=q4 w (fun _ _=>rfl) (fun _ _=>rfl) c0 tG y' hs0 he0 hv
 obtain⟨t1,l1,hl1,b2,o2,agn,ab1,FR,hu⟩:=hx
 rw[hl]at hl1
 simp only[oI,Obj.arr.injEq]at hl1
 obtain⟨rfl,_⟩:=hl1
 rw[q2]at FR
 simp only[cP,oI,fA,and_true]at FR
 obtain⟨⟨rfl,rfl⟩,_,_⟩:=FR
 obtain⟨_,huy⟩:=(show RA w st.hp env (.zn d) (a.eval y)from hy)
 have xA:(a.eval y).cells.toList= [(env d).v]:=by rw[huy,BU];rfl
 have hsz:(P.info? t).map (·.size)=some 1:=Z t (B7 hfit).1 (B7 hfit).2
 obtain⟨cb,eb,vR⟩:=(RO.own (g.obj n _ hl)).kind b q3
 obtain⟨env',hg',HC⟩:=Fc (fx:=(env d).fp) g hl hok (w':=w.setCells b (o1+i*kk gt+off) [(env d).v]) (fun y hy=>⟨d,_,by simp,hd,hy⟩) hsub (fun h=>by rw[hpn]at h;cases h) (fun y h1 _ _=>dV b _ _ w y fun e=>h1 (e▸q3)) hR
 have hrun:(storeVar t ⟨b,o1+i*kk gt+off,none⟩ (a.eval y)).run P w= .ok () (w.setCells b (o1+i*kk gt+off) [(env d).v]):=ry (by rw[←xA]) Sa hsz (by intro u hu;simp at hu;rw[hu,BU];rfl)
 unfold iE execOp
 simp only[jf,hu,Instr.storeAt,Instr.sureAddr,Sem.run_bind,Sem.run_pure,Result.andThen_ok,hrun]
 exact⟨env',rfl,BX (g.dom n _ hl b q3) vR _ _,hg',rfl⟩
end
end
section
variable{ty:Tag→Nat}
def fV:V→Option V
 | .any=>some .any
 | .lit (.int k n)=>some (.lit (.int k n))
 | .lit (.bool b)=>some (.lit (.bool b))
 | .lit (.string s)=>some (.lit (.string s))
 | .lit v=>some (.lit v)
 | .sl t l=>some (.sl t l)
 | .own n=>some (.own n)
 | .ptr n o=>some (.ptr n o)
 | .rZ n i o=>some (.rZ n i o)
 | .ip t x o=>some (.ip t x o)
 | .vw n p t l=>some (.vw n p t l)
 | .Jv n p t x o=>some (.Jv n p t x o)
 | .Jw n t l=>some (.Jw n t l)
 | .mix n c t l=>some (.mix n c t l)
 | .zn n=>some (.zn n)
 | .Gi f n=>some (.Gi f n)
 | .zU k=>some (.zU k)
 | .raw v=>some (.raw v)
 | .wJ v t l=>some (.wJ v t l)
theorem aeH(v:V):fV v=some v:=by
 unfold fV;split<;>rfl
def fVs:List V→Option (List V)
 | []=>some []
 |v::r=>match fV v,fVs r with
  |some x,some y=>some (x::y)
  |_,_=>none
theorem QU: ∀l:List V,fVs l=some l
 | []=>rfl
 |v::r=>by simp[fVs,aeH,QU r]
def fS:SV→Option SV
 | .one (.a v)=>match fV v with|some v=>some (.one (.a v))|none=>none
 | .one (.agg l)=>match fVs l with|some l=>some (.one (.agg l))|none=>none
 | .Au l=>some (.Au l)
 | .cond p (.a v)=>match fV v with|some v=>some (.cond p (.a v))|none=>none
 | .cond p (.agg l)=>match fVs l with|some l=>some (.cond p (.agg l))|none=>none
theorem Yf{x y:SV}(h:fS x=some y):y=x:=by
 unfold fS at h
 split at h<;>simp_all [aeH,QU]
def fO:Obj→Option Obj
 | .box c=>match fVs c with|some c=>some (.box c)|none=>none
 | .arr t l=>some (.arr t l)
 | .jG t l .gone=>some (.jG t l .gone)
 | .jG t l .sj=>some (.jG t l .sj)
 | .jG t l .mp=>some (.jG t l .mp)
 | .jG t l (.Nb u)=>some (.jG t l (.Nb u))
 | .jG t l (.of n)=>some (.jG t l (.of n))
 | .jG t l (.zV p)=>some (.jG t l (.zV p))
theorem aeI{x y:Obj}(h:fO x=some y):y=x:=by
 unfold fO at h
 split at h<;>simp_all [QU]
def fSl:List (Nat×SV)→Option (List (Nat×SV))
 | []=>some []
 | (n,x)::r=>match fS x,fSl r with
   |some x,some r=>some ((n,x)::r)
   |_,_=>none
theorem Yg: ∀{l m:List (Nat×SV)},fSl l=some m→m=l
 | [],m,h=>by simp only[fSl,oI]at h;exact h.symm
 | (n,x)::r,m,h=>by
   simp only[fSl]at h
   split at h
   ·rename_i y r' h1 h2
    simp only[oI]at h
    rw[←h,Yf h1,Yg h2]
   ·cases h
def fHp:Hp→Option Hp
 | []=>some []
 | (n,x)::r=>match fO x,fHp r with
   |some x,some r=>some ((n,x)::r)
   |_,_=>none
theorem LY: ∀{l m:Hp},fHp l=some m→m=l
 | [],m,h=>by simp only[fHp,oI]at h;exact h.symm
 | (n,x)::r,m,h=>by
   simp only[fHp]at h
   split at h
   ·rename_i y r' h1 h2
    simp only[oI]at h
    rw[←h,aeI h1,LY h2]
   ·cases h
def U6:St→Option St
 | ⟨n,sl,hp⟩=>match fSl sl,fHp hp with
   |some sl,some hp=>some ⟨n,sl,hp⟩
   |_,_=>none
theorem sI{s s':St}(h:U6 s=some s'):s'=s:=by
 obtain⟨n,sl,hp⟩:=s
 simp only[U6]at h
 split at h
 ·rename_i a b h1 h2
  simp only[oI]at h
  rw[←h,Yg h1,LY h2]
 ·cases h
def aeJ:TypeDesc→Bool
 | .struct _=>false
 | .array _ _=>false
 |_=>true
def acr(P:Program)(t f k:Nat):Prop:= ∃fs fd d,P.underlying t=some (.struct fs)∧fs[f]? =some fd∧fd.offset=k∧P.underlying fd.type=some d∧aeJ d=true
def KA:List V→Option (List Int)
 | []=>some []
 | .lit (.int .i64 a)::r=>match KA r with|some l=>some (a::l)|none=>none
 |_=>none
def aeK(P:Program)(t n:Nat):Prop:= ∀(xs ys:List Int) (X Y:Operand) (w:World),xs.length=n→ys.length=n→
 (do eqGuard .neq t X Y (.agg (xs.map (xZ .i64)).toArray) (.agg (ys.map (xZ .i64)).toArray);binOp .neq t (.agg (xs.map (xZ .i64)).toArray) (.agg (ys.map (xZ .i64)).toArray):Sem Value).run P w= .ok (.bool (xs !=ys)) w
theorem HT{w:World}{hp:Hp}{env:Env}: ∀{l:List V} {xs:List Int} {cs:List Value},KA l=some xs→cT (RA w hp env) l cs→cs=xs.map (xZ .i64)
 | [],xs,[],h,_=>by simp only[KA,oI]at h;subst h;rfl
 | [],_,_::_,_,h=>h.elim
 |v::r,xs,[],_,h=>h.elim
 |v::r,xs,c::cs,h,⟨h1,h2⟩=>by
  unfold KA at h
  split at h
  ·rename_i e;cases e
  ·rename_i a r' e
   simp only[List.cons.injEq]at e
   obtain⟨rfl,rfl⟩:=e
   split at h
   ·rename_i l' hl
    simp only[oI]at h
    subst h
    rw[HT hl h2,cA,h1.1]
   ·cases h
  ·cases h
def QV(P:Program)(Γ:Nat→TK)(st:St):Op→Option (List Prop×St×SV)
 | .field t x f=>match jH st [] x,Γ t with
   |some (.agg c), .st _ _ fo=>match tE fo f with
    |some k=>match BJ c k with
     |some v=>some ([acr P t f k],st, .one (.a v))
     |none=>none
    |none=>none
   |_,_=>none
 | .binOp .neq t x y _=>match jH st [] x,jH st [] y with
   |some (.agg l),some (.agg l')=>match KA l,KA l' with
    |some xs,some ys=>match aU xs.length ys.length with
     |true=>some ([aeK P t xs.length],st, .one (.a (.lit (.bool (xs !=ys)))))
     |false=>none
    |_,_=>none
   |_,_=>none
 |_=>none
theorem QW{P:Program}{t:TypeId}{d:TypeDesc}(h:P.underlying t=some d)(hd:aeJ d=true)(w:World):(isAgg t).run P w= .ok false w:=by
 cases d<;>first| (cases hd;done)|simp[isAgg,run_underlying h]
section
variable{P:Program}{zb:eK}{st st':St}{a:Act}{w:World}{env:Env}{Q:Exit→Act→World→Prop}{o:Oper}
theorem acs{Γ:Nat→TK}{vc:List Prop}{v:SV}(h:QV P Γ st o.op=some (vc,st',v))(g:Good ty zb st a.tmps w env)(hv: ∀q,q∈vc→q):
  o.wp P a w (fun a' w'=> ∃u env',a'=a.put o.dst u∧Kept zb w w'∧Good ty zb st' a.tmps w' env'∧st'.n=st.n∧tF w' st'.hp env' a.tmps v u) Q:=by
 generalize jf:o.op=op at h
 cases op with
 |field t x f=>
  simp only[QV]at h
  split at h
  case h_2=>cases h
  rename_i c z tg fo hx hk
  split at h
  case h_2=>cases h
  rename_i k hf
  split at h
  case h_2=>cases h
  rename_i v' hel
  simp only[oI,pI]at h
  obtain⟨rfl,rfl,rfl⟩:=h
  obtain⟨fs,fd,d,h1,h2,h3,h4,h5⟩:=hv _ (aR.2 rfl)
  obtain⟨us,hu,hA⟩:=gG g (fun e he=>by simp at he) hx
  obtain⟨u,k1,k2⟩:=hA.at (LA hel)
  have hr:(execOp a.eval o).run P w= .ok (.value u) w:=by
   unfold execOp
   simp[jf,hu,Instr.field,part,run_underlying h1,h2,h3,QW h4 h5,asAgg,k1]
  unfold iE
  rw[hr]
  exact⟨u,env,rfl,Kept.refl _ _,g,rfl,k2⟩
 |binOp b t x y t'=>
  cases b with
  |neq=>
   simp only[QV]at h
   split at h
   case h_2=>cases h
   rename_i l l' hx hy
   split at h
   case h_2=>cases h
   rename_i xs ys h1 h2
   split at h
   case h_2=>cases h
   rename_i hn
   have hn:=ay hn
   simp only[oI,pI]at h
   obtain⟨rfl,rfl,rfl⟩:=h
   have hS:aeK P t xs.length:=hv _ (aR.2 rfl)
   obtain⟨us,hu,hA⟩:=gG g (fun e he=>by simp at he) hx
   obtain⟨us',hu',hA'⟩:=gG g (fun e he=>by simp at he) hy
   rw[HT h1 hA]at hu
   rw[HT h2 hA']at hu'
   have hr:(execOp a.eval o).run P w= .ok (.value (.bool (xs !=ys))) w:=by
    unfold execOp
    simp only[jf,hu,hu']
    rw[Sem.run_bind,hS xs ys x y w rfl hn.symm]
    rfl
   unfold iE
   rw[hr]
   exact⟨_,env,rfl,Kept.refl _ _,g,rfl,rfl,rfl⟩
  |_=>simp[QV]at h
 |_=>simp[QV]at h
end
def Yh(P:Program)(ty:Tag→Nat)(Γ:Nat→TK)(cr:List (Nat×CR))(st:St)(m:Nat)(d:Option Nat)(op:Op):Option (List Prop×St×SV):=
 match QD P ty Γ st m op with
 |some r=>some r
 |none=>match HE P ty Γ st m op with
  |some r=>some r
  |none=>match eio P ty Γ cr st d op with
   |some r=>some r
   |none=>match eiv P ty cr st d op with
    |some r=>some r
    |none=>match X0 P ty Γ cr st d op with
     |some r=>some r
     |none=>match efz P ty Γ st op with
      |some r=>some r
      |none=>match QV P Γ st op with
       |some r=>some r
       |none=>match QS P ty Γ st m op with
        |some r=>some r
        |none=>match acg P ty Γ st m op with
         |some r=>some r
         |none=>match aci Γ cr st m d op with
          |some r=>some r
          |none=>acm P ty Γ st m op
def Yi(Γ:Nat→TK)(st:St)(op:Op):Option (List Prop×St):=
 match abZ Γ st op with
 |some r=>some r
 |none=>match evs Γ st op with
  |some r=>some r
  |none=>agF Γ st op
def step(P:Program)(ty:Tag→Nat)(Γ:Nat→TK)(fQ:List (Nat×Nat))(cr:List (Nat×CR))(ops:List Oper)(st:St)(o:Oper):Option (List Prop×St):=
 match Xl Γ (P7 P ty) (Sound ty P) fQ cr ops st o with
 |some r=>some r
 |none=>match o.guard,BL st o.dst,aiM fQ o.dst with
  |none,true,some m=>match Hy Γ st o.op with
   |some st'=>match o.dst with|none=>some ([],st')|some _=>none
   |none=>match Yi Γ st o.op with
    |some (vc,st')=>match o.dst,U6 st' with|none,some st'=>some (vc,st')|_,_=>none
    |none=>match Yh P ty Γ cr st m o.dst o.op with
     |some (vc,st',v)=>match U6 st' with|some st'=>some (vc,st'.put o.dst v)|none=>none
     |none=>none
  |_,_,_=>none
def run(P:Program)(ty:Tag→Nat)(Γ:Nat→TK)(fQ:List (Nat×Nat))(cr:List (Nat×CR))(ops:List Oper):List Oper→St→List Prop→Option (List Prop×St)
 | [],st,acc=>some (acc,st)
 |o::r,st,acc=>match step P ty Γ fQ cr ops st o with
  |some ([],⟨n,sl,hp⟩)=>run P ty Γ fQ cr ops r ⟨n,sl,hp⟩ acc
  |some ([p],⟨n,sl,hp⟩)=>run P ty Γ fQ cr ops r ⟨n,sl,hp⟩ (p::acc)
  |some ([p,q],⟨n,sl,hp⟩)=>run P ty Γ fQ cr ops r ⟨n,sl,hp⟩ (p::q::acc)
  |some (l,⟨n,sl,hp⟩)=>run P ty Γ fQ cr ops r ⟨n,sl,hp⟩ (l++acc)
  |none=>none
@[reducible] def qK:List Prop→Prop
  | []=>True
  |p::r=>p∧qK r
theorem qK.out: ∀{l:List Prop},qK l→ ∀q,q∈l→q
 |p::r,h,q,hq=>by
  rcases bh.1 hq with rfl|hq
  ·exact h.1
  ·exact qK.out h.2 q hq
section
variable{P:Program}{zb:eK}{st st':St}{a:Act}{w:World}{Q:Exit→Act→World→Prop}{o:Oper}
theorem tP{v:SV}{d:Nat}(h: ∃x,v= .one x):v.mentions d=false:=by
 obtain⟨x,rfl⟩:=h;rfl
theorem lF.mono{ops:Array Oper}{K K':Act→World→Prop}(h: ∀a w,K a w→K' a w)(hr:lF P ops o a w K Q):lF P ops o a w K' Q:=by
 unfold lF at*
 split
 ·rename_i hw;rw[if_pos hw]at hr;exact hr.imp (qm h) id
 ·rename_i hw;rw[if_neg hw]at hr;exact h _ _ hr
theorem Yj{Γ:Nat→TK}(C: ∀t,fK P t (Γ t)){cr:List (Nat×CR)}{m:Nat}{vc:List Prop}{v:SV}{env:Env}{d:Option Nat}(h:Yh P ty Γ cr st m d o.op=some (vc,st',v))(g:Good ty zb st a.tmps w env)(hB:zb.w.heap.size≤w.heap.size)(hA:Lx zb)(hN:Lr w)(hv: ∀q,q∈vc→q):
  (∀k,v.mentions k=false)∧o.wp P a w (fun a' w'=> ∃u env',a'=a.put o.dst u∧Kept zb w w'∧Good ty zb st' a.tmps w' env'∧st'.n=st.n∧tF w' st'.hp env' a.tmps v u) Q:=by
 have one:(∃x,v= .one x)→ ∀k,v.mentions k=false:=fun hx k=>tP hx
 unfold Yh at h
 split at h
 ·rename_i r he
  simp only[oI]at h
  subst h
  refine⟨one ?_,abW C he g hB hv⟩
  unfold QD at he
  repeat' split at he
  all_goals first
   | (cases he;done)
   | (simp only[oI,pI]at he;exact⟨_,he.2.2.symm⟩)
 ·split at h
  ·rename_i r he
   simp only[oI]at h
   subst h
   refine⟨one ?_,US C he g hB hv⟩
   unfold HE at he
   repeat' split at he
   all_goals first
    | (cases he;done)
    | (simp only[oI,pI]at he;exact⟨_,he.2.2.symm⟩)
  ·split at h
   ·rename_i r he
    simp only[oI]at h
    subst h
    refine⟨one ?_,ags he g hB hA hN hv⟩
    unfold eio at he
    repeat' split at he
    all_goals first
     | (cases he;done)
     | (simp only[oI,pI]at he;exact⟨_,he.2.2.symm⟩)
   ·split at h
    ·rename_i r he
     simp only[oI]at h
     subst h
     refine⟨one ?_,agu (Γ:=Γ) he g hB hA hN hv⟩
     unfold eiv at he
     repeat' split at he
     all_goals first
      | (cases he;done)
      | (simp only[oI,pI]at he;exact⟨_,he.2.2.symm⟩)
    ·split at h
     ·rename_i r he
      simp only[oI]at h
      subst h
      exact ab8 he g hB hA hN hv
     ·split at h
      ·rename_i r he
       simp only[oI]at h
       subst h
       refine⟨one ?_,agw C he g hB hv⟩
       unfold efz at he
       repeat' split at he
       all_goals first
        | (cases he;done)
        | (simp only[oI,pI]at he;exact⟨_,he.2.2.symm⟩)
      ·split at h
       ·rename_i r he
        simp only[oI]at h
        subst h
        refine⟨one ?_,acs he g hv⟩
        unfold QV at he
        repeat' split at he
        all_goals first
         | (cases he;done)
         | (simp only[oI,pI]at he;exact⟨_,he.2.2.symm⟩)
       ·split at h
        ·rename_i r he
         simp only[oI]at h
         subst h
         refine⟨one ?_,ace C he g hB hv⟩
         unfold QS at he
         repeat' split at he
         all_goals first
          | (cases he;done)
          | (simp only[oI,pI]at he;exact⟨_,he.2.2.symm⟩)
        ·split at h
         ·rename_i r he
          simp only[oI]at h
          subst h
          refine⟨one ?_,ach C he g hB hv⟩
          unfold acg at he
          repeat' split at he
          all_goals first
           | (cases he;done)
           | (simp only[oI,pI]at he;exact⟨_,he.2.2.symm⟩)
         ·split at h
          ·rename_i r he
           simp only[oI]at h
           subst h
           refine⟨one ?_,acj C he g hB hv⟩
           unfold aci at he
           repeat' split at he
           all_goals first
            | (cases he;done)
            | (simp only[oI,pI]at he;exact⟨_,he.2.2.symm⟩)
          ·refine⟨one ?_,acn C h g hB hv⟩
           unfold acm at h
           repeat' split at h
           all_goals first
            | (cases h;done)
            | (simp only[oI,pI]at h;exact⟨_,h.2.2.symm⟩)
theorem Yk{Γ:Nat→TK}(C: ∀t,fK P t (Γ t))(Z: ∀t,(∀z tg fo,Γ t≠ .st z tg fo)→Γ t≠ .other→(P.info? t).map (·.size)=some 1){vc:List Prop}{env:Env}(h:Yi Γ st o.op=some (vc,st'))(g:Good ty zb st a.tmps w env)(hB:zb.w.heap.size≤w.heap.size)(hv: ∀q,q∈vc→q):
  o.wp P a w (fun a' w'=> ∃env',a'=a.put o.dst undef∧Kept zb w w'∧Good ty zb st' a.tmps w' env'∧st'.n=st.n) Q:=by
 unfold Yi at h
 split at h
 ·rename_i r hr
  simp only[oI]at h
  subst h
  exact ab0 C Z hr g hv
 ·split at h
  ·rename_i r hr
   simp only[oI]at h
   subst h
   exact agv C Z hr g hB hv
  ·exact acq Z h g hv
theorem zC{Γ:Nat→TK}(C: ∀t,fK P t (Γ t))(Z: ∀t,(∀z tg fo,Γ t≠ .st z tg fo)→Γ t≠ .other→(P.info? t).map (·.size)=some 1){fQ:List (Nat×Nat)}{cr:List (Nat×CR)}{ops:List Oper}{vc:List Prop}(h:step P ty Γ fQ cr ops st o=some (vc,st'))(iv:Inv ty zb st a w)(hv: ∀q,q∈vc→q):
  lF P ops.toArray o a w (fun a' w'=>Inv ty zb st' a' w') Q:=by
 simp only[step]at h
 split at h
 ·rename_i r hq
  simp only[oI]at h
  subst h
  exact XJ C hq iv hv
 ·split at h
  ·rename_i m hg hd _
   have Fa:=LI iv hd
   obtain⟨env,g⟩:=iv.good
   have hBz:=iv.kept.size
   split at h
   ·rename_i s1 hs
    split at h
    ·rename_i agI
     simp only[oI,pI]at h
     obtain⟨rfl,rfl⟩:=h
     refine mX hg (qm ?_ (UR (Q:=Q) C Z hs g))
     rintro a' w' ⟨rfl,hb,hg',hn,Cd⟩
     rw[agI]
     exact⟨by rw[lE,hn];exact iv.size,by rw[put_defers];exact iv.defers,iv.kept.trans hb,iv.Jx,env,hg'⟩
    ·cases h
   ·split at h
    ·rename_i tG s1 hs
     split at h
     ·rename_i s2 agI hfs
      have hfs:=sI hfs
      subst hfs
      simp only[oI,pI]at h
      obtain⟨rfl,rfl⟩:=h
      refine mX hg (qm ?_ (Yk (Q:=Q) C Z hs g hBz hv))
      rintro a' w' ⟨env',rfl,hb,hg',hn⟩
      rw[agI]
      exact⟨by rw[lE,hn];exact iv.size,by rw[put_defers];exact iv.defers,iv.kept.trans hb,iv.Jx,env',hg'⟩
     ·cases h
    ·split at h
     ·rename_i tG s1 v he
      split at h
      case h_2=>cases h
      rename_i s2 hfs
      have hfs:=sI hfs
      subst hfs
      simp only[oI,pI]at h
      obtain⟨rfl,rfl⟩:=h
      obtain⟨FR,hwp⟩:=Yj (Q:=Q) C he g hBz iv.Jx (iv.Jx.now iv.kept) hv
      refine mX hg (qm ?_ hwp)
      rintro a' w' ⟨u,env',rfl,hb,hg',hn,hr⟩
      refine⟨by rw[lE,Av,hn];exact iv.size,by rw[put_defers];exact iv.defers,iv.kept.trans hb,iv.Jx,env',sC hg' Fa hr fun d _=>FR d⟩
     ·cases h
  ·cases h
theorem DS{Γ:Nat→TK}{fQ:List (Nat×Nat)}{cr:List (Nat×CR)}{ops:List Oper}{r:List Oper}{acc vcs:List Prop}{Gs:St}(h:run P ty Γ fQ cr ops (o::r) st acc=some (vcs,Gs)):
  ∃vc FV,step P ty Γ fQ cr ops st o=some (vc,FV)∧run P ty Γ fQ cr ops r FV (vc++acc)=some (vcs,Gs):=by
 simp only[run]at h
 split at h
 ·rename_i n sl hp hs;exact⟨[],⟨n,sl,hp⟩,hs,h⟩
 ·rename_i p n sl hp hs;exact⟨[p],⟨n,sl,hp⟩,hs,h⟩
 ·rename_i p q n sl hp hs;exact⟨[p,q],⟨n,sl,hp⟩,hs,h⟩
 ·rename_i l n sl hp _ _ _ hs;exact⟨_,⟨n,sl,hp⟩,hs,h⟩
 ·cases h
theorem Ce{Γ:Nat→TK}{fQ:List (Nat×Nat)}{cr:List (Nat×CR)}{ops:List Oper}: ∀{l:List Oper} {st Gs:St} {acc vcs:List Prop},run P ty Γ fQ cr ops l st acc=some (vcs,Gs)→ ∀q,q∈acc→q∈vcs
 | [],st,Gs,acc,vcs,h,q,hq=>by
   simp only[run,oI,pI]at h
   rw[←h.1];exact hq
 |o::r,st,Gs,acc,vcs,h,q,hq=>by
  obtain⟨vc,FV,_,h2⟩:=DS h
  exact Ce h2 q (aH _ hq)
theorem QX{Γ:Nat→TK}(C: ∀t,fK P t (Γ t))(Z: ∀t,(∀z tg fo,Γ t≠ .st z tg fo)→Γ t≠ .other→(P.info? t).map (·.size)=some 1){fQ:List (Nat×Nat)}{cr:List (Nat×CR)}{ops:List Oper}{Gs:St}{vcs:List Prop}
  (hQ: ∀a w,Inv ty zb Gs a w→Q .normal a w): ∀{l:List Oper} {st:St} {acc:List Prop} {a:Act} {w:World},run P ty Γ fQ cr ops l st acc=some (vcs,Gs)→(∀q,q∈vcs→q)→Inv ty zb st a w→wpList P ops.toArray Q l a w
 | [],st,acc,a,w,h,hv,iv=>by
   simp only[run,oI,pI]at h
   obtain⟨_,rfl⟩:=h
   exact hQ a w iv
 |o::r,st,acc,a,w,h,hv,iv=>by
  obtain⟨vc,FV,h1,h2⟩:=DS h
  have:=zC (Q:=Q) C Z h1 iv (fun q hq=>hv q (Ce h2 q (aN _ hq)))
  exact this.mono fun a' w' uz=>QX C Z hQ h2 hv uz
end
abbrev Post:=Exit→St→Prop
def JP(ty:Tag→Nat)(zb:eK)(Q:Post):Exit→Act→World→Prop:=fun e a w=> ∃st,Inv ty zb st a w∧Q e st
def W(P:Program)(ty:Tag→Nat)(zb:eK)(c:Code)(Q:Post)(st:St):Prop:= ∀a w,Inv ty zb st a w→c.wp P (JP ty zb Q) a w
def Post.then(next:St→Prop)(Q:Post):Post
 | .normal,st=>next st
 |e,st=>Q e st
def Post.inBlock(id:Nat)(Q:Post):Post
 | .exit i,st=>if i=id then Q .normal st else Q (.exit i) st
 |e,st=>Q e st
def Fh(sl:List (Nat×SV)):List Nat→Option (List (Nat×SV))
 | []=>some []
 |s::r=>match look sl s with
  |some x=>match fS x,Fh sl r with
   |some x,some l=>some ((s,x)::l)
   |_,_=>none
  |none=>none
def Fi(hp:Hp):List Nat→Option Hp
 | []=>some []
 |s::r=>match look hp s with
  |some x=>match fO x,Fi hp r with
   |some x,some l=>some ((s,x)::l)
   |_,_=>none
  |none=>none
def qL(hp:Hp)(v:V):Bool:=match v.name with|some n=>(match look hp n with|some _=>true|none=>false)|none=>true
def vT(hp:Hp):S1→Bool
 | .a v=>qL hp v
 | .agg l=>l.all (qL hp)
def SH(hp:Hp):SV→Bool
 | .one x=>vT hp x
 | .Au l=>l.all (vT hp)
 | .cond _ x=>vT hp x
def Cf(hp:Hp):Obj→Bool
 | .box c=>c.all (qL hp)
 | .arr _ _=>true
 | .jG _ _ s=>match s.name with|some n=>(match look hp n with|some _=>true|none=>false)|none=>true
def vU(sl:List (Nat×SV))(hp:Hp):Bool:=(sl.all fun e=>SH hp e.2)&&hp.all fun e=>Cf hp e.2
def V.nms(v:V):List Nat:=match v.name with|some n=> [n]|none=> []
def SV.nms:SV→List Nat
 | .one (.a v)=>v.nms
 | .one (.agg l)=>l.flatMap V.nms
 | .Au l=>l.flatMap fun x=>(match x with| .a v=>v.nms| .agg l=>l.flatMap V.nms)
 | .cond _ (.a v)=>v.nms
 | .cond _ (.agg l)=>l.flatMap V.nms
def QY:Nat→Hp→List Nat→List Nat→List Nat
 |0,_,_,acc=>acc
 |_,_,[],acc=>acc
 |f+1,hp,n::r,acc=>match acc.any (aU n)with
  |true=>QY f hp r acc
  |false=>QY f hp (match look hp n with|some (.box c)=>c.flatMap V.nms++r|some (.jG _ _ (.of m))=>m::r|_=>r) (acc++ [n])
def LZ(sl:List (Nat×SV)):List Nat→List Nat
 | []=> []
 |s::r=>match look sl s with|some x=>x.nms++LZ sl r|none=>LZ sl r
def SI(sl:List (Nat×SV))(hp:Hp)(ks:List Nat):List Nat→List Nat
 | []=>QY 300 hp (LZ sl ks++(hp.map Prod.fst).filter nI) []
 |hs=>hs
def reg(P:Program)(ty:Tag→Nat)(Γ:Nat→TK)(fQ:List (Nat×Nat))(cr:List (Nat×CR))(ks hs:List Nat)(ops:List Oper):St→Option (List Prop×St)
 | ⟨n,sl0,kV⟩=>match run P ty Γ fQ cr ops ops ⟨n,sl0,kV⟩ []with
 |some (vc,st')=>match Fh st'.sl ks,Fi st'.hp (SI st'.sl st'.hp ks hs)with
  |some sl,some hp=>match vU sl hp,aU st'.n n with
   |true,true=>some (vc,⟨n,sl,hp⟩)
   |_,_=>none
  |_,_=>none
 |none=>none
theorem pe{sl:List (Nat×SV)}: ∀{ks:List Nat} {l:List (Nat×SV)},Fh sl ks=some l→ ∀s v,look l s=some v→look sl s=some v
 | [],l,h,s,v,hl=>by
   simp only[Fh,oI]at h
   subst h;cases hl
 |k::r,l,h,s,v,hl=>by
  simp only[Fh]at h
  split at h
  ·rename_i x0 h1
   split at h
   ·rename_i x l' hf h2
    simp only[oI]at h
    subst h
    by_cases hs:s=k
    ·subst hs;rw[look_eq]at hl;rw[←hl,Yf hf];exact h1
    ·rw[cj hs]at hl;exact pe h2 s v hl
   ·cases h
  ·cases h
theorem pg{hp:Hp}: ∀{ks:List Nat} {l:Hp},Fi hp ks=some l→ ∀s v,look l s=some v→look hp s=some v
 | [],l,h,s,v,hl=>by
   simp only[Fi,oI]at h
   subst h;cases hl
 |k::r,l,h,s,v,hl=>by
  simp only[Fi]at h
  split at h
  ·rename_i x0 h1
   split at h
   ·rename_i x l' hf h2
    simp only[oI]at h
    subst h
    by_cases hs:s=k
    ·subst hs;rw[look_eq]at hl;rw[←hl,aeI hf];exact h1
    ·rw[cj hs]at hl;exact pg h2 s v hl
   ·cases h
  ·cases h
theorem zD{hp:Hp}{v:V}(h:qL hp v=true): ∀n,v.name=some n→look hp n≠none:=by
 intro n hn hl
 simp[qL,hn,hl]at h
theorem AS{hp:Hp}{x:S1}(h:vT hp x=true): ∀v,v∈x.vs→qL hp v=true:=by
 intro v hv
 cases x with
 |a y=>simp only[S1.vs,aR]at hv;subst hv;exact h
 |agg l=>exact bw.1 h v hv
theorem QZ{hp:Hp}{x:SV}(h:SH hp x=true): ∀v,v∈x.vs→qL hp v=true:=by
 intro v hv
 cases x with
 |one x=>exact AS h v hv
 |Au l=>
  simp only[SV.vs,kM]at hv
  obtain⟨y,hy,hv⟩:=hv
  exact AS (bw.1 h y hy) v hv
 |cond p x=>exact AS h v hv
theorem Good.weaken{zb:eK}{st st':St}{tmps:Array Value}{w:World}{env:Env}(g:Good ty zb st tmps w env)(hs: ∀s v,look st'.sl s=some v→look st.sl s=some v)(hh: ∀n o,look st'.hp n=some o→look st.hp n=some o)
  (AQ: ∀s v,look st'.sl s=some v→ ∀x,x∈v.vs→qL st'.hp x=true)(LL: ∀m o,look st'.hp m=some o→Cf st'.hp o=true):Good ty zb st' tmps w env:=by
 have s:Step (fun n=>look st'.hp n≠none) (fun n=>look st'.hp n≠none) w st.hp env w st'.hp env:=by
  refine⟨fun _ _ _=>rfl,?_,?_,?_⟩
  ·rintro b _ ⟨n,o,h1,h2⟩;exact⟨n,o,hh n o h1,h2⟩
  ·intro n o hK h1
   cases hq:look st'.hp n with
   |none=>exact absurd hq hK
   |some o'=>
    have:=hh n o' hq
    rw[h1]at this
    simp only[oI]at this
    subst this
    exact⟨o,rfl,by cases o<;>simp[Obj.like],rfl⟩
  ·intro n t l hK h1
   cases hq:look st'.hp n with
   |none=>exact absurd hq hK
   |some o'=>
    have:=hh n o' hq
    rw[h1]at this
    simp only[oI]at this
    subst this
    exact⟨rfl,rfl,fun _ _=>rfl⟩
 have ajs: ∀v,qL st'.hp v=true→v.xP (fun n=>look st'.hp n≠none) (fun n=>look st'.hp n≠none):=fun v h=>⟨fun n hn=>zD h n hn,fun n hn=>zD h n (V.uL hn)⟩
 refine⟨fun n o hl=> ?_,fun n m o o' hne h1 h2=>g.mu n m o o' hne (hh n o h1) (hh m o' h2),fun t v hl=>tF.step s (fun x hx=>ajs x (AQ t v hl x hx)) (g.slot t v (hs t v hl)),fun n o hl=>g.dom n o (hh n o hl),g.pins⟩
 refine(g.obj n o (hh n o hl)).step s ?_ (fun _ _=>rfl)
 have hO:=LL n o hl
 cases o with
 |box c=>exact fun v hv=>ajs v (bw.1 hO v hv)
 |arr t l=>trivial
 |jG t l r=>
  intro m hm
  simp only[Cf,hm]at hO
  intro he
  rw[he]at hO
  cases hO
theorem Q0{sl:List (Nat×SV)}{hp:Hp}(h:vU sl hp=true):(∀s v,look sl s=some v→ ∀x,x∈v.vs→qL hp x=true)∧(∀m o,look hp m=some o→Cf hp o=true):=by
 simp only[vU,ak,bw]at h
 exact⟨fun s v hl=>QZ (h.1 _ (ji hl)),fun m o hl=>h.2 _ (ji hl)⟩
theorem Inv.weaken{zb:eK}{st st':St}{a:Act}{w:World}(iv:Inv ty zb st a w)(hn:st'.n=st.n)(hs: ∀s v,look st'.sl s=some v→look st.sl s=some v)(hh: ∀n o,look st'.hp n=some o→look st.hp n=some o)(hc:vU st'.sl st'.hp=true):Inv ty zb st' a w:=by
 obtain⟨env,g⟩:=iv.good
 obtain⟨c1,c2⟩:=Q0 hc
 exact⟨by rw[iv.size,hn],iv.defers,iv.kept,iv.Jx,env,g.weaken hs hh c1 c2⟩
structure Ctx(P:Program)(ty:Tag→Nat)(Γ:Nat→TK):Prop where
 kind: ∀t,fK P t (Γ t)
 one: ∀t,(∀z tg fo,Γ t≠ .st z tg fo)→Γ t≠ .other→(P.info? t).map (·.size)=some 1
section
variable{P:Program}{Γ:Nat→TK}{zb:eK}{Q:Post}{st:St}
theorem U7{fQ:List (Nat×Nat)}{cr:List (Nat×CR)}{ks hs:List Nat}{ops:List Oper}{vc:List Prop}{st':St}(h:reg P ty Γ fQ cr ks hs ops st=some (vc,st')): ∃s1,run P ty Γ fQ cr ops ops st []=some (vc,s1)∧
  ∀a w,Inv ty zb s1 a w→Inv ty zb st' a w:=by
 obtain⟨n,sl0,kV⟩:=st
 simp only[reg]at h
 split at h
 ·rename_i tG s1 hr
  split at h
  ·rename_i sl hp h1 h2
   split at h
   ·rename_i hc hn
    simp only[oI,pI]at h
    obtain⟨rfl,rfl⟩:=h
    exact⟨s1,hr,fun a w iv=>iv.weaken (ay hn).symm (pe h1) (pg h2) hc⟩
   ·cases h
  ·cases h
 ·cases h
theorem bH(X:Ctx P ty Γ)(fQ:List (Nat×Nat))(cr:List (Nat×CR))(ks hs:List Nat){id:Nat}{ops:List Oper}{vc:List Prop}{st':St}(h:reg P ty Γ fQ cr ks hs ops st=some (vc,st'))(hv:qK vc)(k:Q .normal st'):W P ty zb (.region id ops.toArray false) Q st:=by
 intro a w iv
 obtain⟨s1,h1,h2⟩:=U7 (zb:=zb) h
 exact wp_region_lit (QX X.kind X.one (fun a w uz=>⟨st',h2 a w uz,k⟩) h1 hv.out iv)
theorem ny(X:Ctx P ty Γ)(ks:List Nat){id:Nat}{ops:List Oper}{vc:List Prop}{st':St}(h:G.reg P ty Γ [] [] ks [] ops st=some (vc,st'))(hv:qK vc)(k:Q .normal st'):W P ty zb (.region id ops.toArray false) Q st:=bH X [] [] ks [] h hv k
theorem cW(X:Ctx P ty Γ)(ks:List Nat){id:Nat}{ops:List Oper}{st':St}(h:G.reg P ty Γ [] [] ks [] ops st=some ([],st'))(k:Q .normal st'):W P ty zb (.region id ops.toArray false) Q st:=ny X ks h ⟨⟩ k
theorem ah{x y:Code}(h:W P ty zb x (Post.then (W P ty zb y Q) Q) st):W P ty zb (.seq x y) Q st:=by
 intro a w iv
 refine wp_seq (wp_mono (h a w iv) ?_)
 rintro e a' w' ⟨st',uz,hq⟩
 cases e with
 |normal=>exact hq a' w' uz
 |_=>exact⟨st',uz,hq⟩
theorem aS(X:Ctx P ty Γ)(fQ:List (Nat×Nat))(cr:List (Nat×CR))(ks hs:List Nat){y:Code}{id:Nat}{ops:List Oper}{vc:List Prop}{st':St}(h:G.reg P ty Γ fQ cr ks hs ops st=some (vc,st'))(hv:qK vc)(k:W P ty zb y Q st'):W P ty zb (.seq (.region id ops.toArray false) y) Q st:=ah (bH X fQ cr ks hs h hv k)
theorem aT(X:Ctx P ty Γ)(ks:List Nat){y:Code}{id:Nat}{ops:List Oper}{vc:List Prop}{st':St}(h:G.reg P ty Γ [] [] ks [] ops st=some (vc,st'))(hv:qK vc)(k:W P ty zb y Q st'):W P ty zb (.seq (.region id ops.toArray false) y) Q st:=aS X [] [] ks [] h hv k
theorem aF(X:Ctx P ty Γ)(ks:List Nat){y:Code}{id:Nat}{ops:List Oper}{st':St}(h:G.reg P ty Γ [] [] ks [] ops st=some ([],st'))(k:W P ty zb y Q st'):W P ty zb (.seq (.region id ops.toArray false) y) Q st:=aT X ks h ⟨⟩ k
theorem aE(h:Q .normal st):W P ty zb .skip Q st:=fun _ _ iv=>wp_skip ⟨st,iv,h⟩
theorem bp{id:Nat}(h:Q (.exit id) st):W P ty zb (.exit id) Q st:=fun _ _ iv=>wp_exit ⟨st,iv,h⟩
theorem az(h:Q .ret st):W P ty zb .ret Q st:=fun _ _ iv=>wp_ret ⟨st,iv,h⟩
theorem aG{id:Nat}{c:Code}(h:W P ty zb c (Post.inBlock id Q) st):W P ty zb (.block id c) Q st:=by
 intro a w iv
 refine wp_block (wp_mono (h a w iv) ?_)
 rintro e a' w' ⟨st',uz,hq⟩
 cases e with
 |exit i=>
  simp only[Post.inBlock]at hq
  simp only[Exit.inBlock]
  split
  ·rename_i hi;rw[if_pos hi]at hq;exact⟨st',uz,hq⟩
  ·rename_i hi;rw[if_neg hi]at hq;exact⟨st',uz,hq⟩
 |_=>exact⟨st',uz,hq⟩
theorem aA{c:Operand}{x y:Code}{b:Bool}(hc:jH st [] c=some (.a (.lit (.bool b))))(h1:b=true→W P ty zb x Q st)(h2:b=false→W P ty zb y Q st):W P ty zb (.cond c x y) Q st:=by
 intro a w iv
 obtain⟨env,g⟩:=iv.good
 have:=(gG g (fun e he=>by simp at he) hc).lit
 exact wp_cond_split this (fun hb=>h1 hb a w iv) (fun hb=>h2 hb a w iv)
theorem acv{ι:Type}(p:ι→Prop)(I:ι→St)(μ:ι→Nat)(i:ι){c:Code}(hp:p i)(h0: ∀a w,Inv ty zb st a w→Inv ty zb (I i) a w)
  (round: ∀i,p i→W P ty zb c (Post.then (fun st'=> ∃j,p j∧μ j<μ i∧ ∀a w,Inv ty zb st' a w→Inv ty zb (I j) a w) Q) (I i)):W P ty zb (.loop c) Q st:=by
 intro a w iv b k cs
 have key: ∀n i a w,μ i=n→p i→Inv ty zb (I i) a w→ ∃e a' w',JP ty zb Q e a' w'∧Arrives P (lone (b.at a (.code c:: .inLoop c::k)) cs w) b k cs e a' w':=by
  intro n
  induction n using Nat.strongRecOn with
  |_ n ih=>
   intro i a w hn hpi iv
   obtain⟨e,a₁,w₁,⟨st',uz,hq⟩,Oa⟩:=round i hpi a w iv b (.inLoop c::k) cs
   cases e with
   |normal=>
    obtain⟨j,hpj,hlt,hj⟩:=hq
    obtain⟨e₂,a₂,w₂,hq₂,aju⟩:=ih (μ j) (hn▸hlt) j a₁ w₁ rfl hpj (hj _ _ uz)
    exact⟨e₂,a₂,w₂,hq₂, .of_steps (Steps.trans Oa (.one step_inLoop)) aju⟩
   |exit id=>exact⟨_,a₁,w₁,⟨st',uz,hq⟩, .pass (x:= .inLoop c) rfl (fun _ _=> .inl (by simp)) Oa⟩
   |goto l=>exact⟨_,a₁,w₁,⟨st',uz,hq⟩, .pass (x:= .inLoop c) rfl (fun _ _=> .inl (by simp)) Oa⟩
   |ret=>exact⟨_,a₁,w₁,⟨st',uz,hq⟩, .pass (x:= .inLoop c) rfl (fun _ _=> .inl (by simp)) Oa⟩
   |panic ch=>exact⟨_,a₁,w₁,⟨st',uz,hq⟩, .pass (x:= .inLoop c) rfl (fun _ _=> .inl (by simp)) Oa⟩
   |outgrown=>exact⟨_,a₁,w₁,⟨st',uz,hq⟩, .pass (x:= .inLoop c) rfl (fun _ _=> .inl (by simp)) Oa⟩
 obtain⟨e,a',w',hq,Oa⟩:=key _ i a w rfl hp (h0 a w iv)
 exact⟨e,a',w',hq, .of_steps (.one step_loop) Oa⟩
def aeN:List (Nat×SV)→List (Nat×SV)→Option (List (Nat×SV))
 | [],_=>some []
 | (s,x)::r,ov=>match fS (match look ov s with|some y=>y|none=>x),aeN r ov with
   |some x,some l=>some ((s,x)::l)
   |_,_=>none
def aeO:Hp→Hp→Option Hp
 | [],_=>some []
 | (s,x)::r,ov=>match fO (match look ov s with|some y=>y|none=>x),aeO r ov with
   |some x,some l=>some ((s,x)::l)
   |_,_=>none
def over:St→List (Nat×SV)→Hp→Option St
 | ⟨n,sl,hp⟩,ov,oh=>match aeN sl ov,aeO hp oh with
   |some sl,some hp=>some ⟨n,sl,hp⟩
   |_,_=>none
theorem aW{ι:Type}(p:ι→Prop)(ov:ι→List (Nat×SV))(oh:ι→Hp)(μ:ι→Nat)(i:ι){c:Code}{I:ι→St}(_hI: ∀k,over st (ov k) (oh k)=some (I k))(hp:p i)(h0:I i=st)
  (round: ∀i,p i→W P ty zb c (Post.then (fun st'=> ∃j,p j∧μ j<μ i∧st'=I j) Q) (I i)):W P ty zb (.loop c) Q st:=by
 refine acv p I μ i hp (fun a w iv=>by rw[h0];exact iv) fun i hi=> ?_
 intro a w iv
 refine wp_mono (round i hi a w iv) ?_
 rintro e a' w' ⟨st',uz,hq⟩
 cases e with
 |normal=>
  obtain⟨j,h1,h2,rfl⟩:=hq
  exact⟨_,uz,j,h1,h2,fun a w h=>h⟩
 |_=>exact⟨st',uz,hq⟩
end
end
section
variable{ty:Tag→Nat}
def enter:Nat→List S1→List (Nat×SV)
 |_,[]=> []
 |i,x::r=>(i, .one x)::enter (i+1) r
def Yl(Γ:Nat→TK)(st:St):ResultVar→Option S1
 | .tmp t=>match look st.sl t with|some (.one x)=>some x|_=>none
 | .cell p t=>match look st.sl p with
   |some (.one (.a (.ptr n 0)))=>match look st.hp n,Γ t with
    |some (.box c), .st z _ _=>match aU c.length z.length with|true=>some (.agg c)|false=>none
    |_,_=>none
   |_=>none
def Cg(Γ:Nat→TK)(st:St):List ResultVar→Option (List S1)
 | []=>some []
 |r::rs=>match Yl Γ st r,Cg Γ st rs with|some x,some xs=>some (x::xs)|_,_=>none
def Ym(st:St):V→V→Option (List Prop×List Nat)
 | .lit v, .lit u=>some ([v=u],[])
 | .lit (.slice none 0 0), .sl _ l=>some ([l= []],[])
 | .own n, .sl t l=>match look st.hp n,soft n with
   |some (.arr t' l'),false=>match kL t t' l' with
    |some l2=>some ([l2=l],[n])
    |none=>none
   |_,_=>none
 | .lit (.slice none 0 0), .vw _ _ _ l=>some ([l= []],[])
 | .own n, .vw _ _ t l=>match look st.hp n with
   |some (.arr t' l')=>match kL t t' l' with
    |some l2=>some ([l2=l],[n])
    |none=>none
   |_=>none
 | .vw n _ t' l', .vw _ _ t l=>match kL t t' l' with
   |some l2=>some ([l2=l],[n])
   |none=>none
 |_,_=>none
def meet(st:St):List V→List V→Option (List Prop×List Nat)
 | [],[]=>some ([],[])
 |x::r,y::s=>match Ym st x y,meet st r s with
  |some (vc,k),some (vcs,ks)=>some (rz vc vcs,rz k ks)
  |_,_=>none
 |_,_=>none
def SJ(st:St):S1→S1→Option (List Prop×List Nat)
 | .a v, .a u=>meet st [v] [u]
 | .agg l, .agg m=>meet st l m
 |_,_=>none
def meets(st:St):List S1→List S1→Option (List Prop×List Nat)
 | [],[]=>some ([],[])
 |x::r,y::s=>match SJ st x y,meets st r s with
  |some (vc,k),some (vcs,ks)=>some (rz vc vcs,rz k ks)
  |_,_=>none
 |_,_=>none
def ends(Γ:Nat→TK)(st:St)(zE:List ResultVar)(rs:List S1):Option (List Prop):=
 match Cg Γ st zE with
 |some xs=>match meets st xs rs with
  |some (vc,k)=>match uw k with|true=>some vc|false=>none
  |none=>none
 |none=>none
def Fin(Γ:Nat→TK)(zE:List ResultVar)(rs:List S1):Post:=fun e st=>(e= .ret∨e= .normal)∧ ∃vc,ends Γ st zE rs=some vc∧qK vc
theorem aj{Γ:Nat→TK}{zE:List ResultVar}{rs:List S1}{st:St}{vc:List Prop}(h:ends Γ st zE rs=some vc)(hv:qK vc):Fin Γ zE rs .ret st:=⟨.inl rfl,vc,h,hv⟩
theorem mo.lift{α:Type}{k:Nat}{E:ER α}{lo e:Nat}{w:World}{v:Value}{l:List α}{fp:List Nat}(h:mo k E 0 e w v l fp)(hl: ∀b,b∈fp→lo≤b):mo k E lo e w v l fp:=by
 obtain⟨xs,cB,hown,hf,he,rfl,ho⟩:=h
 refine⟨xs,cB,⟨hown.1,?_⟩,hf,he,rfl,⟨ho.nodup,hl,ho.kind⟩⟩
 rcases hown.2 with h| ⟨g,o,cap,cur,rfl,hbg,r⟩
 ·exact bI h
 ·exact bn ⟨g,o,cap,cur,rfl,hl g (by simp[gS]),r⟩
section
variable{P:Program}{zb:eK}{st:St}{a:Act}{w:World}{env:Env}
theorem Ax{Γ:Nat→TK}(C: ∀t,fK P t (Γ t))(g:Good ty zb st a.tmps w env){r:ResultVar}{x:S1}(h:Yl Γ st r=some x):
  ∃u,ju w st.hp env x u∧(match r with| .tmp t=>a.tmps.getD t undef=u| .cell p t=> ∃ad,a.tmps.getD p undef= .pointer (some ad)∧(loadVar t ad).run P w= .ok u w):=by
 cases r with
 |tmp t=>
  simp only[Yl]at h
  split at h
  ·rename_i y hl
   simp only[oI]at h
   subst h
   exact⟨_,g.slot t _ hl,rfl⟩
  ·cases h
 |cell p t=>
  simp only[Yl]at h
  split at h
  ·rename_i n hl
   split at h
   ·rename_i c z tg fo hb hk
    split at h
    ·rename_i hlen
     have hlen:=ay hlen
     simp only[oI]at h
     subst h
     obtain⟨_,b,hv,hu⟩:=g.slot p _ hl
     obtain⟨b',cs,e,BU,hh,hc⟩:=g.obj n _ hb
     have hbb:b=b':=by rw[BU]at hv;simpa using hv.symm
     subst hbb
     have hC:=C t
     rw[hk]at hC
     obtain⟨fs,Wr,hi,_⟩:=hC
     have hi':(P.info? t).map (·.size)=some cs.length:=by
      rw[hc.len,hlen]
      cases hq:P.info? t with
      |none=>simp[hq]at hi
      |some i=>simp[hq]at hi;simp[hi.1]
     refine⟨.agg cs.toArray,⟨cs,rfl,hc⟩,?_⟩
     have BV:w.rangeAt b 0 cs:=by simpa using Xb hh
     exact⟨_,hu,run_loadVar_mid w b 0 t cs _ BV Wr rfl hi'⟩
    ·cases h
   ·cases h
  ·cases h
theorem SK(g:Good ty zb st a.tmps w env){k1 k2:List Nat}{f1 f2:List Nat}(hnd:(k1++k2).Nodup)(p2:Own zb.w.heap.size w f1)(p3: ∀b,b∈f1→ ∃i o,i∈k1∧look st.hp i=some o∧b∈(env i).fp)(q2:Own zb.w.heap.size w f2)(q3: ∀b,b∈f2→ ∃i o,i∈k2∧look st.hp i=some o∧b∈(env i).fp):
  Own zb.w.heap.size w (f1++f2)∧ ∀b,b∈f1++f2→ ∃i o,i∈k1++k2∧look st.hp i=some o∧b∈(env i).fp:=by
 obtain⟨n1,n2,n3⟩:=bf.1 hnd
 refine⟨⟨bf.2 ⟨p2.nodup,q2.nodup,?_⟩,fun b hb=> ?_,fun b hb=> ?_⟩,fun b hb=> ?_⟩
 ·rintro b hb z hz rfl
  obtain⟨n,o1,h1,h2,h3⟩:=p3 b hb
  obtain⟨m,o2,h4,h5,h6⟩:=q3 b hz
  exact g.mu n m _ _ (fun e=>n3 n h1 m h4 e) h2 h5 b h3 h6
 ·rcases aL.1 hb with hb|hb
  ·exact p2.ge b hb
  ·exact q2.ge b hb
 ·rcases aL.1 hb with hb|hb
  ·exact p2.kind b hb
  ·exact q2.kind b hb
 ·rcases aL.1 hb with hb|hb
  ·obtain⟨n,o1,h1,h2,h3⟩:=p3 b hb;exact⟨n,o1,aN _ h1,h2,h3⟩
  ·obtain⟨n,o1,h1,h2,h3⟩:=q3 b hb;exact⟨n,o1,aH _ h1,h2,h3⟩
theorem Yn(hL:zb.L= [])(g:Good ty zb st a.tmps w env){x y:V}{u:Value}{vc:List Prop}{k:List Nat}(hr:RA w st.hp env x u)(h:Ym st x y=some (vc,k))(hv: ∀q,q∈vc→q):
  ∃fp,RB ty w zb.w.heap.size y u fp∧Own zb.w.heap.size w fp∧ ∀b,b∈fp→ ∃i o,i∈k∧look st.hp i=some o∧b∈(env i).fp:=by
 unfold Ym at h
 split at h
 ·simp only[oI,pI]at h
  obtain⟨rfl,rfl⟩:=h
  have hl:=hv _ (aR.2 rfl)
  obtain⟨rfl,ho⟩:=hr
  exact⟨[],⟨hl,hl▸ho,rfl⟩,Own.nil _ _,by simp⟩
 ·simp only[oI,pI]at h
  obtain⟨rfl,rfl⟩:=h
  have hl:=hv _ (aR.2 rfl)
  subst hl
  obtain⟨rfl,ho⟩:=hr
  exact⟨[],mo.nil _ _ _ _ _,Own.nil _ _,by simp⟩
 ·rename_i n t l
  split at h
  ·rename_i t' l' hl NS
   split at h
   ·rename_i l2 hc
    simp only[oI,pI]at h
    obtain⟨rfl,rfl⟩:=h
    have oO:=hv _ (aR.2 rfl)
    subst oO
    obtain⟨e,rfl⟩:=ga hc
    subst e
    obtain⟨_,rfl⟩:=hr
    have hb:=mo.lift (RO.bld NS (g.obj n _ hl)) (lo:=zb.w.heap.size) (fun b hb=>by
     rcases g.dom n _ hl b hb with h|h
     ·rw[hL]at h;cases h
     ·exact h)
    exact⟨(env n).fp,hb,hb.own,fun b hb=>⟨n,_,by simp,hl,hb⟩⟩
   ·cases h
  ·cases h
 ·simp only[oI,pI]at h
  obtain⟨rfl,rfl⟩:=h
  have hl:=hv _ (aR.2 rfl)
  subst hl
  obtain⟨rfl,ho⟩:=hr
  exact⟨[],⟨mo.sl (mo.nil _ _ 0 0 _),Own.nil _ _⟩,Own.nil _ _,by simp⟩
 ·rename_i n _ _ t l
  split at h
  ·rename_i t' l' hl
   split at h
   ·rename_i l2 hc
    simp only[oI,pI]at h
    obtain⟨rfl,rfl⟩:=h
    have oO:=hv _ (aR.2 rfl)
    subst oO
    obtain⟨e,rfl⟩:=ga hc
    subst e
    obtain⟨_,rfl⟩:=hr
    have hs:=RO.sl (g.obj n _ hl)
    have ho0:=RO.own (g.obj n _ hl)
    have ho:Own zb.w.heap.size w (env n).fp:=⟨ho0.nodup,fun b hb=>by
     rcases g.dom n _ hl b hb with h|h
     ·rw[hL]at h;cases h
     ·exact h,ho0.kind⟩
    exact⟨(env n).fp,⟨hs,ho⟩,ho,fun b hb=>⟨n,_,by simp,hl,hb⟩⟩
   ·cases h
  ·cases h
 ·rename_i n _ t' l' _ _ t l
  split at h
  ·rename_i l2 hc
   simp only[oI,pI]at h
   obtain⟨rfl,rfl⟩:=h
   have oO:=hv _ (aR.2 rfl)
   subst oO
   obtain⟨e,rfl⟩:=ga hc
   subst e
   obtain⟨⟨t0,l0,hl⟩,⟨fp,hs,hnd,hsub⟩,_⟩:=hr
   have ho0:=RO.own (g.obj n _ hl)
   have ho:Own zb.w.heap.size w fp:=⟨hnd,fun b hb=>by
    rcases g.dom n _ hl b (hsub b hb)with h|h
    ·rw[hL]at h;cases h
    ·exact h,fun b hb=>ho0.kind b (hsub b hb)⟩
   exact⟨fp,⟨hs,ho⟩,ho,fun b hb=>⟨n,_,by simp,hl,hsub b hb⟩⟩
  ·cases h
 ·cases h
theorem L0(hL:zb.L= [])(g:Good ty zb st a.tmps w env): ∀{xs ys:List V} {us:List Value} {vc:List Prop} {k:List Nat},cT (RA w st.hp env) xs us→meet st xs ys=some (vc,k)→k.Nodup→(∀q,q∈vc→q)→
  ∃fp,Xt ty w zb.w.heap.size ys us fp∧Own zb.w.heap.size w fp∧ ∀b,b∈fp→ ∃i o,i∈k∧look st.hp i=some o∧b∈(env i).fp
 | [],ys,us,vc,k,hr,h,hnd,hv=>by
   cases ys with
   |nil=>
    simp only[meet,oI,pI]at h
    obtain⟨rfl,rfl⟩:=h
    cases us with
    |nil=>exact⟨[],rfl,Own.nil _ _,by simp⟩
    |cons _ _=>exact hr.elim
   |cons y ys=>simp[meet]at h
 |x::r,ys,us,vc,k,hr,h,hnd,hv=>by
  cases us with
  |nil=>exact hr.elim
  |cons u us=>
   cases ys with
   |nil=>simp[meet]at h
   |cons y s=>
    simp only[meet]at h
    split at h
    ·rename_i tG k1 vc2 k2 h1 h2
     simp only[oI,pI,gV]at h
     obtain⟨rfl,rfl⟩:=h
     obtain⟨n1,n2,n3⟩:=bf.1 hnd
     obtain⟨f1,p1,p2,p3⟩:=Yn hL g hr.1 h1 (fun q hq=>hv q (aN _ hq))
     obtain⟨f2,q1,q2,q3⟩:=L0 hL g hr.2 h2 n2 (fun q hq=>hv q (aH _ hq))
     obtain⟨r1,r2⟩:=SK g hnd p2 p3 q2 q3
     exact⟨f1++f2,⟨_,_,p1,q1,rfl⟩,r1,r2⟩
    ·cases h
theorem Yo(hL:zb.L= [])(g:Good ty zb st a.tmps w env){x y:S1}{u:Value}{vc:List Prop}{k:List Nat}(hr:ju w st.hp env x u)(h:SJ st x y=some (vc,k))(hnd:k.Nodup)(hv: ∀q,q∈vc→q):
  ∃fp,RB1 ty w zb.w.heap.size y u fp∧Own zb.w.heap.size w fp∧ ∀b,b∈fp→ ∃i o,i∈k∧look st.hp i=some o∧b∈(env i).fp:=by
 cases x with
 |a v=>
  cases y with
  |a v'=>exact L0 hL g (xs:= [v]) (us:= [u]) ⟨hr,trivial⟩ h hnd hv
  |agg _=>simp[SJ]at h
 |agg l=>
  cases y with
  |a v'=>simp[SJ]at h
  |agg m=>
   obtain⟨cs,rfl,hl⟩:=hr
   obtain⟨fp,h1,h2,h3⟩:=L0 hL g hl h hnd hv
   exact⟨fp,⟨cs,rfl,h1⟩,h2,h3⟩
theorem Ob(hL:zb.L= [])(g:Good ty zb st a.tmps w env): ∀{xs ys:List S1} {us:List Value} {vc:List Prop} {k:List Nat},cT (ju w st.hp env) xs us→meets st xs ys=some (vc,k)→k.Nodup→(∀q,q∈vc→q)→
  ∃fp,RBl ty w zb.w.heap.size ys us fp∧Own zb.w.heap.size w fp∧ ∀b,b∈fp→ ∃i o,i∈k∧look st.hp i=some o∧b∈(env i).fp
 | [],ys,us,vc,k,hr,h,hnd,hv=>by
   cases ys with
   |nil=>
    simp only[meets,oI,pI]at h
    obtain⟨rfl,rfl⟩:=h
    cases us with
    |nil=>exact⟨[],rfl,Own.nil _ _,by simp⟩
    |cons _ _=>exact hr.elim
   |cons y ys=>simp[meets]at h
 |x::r,ys,us,vc,k,hr,h,hnd,hv=>by
  cases us with
  |nil=>exact hr.elim
  |cons u us=>
   cases ys with
   |nil=>simp[meets]at h
   |cons y s=>
    simp only[meets]at h
    split at h
    ·rename_i tG k1 vc2 k2 h1 h2
     simp only[oI,pI,gV]at h
     obtain⟨rfl,rfl⟩:=h
     obtain⟨n1,n2,n3⟩:=bf.1 hnd
     obtain⟨f1,p1,p2,p3⟩:=Yo hL g hr.1 h1 n1 (fun q hq=>hv q (aN _ hq))
     obtain⟨f2,q1,q2,q3⟩:=Ob hL g hr.2 h2 n2 (fun q hq=>hv q (aH _ hq))
     obtain⟨r1,r2⟩:=SK g hnd p2 p3 q2 q3
     exact⟨f1++f2,⟨_,_,p1,q1,rfl⟩,r1,r2⟩
    ·cases h
theorem Oc{Γ:Nat→TK}(C: ∀t,fK P t (Γ t))(g:Good ty zb st a.tmps w env){fn:Func}{zE:List ResultVar}(hf:fn.results=zE.toArray){xs:List S1}(h:Cg Γ st zE=some xs)(hl:zE.length≤4):
  ∃us,cT (ju w st.hp env) xs us∧us.length=zE.length∧(results fn a.tmps).run P w= .ok (match us with| [u]=>u|us=> .tuple us.toArray) w:=by
 have one: ∀{r:ResultVar} {rs:List ResultVar} {xs:List S1},Cg Γ st (r::rs)=some xs→ ∃y ys,xs=y::ys∧Yl Γ st r=some y∧Cg Γ st rs=some ys:=by
  intro r rs xs h
  simp only[Cg]at h
  split at h
  ·rename_i y ys h1 h2
   simp only[oI]at h
   exact⟨y,ys,h.symm,h1,h2⟩
  ·cases h
 have nil: ∀{xs:List S1},Cg Γ st []=some xs→xs= []:=by
  intro xs h
  simp only[Cg,oI]at h
  exact h.symm
 match zE,hf,h,hl with
 | [],hf,h,_=>
   rw[nil h]
   exact⟨[],trivial,rfl,by simp[results,hf]⟩
 | [r1],hf,h,_=>
   obtain⟨y1,ys,rfl,h1,h⟩:=one h
   rw[nil h]
   obtain⟨u1,k1,e1⟩:=Ax C g h1
   refine⟨[u1],⟨k1,trivial⟩,rfl,?_⟩
   cases r1
   ·have e1:a.tmps.getD _ undef=u1:=e1
    rw[aa]at e1
    simp[results,hf,asAddr,e1]
   ·obtain⟨_,p1,e1⟩:=e1
    rw[aa]at p1
    simp[results,hf,asAddr,e1,p1]
 | [r1,r2],hf,h,_=>
   obtain⟨y1,ys,rfl,h1,h⟩:=one h
   obtain⟨y2,ys,rfl,h2,h⟩:=one h
   rw[nil h]
   obtain⟨u1,k1,e1⟩:=Ax C g h1
   obtain⟨u2,k2,e2⟩:=Ax C g h2
   refine⟨[u1,u2],⟨k1,k2,trivial⟩,rfl,?_⟩
   cases r1<;>cases r2
   ·have e1:a.tmps.getD _ undef=u1:=e1
    rw[aa]at e1
    have e2:a.tmps.getD _ undef=u2:=e2
    rw[aa]at e2
    simp[results,hf,asAddr,e1,e2]
   ·have e1:a.tmps.getD _ undef=u1:=e1
    rw[aa]at e1
    obtain⟨_,p2,e2⟩:=e2
    rw[aa]at p2
    simp[results,hf,asAddr,e1,e2,p2]
   ·obtain⟨_,p1,e1⟩:=e1
    rw[aa]at p1
    have e2:a.tmps.getD _ undef=u2:=e2
    rw[aa]at e2
    simp[results,hf,asAddr,e1,e2,p1]
   ·obtain⟨_,p1,e1⟩:=e1
    rw[aa]at p1
    obtain⟨_,p2,e2⟩:=e2
    rw[aa]at p2
    simp[results,hf,asAddr,e1,e2,p1,p2]
 | [r1,r2,r3],hf,h,_=>
   obtain⟨y1,ys,rfl,h1,h⟩:=one h
   obtain⟨y2,ys,rfl,h2,h⟩:=one h
   obtain⟨y3,ys,rfl,h3,h⟩:=one h
   rw[nil h]
   obtain⟨u1,k1,e1⟩:=Ax C g h1
   obtain⟨u2,k2,e2⟩:=Ax C g h2
   obtain⟨u3,k3,e3⟩:=Ax C g h3
   refine⟨[u1,u2,u3],⟨k1,k2,k3,trivial⟩,rfl,?_⟩
   cases r1<;>cases r2<;>cases r3
   ·have e1:a.tmps.getD _ undef=u1:=e1
    rw[aa]at e1
    have e2:a.tmps.getD _ undef=u2:=e2
    rw[aa]at e2
    have e3:a.tmps.getD _ undef=u3:=e3
    rw[aa]at e3
    simp[results,hf,asAddr,e1,e2,e3]
   ·have e1:a.tmps.getD _ undef=u1:=e1
    rw[aa]at e1
    have e2:a.tmps.getD _ undef=u2:=e2
    rw[aa]at e2
    obtain⟨_,p3,e3⟩:=e3
    rw[aa]at p3
    simp[results,hf,asAddr,e1,e2,e3,p3]
   ·have e1:a.tmps.getD _ undef=u1:=e1
    rw[aa]at e1
    obtain⟨_,p2,e2⟩:=e2
    rw[aa]at p2
    have e3:a.tmps.getD _ undef=u3:=e3
    rw[aa]at e3
    simp[results,hf,asAddr,e1,e2,e3,p2]
   ·have e1:a.tmps.getD _ undef=u1:=e1
    rw[aa]at e1
    obtain⟨_,p2,e2⟩:=e2
    rw[aa]at p2
    obtain⟨_,p3,e3⟩:=e3
    rw[aa]at p3
    simp[results,hf,asAddr,e1,e2,e3,p2,p3]
   ·obtain⟨_,p1,e1⟩:=e1
    rw[aa]at p1
    have e2:a.tmps.getD _ undef=u2:=e2
    rw[aa]at e2
    have e3:a.tmps.getD _ undef=u3:=e3
    rw[aa]at e3
    simp[results,hf,asAddr,e1,e2,e3,p1]
   ·obtain⟨_,p1,e1⟩:=e1
    rw[aa]at p1
    have e2:a.tmps.getD _ undef=u2:=e2
    rw[aa]at e2
    obtain⟨_,p3,e3⟩:=e3
    rw[aa]at p3
    simp[results,hf,asAddr,e1,e2,e3,p1,p3]
   ·obtain⟨_,p1,e1⟩:=e1
    rw[aa]at p1
    obtain⟨_,p2,e2⟩:=e2
    rw[aa]at p2
    have e3:a.tmps.getD _ undef=u3:=e3
    rw[aa]at e3
    simp[results,hf,asAddr,e1,e2,e3,p1,p2]
   ·obtain⟨_,p1,e1⟩:=e1
    rw[aa]at p1
    obtain⟨_,p2,e2⟩:=e2
    rw[aa]at p2
    obtain⟨_,p3,e3⟩:=e3
    rw[aa]at p3
    simp[results,hf,asAddr,e1,e2,e3,p1,p2,p3]
 | [r1,r2,r3,r4],hf,h,_=>
   obtain⟨y1,ys,rfl,h1,h⟩:=one h
   obtain⟨y2,ys,rfl,h2,h⟩:=one h
   obtain⟨y3,ys,rfl,h3,h⟩:=one h
   obtain⟨y4,ys,rfl,h4,h⟩:=one h
   rw[nil h]
   obtain⟨u1,k1,e1⟩:=Ax C g h1
   obtain⟨u2,k2,e2⟩:=Ax C g h2
   obtain⟨u3,k3,e3⟩:=Ax C g h3
   obtain⟨u4,k4,e4⟩:=Ax C g h4
   refine⟨[u1,u2,u3,u4],⟨k1,k2,k3,k4,trivial⟩,rfl,?_⟩
   cases r1<;>cases r2<;>cases r3<;>cases r4
   ·have e1:a.tmps.getD _ undef=u1:=e1
    rw[aa]at e1
    have e2:a.tmps.getD _ undef=u2:=e2
    rw[aa]at e2
    have e3:a.tmps.getD _ undef=u3:=e3
    rw[aa]at e3
    have e4:a.tmps.getD _ undef=u4:=e4
    rw[aa]at e4
    simp[results,hf,asAddr,e1,e2,e3,e4]
   ·have e1:a.tmps.getD _ undef=u1:=e1
    rw[aa]at e1
    have e2:a.tmps.getD _ undef=u2:=e2
    rw[aa]at e2
    have e3:a.tmps.getD _ undef=u3:=e3
    rw[aa]at e3
    obtain⟨_,p4,e4⟩:=e4
    rw[aa]at p4
    simp[results,hf,asAddr,e1,e2,e3,e4,p4]
   ·have e1:a.tmps.getD _ undef=u1:=e1
    rw[aa]at e1
    have e2:a.tmps.getD _ undef=u2:=e2
    rw[aa]at e2
    obtain⟨_,p3,e3⟩:=e3
    rw[aa]at p3
    have e4:a.tmps.getD _ undef=u4:=e4
    rw[aa]at e4
    simp[results,hf,asAddr,e1,e2,e3,e4,p3]
   ·have e1:a.tmps.getD _ undef=u1:=e1
    rw[aa]at e1
    have e2:a.tmps.getD _ undef=u2:=e2
    rw[aa]at e2
    obtain⟨_,p3,e3⟩:=e3
    rw[aa]at p3
    obtain⟨_,p4,e4⟩:=e4
    rw[aa]at p4
    simp[results,hf,asAddr,e1,e2,e3,e4,p3,p4]
   ·have e1:a.tmps.getD _ undef=u1:=e1
    rw[aa]at e1
    obtain⟨_,p2,e2⟩:=e2
    rw[aa]at p2
    have e3:a.tmps.getD _ undef=u3:=e3
    rw[aa]at e3
    have e4:a.tmps.getD _ undef=u4:=e4
    rw[aa]at e4
    simp[results,hf,asAddr,e1,e2,e3,e4,p2]
   ·have e1:a.tmps.getD _ undef=u1:=e1
    rw[aa]at e1
    obtain⟨_,p2,e2⟩:=e2
    rw[aa]at p2
    have e3:a.tmps.getD _ undef=u3:=e3
    rw[aa]at e3
    obtain⟨_,p4,e4⟩:=e4
    rw[aa]at p4
    simp[results,hf,asAddr,e1,e2,e3,e4,p2,p4]
   ·have e1:a.tmps.getD _ undef=u1:=e1
    rw[aa]at e1
    obtain⟨_,p2,e2⟩:=e2
    rw[aa]at p2
    obtain⟨_,p3,e3⟩:=e3
    rw[aa]at p3
    have e4:a.tmps.getD _ undef=u4:=e4
    rw[aa]at e4
    simp[results,hf,asAddr,e1,e2,e3,e4,p2,p3]
   ·have e1:a.tmps.getD _ undef=u1:=e1
    rw[aa]at e1
    obtain⟨_,p2,e2⟩:=e2
    rw[aa]at p2
    obtain⟨_,p3,e3⟩:=e3
    rw[aa]at p3
    obtain⟨_,p4,e4⟩:=e4
    rw[aa]at p4
    simp[results,hf,asAddr,e1,e2,e3,e4,p2,p3,p4]
   ·obtain⟨_,p1,e1⟩:=e1
    rw[aa]at p1
    have e2:a.tmps.getD _ undef=u2:=e2
    rw[aa]at e2
    have e3:a.tmps.getD _ undef=u3:=e3
    rw[aa]at e3
    have e4:a.tmps.getD _ undef=u4:=e4
    rw[aa]at e4
    simp[results,hf,asAddr,e1,e2,e3,e4,p1]
   ·obtain⟨_,p1,e1⟩:=e1
    rw[aa]at p1
    have e2:a.tmps.getD _ undef=u2:=e2
    rw[aa]at e2
    have e3:a.tmps.getD _ undef=u3:=e3
    rw[aa]at e3
    obtain⟨_,p4,e4⟩:=e4
    rw[aa]at p4
    simp[results,hf,asAddr,e1,e2,e3,e4,p1,p4]
   ·obtain⟨_,p1,e1⟩:=e1
    rw[aa]at p1
    have e2:a.tmps.getD _ undef=u2:=e2
    rw[aa]at e2
    obtain⟨_,p3,e3⟩:=e3
    rw[aa]at p3
    have e4:a.tmps.getD _ undef=u4:=e4
    rw[aa]at e4
    simp[results,hf,asAddr,e1,e2,e3,e4,p1,p3]
   ·obtain⟨_,p1,e1⟩:=e1
    rw[aa]at p1
    have e2:a.tmps.getD _ undef=u2:=e2
    rw[aa]at e2
    obtain⟨_,p3,e3⟩:=e3
    rw[aa]at p3
    obtain⟨_,p4,e4⟩:=e4
    rw[aa]at p4
    simp[results,hf,asAddr,e1,e2,e3,e4,p1,p3,p4]
   ·obtain⟨_,p1,e1⟩:=e1
    rw[aa]at p1
    obtain⟨_,p2,e2⟩:=e2
    rw[aa]at p2
    have e3:a.tmps.getD _ undef=u3:=e3
    rw[aa]at e3
    have e4:a.tmps.getD _ undef=u4:=e4
    rw[aa]at e4
    simp[results,hf,asAddr,e1,e2,e3,e4,p1,p2]
   ·obtain⟨_,p1,e1⟩:=e1
    rw[aa]at p1
    obtain⟨_,p2,e2⟩:=e2
    rw[aa]at p2
    have e3:a.tmps.getD _ undef=u3:=e3
    rw[aa]at e3
    obtain⟨_,p4,e4⟩:=e4
    rw[aa]at p4
    simp[results,hf,asAddr,e1,e2,e3,e4,p1,p2,p4]
   ·obtain⟨_,p1,e1⟩:=e1
    rw[aa]at p1
    obtain⟨_,p2,e2⟩:=e2
    rw[aa]at p2
    obtain⟨_,p3,e3⟩:=e3
    rw[aa]at p3
    have e4:a.tmps.getD _ undef=u4:=e4
    rw[aa]at e4
    simp[results,hf,asAddr,e1,e2,e3,e4,p1,p2,p3]
   ·obtain⟨_,p1,e1⟩:=e1
    rw[aa]at p1
    obtain⟨_,p2,e2⟩:=e2
    rw[aa]at p2
    obtain⟨_,p3,e3⟩:=e3
    rw[aa]at p3
    obtain⟨_,p4,e4⟩:=e4
    rw[aa]at p4
    simp[results,hf,asAddr,e1,e2,e3,e4,p1,p2,p3,p4]
 |_::_::_::_::_::_,_,_,hl=>simp at hl
end
end
section
variable{ty:Tag→Nat}
theorem RI.ra{w:World}{env:Env}{v:V}{u:Value}{fp:List Nat}(h:RI w v u fp):RA w [] env v u:=by
 have hno: ∀b, ¬Ow [] env b:=by rintro b ⟨n,o,hl,_⟩;simp[look]at hl
 cases v with
 |lit x=>exact⟨h.1,h.2.1⟩
 |sl t l=>exact⟨fp,h,fun b _=>hno b⟩
 |_=>exact h.elim
theorem Ly.rs1{w:World}{env:Env}{x:S1}{u:Value}(h:Ly w x u):ju w [] env x u:=by
 cases x with
 |a v=>obtain⟨fp,h⟩:=h;exact h.ra
 |agg l=>
  obtain⟨cs,fp,rfl,h⟩:=h
  exact⟨cs,rfl,h.Hh fun b _=>by rintro⟨n,o,hl,_⟩;simp[look]at hl⟩
theorem AT: ∀{as:List S1} {i s:Nat} {v:SV},look (enter i as) s=some v→ ∃x,v= .one x∧i≤s∧as[s-i]? =some x
 |x::r,i,s,v,h=>by
  by_cases hs:s=i
  ·subst hs
   rw[enter,look_eq]at h
   simp only[oI]at h
   exact⟨x,h.symm,aZ _,by simp⟩
  ·rw[enter,cj hs]at h
   obtain⟨y,h1,h2,h3⟩:=AT h
   refine⟨y,h1,by omega,?_⟩
   rw[show s-i=(s-(i+1))+1 by omega,List.getElem?_cons_succ];exact h3
theorem entry{as:List S1}{us:List Value}{w:World}{n:Nat}(hA:Lr w)(ha:cT (Ly w) as us)(hn:as.length≤n):
  Inv ty ⟨w,[],fun _=>⟨.tuple #[],[]⟩⟩ ⟨n,enter 0 as,[]⟩ {tmps:=us.toArray++nV (n-us.toArray.size) undef,defers:= []} w:=by
 have hl:=ha.len
 refine⟨by simp;omega,rfl,Kept.refl _ _,⟨hA,fun _ _ h=>by cases h⟩,fun _=>⟨.tuple #[],[]⟩,⟨fun n o h=>by simp[look]at h,fun n m o o' _ h=>by simp[look]at h,fun s v hv=> ?_,fun n o h=>by simp[look]at h,fun n _=>⟨rfl,fun b hb=>hb⟩⟩⟩
 obtain⟨x,rfl,_,hx⟩:=AT hv
 rw[Od]at hx
 obtain⟨u,hu,hr⟩:=ha.at hx
 have hs:s<us.length:=(aI.1 hu).1
 have:(us.toArray++nV (n-us.toArray.size) undef).getD s undef=u:=by
  rw[aa,tH (by simpa using hs)]
  simp[hu]
 show ju w [] _ x _
 rw[this]
 exact hr.rs1
theorem U8{P:Program}{Γ:Nat→TK}(X:Ctx P ty Γ){f:FuncId}{fn:Func}{c:Code}{zE:List ResultVar}{n:Nat}{as rs:List S1}
  (Oe: ∀(args:Array Value) (w:World),(callFunc f args).run P w= .ok (.enter f args) w)(hf:P.funcs[f]? =some fn)(hb:fn.body=some c)(hr:fn.results=zE.toArray)(hl:zE.length≤4)(hn:fn.ntmps=n)(hlen:as.length≤n)
  (h: ∀zb,W P ty zb c (Fin Γ zE rs) ⟨n,enter 0 as,[]⟩):Sound ty P f as rs:=by
 refine⟨Oe,fun w us hA ha=>calls_of_wp hf hb ?_⟩
 rw[hn]
 refine wp_mono (h _ _ w (entry hA ha hlen)) ?_
 rintro e a w' ⟨st,iv,he,vc,qo,hv⟩
 have key:a.defers= []∧ ∃v,(results fn a.tmps).run P w'= .ok v w'∧Ret ty w rs (.returned v) w':=by
  obtain⟨env,g⟩:=iv.good
  unfold ends at qo
  split at qo
  ·rename_i xs hx
   split at qo
   ·rename_i tG k hm
    split at qo
    ·rename_i hnd
     simp only[oI]at qo
     subst qo
     obtain⟨vs,h1,h2,h3⟩:=Oc X.kind g hr hx hl
     obtain⟨fp,q1,q2,_⟩:=Ob rfl g h1 hm (nr hnd) hv.out
     have afU:Below w.heap.size w w':=⟨iv.kept.os,iv.kept.tape,iv.kept.output,iv.kept.size,fun b hb=>iv.kept.block b hb (by simp)⟩
     refine⟨iv.defers,_,h3,_,fp,rfl,afU,q2,?_⟩
     match rs,vs,q1 with
     | [],[],q1=>exact⟨[],rfl,q1⟩
     | [r],[u],⟨f1,f2,p1,p2,e⟩=>
       have p2:f2= []:=p2
       rw[p2,cS]at e
       rw[e];exact p1
     |r1::r2::r,u1::u2::u,q1=>exact⟨_,rfl,q1⟩
     | [],_::_,q1=>exact q1.elim
     |_::_,[],q1=>exact q1.elim
     | [r],u1::u2::u,⟨_,_,_,p,_⟩=>exact p.elim
     |r1::r2::r,[u],⟨_,_,_,p,_⟩=>exact p.elim
    ·cases qo
   ·cases qo
  ·cases qo
 rcases he with rfl|rfl<;>exact key
theorem aC{P:Program}{Γ:Nat→TK}(X:Ctx P ty Γ){f:FuncId}{fn:Func}{c:Code}{zE:List ResultVar}{n:Nat}{xs rs:List S1}
  (Oe: ∀(args:Array Value) (w:World),(callFunc f args).run P w= .ok (.enter f args) w)(hf:P.funcs[f]? =some fn)(hn:fn.ntmps=n)(hb:fn.body=some c)(hr:fn.results=zE.toArray)
  (h: ∀zb,W P ty zb c (Fin Γ zE rs) ⟨n,enter 0 xs,[]⟩)(hl:zE.length≤4:=by decide)(hlen:xs.length≤n:=by simp):Sound ty P f xs rs:=U8 X Oe hf hb hr hl hn hlen h
theorem RF.len{w:World}: ∀{vs:List V} {us:List Value} {cB:List (List Nat)},RF w vs us cB→us.length=vs.length∧cB.length=vs.length
 | [],[],_,h=>by rw[show _=_ from h];exact⟨rfl,rfl⟩
 |_::_,_::_,_,⟨_,_,_,h,e⟩=>by obtain⟨h1,h2⟩:=RF.len h;rw[e];exact⟨by simp[h1],by simp[h2]⟩
 | [],_::_,_,h=>h.elim
 |_::_,[],_,h=>h.elim
theorem UW.nodup: ∀{fs gs:List (List Nat)},UW fs gs→gs.flatten.Nodup→(∀f,f∈fs→f.Nodup)→fs.flatten.Nodup∧ ∀b,b∈fs.flatten→b∈gs.flatten
 | [],[],_,_,_=>⟨by simp,by simp⟩
 |f::fs,g::gs,⟨h1,h2⟩,hn,hf=>by
  rw[bQ]at hn
  obtain⟨_,n2,n3⟩:=bf.1 hn
  obtain⟨q1,q2⟩:=UW.nodup h2 n2 (fun f hm=>hf f (aK _ hm))
  refine⟨?_,fun b hb=> ?_⟩
  ·rw[bQ]
   exact bf.2 ⟨hf f (by simp),q1,fun b hb c hc e=>n3 b (h1 b hb) c (q2 c hc) e⟩
  ·rw[bQ]at hb ⊢
   rcases aL.1 hb with hb|hb
   ·exact aN _ (h1 b hb)
   ·exact aH _ (q2 b hb)
 | [],_::_,h,_,_=>h.elim
 |_::_,[],h,_,_=>h.elim
section
variable{zb:eK}{st:St}{tmps:Array Value}{w0 w:World}{env:Env}
theorem RF.one{w:World}{v:V}{u:Value}{cB:List (List Nat)}(h:RF w [v] [u] cB): ∃f,RI w v u f∧cB= [f]:=by
 obtain⟨f,g,h1,h2,h3⟩:=h
 exact⟨f,h1,by rw[h3,show g= []from h2]⟩
end
end
section
variable{ty:Tag→Nat}
def Y9:V→V→Option (List Prop)
 |_, .any=>some []
 | .lit v, .lit u=>some [v=u]
 | .wJ v t l, .wJ u t' l'=>match kL t' t l with|some l2=>some [v=u,l2=l']|none=>none
 | .own n, .own m=>match aU n m with|true=>some []|false=>none
 | .ptr n o, .ptr m q=>match aU n m&&aU o q with|true=>some []|false=>none
 |_,_=>none
def yF:List V→List V→Option (List Prop)
 | [],[]=>some []
 |x::r,y::s=>match Y9 x y,yF r s with|some vc,some vcs=>some (rz vc vcs)|_,_=>none
 |_,_=>none
def sX:Obj→Obj→Option (List Prop)
 | .arr t l, .arr t' l'=>match kL t' t l with|some l2=>some [l2=l']|none=>none
 | .box c, .box d=>yF c d
 |_,_=>none
def Mp(hp:Hp):Hp→Option (List Prop)
 | []=>some []
 | (n,o)::r=>match look hp n with
   |some x=>match sX x o,Mp hp r with|some vc,some vcs=>some (rz vc vcs)|_,_=>none
   |none=>none
def Mq:S1→S1→Option (List Prop)
 | .a v, .a u=>yF [v] [u]
 | .agg l, .agg m=>yF l m
 |_,_=>none
def Et:List S1→List S1→Option (List Prop)
 | [],[]=>some []
 |x::r,y::s=>match Mq x y,Et r s with|some vc,some vcs=>some (rz vc vcs)|_,_=>none
 |_,_=>none
def To(Γ:Nat→TK)(st:St)(zE:List ResultVar)(jo:Hp)(rs:List S1):Option (List Prop):=
 match Cg Γ st zE with
 |some xs=>match Et xs rs,Mp st.hp jo with
  |some vc,some vcs=>some (rz vc vcs)
  |_,_=>none
 |none=>none
def ahi(Γ:Nat→TK)(zE:List ResultVar)(jo:Hp)(rs:List S1):Post:=fun e st=>(e= .ret∨e= .normal)∧ ∃vc,To Γ st zE jo rs=some vc∧qK vc
theorem vh{Γ:Nat→TK}{zE:List ResultVar}{jo:Hp}{rs:List S1}{st:St}{vc:List Prop}(h:To Γ st zE jo rs=some vc)(hv:qK vc):ahi Γ zE jo rs .ret st:=⟨.inl rfl,vc,h,hv⟩
theorem wk{Γ:Nat→TK}{zE:List ResultVar}{jo:Hp}{rs:List S1}{st:St}{vc:List Prop}(h:To Γ st zE jo rs=some vc)(hv:qK vc):ahi Γ zE jo rs .normal st:=⟨.inr rfl,vc,h,hv⟩
def okT(jo:Hp)(rs:List S1):Bool:=(rs.all (vT jo))&&(jo.all fun e=>Cf jo e.2)&&kX jo
section
variable{P:Program}{zb:eK}{st:St}{a:Act}{w:World}{env:Env}
theorem IM{x o:Obj}{vc:List Prop}(h:sX x o=some vc):(∀t l,x= .arr t l→ ∃t' l',o= .arr t' l')∧ ∀c,x= .box c→ ∃d,o= .box d:=by
 cases x<;>cases o<;>simp[sX]at h ⊢
theorem IN{hp:Hp}: ∀{jo:Hp} {vc:List Prop},Mp hp jo=some vc→(∀q,q∈vc→q)→ ∀n o,(n,o)∈jo→ ∃x v1,look hp n=some x∧sX x o=some v1∧ ∀q,q∈v1→q
 | (k,y)::r,vc,h,hv,n,o,hm=>by
   simp only[Mp]at h
   split at h
   ·rename_i x hx
    split at h
    ·rename_i v1 v2 h1 h2
     simp only[oI,gV]at h
     subst h
     rcases bh.1 hm with h'|h'
     ·simp only[pI]at h'
      obtain⟨rfl,rfl⟩:=h'
      exact⟨x,v1,hx,h1,fun q hq=>hv q (aN _ hq)⟩
     ·exact IN h2 (fun q hq=>hv q (aH _ hq)) n o h'
    ·cases h
   ·cases h
theorem Za{hp jo:Hp}(hT: ∀n o,look jo n=some o→ ∃x v1,look hp n=some x∧sX x o=some v1){x y:V}{u:Value}{vc:List Prop}(hr:RA w hp env x u)(h:Y9 x y=some vc)(hv: ∀q,q∈vc→q)(hn:qL jo y=true):RA w jo env y u:=by
 unfold Y9 at h
 split at h
 ·trivial
 ·simp only[oI]at h
  subst h
  have e:=hv _ (aR.2 rfl)
  subst e
  exact hr
 ·split at h
  ·rename_i l2 hc
   simp only[oI]at h
   subst h
   have e1:=hv _ (List.mem_cons_self ..)
   have e2:=hv _ (aK _ (aR.2 rfl))
   obtain⟨et,rfl⟩:=ga hc
   subst et
   subst e1;subst e2
   obtain⟨hu,fp,h1,h2⟩:=hr
   refine⟨hu,fp,h1,fun b hb ho=>h2 b hb ?_⟩
   obtain⟨n,o,q1,q2⟩:=ho
   obtain⟨x,_,p1,_⟩:=hT n o q1
   exact⟨n,x,p1,q2⟩
  ·cases h
 ·rename_i n m
  split at h
  ·rename_i hb
   have hb:=ay hb
   subst hb
   obtain⟨⟨t,l,hl⟩,hu⟩:=hr
   have hno:=zD hn n rfl
   cases hq:look jo n with
   |none=>exact absurd hq hno
   |some o=>
    obtain⟨x,v1,h1,h2⟩:=hT n o hq
    rw[hl]at h1
    simp only[oI]at h1
    subst h1
    obtain⟨t',l',rfl⟩:=(IM h2).1 t l rfl
    exact⟨⟨t',l',hq⟩,hu⟩
  ·cases h
 ·rename_i n o m q
  split at h
  ·rename_i hb
   simp only[ak]at hb
   have cx:=ay hb.1
   have dY:=ay hb.2
   subst cx;subst dY
   obtain⟨⟨c,hl⟩,hu⟩:=hr
   have hno:=zD hn n rfl
   cases hq:look jo n with
   |none=>exact absurd hq hno
   |some z=>
    obtain⟨x,v1,h1,h2⟩:=hT n z hq
    rw[hl]at h1
    simp only[oI]at h1
    subst h1
    obtain⟨d,rfl⟩:=(IM h2).2 c rfl
    exact⟨⟨d,hq⟩,hu⟩
  ·cases h
 ·cases h
theorem zM{hp jo:Hp}(hT: ∀n o,look jo n=some o→ ∃x v1,look hp n=some x∧sX x o=some v1): ∀{xs ys:List V} {us:List Value} {vc:List Prop},cT (RA w hp env) xs us→yF xs ys=some vc→(∀q,q∈vc→q)→(∀y,y∈ys→qL jo y=true)→cT (RA w jo env) ys us
 | [],ys,us,vc,hr,h,_,_=>by
   cases ys with
   |nil=>
    cases us with
    |nil=>trivial
    |cons _ _=>exact hr.elim
   |cons _ _=>simp[yF]at h
 |x::r,ys,us,vc,hr,h,hv,hn=>by
  cases us with
  |nil=>exact hr.elim
  |cons u us=>
   cases ys with
   |nil=>simp[yF]at h
   |cons y s=>
    simp only[yF]at h
    split at h
    ·rename_i v1 v2 h1 h2
     simp only[oI,gV]at h
     subst h
     exact⟨Za hT hr.1 h1 (fun q hq=>hv q (aN _ hq)) (hn y (by simp)),zM hT hr.2 h2 (fun q hq=>hv q (aH _ hq)) (fun z hz=>hn z (aK _ hz))⟩
    ·cases h
theorem VJ{hp jo:Hp}(hT: ∀n o,look jo n=some o→ ∃x v1,look hp n=some x∧sX x o=some v1){x y:S1}{u:Value}{vc:List Prop}(hr:ju w hp env x u)(h:Mq x y=some vc)(hv: ∀q,q∈vc→q)(hn:vT jo y=true):ju w jo env y u:=by
 cases x with
 |a v=>
  cases y with
  |a v'=>
   have:=zM hT (xs:= [v]) (us:= [u]) ⟨hr,trivial⟩ h hv (fun z hz=>by rw[aR.1 hz];exact hn)
   exact this.1
  |agg _=>simp[Mq]at h
 |agg l=>
  cases y with
  |a v'=>simp[Mq]at h
  |agg m=>
   obtain⟨cs,rfl,hl⟩:=hr
   exact⟨cs,rfl,zM hT hl h hv (fun z hz=>bw.1 hn z hz)⟩
theorem KQ{hp jo:Hp}(hT: ∀n o,look jo n=some o→ ∃x v1,look hp n=some x∧sX x o=some v1): ∀{xs ys:List S1} {us:List Value} {vc:List Prop},cT (ju w hp env) xs us→Et xs ys=some vc→(∀q,q∈vc→q)→(∀y,y∈ys→vT jo y=true)→cT (ju w jo env) ys us
 | [],ys,us,vc,hr,h,_,_=>by
   cases ys with
   |nil=>
    cases us with
    |nil=>trivial
    |cons _ _=>exact hr.elim
   |cons _ _=>simp[Et]at h
 |x::r,ys,us,vc,hr,h,hv,hn=>by
  cases us with
  |nil=>exact hr.elim
  |cons u us=>
   cases ys with
   |nil=>simp[Et]at h
   |cons y s=>
    simp only[Et]at h
    split at h
    ·rename_i v1 v2 h1 h2
     simp only[oI,gV]at h
     subst h
     exact⟨VJ hT hr.1 h1 (fun q hq=>hv q (aN _ hq)) (hn y (by simp)),KQ hT hr.2 h2 (fun q hq=>hv q (aH _ hq)) (fun z hz=>hn z (aK _ hz))⟩
    ·cases h
end
theorem ahj{as:List S1}{us:List Value}{w:World}{env:Env}{kV:Hp}{n:Nat}(hA:Lr w)(hL: ∀b,Qo b→b∉Ca kV env)(hG:N1 ty w kV env)(ha:cT (ju w kV env) as us)(hn:as.length≤n):
  Inv ty ⟨w,Ca kV env,env⟩ ⟨n,enter 0 as,kV⟩ {tmps:=us.toArray++nV (n-us.toArray.size) undef,defers:= []} w:=by
 have hl:=ha.len
 refine⟨by simp;omega,rfl,Kept.refl _ _,⟨hA,hL⟩,env,⟨hG.1,hG.2,fun s v hv=> ?_,fun n o h b hb=>bI (kM.2 ⟨_,ji h,hb⟩),fun n _=>⟨rfl,fun b hb=>hb⟩⟩⟩
 obtain⟨x,rfl,_,hx⟩:=AT hv
 rw[Od]at hx
 obtain⟨u,hu,hr⟩:=ha.at hx
 have hs:s<us.length:=(aI.1 hu).1
 have:(us.toArray++nV (n-us.toArray.size) undef).getD s undef=u:=by
  rw[aa,tH (by simpa using hs)]
  simp[hu]
 show ju w kV env x _
 rw[this]
 exact hr
theorem pR{P:Program}{Γ:Nat→TK}(X:Ctx P ty Γ){f:FuncId}{fn:Func}{c:Code}{zE:List ResultVar}{n:Nat}{kV jo:Hp}{as rs:List S1}
  (Oe: ∀(args:Array Value) (w:World),(callFunc f args).run P w= .ok (.enter f args) w)(hf:P.funcs[f]? =some fn)(hb:fn.body=some c)(hr:fn.results=zE.toArray)(hl:zE.length≤4)(hn:fn.ntmps=n)(hlen:as.length≤n)(hT:okT jo rs=true)
  (h: ∀zb,W P ty zb c (ahi Γ zE jo rs) ⟨n,enter 0 as,kV⟩):sE ty P f kV as jo rs:=by
 refine⟨Oe,fun w env us hA hL hG ha=>calls_of_wp hf hb ?_⟩
 rw[hn]
 refine wp_mono (h _ _ w (ahj hA hL hG ha hlen)) ?_
 simp only[okT,ak,bw]at hT
 obtain⟨⟨t1,t2⟩,t3⟩:=hT
 rintro e a w' ⟨st,iv,he,vc,qo,hv⟩
 have key:a.defers= []∧ ∃v,(results fn a.tmps).run P w'= .ok v w'∧ ∃env' u,Ending.returned v= .returned u∧Kept ⟨w,Ca kV env,env⟩ w w'∧N1 ty w' jo env'∧
   (∀n o,look jo n=some o→ ∀b,b∈(env' n).fp→b∈Ca kV env∨w.heap.size≤b)∧(∀n,nI n=true→(env' n).v=(env n).v∧ ∀b,b∈(env' n).fp→b∈(env n).fp)∧aja w' jo env' rs u:=by
  obtain⟨env',g⟩:=iv.good
  unfold To at qo
  split at qo
  ·rename_i xs hx
   split at qo
   ·rename_i v1 v2 hm1 hm2
    simp only[oI,gV]at qo
    subst qo
    have FR: ∀q,q∈v1→q:=fun q hq=>hv.out q (aN _ hq)
    have UQ: ∀q,q∈v2→q:=fun q hq=>hv.out q (aH _ hq)
    obtain⟨vs,h1,h2,h3⟩:=Oc X.kind g hr hx hl
    have hmem:=IN hm2 UQ
    have hT: ∀n o,look jo n=some o→ ∃x v1,look st.hp n=some x∧sX x o=some v1:=fun n o hl=>by
     obtain⟨x,v1,p1,p2,_⟩:=hmem n o (ji hl)
     exact⟨x,v1,p1,p2⟩
    have hres:=KQ hT h1 hm1 FR t1
    refine⟨iv.defers,_,h3,env',_,rfl,iv.kept,⟨fun n o hl=> ?_,fun n m o o' hne hl1 ru=> ?_⟩,fun n o hl b hb=> ?_,fun n hp=>g.pins n hp,?_⟩
    ·obtain⟨x,v1,p1,p2,p3⟩:=hmem n o (ji hl)
     have hro:=g.obj n x p1
     cases x with
     |arr t l=>
      cases o with
      |box d=>simp[sX]at p2
      |jG t' l' s'=>simp[sX]at p2
      |arr t' l'=>
       simp only[sX]at p2
       split at p2
       ·rename_i l2 hc
        simp only[oI]at p2
        subst p2
        have e2:=p3 _ (aR.2 rfl)
        subst e2
        obtain⟨e,rfl⟩:=ga hc
        subst e
        exact SC (fun h=>h) hro
       ·cases p2
     |jG t l s=>cases o<;>simp[sX]at p2
     |box c=>
      cases o with
      |arr t' l'=>simp[sX]at p2
      |jG t' l' s'=>simp[sX]at p2
      |box d=>
       obtain⟨b,cs,e,q1,q2,q3⟩:=hro
       exact⟨b,cs,e,q1,q2,zM hT q3 p2 p3 (fun y hy=>bw.1 (t2 _ (ji hl)) y hy)⟩
    ·obtain⟨x,_,p1,_⟩:=hT n o hl1
     obtain⟨y,_,p2,_⟩:=hT m o' ru
     exact g.mu n m x y hne p1 p2
    ·obtain⟨x,_,p1,_⟩:=hT n o hl
     exact g.dom n x p1 b hb
    ·match rs,vs,hres with
     | [r],[u],hres=>exact hres.1
     | [],[],hres=>exact⟨[],rfl,trivial⟩
     |r1::r2::r,u1::u2::u,hres=>exact⟨_,rfl,hres⟩
     | [],_::_,hres=>exact hres.elim
     |_::_,[],hres=>exact hres.elim
     | [_],_::_::_,hres=>exact hres.2.elim
     |_::_::_,[_],hres=>exact hres.2.elim
   ·cases qo
  ·cases qo
 rcases he with rfl|rfl<;>exact key
end
end Go.Proofs.YtkcegdacbddipaaGreat.G
