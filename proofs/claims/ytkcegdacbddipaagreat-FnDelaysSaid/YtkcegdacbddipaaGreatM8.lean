/-
  Contracts of functions that are lent memory: from the walk through their bodies.
-/
import Derived.Test.YtkcegdacbddipaaGreatM7
open Array renaming ext'→CJ,getD_eq_getD_getElem?→aa,getElem?_append_left→sL,length_toList→gC,replicate→nB
open Bool renaming and_eq_true→aj,not_eq_true'→bp
open Go.Addr.mk renaming injEq→eZ
open Go.Builtin renaming append_→dG
open Go.Obj.cells renaming injEq→ku
open Go.Oper renaming wp→iK,wp_mono→pN
open Go.Value renaming int→xk,ownBlock→gH
open Go.Value.slice renaming injEq→cK
open Go.World renaming cell?_of_block→eG,ownsRow→KQ
open List renaming all_eq_true→bq,append_assoc→b7,append_nil→cW,drop_drop→lY,drop_zero→eV,flatten_append→eP,flatten_cons→bO,getD_eq_getElem?_getD→ak,getElem?_append_left→bP,getElem?_append_right→bQ,getElem?_eq_getElem→au,getElem?_eq_some_iff→aI,getElem?_set_self→eY,getElem?_take→cE,length_append→aX,length_drop→bM,length_set→bH,length_take→bL,map_cons→cA,mem_append→aK,mem_append_left→aM,mem_append_right→aH,mem_cons→aW,mem_cons_of_mem→aJ,mem_flatMap→jY,mem_singleton→aP,nodup_append→aY,nodup_cons→b9,set_getElem_self→xj
open Nat renaming add_mul→cG,add_zero→kH,beq→bf,eq_of_beq_eq_true→av,le_refl→bh,lt_or_ge→mS,mul_le_mul_right→bI,sub_zero→M1,zero_le→aA
open Or renaming inl→bG,inr→bg
namespace Go.Proofs.YtkcegdacbddipaaGreat.G
set_option linter.all false
open Go.RowKit L D
section
variable{ty:Tag→Nat}
theorem Wy{P:Program}(w:World)(t ty e:TypeId)(i:TypeInfo)(z:Value)(size bytes:Nat)(ht:P.underlying t=some (.slice e))(hi:P.info? e=some i)(hz:i.zero=some z)
  (hsize:i.size=size)(hby:i.bytes=bytes)(hzs:z.cells.size=size)(hsz:0<size)
  (oa:Option Addr)(n cap:Nat)(xs:List Value)(hxl:xs.length=n*size)
  (hown:(n=0∧cap=0)∨ ∃g o cur e2,oa=some ⟨g,o,none⟩∧w.heap[g]? =some (.cells cur e2 (0,0))∧n≤cap∧o+cap*size≤cur.size∧w.rangeAt g o xs)
  (x:Value)(m:Nat)(news:List Value)(hl:news.length=m*size)(hx:Src w x m news)(h1: ∀u∈news,u.oneCell'=true)(hm:0<m)
  (h63:n+m≤maxLen)(hbytes:(n+m)*bytes≤140737488355328):
  ∃v' w',(dG #[t,t] ty #[.slice oa n cap,x]).run P w= .ok v' w'∧
   ((∃g o cur e2 cur',oa=some ⟨g,o,none⟩∧w.heap[g]? =some (.cells cur e2 (0,0))∧v'= .slice oa (n+m) cap∧n+m≤cap∧w'=w.setRow g cur'∧cur'.size=cur.size∧w'.heap[g]? =some (.cells cur' e2 (0,0))∧w'.rangeAt g o (xs++news))∨
    (KQ w' w.heap.size e size v' (n+m) (xs++news)∧w.grownBy w' none∧v'.ownBlock=some w.heap.size∧Shape w w')):=by
 subst hsize
 subst hby
 rcases hx with⟨_,rfl,_⟩| ⟨a,c,rfl,hnews⟩
 ·omega
 have hgrow:cap<n+m→ ∀b,oa=some b→(∀j u,xs[j]? =some u→w.cell? (b.add j)=some u)→ ∃v' w',(dG #[t,t] ty #[.slice oa n cap, .slice (some a) m c]).run P w= .ok v' w'∧(KQ w' w.heap.size e i.size v' (n+m) (xs++news)∧w.grownBy w' none∧v'.ownBlock=some w.heap.size∧Shape w w'):=by
  intro hg b hb holds
  subst hb
  obtain⟨v',w',hr,h2,h3⟩:=run_append_arg_grows (P:=P) w t ty e i z i.size i.bytes ht hi hz rfl rfl hzs hsz b n cap xs hxl holds a m c news hl hnews hg h63 hbytes
  have Kc:=run_append_grow (P:=P) w t ty e i z ht hi hz b n cap xs hxl holds a m c news hl hnews hg (by simp only[maxLen]at h63;omega) (growslice_fits (by simp only[maxLen]at h63;omega) hbytes)
  have e2:=Kc.symm.trans hr
  simp only[Result.ok.injEq]at e2
  exact⟨v',w',hr,h2,h3,by rw[←e2.1];rfl,by rw[←e2.2];exact Shape.alloc _ _⟩
 rcases hown with⟨rfl,rfl⟩| ⟨g,o,cur,e2,rfl,hg,hnc,hcs,hr⟩
 ·have hx0:xs= []:=List.eq_nil_of_length_eq_zero (by simpa using hxl)
  subst hx0
  cases oa with
  |none=>
   have Kc:=run_append_nil (P:=P) w t ty e i z ht hi hz a m c news hl hnews (by omega) (by simp only[maxLen]at h63;omega) (by have hb:=hbytes;simp only[Nat.zero_add]at hb;omega)
   obtain⟨v',w',hr,h2,h3,_⟩:=run_append_own (P:=P) w w.heap.size t ty e i z i.size i.bytes ht hi hz rfl rfl hzs hsz (.slice none 0 0) 0 [] (World.ownsRow_nil w _ _ _) a m c news hl hnews h1 h63 hbytes (bh _)
   have e2:=Kc.symm.trans hr
   simp only[Result.ok.injEq]at e2
   exact⟨v',w',hr,bg ⟨h2,h3,by rw[←e2.1];rfl,by rw[←e2.2];exact Shape.alloc _ _⟩⟩
  |some b=>
   obtain⟨v',w',h⟩:=hgrow (by omega) b rfl (by simp)
   exact⟨v',w',h.1,bg h.2⟩
 ·by_cases hroom:n+m≤cap
  ·have h5:(n+m)*i.size≤cap*i.size:=bI _ hroom
   have hfit:o+n*i.size+news.length≤cur.size:=by rw[hl];rw[cG]at h5;omega
   have hf:=run_firstCells_some (P:=P) w i.size m a m c news hl hnews
   have hst:=run_storeCells_at P g (o+n*i.size) e2 news 0 cur w hg (by simpa using hfit) h1
   simp only[kH]at hst
   have Kc:(dG #[t,t] ty #[.slice (some ⟨g,o,none⟩) n cap, .slice (some a) m c]).run P w=
     .ok (.slice (some ⟨g,o,none⟩) (n+m) cap) (w.setRow g (cur.toList.take (o+n*i.size)++news++cur.toList.drop (o+n*i.size+news.length)).toArray):=by
    simp[dG,run_underlying ht,sizeOf,typeInfo,hi,Builtin.lenOf,hroom,hf,Addr.add_mid,hst]
   refine⟨_,_,Kc,bG ⟨g,o,cur,e2,_,rfl,hg,rfl,hroom,rfl,?_,setRow_heap w g cur _ e2 _ hg,?_⟩⟩
   ·simp only[List.size_toArray,aX,bL,bM,gC]
    omega
   ·refine QZ (setRow_heap w g cur _ e2 _ hg) _ _ fun j v hv=> ?_
    have zZ:(cur.toList.take (o+n*i.size)).length=o+n*i.size:=by rw[bL,gC];omega
    rw[List.getElem?_toArray,b7]
    by_cases hj:j<xs.length
    ·rw[bP hj]at hv
     have:=hr j v hv
     rw[F6 hg]at this
     rw[bP (by omega),cE,if_pos (by omega),Array.getElem?_toList]
     exact this
    ·rw[bQ (by omega)]at hv
     have hlt:=(aI.1 hv).1
     rw[bQ (by omega),bP (by omega),zZ]
     rw[show o+j-(o+n*i.size)=j-xs.length by omega]
     exact hv
  ·obtain⟨v',w',h⟩:=hgrow (by omega) _ rfl (fun j u hu=>by rw[Addr.add_mid];exact hr j u hu)
   exact⟨v',w',h.1,bg h.2⟩
theorem Wz{P:Program}{w:World}(t tyr e:TypeId)(i:TypeInfo)(z:Value)(size bytes:Nat)(ht:P.underlying t=some (.slice e))(hi:P.info? e=some i)(hz:i.zero=some z)
  (hsize:i.size=size)(hby:i.bytes=bytes)(hzs:z.cells.size=size)(hsz:0<size){α:Type}{E:ER α}(G:jA size E)
  {u0:Value}{l:List α}{fv:List Nat}(hS:Sl size E w u0 l fv){x:Value}{lx:List α}{news:List Value}{fx:List (List Nat)}(hx:Src w x lx.length news)(FT:fx.length=lx.length)(hl:news.length=lx.length*size)
  (hel: ∀i x f,lx[i]? =some x→fx[i]? =some f→E w ((news.drop (i*size)).take size) x f)(hO:Own 0 w (fv++fx.flatten))(hm:0<lx.length)
  (h63:l.length+lx.length≤maxLen)(hbytes:(l.length+lx.length)*bytes≤140737488355328):
  ∃v' w' fvn nb,(dG #[t,t] tyr #[u0,x]).run P w= .ok v' w'∧(∀y,y<w.heap.size→y∉fv→w'.heap[y]? =w.heap[y]?)∧w'.os=w.os∧w'.tape=w.tape∧w'.output=w.output∧w.heap.size≤w'.heap.size∧Shape w w'∧
   Sl size E w' u0 l fv∧Own 0 w' fv∧Sl size E w' v' (l++lx) fvn∧Own 0 w' fvn∧(∀y,y∈fvn→y∈fv∨y∈fx.flatten++nb)∧Own 0 w' (fx.flatten++nb)∧(∀y,y∈nb→w.heap.size≤y)∧ ∃oa m cap,v'= .slice oa m cap:=by
 obtain⟨hO1,hO2,hO3⟩:=aY.1 hO.nodup
 have TB: ∀y,y∈fx.flatten→y<w.heap.size:=fun y hy=>hO.lt y (aH _ hy)
 have aed: ∀y,y∈fv→y<w.heap.size:=fun y hy=>hO.lt y (aM _ hy)
 obtain⟨oa,cap,rfl,hc,hcm,h3⟩:=hS
 have key: ∃(xs:List Value) (cu:List (List Nat)),xs.length=l.length*size∧cu.length=l.length∧(∀i x f,l[i]? =some x→cu[i]? =some f→E w ((xs.drop (i*size)).take size) x f)∧(∀y,y∈cu.flatten→y∈fv)∧cu.flatten.Nodup∧
   ((l.length=0∧cap=0∧fv= [])∨ ∃g o cur e2,oa=some ⟨g,o,none⟩∧w.heap[g]? =some (.cells cur e2 (0,0))∧l.length≤cap∧o+cap*size≤cur.size∧w.rangeAt g o xs∧fv=g::cu.flatten):=by
  have hS0:Sl size E w (.slice oa l.length cap) l fv:=⟨oa,cap,rfl,hc,hcm,h3⟩
  obtain⟨xs,cu,h1,h2,h4,h5,h6,h7⟩:=tY G hsz hS0
  refine⟨xs,cu,h4,h2,h5,fun y hy=>h6.subset hy,h6.nodup hO1,?_⟩
  rcases h3 with⟨rfl,rfl,rfl⟩| ⟨g,o,ad0,rfl,hfit,rfl,hE⟩
  ·exact bG ⟨rfl,rfl,rfl⟩
  ·obtain⟨c1,e1,fz1,hq,OO⟩:=hfit
   obtain⟨cur,e2,hk⟩:=hO.kind g (by simp)
   rw[hq]at hk
   simp only[oI,ku]at hk
   obtain⟨rfl,rfl,rfl⟩:=hk
   refine bg ⟨g,o,c1,e1,rfl,hq,hc,OO,?_,by rw[h7 g _ rfl]⟩
   rcases h1 with⟨hs,_⟩| ⟨a,c,hs,hcells⟩
   ·cases hs
   ·simp only[cK,oI]at hs
    obtain⟨rfl,_,_⟩:=hs
    intro j u hu
    have:=hcells j u hu
    rwa [Addr.add_mid]at this
 obtain⟨xs,cu,hxl,hfl,hxe,hsub,Wd,acp⟩:=key
 have h1:=uR G FT hl hsz hel
 obtain⟨v',w',hr,hres⟩:=Wy (P:=P) w t tyr e i z size bytes ht hi hz hsize hby hzs hsz oa l.length cap xs hxl
  (acp.imp (fun h=>⟨h.1,h.2.1⟩) fun⟨g,o,cur,e2,q1,q2,q3,q4,q5,_⟩=>⟨g,o,cur,e2,q1,q2,q3,q4,q5⟩) x lx.length news hl hx h1 hm h63 hbytes
 have hall: ∀{w':World},Agree w w' (cu.flatten++fx.flatten)→ ∀j y f,(l++lx)[j]? =some y→(cu++fx)[j]? =some f→E w' (((xs++news).drop (j*size)).take size) y f:=by
  intro w' FV j y f hy qA
  by_cases hj:j<l.length
  ·rw[bP hj]at hy
   rw[bP (by omega)]at qA
   have:=hxe j y f hy qA
   have h5:j*size+size≤xs.length:=by
    rw[hxl]
    have:=bI size (show j+1≤l.length by omega)
    rw[cG]at this;omega
   rw[List.drop_append_of_le_length (by omega),List.take_append_of_le_length (by rw[bM];omega)]
   exact G.agree this (FV.sub fun b hb=>aM _ (dU qA hb))
  ·rw[bQ (by omega)]at hy
   rw[bQ (by omega),hfl]at qA
   have:=hel _ y f hy qA
   have h5:(xs++news).drop (j*size)=news.drop ((j-l.length)*size):=by
    rw[List.drop_append,List.drop_eq_nil_of_le (by rw[hxl];exact bI size (by omega)),List.nil_append,hxl,Nat.sub_mul]
   rw[h5]
   exact G.agree this (FV.sub fun b hb=>aH _ (dU qA hb))
 have vS:(cu++fx).flatten=cu.flatten++fx.flatten:=eP
 rcases hres with⟨g,o,cur,e2,cur',rfl,hg,rfl,hroom,rfl,hcs,hg',aee⟩| ⟨hrow,V5,Ec,hsh⟩
 ·
  rcases acp with⟨hl0,rfl,_⟩| ⟨g1,o1,alN,e3,q1,q2,q3,q4,q5,rfl⟩
  ·omega
  simp only[oI,eZ,and_true]at q1
  obtain⟨rfl,rfl⟩:=q1
  rw[hg]at q2
  simp only[oI,ku,and_true]at q2
  obtain⟨rfl,rfl⟩:=q2
  have hgn:g∉cu.flatten:=(b9.1 hO1).1
  have hgx:g∉fx.flatten:=fun h=>hO3 g (by simp) g h rfl
  have hkeep: ∀y,y≠g→(w.setRow g cur').heap[y]? =w.heap[y]? :=fun y hy=>setRow_other w g y _ hy
  have FV:Agree w (w.setRow g cur') (cu.flatten++fx.flatten):=fun y hy=>hkeep y fun h=>by
   subst h
   rcases aK.1 hy with hy|hy
   ·exact hgn hy
   ·exact hgx hy
  have hsh:Shape w (w.setRow g cur'):=Shape.row hg hcs
  have GL: ∀{f:List Nat},Own 0 w f→Own 0 (w.setRow g cur') f:=fun h=>⟨h.nodup,h.ge,fun b hb=>by
   obtain⟨c,e,hc⟩:=h.kind b hb
   obtain⟨c',h5,_⟩:=hsh b c e hc
   exact⟨_,_,h5⟩⟩
  have hOv:Own 0 w (g::cu.flatten):=⟨hO1,fun _ _=>aA _,fun b hb=>hO.kind b (aM _ hb)⟩
  have hOx:Own 0 w fx.flatten:=⟨hO2,fun _ _=>aA _,fun b hb=>hO.kind b (aH _ hb)⟩
  have hOa:Own 0 w (g::(cu++fx).flatten):=by rw[vS];exact hO
  have hE':=qh (w:=w.setRow g cur') (b:=g) (o:=o) (l:=l++lx) (xs:=xs++news) (cu:=cu++fx) (by simp[hfl,FT]) aee (hall FV)
  have hE0:sM size E (w.setRow g cur') g o l cu:=by
   refine⟨hfl,fun j y f hy hf=> ?_⟩
   have hj:=(aI.1 hy).1
   have hjf:=(aI.1 hf).1
   obtain⟨cs,r1,r2⟩:=hE'.2 j y f (by rw[bP hj];exact hy) (by rw[bP hjf];exact hf)
   exact⟨cs,r1,r2⟩
  have hfit:Fit (w.setRow g cur') g (o+cap*size):=⟨cur',e2,(0,0),hg',by rw[hcs];exact q4⟩
  refine⟨_,_,g::(cu++fx).flatten,[],hr,fun y hy hn=>hkeep y fun h=>hn (by simp[h]),rfl,rfl,rfl,by simp[World.setRow],hsh,⟨_,cap,rfl,hc,hcm,bg ⟨g,o,cu,rfl,hfit,rfl,hE0⟩⟩,GL hOv,
   ⟨_,cap,by rw[aX],by rw[aX];exact hroom,hcm,bg ⟨g,o,cu++fx,rfl,hfit,rfl,hE'⟩⟩,GL hOa,fun y hy=> ?_,by rw[cW];exact GL hOx,by simp,_,_,_,rfl⟩
  rw[vS]at hy
  simp only[aW,aK]at hy ⊢
  rcases hy with h|h|h
  ·exact bG (bG h)
  ·exact bG (bg h)
  ·exact bg (bG h)
 ·
  have hkeep: ∀y,y<w.heap.size→w'.heap[y]? =w.heap[y]? :=fun y hy=>V5.block y hy (by simp)
  have FV: ∀{f:List Nat},(∀y,y∈f→y<w.heap.size)→Agree w w' f:=fun h y hy=>hkeep y (h y hy)
  obtain⟨g,cap',cur,rfl,hgb,hg,hn1,hn2,Zu,hn4⟩: ∃g cap' cur,v'= .slice (some ⟨g,0,none⟩) (l.length+lx.length) cap'∧w.heap.size≤g∧w'.heap[g]? =some (.cells cur e (0,0))∧l.length+lx.length≤cap'∧cap'≤maxLen∧cap'*size≤cur.size∧cur.toList.take ((l.length+lx.length)*size)=xs++news:=by
   rcases hrow.2 with⟨_,h0⟩| ⟨g,cap',cur,r1,r2,r3,r4,r5,r6,r7⟩
   ·omega
   ·exact⟨g,cap',cur,r1,r2,r3,r4,r5,Nat.le_of_eq r6.symm,r7⟩
  have alT:g=w.heap.size:=by simpa[gH]using Ec
  have hOv:Own 0 w fv:=⟨hO1,fun _ _=>aA _,fun b hb=>hO.kind b (aM _ hb)⟩
  have hS0:Sl size E w (.slice oa l.length cap) l fv:=⟨oa,cap,rfl,hc,hcm,h3⟩
  have hlt2: ∀y,y∈(cu++fx).flatten→y<w.heap.size:=by
   intro y hy
   rw[vS]at hy
   rcases aK.1 hy with hy|hy
   ·exact aed y (hsub y hy)
   ·exact TB y hy
  have aje:(cu++fx).flatten.Nodup:=by
   rw[vS]
   exact aY.2 ⟨Wd,hO2,fun a ha b hb e=>hO3 a (hsub a ha) b hb e⟩
  have acs: ∀y,y∈(cu++fx).flatten→ ∃c e,w'.heap[y]? =some (.cells c e (0,0)):=by
   intro y hy
   rw[hkeep y (hlt2 y hy)]
   rw[vS]at hy
   rcases aK.1 hy with hy|hy
   ·exact hO.kind y (aM _ (hsub y hy))
   ·exact hO.kind y (aH _ hy)
  have hE':=qh (w:=w') (b:=g) (o:=0) (l:=l++lx) (xs:=xs++news) (cu:=cu++fx) (by simp[hfl,FT])
   (fun j u hu=>yB (o:=0) (m:=(l.length+lx.length)*size) hg j u (by rw[eV,hn4];exact hu)) (hall (FV (by rw[←vS];exact hlt2)))
  refine⟨_,_,g::(cu++fx).flatten,[g],hr,fun y hy _=>hkeep y hy,V5.os,V5.tape,V5.output,V5.size,hsh,Sl.agree G hS0 (FV aed),hOv.agree (FV aed),
   ⟨_,cap',by rw[aX],by rw[aX];exact hn1,hn2,bg ⟨g,0,cu++fx,rfl,⟨cur,e,(0,0),hg,by omega⟩,rfl,hE'⟩⟩,⟨b9.2 ⟨fun h=>by have:=hlt2 g h;omega,aje⟩,fun _ _=>aA _,fun y hy=> ?_⟩,fun y hy=> ?_,⟨?_,fun _ _=>aA _,fun y hy=> ?_⟩,fun y hy=>by simp at hy;omega,_,_,_,rfl⟩
  ·rcases aW.1 hy with rfl|hy
   ·exact⟨_,_,hg⟩
   ·exact acs y hy
  ·rw[vS]at hy
   simp only[aW,aK,List.not_mem_nil,or_false]at hy ⊢
   rcases hy with h|h|h
   ·exact bg (bg h)
   ·exact bG (hsub y h)
   ·exact bg (bG h)
  ·refine aY.2 ⟨hO2,by simp,fun a ha b hb e=> ?_⟩
   simp at hb
   have:=TB a ha
   omega
  ·rcases aK.1 hy with hy|hy
   ·exact acs y (by rw[vS];exact aH _ hy)
   ·simp at hy;subst hy;exact⟨_,_,hg⟩
section
variable{P:Program}{zb:eJ}{st st':St}{a:Act}{w:World}{env:Env}{Q:Exit→Act→World→Prop}{o:Oper}
theorem MX{cu:List (List Nat)}{i:Nat}{f:List Nat}(h:i<cu.length):(cu.set i f).flatten=(cu.take i).flatten++(f++(cu.drop (i+1)).flatten):=by
 rw[List.set_eq_take_append_cons_drop,if_pos h,eP,bO]
theorem CV{w w':World}: ∀{c:List V} {us:List Value} {f:List Nat},dM w c us f→Agree w w' f→dM w' c us f
 | [],[],_,h,_=>h
 | [],_::_,_,h,_=>h.elim
 |_::_,[],_,h,_=>h.elim
 |v::r,u::us,f,h,ha=>by
  obtain⟨f1,f2,h1,h2,rfl⟩:=h
  refine⟨f1,f2,?_,CV h2 (ha.sub fun y hy=>aH _ hy),rfl⟩
  cases v with
  |lit x=>exact h1
  |sl t l=>exact Sl.agree (fP t) h1 (ha.sub fun y hy=>aM _ hy)
  |_=>exact h1.elim
theorem TG{n i off:Nat}{t:Tag}{l:List (T t)}{u0:Value}{gt:Tag}{l0:List (T gt)}(g:Good ty zb st a.tmps w env)(Zv:RV w st.hp env n (some (i,off)) t l u0)(hl:look st.hp n=some (.arr gt l0)):
  ∃(b o1 len cap:Nat) (fv A B:List Nat),(env n).v= .slice (some ⟨b,o1,none⟩) len cap∧(env n).fp=b::(A++(fv++B))∧Sl (kk t) (rd t) w u0 l fv∧Own 0 w (b::(A++(fv++B)))∧w.cell? ⟨b,o1+i*kk gt+off,none⟩=some u0∧
   ∀(l2:List (T t)) c tO x',IC (dec gt (l0.getD i (aO gt))) off [.sl t l2]=some c→enc gt c=some (tO,x')→(∀q,q∈tO→q)→ ∀(w':World) (u':Value) (EP:List Nat),
    (∀y,y∈A++B→w'.heap[y]? =w.heap[y]?)→(∀o cs,w.rangeAt b o cs→(o+cs.length≤o1+i*kk gt+off∨o1+i*kk gt+off+1≤o)→w'.rangeAt b o cs)→
    w'.cell? ⟨b,o1+i*kk gt+off,none⟩=some u'→(∀c e,w.heap[b]? =some (.cells c e (0,0))→ ∃c',w'.heap[b]? =some (.cells c' e (0,0))∧c'.size=c.size)→
    Sl (kk t) (rd t) w' u' l2 EP→Own 0 w' (b::(A++(EP++B)))→pH ty w' n gt (l0.set i x') ⟨(env n).v,b::(A++(EP++B))⟩:=by
 obtain⟨_,_,Wh⟩:=Zv
 obtain⟨t1,l1,b2,o2,adY,aae,hl1,hi,Pv,TA,IE,hcell⟩:=Wh i off rfl
 rw[hl]at hl1
 simp only[oI,Obj.arr.injEq]at hl1
 obtain⟨rfl,hl1⟩:=hl1
 cases hl1
 have hro:=g.obj n _ hl
 obtain⟨oa,cap,tI,Ad,KG,h3⟩:=RO.sl hro
 have hown:=RO.own hro
 rcases h3 with⟨rfl,_⟩| ⟨b,o1,cu,Pu,dS,iV,hE⟩
 ·simp at hi
 rw[tI,Pu]at TA
 simp only[cK,oI,eZ,and_true]at TA
 obtain⟨⟨rfl,rfl⟩,rfl,rfl⟩:=TA
 have Wb:l0[i]? =some (l0.getD i (aO gt)):=by rw[ak,au hi];rfl
 obtain⟨fe,hf⟩:=kG hE.1 Wb
 have S4:=(aI.1 hf).1
 obtain⟨cs,Bh,Zy⟩:=hE.2 _ _ fe Wb hf
 have hlen:=(fP gt).len Zy
 have hR:=reads gt Zy
 obtain⟨f1,f',hfe,k1,k2⟩:=dM.split off hR
 have zi: ∃r',(dec gt (l0.getD i (aO gt))).drop off= .sl t l::r':=by
  rw[Bf]at Pv
  have hlt:=(aI.1 Pv).1
  rw[List.drop_eq_getElem_cons hlt]
  have:=(aI.1 Pv).2
  rw[this]
  exact⟨_,rfl⟩
 obtain⟨r',zi⟩:=zi
 rw[zi]at k2
 have GK: ∃u us,cs.drop off=u::us:=by
  cases hq:cs.drop off with
  |nil=>rw[hq]at k2;exact k2.elim
  |cons u us=>exact⟨u,us,rfl⟩
 obtain⟨u,us,GK⟩:=GK
 rw[GK]at k2
 obtain⟨fv,f3,OM,Wi,hf'⟩:=k2
 have huc:cs[off]? =some u:=by
  have:=congrArg (fun l=>l[0]?) GK
  simpa using this
 have hoff:off<cs.length:=(aI.1 huc).1
 have hue:u0=u:=by
  have:=Bh off u huc
  rw[hcell]at this
  simpa using this
 subst hue
 have hfl:cu.flatten=((cu.take i).flatten++f1)++(fv++(f3++(cu.drop (i+1)).flatten)):=by
  have h1:cu.set i fe=cu:=by
   obtain⟨_,h⟩:=aI.1 hf
   rw[←h];exact xj S4
  have h2:=MX (cu:=cu) (f:=fe) S4
  rw[h1]at h2
  rw[h2,hfe,hf']
  simp only[b7]
 refine⟨b,o1,l0.length,cap,fv,(cu.take i).flatten++f1,f3++(cu.drop (i+1)).flatten,by rw[tI,Pu],by rw[iV,hfl],OM,by rw[←hfl, ←iV];exact hown,hcell,?_⟩
 intro l2 c tO x' hs he hv w' u' EP hAB hbr hbc Ke hS' Zz
 have L2:c=(dec gt (l0.getD i (aO gt))).take off++([.sl t l2]++r'):=by
  unfold IC at hs
  split at hs
  ·simp only[oI]at hs
   rw[←hs]
   congr 2
   have:(dec gt (l0.getD i (aO gt))).drop (off+ [V.sl t l2].length)=((dec gt (l0.getD i (aO gt))).drop off).drop 1:=by rw[lY];rfl
   rw[this,zi];rfl
  ·cases hs
 have ag1:Agree w w' f1:=fun y hy=>hAB y (by simp[hy])
 have ag3:Agree w w' f3:=fun y hy=>hAB y (by simp[hy])
 have hrd:dM w' c (cs.take off++([u']++us)) (f1++(EP++f3)):=by
  rw[L2]
  exact dM.adV (CV k1 ag1) (y:= [.sl t l2]) (vs:= [u']) ⟨EP,[],hS',rfl,by simp⟩ (CV Wi ag3)
 have hEn:=uW gt he (fun q hq=>hv q hq) hrd
 have hkk:0<kk gt:=iW gt
 have V1:us=cs.drop (off+1):=by
  have:=congrArg (fun l=>l.drop 1) GK
  simp only[lY,List.drop_succ_cons,eV]at this
  exact this.symm
 have htl:(cs.take off).length=off:=by rw[bL];omega
 have aee:w'.rangeAt b (o1+i*kk gt) (cs.take off++([u']++us)):=by
  refine sS (hbr _ _ (Bq Bh) (bG (by rw[htl];omega))) ?_
  rw[htl]
  refine sS (x:= [u']) (fun j v hj=> ?_) ?_
  ·have hj0:j=0:=by have:=(aI.1 hj).1;simpa using this
   subst hj0
   simp at hj
   rw[kH,hbc,hj]
  ·rw[V1]
   refine hbr _ _ ?_ (bg (by simp))
   have:=Br (n:=off+1) Bh
   rwa [←Nat.add_assoc]at this
 have KH:sM (kk gt) (rd gt) w' b o1 (l0.set i x') (cu.set i (f1++(EP++f3))):=by
  refine⟨by rw[bH,bH];exact hE.1,fun j y fy hy qA=> ?_⟩
  by_cases hj:i=j
  ·subst hj
   rw[eY hi]at hy
   rw[eY S4]at qA
   simp only[oI]at hy qA
   subst hy;subst qA
   exact⟨_,aee,hEn⟩
  ·rw[List.getElem?_set_ne hj]at hy qA
   obtain⟨cy,hry,QO⟩:=hE.2 j y fy hy qA
   refine⟨cy,hbr _ _ hry ?_,(fP gt).agree QO fun z hz=>hAB z ?_⟩
   ·rw[(fP gt).len QO]
    rcases mS j i with h1|h1
    ·left
     have:=bI (kk gt) (show j+1≤i by omega)
     rw[cG]at this;omega
    ·right
     have:=bI (kk gt) (show i+1≤j by omega)
     rw[cG]at this;omega
   ·rcases mS j i with h1|h1
    ·refine aM _ (aM _ (dU (i:=j) ?_ hz))
     rw[cE,if_pos h1];exact qA
    ·refine aH _ (aH _ (dU (i:=j-(i+1)) ?_ hz))
     rw[List.getElem?_drop,show i+1+(j-(i+1))=j by omega];exact qA
 have ajh:(cu.set i (f1++(EP++f3))).flatten=((cu.take i).flatten++f1)++(EP++(f3++(cu.drop (i+1)).flatten)):=by
  rw[MX S4];simp only[b7]
 rw[←ajh]at Zz ⊢
 have hfit:Fit w' b (o1+cap*kk gt):=by
  obtain⟨c0,e0,fz0,q1,q2⟩:=dS
  obtain⟨c1,e1,q3⟩:=hown.kind b (by rw[iV];simp)
  rw[q3]at q1
  simp only[oI,ku]at q1
  obtain⟨rfl,rfl,rfl⟩:=q1
  obtain⟨c',q4,q5⟩:=Ke _ _ q3
  exact⟨c',_,_,q4,by rw[q5];exact q2⟩
 have We:Sl (kk gt) (rd gt) w' (env n).v (l0.set i x') (b::(cu.set i (f1++(EP++f3))).flatten):=
  ⟨some ⟨b,o1,none⟩,cap,by rw[tI,Pu,bH],by rw[bH];exact Ad,KG,bg ⟨b,o1,_,rfl,hfit,rfl,KH⟩⟩
 unfold pH
 cases hp:soft n with
 |true=>exact⟨We,Zz⟩
 |false=>
  have hB:=RO.Zr hp hro
  rcases hB.parts with⟨h1,rfl,_⟩| ⟨g0,o0,n0,cc,ad0,h1,hn0,Tv,q1,q2,_⟩
  ·simp at hi
  ·rw[tI,Pu]at h1
   simp only[cK,oI,eZ,and_true,true_and]at h1
   obtain⟨⟨rfl,rfl⟩,rfl⟩:=h1
   obtain⟨cc',q3,q4⟩:=Ke _ _ q1
   show lP (kk gt) (rd gt) 0 (ty gt) w' (env n).v (l0.set i x') _
   rw[tI,Pu, ←bH (as:=l0) (i:=i) (a:=x')]
   exact mT (fP gt) q3 (by rw[q4];exact q2) (by rw[bH];exact Ad) KG KH Zz
def aau(P:Program)(ty:Tag→Nat)(Γ:Nat→TK)(st:St)(m0:Nat):Op→Option (List Prop×St×SV)
 | .call ⟨.builtin .append,xs,ts⟩=>match xs.toList,ts.toList with
   | [s,x],[t1,t2]=>match Γ t1,bf t1 t2 with
     | .sl t e,true=>match bf e (ty t),jh st [] s,jh st [] x with
       |true,some (.a (.vw n (some (i,off)) t' l')),some vx=>match jX t t' l',KE st t vx,look st.hp n with
        |some l,some (lx,m),some (.arr gt l0)=>match Bn [n] m&& !pinned m&& !ng m0,look (dQ m [n] st.hp) m0,(IC (dec gt (l0.getD i (aO gt))) off [.sl t l]).bind (enc gt)with
         |true,none,some (vc0,x0)=>some (El P ty t::(0<lx.length)::((l.length+lx.length)*gl t≤140737488355328∧l.length+lx.length≤maxLen)::(x0=l0.getD i (aO gt))::vc0,
           ⟨st.n,st.sl.map fun e=>(e.1,e.2.cM m [n]),(m0, .jc t (l++lx) (.zg (some (n,i,off))))::dQ m [n] st.hp⟩, .one (.a (.yC m0)))
         |_,_,_=>none
        |_,_,_=>none
       |_,_,_=>none
     |_,_=>none
   |_,_=>none
 |_=>none
theorem aav{Γ:Nat→TK}(C: ∀t,fD P t (Γ t)){m0:Nat}{vc:List Prop}{v:SV}(h:aau P ty Γ st m0 o.op=some (vc,st',v))(g:Good ty zb st a.tmps w env)(hB:zb.w.heap.size≤w.heap.size)(hv: ∀q,q∈vc→q):
  o.wp P a w (fun a' w'=> ∃u env',a'=a.put o.dst u∧Kept zb w w'∧Good ty zb st' a.tmps w' env'∧st'.n=st.n∧sK w' st'.hp env' a.tmps v u) Q:=by
 have hop: ∀{x v},jh st [] x=some v→ji w st.hp env v (a.eval x):=fun hx=>gu g (fun e he=>by simp at he) hx
 generalize iJ:o.op=op at h
 unfold aau at h
 split at h
 case h_2=>cases h
 rename_i xs ts
 split at h
 case h_2=>cases h
 rename_i s x t1 t2 hxl htl
 obtain rfl:xs= #[s,x]:=CJ hxl
 obtain rfl:ts= #[t1,t2]:=CJ htl
 split at h
 case h_2=>cases h
 rename_i t0 e hk Ac
 have Ac:=av Ac
 subst Ac
 split at h
 case h_2=>cases h
 rename_i n i off t l vx he hs hx
 have he:=av he
 split at h
 case h_2=>cases h
 rename_i l2 lx m gt l0 hc hsr hln
 split at h
 case h_2=>cases h
 rename_i vc0 x0 hno hlk hse
 simp only[oI,pI]at h
 obtain⟨rfl,rfl,rfl⟩:=h
 obtain⟨ec,qN⟩:=fL hc
 subst ec
 obtain rfl:l=l2:=qN.symm
 simp only[aj,bp]at hno
 obtain⟨⟨hno,hpk⟩,Gw⟩:=hno
 have hnm:n∉m:=by
  intro hm
  simp only[Bn,List.all_cons,List.all_nil,Bool.and_true,bp,List.any_eq_false]at hno
  exact hno n hm (by simp)
 obtain⟨c0,hs0,he0⟩:=Option.bind_eq_some_iff.1 hse
 have vQ:El P ty t:=hv _ (by simp)
 have hlx:0<lx.length:=hv _ (by simp)
 obtain⟨ck,dS⟩:(l.length+lx.length)*gl t≤140737488355328∧l.length+lx.length≤maxLen:=hv _ (by simp)
 have hx0:x0=l0.getD i (aO gt):=hv _ (by simp)
 have hv0: ∀q,q∈vc0→q:=fun q hq=>hv q (by simp[hq])
 have Zv:RV w st.hp env n (some (i,off)) t l (a.eval s):=hop hs
 obtain⟨b,o1,len,cap,fv,A,B,TA,iV,hS,hO,hcell,hput⟩:=TG g Zv hln
 obtain⟨news,fx,n1,n2,n3,n4,n5,n6⟩:=Jp g (hop hx) hsr
 have hC:=C t1
 rw[hk]at hC
 obtain⟨inf,hi,hz,hsize,hby⟩:=info_parts vQ
 have hxn: ∀y,y∈fx.flatten→y∉(env n).fp:=by
  intro y hy hyn
  obtain⟨j,oj,hj,h1,h2⟩:=n5 y hy
  exact g.lR j n _ _ (fun e=>hnm (e▸hj)) h1 hln y h2 hyn
 have TH: ∀y,y∈fv→y∈(env n).fp:=fun y hy=>by rw[iV];simp[hy]
 obtain⟨d1,d2⟩:=b9.1 hO.nodup
 obtain⟨d3,d4,d5⟩:=aY.1 d2
 obtain⟨d6,d7,d8⟩:=aY.1 d4
 have hOv:Own 0 w (fv++fx.flatten):=by
  refine⟨aY.2 ⟨d6,n6.nodup,fun y hy z hz e=>hxn z hz (e▸TH y hy)⟩,fun _ _=>aA _,fun y hy=> ?_⟩
  rcases aK.1 hy with hy|hy
  ·exact hO.kind y (by simp[hy])
  ·exact n6.kind y hy
 obtain⟨v',w',fvn,nb,hr,hkeep,k1,k2,k3,k4,hsh,hS1,hO1,hS2,hO2,hsub,hO3,hnb,Zm,m',cap',GB⟩:=Wz (P:=P) t1 o.type (ty t) inf (iH t) (kk t) (gl t) (by rw[←he];exact hC.1) hi hz hsize hby (mB t) (iW t) (fP t) hS n1 n2 n3 n4 hOv hlx dS ck
 have hnlt: ∀y,y∈(env n).fp→y<w.heap.size:=(g.obj n _ hln).zS
 have hdn: ∀y,y∈fx.flatten++nb→y∉(env n).fp:=by
  intro y hy hyn
  rcases aK.1 hy with hy|hy
  ·exact hxn y hy hyn
  ·have:=hnb y hy;have:=hnlt y hyn;omega
 have hkA: ∀y,y∈A++B→w'.heap[y]? =w.heap[y]? :=by
  intro y hy
  have hyf:y∈(env n).fp:=by rw[iV];rcases aK.1 hy with h|h<;>simp[h]
  refine hkeep y (hnlt y hyf) fun hf=> ?_
  rcases aK.1 hy with h|h
  ·exact d5 y h y (by simp[hf]) rfl
  ·exact d8 y hf y h rfl
 have hkb:w'.heap[b]? =w.heap[b]? :=hkeep b (hnlt b (by rw[iV];simp)) fun hf=>d1 (by simp[hf])
 obtain⟨cb,eb,vg⟩:=hO.kind b (by simp)
 have rz:o1+i*kk gt+off<cb.size:=by
  rw[F6 vg]at hcell
  exact(Array.getElem?_eq_some_iff.1 hcell).1
 have agM:l0.set i x0=l0:=by
  rw[hx0]
  by_cases hi:i<l0.length
  ·rw[ak,au hi];exact xj hi
  ·rw[List.set_eq_of_length_le (by omega)]
 have hRn:pH ty w' n gt l0 (env n):=by
  have:=hput l c0 vc0 x0 hs0 he0 hv0 w' (a.eval s) fv hkA (fun o cs hr _ j u hu=>by rw[eG (w:=w) (a:=⟨b,_,none⟩) hkb];exact hr j u hu)
   (by rw[eG (w:=w) (a:=⟨b,_,none⟩) hkb];exact hcell) (fun c e h=>hsh b c e h) hS1 (hO.nodup|>fun hn=>⟨hn,fun _ _=>aA _,fun y hy=>by
    obtain⟨c,e,h1⟩:=hO.kind y hy
    obtain⟨c',h2,_⟩:=hsh y c e h1
    exact⟨_,_,h2⟩⟩)
  rw[agM, ←iV]at this
  exact this
 have hnd: ∀k o,k∉m→look st.hp k=some o→k≠m0:=by
  rintro k o hks h1 rfl
  rw[c8,if_neg hks,h1]at hlk
  cases hlk
 have Tv:n≠m0:=hnd n _ hnm hln
 have WA: ∀k o,look ((m0,Obj.jc t (l++lx) (.zg (some (n,i,off))))::dQ m [n] st.hp) k=some o→(k=m0∧o= .jc t (l++lx) (.zg (some (n,i,off))))∨(k≠m0∧k∉m∧ ∃o',look st.hp k=some o'∧o=o'.cM m [n]):=by
  intro k o hm
  by_cases kK:k=m0
  ·subst kK;rw[look_eq]at hm;simp only[oI]at hm;exact bG ⟨rfl,hm.symm⟩
  ·rw[bX kK,c8]at hm
   split at hm
   ·cases hm
   ·rename_i hks
    cases hq:look st.hp k with
    |none=>rw[hq]at hm;cases hm
    |some o'=>rw[hq]at hm;simp only[Option.map_some,oI]at hm;exact bg ⟨kK,hks,o',rfl,hm.symm⟩
 have Rj: ∀y,y∈fx.flatten++nb→y<w.heap.size→ ∃j oj,j∈m∧look st.hp j=some oj∧y∈(env j).fp:=by
  intro y hy hlt
  rcases aK.1 hy with hy|hy
  ·exact n5 y hy
  ·have:=hnb y hy;omega
 have hst: ∀k o,k≠n→look st.hp k=some o→ ∀y,y∈(env k).fp→w'.heap[y]? =w.heap[y]? :=fun k o hkn h1 y hy=>
  hkeep y ((g.obj k o h1).zS y hy) fun hf=>g.lR k n _ _ hkn h1 hln y hy (TH y hf)
 have ajm:look ((m0,Obj.jc t (l++lx) (.zg (some (n,i,off))))::dQ m [n] st.hp) n=some (.arr gt l0):=by
  rw[bX Tv,c8,if_neg hnm,hln];rfl
 have hs':uc m [n] w st.hp env w' ((m0, .jc t (l++lx) (.zg (some (n,i,off))))::dQ m [n] st.hp) (fun k=>if k=m0 then⟨v',fx.flatten++nb⟩else env k):=by
  refine⟨fun y hy hno=>hkeep y hy fun hf=>hno ⟨n,_,hln,TH y hf⟩,?_,?_,?_⟩
  ·rintro y hy ⟨k,o',h1,h2⟩
   rcases WA k o' h1 with⟨rfl,_⟩| ⟨kK,hks,AW,h3,rfl⟩
   ·simp only[if_true]at h2
    obtain⟨j,oj,_,h3,h4⟩:=Rj y h2 hy
    exact⟨j,oj,h3,h4⟩
   ·simp only[if_neg kK]at h2
    exact⟨k,AW,h3,h2⟩
  ·intro k o' hks h1
   have kK:=hnd k o' hks h1
   exact⟨o'.cM m [n],by rw[bX kK,c8,if_neg hks,h1];rfl,by cases o'<;>simp[Obj.like,Obj.cM],by simp[kK]⟩
  ·rintro k t2 l2 ⟨hks,hkn⟩ h1
   have kK:=hnd k _ hks h1
   exact⟨by rw[bX kK,c8,if_neg hks,h1];rfl,by simp[kK],hst k _ (by simpa using hkn) h1⟩
 have agN:=g.kj hs' (fun k o' hm=> ?_) (fun k k' q1 q2 hne h1 h2 y hy hy'=> ?_) (fun k o' hm y hy=> ?_) (fun k hm=> ?_)
 ·refine ?_
  unfold iK execOp
  simp only[iJ,resolve,invoke,builtin,Sem.run_bind,Sem.run_pure,Result.andThen_ok,List.map_toArray,cA,List.map_nil,hr]
  exact⟨v',_,rfl,⟨k1,k2,k3,k4,fun y hy hn=>hkeep y (by omega) fun hf=>by
   rcases g.dom n _ hln y (TH y hf)with h|h
   ·exact hn h
   ·omega,hsh⟩,agN,trivial,⟨t,_,_,look_eq⟩,by simp⟩
 ·rcases WA k o' hm with⟨e1,e2⟩| ⟨kK,hks,AW,h3,rfl⟩
  ·rw[e1,e2]
   simp only[if_true]
   refine⟨hO3,⟨Zm,m',cap',GB⟩,fun n' i' off' e=> ?_⟩
   simp only[oI,pI]at e
   obtain⟨rfl,rfl,rfl⟩:=e
   refine⟨gt,l0,b,o1,len,cap,ajm,by simp only[if_neg Tv];exact TA,by simp only[if_neg Tv];rw[iV];simp,?_⟩
   simp only[if_neg Tv]
   intro w2 a1 a2 d vc y' hs1 he1 EN
   have hbn:b∈(env n).fp:=by rw[iV];simp
   have agO:w2.heap[b]? =w.heap[b]? :=(a1 b hbn).trans hkb
   have WB:w2.heap[b]? =some (.cells cb eb (0,0)):=agO.trans vg
   have QN:w2.there b (o1+i*kk gt+off) [v'].length:=Kh WB _ _ (by simp only[List.length_singleton];omega)
   have hbA: ∀y,y∈A++B→y≠b:=by
    rintro y hy rfl
    apply d1
    rcases aK.1 hy with h|h<;>simp[h]
   have hAf: ∀y,y∈A++B→y∈(env n).fp:=by
    intro y hy
    rw[iV];rcases aK.1 hy with h|h<;>simp[h]
   have WC: ∀y,y≠b→(w2.setCells b (o1+i*kk gt+off) [v']).heap[y]? =w2.heap[y]? :=fun y hy=>dP b _ _ w2 y hy
   have aef: ∀y,y∈A++B→(w2.setCells b (o1+i*kk gt+off) [v']).heap[y]? =w.heap[y]? :=fun y hy=>(WC y (hbA y hy)).trans ((a1 y (hAf y hy)).trans (hkA y hy))
   have hfb: ∀y,y∈fvn→y≠b:=by
    rintro y hy rfl
    rcases hsub y hy with h|h
    ·exact d1 (by simp[h])
    ·exact hdn y h hbn
   have hfa: ∀y,y∈fvn→(w2.setCells b (o1+i*kk gt+off) [v']).heap[y]? =w'.heap[y]? :=by
    intro y hy
    refine(WC y (hfb y hy)).trans ?_
    rcases hsub y hy with h|h
    ·exact a1 y (TH y h)
    ·exact a2 y h
   have agP: ∀y,y∈fvn→y∉A++B:=by
    intro y hy hyA
    rcases hsub y hy with h|h
    ·rcases aK.1 hyA with h2|h2
     ·exact d5 y h2 y (by simp[h]) rfl
     ·exact d8 y h y h2 rfl
    ·exact hdn y h (hAf y hyA)
   refine⟨by simpa using QN,b::(A++(fvn++B)),fun y hy=> ?_,?_⟩
   ·simp only[aW,aK]at hy
    rcases hy with rfl|h|h|h
    ·exact bG hbn
    ·exact bG (hAf y (by simp[h]))
    ·rcases hsub y h with h|h
     ·exact bG (TH y h)
     ·exact bg h
    ·exact bG (hAf y (by simp[h]))
   ·refine hput (l++lx) d vc y' hs1 he1 EN _ v' fvn aef (fun o cs hr hd=> ?_) ?_ (fun c e h=> ?_) (Sl.agree (fP t) hS2 hfa) ⟨b9.2 ⟨fun hm=> ?_,?_⟩,fun _ _=>aA _,fun y hy=> ?_⟩
    ·refine World.rangeAt_setCells_apart (fun j u hu=> ?_) _ _ _ (bg (hd.imp id fun h=>by simpa using h))
     rw[eG (w:=w) (a:=⟨b,_,none⟩) agO];exact hr j u hu
    ·have:=World.rangeAt_setCells_same w2 b _ [v'] QN 0 v' rfl
     simpa using this
    ·rw[vg]at h
     simp only[oI,ku,and_true]at h
     obtain⟨rfl,rfl⟩:=h
     exact fN b eb [v'] _ w2 cb WB
    ·simp only[aK]at hm
     rcases hm with h|h|h
     ·exact hbA b (by simp[h]) rfl
     ·exact hfb b h rfl
     ·exact hbA b (by simp[h]) rfl
    ·refine aY.2 ⟨d3,aY.2 ⟨hO2.nodup,d7,fun y hy z hz e=>agP y hy (by simp[e▸hz])⟩,fun y hy z hz e=> ?_⟩
     rcases aK.1 hz with h|h
     ·exact agP z h (by simp[e▸hy])
     ·exact d5 y hy z (by simp[h]) e
    ·rcases aW.1 hy with rfl|hy
     ·obtain⟨c',q1,_⟩:=fN y eb [v'] (o1+i*kk gt+off) w2 cb WB
      exact⟨_,_,q1⟩
     ·simp only[aK]at hy
      rcases hy with h|h|h
      ·rw[aef y (by simp[h])];exact hO.kind y (by simp[h])
      ·rw[hfa y h];exact hO2.kind y h
      ·rw[aef y (by simp[h])];exact hO.kind y (by simp[h])
  ·simp only[if_neg kK]
   by_cases hkn:k=n
   ·subst hkn
    rw[hln]at h3
    simp only[oI]at h3
    subst h3
    exact hRn
   ·exact(g.obj k AW h3).kj hs' (hst k AW hkn h3)
 ·rcases WA k q1 h1 with⟨e1,_⟩| ⟨kK,hks,r1,h3,_⟩<;>rcases WA k' q2 h2 with⟨e2,_⟩| ⟨EO,Pp,r2,h4,_⟩
  ·exact hne (e1.trans e2.symm)
  ·simp only[if_pos e1]at hy
   simp only[if_neg EO]at hy'
   obtain⟨j,oj,hj,h5,h6⟩:=Rj y hy ((g.obj k' r2 h4).zS y hy')
   exact g.lR k' j _ _ (fun e=>Pp (e▸hj)) h4 h5 y hy' h6
  ·simp only[if_pos e2]at hy'
   simp only[if_neg kK]at hy
   obtain⟨j,oj,hj,h5,h6⟩:=Rj y hy' ((g.obj k r1 h3).zS y hy)
   exact g.lR k j _ _ (fun e=>hks (e▸hj)) h3 h5 y hy h6
  ·simp only[if_neg kK]at hy
   simp only[if_neg EO]at hy'
   exact g.lR k k' _ _ hne h3 h4 y hy hy'
 ·rcases WA k o' hm with⟨e1,_⟩| ⟨kK,hks,q1,h3,_⟩
  ·simp only[if_pos e1]at hy
   by_cases hlt:y<w.heap.size
   ·obtain⟨j,oj,_,h5,h6⟩:=Rj y hy hlt
    exact g.dom j oj h5 y h6
   ·exact bg (by omega)
  ·simp only[if_neg kK]at hy
   exact g.dom k q1 h3 y hy
 ·have:k≠m0:=by rintro rfl;rw[Gw]at hm;cases hm
  simp only[if_neg this]
  exact g.pins k hm
def aeg(Γ:Nat→TK)(st:St):Op→Option (List Prop×St)
 | .store t x y=>match jh st [] x,jh st [] y with
   |some (.a (.rj n i off)),some (.a (.yC d))=>match look st.hp n,look st.hp d with
    |some (.arr gt l0),some (.jc t' l (.zg (some (n',i',off'))))=>match bf n n'&&(bf i i'&&bf off off')&& !ng n&&MF n [d]&&fits (Γ t) (.a (.yC d)),(IC (dec gt (l0.getD i (aO gt))) off [.sl t' l]).bind (enc gt)with
     |true,some (vc,y')=>some (vc,st.Pt [d] n gt (l0.set i y'))
     |_,_=>none
    |_,_=>none
   |_,_=>none
 |_=>none
theorem aay{Γ:Nat→TK}(Z: ∀t,(∀z tg fo,Γ t≠ .st z tg fo)→Γ t≠ .other→(P.info? t).map (·.size)=some 1){vc:List Prop}(h:aeg Γ st o.op=some (vc,st'))(g:Good ty zb st a.tmps w env)(hv: ∀q,q∈vc→q):
  o.wp P a w (fun a' w'=> ∃env',a'=a.put o.dst undef∧Kept zb w w'∧Good ty zb st' a.tmps w' env'∧st'.n=st.n) Q:=by
 have hop: ∀{x v},jh st [] x=some v→ji w st.hp env v (a.eval x):=fun hx=>gu g (fun e he=>by simp at he) hx
 generalize iJ:o.op=op at h
 unfold aeg at h
 split at h
 case h_2=>cases h
 rename_i t x y
 split at h
 case h_2=>cases h
 rename_i n i off d hx hy
 have hx:=hop hx
 have hy:=hop hy
 split at h
 case h_2=>cases h
 rename_i gt l0 t' l n' i' off' hl hd
 split at h
 case h_2=>cases h
 rename_i tO y' hok hse
 simp only[oI,pI]at h
 obtain⟨rfl,rfl⟩:=h
 simp only[aj,bp]at hok
 obtain⟨⟨⟨⟨e1,e2,e3⟩,hpn⟩,hok⟩,hfit⟩:=hok
 obtain rfl:=av e1
 obtain rfl:=av e2
 obtain rfl:=av e3
 obtain⟨c0,hs0,he0⟩:=Option.bind_eq_some_iff.1 hse
 obtain⟨hOd,⟨oa,m,cp,Eb⟩,hpr⟩:CG ty w st.hp env t' l (some (n,i,off)) (env d):=g.obj d _ hd
 obtain⟨tA,lA,b,o1,len,cap,q1,q2,q3,q4⟩:=hpr n i off rfl
 rw[hl]at q1
 simp only[oI,Obj.arr.injEq]at q1
 obtain⟨rfl,q1⟩:=q1
 cases q1
 obtain⟨QN,Mp,hsub,hR⟩:=q4 w (fun _ _=>rfl) (fun _ _=>rfl) c0 tO y' hs0 he0 hv
 obtain⟨t1,l1,hl1,b2,o2,adY,aae,EN,hu⟩:=hx
 rw[hl]at hl1
 simp only[oI,Obj.arr.injEq]at hl1
 obtain⟨rfl,_⟩:=hl1
 rw[q2]at EN
 simp only[cK,oI,eZ,and_true]at EN
 obtain⟨⟨rfl,rfl⟩,_,_⟩:=EN
 obtain⟨_,huy⟩:=(show RA w st.hp env (.yC d) (a.eval y)from hy)
 have zZ:(a.eval y).cells.toList= [(env d).v]:=by rw[huy,Eb];rfl
 have hsz:(P.info? t).map (·.size)=some 1:=Z t (Bs hfit).1 (Bs hfit).2
 obtain⟨cb,eb,vg⟩:=(RO.own (g.obj n _ hl)).kind b q3
 obtain⟨env',hg',GB⟩:=Ed (fx:=(env d).fp) g hl hok (w':=w.setCells b (o1+i*kk gt+off) [(env d).v]) (fun y hy=>⟨d,_,by simp,hd,hy⟩) hsub (fun h=>by rw[hpn]at h;cases h) (fun y h1 _ _=>dP b _ _ w y fun e=>h1 (e▸q3)) hR
 have hrun:(storeVar t ⟨b,o1+i*kk gt+off,none⟩ (a.eval y)).run P w= .ok () (w.setCells b (o1+i*kk gt+off) [(env d).v]):=qD (by rw[←zZ]) QN hsz (by intro u hu;simp at hu;rw[hu,Eb];rfl)
 unfold iK execOp
 simp only[iJ,hu,Instr.storeAt,Instr.sureAddr,Sem.run_bind,Sem.run_pure,Result.andThen_ok,hrun]
 exact⟨env',rfl,Bk (g.dom n _ hl b q3) vg _ _,hg',rfl⟩
end
end
section
variable{ty:Tag→Nat}
def fV:V→Option V
 | .any=>some .any
 | .lit (.int k n)=>some (.lit (.int k n))
 | .lit (.bool b)=>some (.lit (.bool b))
 | .lit (.string s)=>some (.lit (.string s))
 | .lit v=>some (.lit v)
 | .sl t l=>some (.sl t l)
 | .own n=>some (.own n)
 | .ptr n o=>some (.ptr n o)
 | .rj n i o=>some (.rj n i o)
 | .ip t x o=>some (.ip t x o)
 | .vw n p t l=>some (.vw n p t l)
 | .Iq n p t x o=>some (.Iq n p t x o)
 | .Ir n t l=>some (.Ir n t l)
 | .mix n c t l=>some (.mix n c t l)
 | .yC n=>some (.yC n)
 | .Fi f n=>some (.Fi f n)
 | .zf k=>some (.zf k)
 | .raw v=>some (.raw v)
 | .vO v t l=>some (.vO v t l)
theorem acv(v:V):fV v=some v:=by
 unfold fV;split<;>rfl
def fVs:List V→Option (List V)
 | []=>some []
 |v::r=>match fV v,fVs r with
  |some x,some y=>some (x::y)
  |_,_=>none
theorem PG: ∀l:List V,fVs l=some l
 | []=>rfl
 |v::r=>by simp[fVs,acv,PG r]
def fS:SV→Option SV
 | .one (.a v)=>match fV v with|some v=>some (.one (.a v))|none=>none
 | .one (.agg l)=>match fVs l with|some l=>some (.one (.agg l))|none=>none
 | .zH l=>some (.zH l)
 | .cond p (.a v)=>match fV v with|some v=>some (.cond p (.a v))|none=>none
 | .cond p (.agg l)=>match fVs l with|some l=>some (.cond p (.agg l))|none=>none
theorem WD{x y:SV}(h:fS x=some y):y=x:=by
 unfold fS at h
 split at h<;>simp_all [acv,PG]
def fO:Obj→Option Obj
 | .box c=>match fVs c with|some c=>some (.box c)|none=>none
 | .arr t l=>some (.arr t l)
 | .jc t l .gone=>some (.jc t l .gone)
 | .jc t l .rm=>some (.jc t l .rm)
 | .jc t l .mp=>some (.jc t l .mp)
 | .jc t l (.L4 u)=>some (.jc t l (.L4 u))
 | .jc t l (.of n)=>some (.jc t l (.of n))
 | .jc t l (.zg p)=>some (.jc t l (.zg p))
theorem acw{x y:Obj}(h:fO x=some y):y=x:=by
 unfold fO at h
 split at h<;>simp_all [PG]
def fSl:List (Nat×SV)→Option (List (Nat×SV))
 | []=>some []
 | (n,x)::r=>match fS x,fSl r with
   |some x,some r=>some ((n,x)::r)
   |_,_=>none
theorem WE: ∀{l m:List (Nat×SV)},fSl l=some m→m=l
 | [],m,h=>by simp only[fSl,oI]at h;exact h.symm
 | (n,x)::r,m,h=>by
   simp only[fSl]at h
   split at h
   ·rename_i y r' h1 h2
    simp only[oI]at h
    rw[←h,WD h1,WE h2]
   ·cases h
def fHp:Hp→Option Hp
 | []=>some []
 | (n,x)::r=>match fO x,fHp r with
   |some x,some r=>some ((n,x)::r)
   |_,_=>none
theorem KR: ∀{l m:Hp},fHp l=some m→m=l
 | [],m,h=>by simp only[fHp,oI]at h;exact h.symm
 | (n,x)::r,m,h=>by
   simp only[fHp]at h
   split at h
   ·rename_i y r' h1 h2
    simp only[oI]at h
    rw[←h,acw h1,KR h2]
   ·cases h
def TI:St→Option St
 | ⟨n,sl,hp⟩=>match fSl sl,fHp hp with
   |some sl,some hp=>some ⟨n,sl,hp⟩
   |_,_=>none
theorem rJ{s s':St}(h:TI s=some s'):s'=s:=by
 obtain⟨n,sl,hp⟩:=s
 simp only[TI]at h
 split at h
 ·rename_i a b h1 h2
  simp only[oI]at h
  rw[←h,WE h1,KR h2]
 ·cases h
def acy:TypeDesc→Bool
 | .struct _=>false
 | .array _ _=>false
 |_=>true
def aaz(P:Program)(t f k:Nat):Prop:= ∃fs fd d,P.underlying t=some (.struct fs)∧fs[f]? =some fd∧fd.offset=k∧P.underlying fd.type=some d∧acy d=true
def Jy:List V→Option (List Int)
 | []=>some []
 | .lit (.int .i64 a)::r=>match Jy r with|some l=>some (a::l)|none=>none
 |_=>none
def acz(P:Program)(t n:Nat):Prop:= ∀(xs ys:List Int) (X Y:Operand) (w:World),xs.length=n→ys.length=n→
 (do eqGuard .neq t X Y (.agg (xs.map (xk .i64)).toArray) (.agg (ys.map (xk .i64)).toArray);binOp .neq t (.agg (xs.map (xk .i64)).toArray) (.agg (ys.map (xk .i64)).toArray):Sem Value).run P w= .ok (.bool (xs !=ys)) w
theorem GR{w:World}{hp:Hp}{env:Env}: ∀{l:List V} {xs:List Int} {cs:List Value},Jy l=some xs→cO (RA w hp env) l cs→cs=xs.map (xk .i64)
 | [],xs,[],h,_=>by simp only[Jy,oI]at h;subst h;rfl
 | [],_,_::_,_,h=>h.elim
 |v::r,xs,[],_,h=>h.elim
 |v::r,xs,c::cs,h,⟨h1,h2⟩=>by
  unfold Jy at h
  split at h
  ·rename_i e;cases e
  ·rename_i a r' e
   simp only[List.cons.injEq]at e
   obtain⟨rfl,rfl⟩:=e
   split at h
   ·rename_i l' hl
    simp only[oI]at h
    subst h
    rw[GR hl h2,cA,h1.1]
   ·cases h
  ·cases h
def PI(P:Program)(Γ:Nat→TK)(st:St):Op→Option (List Prop×St×SV)
 | .field t x f=>match jh st [] x,Γ t with
   |some (.agg c), .st _ _ fo=>match sJ fo f with
    |some k=>match A7 c k with
     |some v=>some ([aaz P t f k],st, .one (.a v))
     |none=>none
    |none=>none
   |_,_=>none
 | .binOp .neq t x y _=>match jh st [] x,jh st [] y with
   |some (.agg l),some (.agg l')=>match Jy l,Jy l' with
    |some xs,some ys=>match bf xs.length ys.length with
     |true=>some ([acz P t xs.length],st, .one (.a (.lit (.bool (xs !=ys)))))
     |false=>none
    |_,_=>none
   |_,_=>none
 |_=>none
theorem PJ{P:Program}{t:TypeId}{d:TypeDesc}(h:P.underlying t=some d)(hd:acy d=true)(w:World):(isAgg t).run P w= .ok false w:=by
 cases d<;>first| (cases hd;done)|simp[isAgg,run_underlying h]
section
variable{P:Program}{zb:eJ}{st st':St}{a:Act}{w:World}{env:Env}{Q:Exit→Act→World→Prop}{o:Oper}
theorem aaA{Γ:Nat→TK}{vc:List Prop}{v:SV}(h:PI P Γ st o.op=some (vc,st',v))(g:Good ty zb st a.tmps w env)(hv: ∀q,q∈vc→q):
  o.wp P a w (fun a' w'=> ∃u env',a'=a.put o.dst u∧Kept zb w w'∧Good ty zb st' a.tmps w' env'∧st'.n=st.n∧sK w' st'.hp env' a.tmps v u) Q:=by
 generalize iJ:o.op=op at h
 cases op with
 |field t x f=>
  simp only[PI]at h
  split at h
  case h_2=>cases h
  rename_i c z tg fo hx hk
  split at h
  case h_2=>cases h
  rename_i k hf
  split at h
  case h_2=>cases h
  rename_i v' hel
  simp only[oI,pI]at h
  obtain⟨rfl,rfl,rfl⟩:=h
  obtain⟨fs,fd,d,h1,h2,h3,h4,h5⟩:=hv _ (aP.2 rfl)
  obtain⟨us,hu,hA⟩:=gu g (fun e he=>by simp at he) hx
  obtain⟨u,k1,k2⟩:=hA.at (Kx hel)
  have hr:(execOp a.eval o).run P w= .ok (.value u) w:=by
   unfold execOp
   simp[iJ,hu,Instr.field,part,run_underlying h1,h2,h3,PJ h4 h5,asAgg,k1]
  unfold iK
  rw[hr]
  exact⟨u,env,rfl,Kept.refl _ _,g,rfl,k2⟩
 |binOp b t x y t'=>
  cases b with
  |neq=>
   simp only[PI]at h
   split at h
   case h_2=>cases h
   rename_i l l' hx hy
   split at h
   case h_2=>cases h
   rename_i xs ys h1 h2
   split at h
   case h_2=>cases h
   rename_i hn
   have hn:=av hn
   simp only[oI,pI]at h
   obtain⟨rfl,rfl,rfl⟩:=h
   have hS:acz P t xs.length:=hv _ (aP.2 rfl)
   obtain⟨us,hu,hA⟩:=gu g (fun e he=>by simp at he) hx
   obtain⟨us',hu',hA'⟩:=gu g (fun e he=>by simp at he) hy
   rw[GR h1 hA]at hu
   rw[GR h2 hA']at hu'
   have hr:(execOp a.eval o).run P w= .ok (.value (.bool (xs !=ys))) w:=by
    unfold execOp
    simp only[iJ,hu,hu']
    rw[Sem.run_bind,hS xs ys x y w rfl hn.symm]
    rfl
   unfold iK
   rw[hr]
   exact⟨_,env,rfl,Kept.refl _ _,g,rfl,rfl,rfl⟩
  |_=>simp[PI]at h
 |_=>simp[PI]at h
end
def WG(P:Program)(ty:Tag→Nat)(Γ:Nat→TK)(cr:List (Nat×CR))(st:St)(m:Nat)(d:Option Nat)(op:Op):Option (List Prop×St×SV):=
 match Pq P ty Γ st m op with
 |some r=>some r
 |none=>match GD P ty Γ st m op with
  |some r=>some r
  |none=>match eio P ty Γ cr st d op with
   |some r=>some r
   |none=>match eiv P ty cr st d op with
    |some r=>some r
    |none=>match Wo P ty Γ cr st d op with
     |some r=>some r
     |none=>match efz P ty Γ st op with
      |some r=>some r
      |none=>match PI P Γ st op with
       |some r=>some r
       |none=>match PD P ty Γ st m op with
        |some r=>some r
        |none=>match aap P ty Γ st m op with
         |some r=>some r
         |none=>match aar Γ cr st m d op with
          |some r=>some r
          |none=>aau P ty Γ st m op
def WH(Γ:Nat→TK)(st:St)(op:Op):Option (List Prop×St):=
 match aac Γ st op with
 |some r=>some r
 |none=>match evs Γ st op with
  |some r=>some r
  |none=>aeg Γ st op
def step(P:Program)(ty:Tag→Nat)(Γ:Nat→TK)(gL:List (Nat×Nat))(cr:List (Nat×CR))(ops:List Oper)(st:St)(o:Oper):Option (List Prop×St):=
 match VI Γ (OL P ty) (Sound ty P) gL cr ops st o with
 |some r=>some r
 |none=>match o.guard,D8 st o.dst,af9 gL o.dst with
  |none,true,some m=>match Gx Γ st o.op with
   |some st'=>match o.dst with|none=>some ([],st')|some _=>none
   |none=>match WH Γ st o.op with
    |some (vc,st')=>match o.dst,TI st' with|none,some st'=>some (vc,st')|_,_=>none
    |none=>match WG P ty Γ cr st m o.dst o.op with
     |some (vc,st',v)=>match TI st' with|some st'=>some (vc,st'.put o.dst v)|none=>none
     |none=>none
  |_,_,_=>none
def run(P:Program)(ty:Tag→Nat)(Γ:Nat→TK)(gL:List (Nat×Nat))(cr:List (Nat×CR))(ops:List Oper):List Oper→St→List Prop→Option (List Prop×St)
 | [],st,acc=>some (acc,st)
 |o::r,st,acc=>match step P ty Γ gL cr ops st o with
  |some ([],⟨n,sl,hp⟩)=>run P ty Γ gL cr ops r ⟨n,sl,hp⟩ acc
  |some ([p],⟨n,sl,hp⟩)=>run P ty Γ gL cr ops r ⟨n,sl,hp⟩ (p::acc)
  |some ([p,q],⟨n,sl,hp⟩)=>run P ty Γ gL cr ops r ⟨n,sl,hp⟩ (p::q::acc)
  |some (l,⟨n,sl,hp⟩)=>run P ty Γ gL cr ops r ⟨n,sl,hp⟩ (l++acc)
  |none=>none
@[reducible] def qI:List Prop→Prop
  | []=>True
  |p::r=>p∧qI r
theorem qI.out: ∀{l:List Prop},qI l→ ∀q,q∈l→q
 |p::r,h,q,hq=>by
  rcases aW.1 hq with rfl|hq
  ·exact h.1
  ·exact qI.out h.2 q hq
section
variable{P:Program}{zb:eJ}{st st':St}{a:Act}{w:World}{Q:Exit→Act→World→Prop}{o:Oper}
theorem sU{v:SV}{d:Nat}(h: ∃x,v= .one x):v.mentions d=false:=by
 obtain⟨x,rfl⟩:=h;rfl
theorem wo.mono{ops:Array Oper}{K K':Act→World→Prop}(h: ∀a w,K a w→K' a w)(hr:wo P ops o a w K Q):wo P ops o a w K' Q:=by
 unfold wo at*
 split
 ·rename_i hw;rw[if_pos hw]at hr;exact hr.imp (pN h) id
 ·rename_i hw;rw[if_neg hw]at hr;exact h _ _ hr
theorem WI{Γ:Nat→TK}(C: ∀t,fD P t (Γ t)){cr:List (Nat×CR)}{m:Nat}{vc:List Prop}{v:SV}{env:Env}{d:Option Nat}(h:WG P ty Γ cr st m d o.op=some (vc,st',v))(g:Good ty zb st a.tmps w env)(hB:zb.w.heap.size≤w.heap.size)(hA:Ku zb)(hN:Ko w)(hv: ∀q,q∈vc→q):
  (∀k,v.mentions k=false)∧o.wp P a w (fun a' w'=> ∃u env',a'=a.put o.dst u∧Kept zb w w'∧Good ty zb st' a.tmps w' env'∧st'.n=st.n∧sK w' st'.hp env' a.tmps v u) Q:=by
 have one:(∃x,v= .one x)→ ∀k,v.mentions k=false:=fun hx k=>sU hx
 unfold WG at h
 split at h
 ·rename_i r he
  simp only[oI]at h
  subst h
  refine⟨one ?_,aaa C he g hB hv⟩
  unfold Pq at he
  repeat' split at he
  all_goals first
   | (cases he;done)
   | (simp only[oI,pI]at he;exact⟨_,he.2.2.symm⟩)
 ·split at h
  ·rename_i r he
   simp only[oI]at h
   subst h
   refine⟨one ?_,Tt C he g hB hv⟩
   unfold GD at he
   repeat' split at he
   all_goals first
    | (cases he;done)
    | (simp only[oI,pI]at he;exact⟨_,he.2.2.symm⟩)
  ·split at h
   ·rename_i r he
    simp only[oI]at h
    subst h
    refine⟨one ?_,ad3 he g hB hA hN hv⟩
    unfold eio at he
    repeat' split at he
    all_goals first
     | (cases he;done)
     | (simp only[oI,pI]at he;exact⟨_,he.2.2.symm⟩)
   ·split at h
    ·rename_i r he
     simp only[oI]at h
     subst h
     refine⟨one ?_,ad5 (Γ:=Γ) he g hB hA hN hv⟩
     unfold eiv at he
     repeat' split at he
     all_goals first
      | (cases he;done)
      | (simp only[oI,pI]at he;exact⟨_,he.2.2.symm⟩)
    ·split at h
     ·rename_i r he
      simp only[oI]at h
      subst h
      exact aak he g hB hA hN hv
     ·split at h
      ·rename_i r he
       simp only[oI]at h
       subst h
       refine⟨one ?_,ad7 C he g hB hv⟩
       unfold efz at he
       repeat' split at he
       all_goals first
        | (cases he;done)
        | (simp only[oI,pI]at he;exact⟨_,he.2.2.symm⟩)
      ·split at h
       ·rename_i r he
        simp only[oI]at h
        subst h
        refine⟨one ?_,aaA he g hv⟩
        unfold PI at he
        repeat' split at he
        all_goals first
         | (cases he;done)
         | (simp only[oI,pI]at he;exact⟨_,he.2.2.symm⟩)
       ·split at h
        ·rename_i r he
         simp only[oI]at h
         subst h
         refine⟨one ?_,aan C he g hB hv⟩
         unfold PD at he
         repeat' split at he
         all_goals first
          | (cases he;done)
          | (simp only[oI,pI]at he;exact⟨_,he.2.2.symm⟩)
        ·split at h
         ·rename_i r he
          simp only[oI]at h
          subst h
          refine⟨one ?_,aaq C he g hB hv⟩
          unfold aap at he
          repeat' split at he
          all_goals first
           | (cases he;done)
           | (simp only[oI,pI]at he;exact⟨_,he.2.2.symm⟩)
         ·split at h
          ·rename_i r he
           simp only[oI]at h
           subst h
           refine⟨one ?_,aas C he g hB hv⟩
           unfold aar at he
           repeat' split at he
           all_goals first
            | (cases he;done)
            | (simp only[oI,pI]at he;exact⟨_,he.2.2.symm⟩)
          ·refine⟨one ?_,aav C h g hB hv⟩
           unfold aau at h
           repeat' split at h
           all_goals first
            | (cases h;done)
            | (simp only[oI,pI]at h;exact⟨_,h.2.2.symm⟩)
theorem WJ{Γ:Nat→TK}(C: ∀t,fD P t (Γ t))(Z: ∀t,(∀z tg fo,Γ t≠ .st z tg fo)→Γ t≠ .other→(P.info? t).map (·.size)=some 1){vc:List Prop}{env:Env}(h:WH Γ st o.op=some (vc,st'))(g:Good ty zb st a.tmps w env)(hB:zb.w.heap.size≤w.heap.size)(hv: ∀q,q∈vc→q):
  o.wp P a w (fun a' w'=> ∃env',a'=a.put o.dst undef∧Kept zb w w'∧Good ty zb st' a.tmps w' env'∧st'.n=st.n) Q:=by
 unfold WH at h
 split at h
 ·rename_i r hr
  simp only[oI]at h
  subst h
  exact aad C Z hr g hv
 ·split at h
  ·rename_i r hr
   simp only[oI]at h
   subst h
   exact ad6 C Z hr g hB hv
  ·exact aay Z h g hv
theorem KS{Γ:Nat→TK}(C: ∀t,fD P t (Γ t))(Z: ∀t,(∀z tg fo,Γ t≠ .st z tg fo)→Γ t≠ .other→(P.info? t).map (·.size)=some 1){gL:List (Nat×Nat)}{cr:List (Nat×CR)}{ops:List Oper}{vc:List Prop}(h:step P ty Γ gL cr ops st o=some (vc,st'))(iv:Inv ty zb st a w)(hv: ∀q,q∈vc→q):
  wo P ops.toArray o a w (fun a' w'=>Inv ty zb st' a' w') Q:=by
 simp only[step]at h
 split at h
 ·rename_i r hq
  simp only[oI]at h
  subst h
  exact V7 C hq iv hv
 ·split at h
  ·rename_i m hg hd _
   have zi:=Pk iv hd
   obtain⟨env,g⟩:=iv.good
   have hBz:=iv.kept.size
   split at h
   ·rename_i s1 hs
    split at h
    ·rename_i aej
     simp only[oI,pI]at h
     obtain⟨rfl,rfl⟩:=h
     refine mC hg (pN ?_ (Tr (Q:=Q) C Z hs g))
     rintro a' w' ⟨rfl,hb,hg',hn,By⟩
     rw[aej]
     exact⟨by rw[l6,hn];exact iv.size,by rw[put_defers];exact iv.defers,iv.kept.trans hb,iv.ID,env,hg'⟩
    ·cases h
   ·split at h
    ·rename_i tO s1 hs
     split at h
     ·rename_i s2 aej hfs
      have hfs:=rJ hfs
      subst hfs
      simp only[oI,pI]at h
      obtain⟨rfl,rfl⟩:=h
      refine mC hg (pN ?_ (WJ (Q:=Q) C Z hs g hBz hv))
      rintro a' w' ⟨env',rfl,hb,hg',hn⟩
      rw[aej]
      exact⟨by rw[l6,hn];exact iv.size,by rw[put_defers];exact iv.defers,iv.kept.trans hb,iv.ID,env',hg'⟩
     ·cases h
    ·split at h
     ·rename_i tO s1 v he
      split at h
      case h_2=>cases h
      rename_i s2 hfs
      have hfs:=rJ hfs
      subst hfs
      simp only[oI,pI]at h
      obtain⟨rfl,rfl⟩:=h
      obtain⟨EN,hwp⟩:=WI (Q:=Q) C he g hBz iv.ID (iv.ID.now iv.kept) hv
      refine mC hg (pN ?_ hwp)
      rintro a' w' ⟨u,env',rfl,hb,hg',hn,hr⟩
      refine⟨by rw[l6,Bj,hn];exact iv.size,by rw[put_defers];exact iv.defers,iv.kept.trans hb,iv.ID,env',tZ hg' zi hr fun d _=>EN d⟩
     ·cases h
  ·cases h
theorem CW{Γ:Nat→TK}{gL:List (Nat×Nat)}{cr:List (Nat×CR)}{ops:List Oper}{r:List Oper}{acc vcs:List Prop}{OP:St}(h:run P ty Γ gL cr ops (o::r) st acc=some (vcs,OP)):
  ∃vc GS,step P ty Γ gL cr ops st o=some (vc,GS)∧run P ty Γ gL cr ops r GS (vc++acc)=some (vcs,OP):=by
 simp only[run]at h
 split at h
 ·rename_i n sl hp hs;exact⟨[],⟨n,sl,hp⟩,hs,h⟩
 ·rename_i p n sl hp hs;exact⟨[p],⟨n,sl,hp⟩,hs,h⟩
 ·rename_i p q n sl hp hs;exact⟨[p,q],⟨n,sl,hp⟩,hs,h⟩
 ·rename_i l n sl hp _ _ _ hs;exact⟨_,⟨n,sl,hp⟩,hs,h⟩
 ·cases h
theorem Bz{Γ:Nat→TK}{gL:List (Nat×Nat)}{cr:List (Nat×CR)}{ops:List Oper}: ∀{l:List Oper} {st OP:St} {acc vcs:List Prop},run P ty Γ gL cr ops l st acc=some (vcs,OP)→ ∀q,q∈acc→q∈vcs
 | [],st,OP,acc,vcs,h,q,hq=>by
   simp only[run,oI,pI]at h
   rw[←h.1];exact hq
 |o::r,st,OP,acc,vcs,h,q,hq=>by
  obtain⟨vc,GS,_,h2⟩:=CW h
  exact Bz h2 q (aH _ hq)
theorem PK{Γ:Nat→TK}(C: ∀t,fD P t (Γ t))(Z: ∀t,(∀z tg fo,Γ t≠ .st z tg fo)→Γ t≠ .other→(P.info? t).map (·.size)=some 1){gL:List (Nat×Nat)}{cr:List (Nat×CR)}{ops:List Oper}{OP:St}{vcs:List Prop}
  (hQ: ∀a w,Inv ty zb OP a w→Q .normal a w): ∀{l:List Oper} {st:St} {acc:List Prop} {a:Act} {w:World},run P ty Γ gL cr ops l st acc=some (vcs,OP)→(∀q,q∈vcs→q)→Inv ty zb st a w→wpList P ops.toArray Q l a w
 | [],st,acc,a,w,h,hv,iv=>by
   simp only[run,oI,pI]at h
   obtain⟨_,rfl⟩:=h
   exact hQ a w iv
 |o::r,st,acc,a,w,h,hv,iv=>by
  obtain⟨vc,GS,h1,h2⟩:=CW h
  have:=KS (Q:=Q) C Z h1 iv (fun q hq=>hv q (Bz h2 q (aM _ hq)))
  exact this.mono fun a' w' vi=>PK C Z hQ h2 hv vi
end
abbrev Post:=Exit→St→Prop
def IJ(ty:Tag→Nat)(zb:eJ)(Q:Post):Exit→Act→World→Prop:=fun e a w=> ∃st,Inv ty zb st a w∧Q e st
def W(P:Program)(ty:Tag→Nat)(zb:eJ)(c:Code)(Q:Post)(st:St):Prop:= ∀a w,Inv ty zb st a w→c.wp P (IJ ty zb Q) a w
def Post.then(next:St→Prop)(Q:Post):Post
 | .normal,st=>next st
 |e,st=>Q e st
def Post.inBlock(id:Nat)(Q:Post):Post
 | .exit i,st=>if i=id then Q .normal st else Q (.exit i) st
 |e,st=>Q e st
def GU(sl:List (Nat×SV)):List Nat→Option (List (Nat×SV))
 | []=>some []
 |s::r=>match look sl s with
  |some x=>match fS x,GU sl r with
   |some x,some l=>some ((s,x)::l)
   |_,_=>none
  |none=>none
def GV(hp:Hp):List Nat→Option Hp
 | []=>some []
 |s::r=>match look hp s with
  |some x=>match fO x,GV hp r with
   |some x,some l=>some ((s,x)::l)
   |_,_=>none
  |none=>none
def qm(hp:Hp)(v:V):Bool:=match v.name with|some n=>(match look hp n with|some _=>true|none=>false)|none=>true
def vk(hp:Hp):S1→Bool
 | .a v=>qm hp v
 | .agg l=>l.all (qm hp)
def Rk(hp:Hp):SV→Bool
 | .one x=>vk hp x
 | .zH l=>l.all (vk hp)
 | .cond _ x=>vk hp x
def BA(hp:Hp):Obj→Bool
 | .box c=>c.all (qm hp)
 | .arr _ _=>true
 | .jc _ _ s=>match s.name with|some n=>(match look hp n with|some _=>true|none=>false)|none=>true
def yN(sl:List (Nat×SV))(hp:Hp):Bool:=(sl.all fun e=>Rk hp e.2)&&hp.all fun e=>BA hp e.2
def V.nms(v:V):List Nat:=match v.name with|some n=> [n]|none=> []
def SV.nms:SV→List Nat
 | .one (.a v)=>v.nms
 | .one (.agg l)=>l.flatMap V.nms
 | .zH l=>l.flatMap fun x=>(match x with| .a v=>v.nms| .agg l=>l.flatMap V.nms)
 | .cond _ (.a v)=>v.nms
 | .cond _ (.agg l)=>l.flatMap V.nms
def PL:Nat→Hp→List Nat→List Nat→List Nat
 |0,_,_,acc=>acc
 |_,_,[],acc=>acc
 |f+1,hp,n::r,acc=>match acc.any (bf n)with
  |true=>PL f hp r acc
  |false=>PL f hp (match look hp n with|some (.box c)=>c.flatMap V.nms++r|some (.jc _ _ (.of m))=>m::r|_=>r) (acc++ [n])
def KT(sl:List (Nat×SV)):List Nat→List Nat
 | []=> []
 |s::r=>match look sl s with|some x=>x.nms++KT sl r|none=>KT sl r
def WK(sl:List (Nat×SV))(hp:Hp)(ks:List Nat):List Nat→List Nat
 | []=>PL 300 hp (KT sl ks++(hp.map Prod.fst).filter ng) []
 |hs=>hs
def ZB(P:Program)(ty:Tag→Nat)(Γ:Nat→TK)(gL:List (Nat×Nat))(cr:List (Nat×CR))(ks hs:List Nat)(ops:List Oper):St→Option (List Prop×St)
 | ⟨n,sl0,kE⟩=>match run P ty Γ gL cr ops ops ⟨n,sl0,kE⟩ []with
 |some (vc,st')=>match GU st'.sl ks,GV st'.hp (WK st'.sl st'.hp ks hs)with
  |some sl,some hp=>match yN sl hp,bf st'.n n with
   |true,true=>some (vc,⟨n,sl,hp⟩)
   |_,_=>none
  |_,_=>none
 |none=>none
theorem rK{sl:List (Nat×SV)}: ∀{ks:List Nat} {l:List (Nat×SV)},GU sl ks=some l→ ∀s v,look l s=some v→look sl s=some v
 | [],l,h,s,v,hl=>by
   simp only[GU,oI]at h
   subst h;cases hl
 |k::r,l,h,s,v,hl=>by
  simp only[GU]at h
  split at h
  ·rename_i x0 h1
   split at h
   ·rename_i x l' hf h2
    simp only[oI]at h
    subst h
    by_cases hs:s=k
    ·subst hs;rw[look_eq]at hl;rw[←hl,WD hf];exact h1
    ·rw[bX hs]at hl;exact rK h2 s v hl
   ·cases h
  ·cases h
theorem rL{hp:Hp}: ∀{ks:List Nat} {l:Hp},GV hp ks=some l→ ∀s v,look l s=some v→look hp s=some v
 | [],l,h,s,v,hl=>by
   simp only[GV,oI]at h
   subst h;cases hl
 |k::r,l,h,s,v,hl=>by
  simp only[GV]at h
  split at h
  ·rename_i x0 h1
   split at h
   ·rename_i x l' hf h2
    simp only[oI]at h
    subst h
    by_cases hs:s=k
    ·subst hs;rw[look_eq]at hl;rw[←hl,acw hf];exact h1
    ·rw[bX hs]at hl;exact rL h2 s v hl
   ·cases h
  ·cases h
theorem yO{hp:Hp}{v:V}(h:qm hp v=true): ∀n,v.name=some n→look hp n≠none:=by
 intro n hn hl
 simp[qm,hn,hl]at h
theorem Af{hp:Hp}{x:S1}(h:vk hp x=true): ∀v,v∈x.vs→qm hp v=true:=by
 intro v hv
 cases x with
 |a y=>simp only[S1.vs,aP]at hv;subst hv;exact h
 |agg l=>exact bq.1 h v hv
theorem PM{hp:Hp}{x:SV}(h:Rk hp x=true): ∀v,v∈x.vs→qm hp v=true:=by
 intro v hv
 cases x with
 |one x=>exact Af h v hv
 |zH l=>
  simp only[SV.vs,jY]at hv
  obtain⟨y,hy,hv⟩:=hv
  exact Af (bq.1 h y hy) v hv
 |cond p x=>exact Af h v hv
theorem Good.weaken{zb:eJ}{st st':St}{tmps:Array Value}{w:World}{env:Env}(g:Good ty zb st tmps w env)(hs: ∀s v,look st'.sl s=some v→look st.sl s=some v)(hh: ∀n o,look st'.hp n=some o→look st.hp n=some o)
  (Ad: ∀s v,look st'.sl s=some v→ ∀x,x∈v.vs→qm st'.hp x=true)(KG: ∀m o,look st'.hp m=some o→BA st'.hp o=true):Good ty zb st' tmps w env:=by
 have s:Step (fun n=>look st'.hp n≠none) (fun n=>look st'.hp n≠none) w st.hp env w st'.hp env:=by
  refine⟨fun _ _ _=>rfl,?_,?_,?_⟩
  ·rintro b _ ⟨n,o,h1,h2⟩;exact⟨n,o,hh n o h1,h2⟩
  ·intro n o hK h1
   cases hq:look st'.hp n with
   |none=>exact absurd hq hK
   |some o'=>
    have:=hh n o' hq
    rw[h1]at this
    simp only[oI]at this
    subst this
    exact⟨o,rfl,by cases o<;>simp[Obj.like],rfl⟩
  ·intro n t l hK h1
   cases hq:look st'.hp n with
   |none=>exact absurd hq hK
   |some o'=>
    have:=hh n o' hq
    rw[h1]at this
    simp only[oI]at this
    subst this
    exact⟨rfl,rfl,fun _ _=>rfl⟩
 have agS: ∀v,qm st'.hp v=true→v.wZ (fun n=>look st'.hp n≠none) (fun n=>look st'.hp n≠none):=fun v h=>⟨fun n hn=>yO h n hn,fun n hn=>yO h n (V.tV hn)⟩
 refine⟨fun n o hl=> ?_,fun n m o o' hne h1 h2=>g.lR n m o o' hne (hh n o h1) (hh m o' h2),fun t v hl=>sK.step s (fun x hx=>agS x (Ad t v hl x hx)) (g.slot t v (hs t v hl)),fun n o hl=>g.dom n o (hh n o hl),g.pins⟩
 refine(g.obj n o (hh n o hl)).step s ?_ (fun _ _=>rfl)
 have hO:=KG n o hl
 cases o with
 |box c=>exact fun v hv=>agS v (bq.1 hO v hv)
 |arr t l=>trivial
 |jc t l r=>
  intro m hm
  simp only[BA,hm]at hO
  intro he
  rw[he]at hO
  cases hO
theorem PN{sl:List (Nat×SV)}{hp:Hp}(h:yN sl hp=true):(∀s v,look sl s=some v→ ∀x,x∈v.vs→qm hp x=true)∧(∀m o,look hp m=some o→BA hp o=true):=by
 simp only[yN,aj,bq]at h
 exact⟨fun s v hl=>PM (h.1 _ (gM hl)),fun m o hl=>h.2 _ (gM hl)⟩
theorem Inv.weaken{zb:eJ}{st st':St}{a:Act}{w:World}(iv:Inv ty zb st a w)(hn:st'.n=st.n)(hs: ∀s v,look st'.sl s=some v→look st.sl s=some v)(hh: ∀n o,look st'.hp n=some o→look st.hp n=some o)(hc:yN st'.sl st'.hp=true):Inv ty zb st' a w:=by
 obtain⟨env,g⟩:=iv.good
 obtain⟨c1,c2⟩:=PN hc
 exact⟨by rw[iv.size,hn],iv.defers,iv.kept,iv.ID,env,g.weaken hs hh c1 c2⟩
structure Ctx(P:Program)(ty:Tag→Nat)(Γ:Nat→TK):Prop where
 kind: ∀t,fD P t (Γ t)
 one: ∀t,(∀z tg fo,Γ t≠ .st z tg fo)→Γ t≠ .other→(P.info? t).map (·.size)=some 1
section
variable{P:Program}{Γ:Nat→TK}{zb:eJ}{Q:Post}{st:St}
theorem TJ{gL:List (Nat×Nat)}{cr:List (Nat×CR)}{ks hs:List Nat}{ops:List Oper}{vc:List Prop}{st':St}(h:ZB P ty Γ gL cr ks hs ops st=some (vc,st')): ∃s1,run P ty Γ gL cr ops ops st []=some (vc,s1)∧
  ∀a w,Inv ty zb s1 a w→Inv ty zb st' a w:=by
 obtain⟨n,sl0,kE⟩:=st
 simp only[ZB]at h
 split at h
 ·rename_i tO s1 hr
  split at h
  ·rename_i sl hp h1 h2
   split at h
   ·rename_i hc hn
    simp only[oI,pI]at h
    obtain⟨rfl,rfl⟩:=h
    exact⟨s1,hr,fun a w iv=>iv.weaken (av hn).symm (rK h1) (rL h2) hc⟩
   ·cases h
  ·cases h
 ·cases h
theorem bE(X:Ctx P ty Γ)(gL:List (Nat×Nat))(cr:List (Nat×CR))(ks hs:List Nat){id:Nat}{ops:List Oper}{vc:List Prop}{st':St}(h:ZB P ty Γ gL cr ks hs ops st=some (vc,st'))(hv:qI vc)(k:Q .normal st'):W P ty zb (.region id ops.toArray false) Q st:=by
 intro a w iv
 obtain⟨s1,h1,h2⟩:=TJ (zb:=zb) h
 exact wp_region_lit (PK X.kind X.one (fun a w vi=>⟨st',h2 a w vi,k⟩) h1 hv.out iv)
theorem mU(X:Ctx P ty Γ)(ks:List Nat){id:Nat}{ops:List Oper}{vc:List Prop}{st':St}(h:G.ZB P ty Γ [] [] ks [] ops st=some (vc,st'))(hv:qI vc)(k:Q .normal st'):W P ty zb (.region id ops.toArray false) Q st:=bE X [] [] ks [] h hv k
theorem cN(X:Ctx P ty Γ)(ks:List Nat){id:Nat}{ops:List Oper}{st':St}(h:G.ZB P ty Γ [] [] ks [] ops st=some ([],st'))(k:Q .normal st'):W P ty zb (.region id ops.toArray false) Q st:=mU X ks h ⟨⟩ k
theorem af{x y:Code}(h:W P ty zb x (Post.then (W P ty zb y Q) Q) st):W P ty zb (.seq x y) Q st:=by
 intro a w iv
 refine wp_seq (wp_mono (h a w iv) ?_)
 rintro e a' w' ⟨st',vi,hq⟩
 cases e with
 |normal=>exact hq a' w' vi
 |_=>exact⟨st',vi,hq⟩
theorem aQ(X:Ctx P ty Γ)(gL:List (Nat×Nat))(cr:List (Nat×CR))(ks hs:List Nat){y:Code}{id:Nat}{ops:List Oper}{vc:List Prop}{st':St}(h:G.ZB P ty Γ gL cr ks hs ops st=some (vc,st'))(hv:qI vc)(k:W P ty zb y Q st'):W P ty zb (.seq (.region id ops.toArray false) y) Q st:=af (bE X gL cr ks hs h hv k)
theorem aS(X:Ctx P ty Γ)(ks:List Nat){y:Code}{id:Nat}{ops:List Oper}{vc:List Prop}{st':St}(h:G.ZB P ty Γ [] [] ks [] ops st=some (vc,st'))(hv:qI vc)(k:W P ty zb y Q st'):W P ty zb (.seq (.region id ops.toArray false) y) Q st:=aQ X [] [] ks [] h hv k
theorem aF(X:Ctx P ty Γ)(ks:List Nat){y:Code}{id:Nat}{ops:List Oper}{st':St}(h:G.ZB P ty Γ [] [] ks [] ops st=some ([],st'))(k:W P ty zb y Q st'):W P ty zb (.seq (.region id ops.toArray false) y) Q st:=aS X ks h ⟨⟩ k
theorem aE(h:Q .normal st):W P ty zb .skip Q st:=fun _ _ iv=>wp_skip ⟨st,iv,h⟩
theorem bn{id:Nat}(h:Q (.exit id) st):W P ty zb (.exit id) Q st:=fun _ _ iv=>wp_exit ⟨st,iv,h⟩
theorem ay(h:Q .ret st):W P ty zb .ret Q st:=fun _ _ iv=>wp_ret ⟨st,iv,h⟩
theorem aG{id:Nat}{c:Code}(h:W P ty zb c (Post.inBlock id Q) st):W P ty zb (.block id c) Q st:=by
 intro a w iv
 refine wp_block (wp_mono (h a w iv) ?_)
 rintro e a' w' ⟨st',vi,hq⟩
 cases e with
 |exit i=>
  simp only[Post.inBlock]at hq
  simp only[Exit.inBlock]
  split
  ·rename_i hi;rw[if_pos hi]at hq;exact⟨st',vi,hq⟩
  ·rename_i hi;rw[if_neg hi]at hq;exact⟨st',vi,hq⟩
 |_=>exact⟨st',vi,hq⟩
theorem az{c:Operand}{x y:Code}{b:Bool}(hc:jh st [] c=some (.a (.lit (.bool b))))(h1:b=true→W P ty zb x Q st)(h2:b=false→W P ty zb y Q st):W P ty zb (.cond c x y) Q st:=by
 intro a w iv
 obtain⟨env,g⟩:=iv.good
 have:=(gu g (fun e he=>by simp at he) hc).lit
 exact wp_cond_split this (fun hb=>h1 hb a w iv) (fun hb=>h2 hb a w iv)
theorem aaC{ι:Type}(p:ι→Prop)(I:ι→St)(μ:ι→Nat)(i:ι){c:Code}(hp:p i)(h0: ∀a w,Inv ty zb st a w→Inv ty zb (I i) a w)
  (round: ∀i,p i→W P ty zb c (Post.then (fun st'=> ∃j,p j∧μ j<μ i∧ ∀a w,Inv ty zb st' a w→Inv ty zb (I j) a w) Q) (I i)):W P ty zb (.loop c) Q st:=by
 intro a w iv b k cs
 have key: ∀n i a w,μ i=n→p i→Inv ty zb (I i) a w→ ∃e a' w',IJ ty zb Q e a' w'∧Arrives P (lone (b.at a (.code c:: .inLoop c::k)) cs w) b k cs e a' w':=by
  intro n
  induction n using Nat.strongRecOn with
  |_ n ih=>
   intro i a w hn hpi iv
   obtain⟨e,a₁,w₁,⟨st',vi,hq⟩,MY⟩:=round i hpi a w iv b (.inLoop c::k) cs
   cases e with
   |normal=>
    obtain⟨j,hpj,hlt,hj⟩:=hq
    obtain⟨e₂,a₂,w₂,hq₂,agU⟩:=ih (μ j) (hn▸hlt) j a₁ w₁ rfl hpj (hj _ _ vi)
    exact⟨e₂,a₂,w₂,hq₂, .of_steps (Steps.trans MY (.one step_inLoop)) agU⟩
   |exit id=>exact⟨_,a₁,w₁,⟨st',vi,hq⟩, .pass (x:= .inLoop c) rfl (fun _ _=> .inl (by simp)) MY⟩
   |goto l=>exact⟨_,a₁,w₁,⟨st',vi,hq⟩, .pass (x:= .inLoop c) rfl (fun _ _=> .inl (by simp)) MY⟩
   |ret=>exact⟨_,a₁,w₁,⟨st',vi,hq⟩, .pass (x:= .inLoop c) rfl (fun _ _=> .inl (by simp)) MY⟩
   |panic ch=>exact⟨_,a₁,w₁,⟨st',vi,hq⟩, .pass (x:= .inLoop c) rfl (fun _ _=> .inl (by simp)) MY⟩
   |outgrown=>exact⟨_,a₁,w₁,⟨st',vi,hq⟩, .pass (x:= .inLoop c) rfl (fun _ _=> .inl (by simp)) MY⟩
 obtain⟨e,a',w',hq,MY⟩:=key _ i a w rfl hp (h0 a w iv)
 exact⟨e,a',w',hq, .of_steps (.one step_loop) MY⟩
def acB:List (Nat×SV)→List (Nat×SV)→Option (List (Nat×SV))
 | [],_=>some []
 | (s,x)::r,ov=>match fS (match look ov s with|some y=>y|none=>x),acB r ov with
   |some x,some l=>some ((s,x)::l)
   |_,_=>none
def acC:Hp→Hp→Option Hp
 | [],_=>some []
 | (s,x)::r,ov=>match fO (match look ov s with|some y=>y|none=>x),acC r ov with
   |some x,some l=>some ((s,x)::l)
   |_,_=>none
def over:St→List (Nat×SV)→Hp→Option St
 | ⟨n,sl,hp⟩,ov,oh=>match acB sl ov,acC hp oh with
   |some sl,some hp=>some ⟨n,sl,hp⟩
   |_,_=>none
theorem aV{ι:Type}(p:ι→Prop)(ov:ι→List (Nat×SV))(oh:ι→Hp)(μ:ι→Nat)(i:ι){c:Code}{I:ι→St}(_hI: ∀k,over st (ov k) (oh k)=some (I k))(hp:p i)(h0:I i=st)
  (round: ∀i,p i→W P ty zb c (Post.then (fun st'=> ∃j,p j∧μ j<μ i∧st'=I j) Q) (I i)):W P ty zb (.loop c) Q st:=by
 refine aaC p I μ i hp (fun a w iv=>by rw[h0];exact iv) fun i hi=> ?_
 intro a w iv
 refine wp_mono (round i hi a w iv) ?_
 rintro e a' w' ⟨st',vi,hq⟩
 cases e with
 |normal=>
  obtain⟨j,h1,h2,rfl⟩:=hq
  exact⟨_,vi,j,h1,h2,fun a w h=>h⟩
 |_=>exact⟨st',vi,hq⟩
end
end
section
variable{ty:Tag→Nat}
def enter:Nat→List S1→List (Nat×SV)
 |_,[]=> []
 |i,x::r=>(i, .one x)::enter (i+1) r
def WL(Γ:Nat→TK)(st:St):ResultVar→Option S1
 | .tmp t=>match look st.sl t with|some (.one x)=>some x|_=>none
 | .cell p t=>match look st.sl p with
   |some (.one (.a (.ptr n 0)))=>match look st.hp n,Γ t with
    |some (.box c), .st z _ _=>match bf c.length z.length with|true=>some (.agg c)|false=>none
    |_,_=>none
   |_=>none
def BB(Γ:Nat→TK)(st:St):List ResultVar→Option (List S1)
 | []=>some []
 |r::rs=>match WL Γ st r,BB Γ st rs with|some x,some xs=>some (x::xs)|_,_=>none
def WM(st:St):V→V→Option (List Prop×List Nat)
 | .lit v, .lit u=>some ([v=u],[])
 | .lit (.slice none 0 0), .sl _ l=>some ([l= []],[])
 | .own n, .sl t l=>match look st.hp n,soft n with
   |some (.arr t' l'),false=>match jX t t' l' with
    |some l2=>some ([l2=l],[n])
    |none=>none
   |_,_=>none
 | .lit (.slice none 0 0), .vw _ _ _ l=>some ([l= []],[])
 | .own n, .vw _ _ t l=>match look st.hp n with
   |some (.arr t' l')=>match jX t t' l' with
    |some l2=>some ([l2=l],[n])
    |none=>none
   |_=>none
 | .vw n _ t' l', .vw _ _ t l=>match jX t t' l' with
   |some l2=>some ([l2=l],[n])
   |none=>none
 |_,_=>none
def meet(st:St):List V→List V→Option (List Prop×List Nat)
 | [],[]=>some ([],[])
 |x::r,y::s=>match WM st x y,meet st r s with
  |some (vc,k),some (vcs,ks)=>some (qE vc vcs,qE k ks)
  |_,_=>none
 |_,_=>none
def Rl(st:St):S1→S1→Option (List Prop×List Nat)
 | .a v, .a u=>meet st [v] [u]
 | .agg l, .agg m=>meet st l m
 |_,_=>none
def meets(st:St):List S1→List S1→Option (List Prop×List Nat)
 | [],[]=>some ([],[])
 |x::r,y::s=>match Rl st x y,meets st r s with
  |some (vc,k),some (vcs,ks)=>some (qE vc vcs,qE k ks)
  |_,_=>none
 |_,_=>none
def ends(Γ:Nat→TK)(st:St)(yP:List ResultVar)(rs:List S1):Option (List Prop):=
 match BB Γ st yP with
 |some xs=>match meets st xs rs with
  |some (vc,k)=>match tG k with|true=>some vc|false=>none
  |none=>none
 |none=>none
def Fin(Γ:Nat→TK)(yP:List ResultVar)(rs:List S1):Post:=fun e st=>(e= .ret∨e= .normal)∧ ∃vc,ends Γ st yP rs=some vc∧qI vc
theorem ah{Γ:Nat→TK}{yP:List ResultVar}{rs:List S1}{st:St}{vc:List Prop}(h:ends Γ st yP rs=some vc)(hv:qI vc):Fin Γ yP rs .ret st:=⟨.inl rfl,vc,h,hv⟩
theorem lP.lift{α:Type}{k:Nat}{E:ER α}{lo e:Nat}{w:World}{v:Value}{l:List α}{fp:List Nat}(h:lP k E 0 e w v l fp)(hl: ∀b,b∈fp→lo≤b):lP k E lo e w v l fp:=by
 obtain⟨xs,cu,hown,hf,he,rfl,ho⟩:=h
 refine⟨xs,cu,⟨hown.1,?_⟩,hf,he,rfl,⟨ho.nodup,hl,ho.kind⟩⟩
 rcases hown.2 with h| ⟨g,o,cap,cur,rfl,Zn,r⟩
 ·exact bG h
 ·exact bg ⟨g,o,cap,cur,rfl,hl g (by simp[gH]),r⟩
section
variable{P:Program}{zb:eJ}{st:St}{a:Act}{w:World}{env:Env}
theorem zK{Γ:Nat→TK}(C: ∀t,fD P t (Γ t))(g:Good ty zb st a.tmps w env){r:ResultVar}{x:S1}(h:WL Γ st r=some x):
  ∃u,ji w st.hp env x u∧(match r with| .tmp t=>a.tmps.getD t undef=u| .cell p t=> ∃ad,a.tmps.getD p undef= .pointer (some ad)∧(loadVar t ad).run P w= .ok u w):=by
 cases r with
 |tmp t=>
  simp only[WL]at h
  split at h
  ·rename_i y hl
   simp only[oI]at h
   subst h
   exact⟨_,g.slot t _ hl,rfl⟩
  ·cases h
 |cell p t=>
  simp only[WL]at h
  split at h
  ·rename_i n hl
   split at h
   ·rename_i c z tg fo hb hk
    split at h
    ·rename_i hlen
     have hlen:=av hlen
     simp only[oI]at h
     subst h
     obtain⟨_,b,hv,hu⟩:=g.slot p _ hl
     obtain⟨b',cs,e,Eb,hh,hc⟩:=g.obj n _ hb
     have hbb:b=b':=by rw[Eb]at hv;simpa using hv.symm
     subst hbb
     have hC:=C t
     rw[hk]at hC
     obtain⟨fs,UW,hi,_⟩:=hC
     have hi':(P.info? t).map (·.size)=some cs.length:=by
      rw[hc.len,hlen]
      cases hq:P.info? t with
      |none=>simp[hq]at hi
      |some i=>simp[hq]at hi;simp[hi.1]
     refine⟨.agg cs.toArray,⟨cs,rfl,hc⟩,?_⟩
     have Bh:w.rangeAt b 0 cs:=by simpa using Vy hh
     exact⟨_,hu,run_loadVar_mid w b 0 t cs _ Bh UW rfl hi'⟩
    ·cases h
   ·cases h
  ·cases h
theorem Rm(g:Good ty zb st a.tmps w env){k1 k2:List Nat}{f1 f2:List Nat}(hnd:(k1++k2).Nodup)(p2:Own zb.w.heap.size w f1)(p3: ∀b,b∈f1→ ∃i o,i∈k1∧look st.hp i=some o∧b∈(env i).fp)(q2:Own zb.w.heap.size w f2)(q3: ∀b,b∈f2→ ∃i o,i∈k2∧look st.hp i=some o∧b∈(env i).fp):
  Own zb.w.heap.size w (f1++f2)∧ ∀b,b∈f1++f2→ ∃i o,i∈k1++k2∧look st.hp i=some o∧b∈(env i).fp:=by
 obtain⟨n1,n2,n3⟩:=aY.1 hnd
 refine⟨⟨aY.2 ⟨p2.nodup,q2.nodup,?_⟩,fun b hb=> ?_,fun b hb=> ?_⟩,fun b hb=> ?_⟩
 ·rintro b hb z hz rfl
  obtain⟨n,o1,h1,h2,h3⟩:=p3 b hb
  obtain⟨m,o2,h4,h5,h6⟩:=q3 b hz
  exact g.lR n m _ _ (fun e=>n3 n h1 m h4 e) h2 h5 b h3 h6
 ·rcases aK.1 hb with hb|hb
  ·exact p2.ge b hb
  ·exact q2.ge b hb
 ·rcases aK.1 hb with hb|hb
  ·exact p2.kind b hb
  ·exact q2.kind b hb
 ·rcases aK.1 hb with hb|hb
  ·obtain⟨n,o1,h1,h2,h3⟩:=p3 b hb;exact⟨n,o1,aM _ h1,h2,h3⟩
  ·obtain⟨n,o1,h1,h2,h3⟩:=q3 b hb;exact⟨n,o1,aH _ h1,h2,h3⟩
theorem WN(hL:zb.L= [])(g:Good ty zb st a.tmps w env){x y:V}{u:Value}{vc:List Prop}{k:List Nat}(hr:RA w st.hp env x u)(h:WM st x y=some (vc,k))(hv: ∀q,q∈vc→q):
  ∃fp,RB ty w zb.w.heap.size y u fp∧Own zb.w.heap.size w fp∧ ∀b,b∈fp→ ∃i o,i∈k∧look st.hp i=some o∧b∈(env i).fp:=by
 unfold WM at h
 split at h
 ·simp only[oI,pI]at h
  obtain⟨rfl,rfl⟩:=h
  have hl:=hv _ (aP.2 rfl)
  obtain⟨rfl,ho⟩:=hr
  exact⟨[],⟨hl,hl▸ho,rfl⟩,Own.nil _ _,by simp⟩
 ·simp only[oI,pI]at h
  obtain⟨rfl,rfl⟩:=h
  have hl:=hv _ (aP.2 rfl)
  subst hl
  obtain⟨rfl,ho⟩:=hr
  exact⟨[],lP.nil _ _ _ _ _,Own.nil _ _,by simp⟩
 ·rename_i n t l
  split at h
  ·rename_i t' l' hl MG
   split at h
   ·rename_i l2 hc
    simp only[oI,pI]at h
    obtain⟨rfl,rfl⟩:=h
    have oc:=hv _ (aP.2 rfl)
    subst oc
    obtain⟨e,rfl⟩:=fL hc
    subst e
    obtain⟨_,rfl⟩:=hr
    have hb:=lP.lift (RO.Zr MG (g.obj n _ hl)) (lo:=zb.w.heap.size) (fun b hb=>by
     rcases g.dom n _ hl b hb with h|h
     ·rw[hL]at h;cases h
     ·exact h)
    exact⟨(env n).fp,hb,hb.own,fun b hb=>⟨n,_,by simp,hl,hb⟩⟩
   ·cases h
  ·cases h
 ·simp only[oI,pI]at h
  obtain⟨rfl,rfl⟩:=h
  have hl:=hv _ (aP.2 rfl)
  subst hl
  obtain⟨rfl,ho⟩:=hr
  exact⟨[],⟨lP.sl (lP.nil _ _ 0 0 _),Own.nil _ _⟩,Own.nil _ _,by simp⟩
 ·rename_i n _ _ t l
  split at h
  ·rename_i t' l' hl
   split at h
   ·rename_i l2 hc
    simp only[oI,pI]at h
    obtain⟨rfl,rfl⟩:=h
    have oc:=hv _ (aP.2 rfl)
    subst oc
    obtain⟨e,rfl⟩:=fL hc
    subst e
    obtain⟨_,rfl⟩:=hr
    have hs:=RO.sl (g.obj n _ hl)
    have ho0:=RO.own (g.obj n _ hl)
    have ho:Own zb.w.heap.size w (env n).fp:=⟨ho0.nodup,fun b hb=>by
     rcases g.dom n _ hl b hb with h|h
     ·rw[hL]at h;cases h
     ·exact h,ho0.kind⟩
    exact⟨(env n).fp,⟨hs,ho⟩,ho,fun b hb=>⟨n,_,by simp,hl,hb⟩⟩
   ·cases h
  ·cases h
 ·rename_i n _ t' l' _ _ t l
  split at h
  ·rename_i l2 hc
   simp only[oI,pI]at h
   obtain⟨rfl,rfl⟩:=h
   have oc:=hv _ (aP.2 rfl)
   subst oc
   obtain⟨e,rfl⟩:=fL hc
   subst e
   obtain⟨⟨t0,l0,hl⟩,⟨fp,hs,hnd,hsub⟩,_⟩:=hr
   have ho0:=RO.own (g.obj n _ hl)
   have ho:Own zb.w.heap.size w fp:=⟨hnd,fun b hb=>by
    rcases g.dom n _ hl b (hsub b hb)with h|h
    ·rw[hL]at h;cases h
    ·exact h,fun b hb=>ho0.kind b (hsub b hb)⟩
   exact⟨fp,⟨hs,ho⟩,ho,fun b hb=>⟨n,_,by simp,hl,hsub b hb⟩⟩
  ·cases h
 ·cases h
theorem KU(hL:zb.L= [])(g:Good ty zb st a.tmps w env): ∀{xs ys:List V} {us:List Value} {vc:List Prop} {k:List Nat},cO (RA w st.hp env) xs us→meet st xs ys=some (vc,k)→k.Nodup→(∀q,q∈vc→q)→
  ∃fp,VQ ty w zb.w.heap.size ys us fp∧Own zb.w.heap.size w fp∧ ∀b,b∈fp→ ∃i o,i∈k∧look st.hp i=some o∧b∈(env i).fp
 | [],ys,us,vc,k,hr,h,hnd,hv=>by
   cases ys with
   |nil=>
    simp only[meet,oI,pI]at h
    obtain⟨rfl,rfl⟩:=h
    cases us with
    |nil=>exact⟨[],rfl,Own.nil _ _,by simp⟩
    |cons _ _=>exact hr.elim
   |cons y ys=>simp[meet]at h
 |x::r,ys,us,vc,k,hr,h,hnd,hv=>by
  cases us with
  |nil=>exact hr.elim
  |cons u us=>
   cases ys with
   |nil=>simp[meet]at h
   |cons y s=>
    simp only[meet]at h
    split at h
    ·rename_i tO k1 vc2 k2 h1 h2
     simp only[oI,pI,gI]at h
     obtain⟨rfl,rfl⟩:=h
     obtain⟨n1,n2,n3⟩:=aY.1 hnd
     obtain⟨f1,p1,p2,p3⟩:=WN hL g hr.1 h1 (fun q hq=>hv q (aM _ hq))
     obtain⟨f2,q1,q2,q3⟩:=KU hL g hr.2 h2 n2 (fun q hq=>hv q (aH _ hq))
     obtain⟨r1,r2⟩:=Rm g hnd p2 p3 q2 q3
     exact⟨f1++f2,⟨_,_,p1,q1,rfl⟩,r1,r2⟩
    ·cases h
theorem WO(hL:zb.L= [])(g:Good ty zb st a.tmps w env){x y:S1}{u:Value}{vc:List Prop}{k:List Nat}(hr:ji w st.hp env x u)(h:Rl st x y=some (vc,k))(hnd:k.Nodup)(hv: ∀q,q∈vc→q):
  ∃fp,RB1 ty w zb.w.heap.size y u fp∧Own zb.w.heap.size w fp∧ ∀b,b∈fp→ ∃i o,i∈k∧look st.hp i=some o∧b∈(env i).fp:=by
 cases x with
 |a v=>
  cases y with
  |a v'=>exact KU hL g (xs:= [v]) (us:= [u]) ⟨hr,trivial⟩ h hnd hv
  |agg _=>simp[Rl]at h
 |agg l=>
  cases y with
  |a v'=>simp[Rl]at h
  |agg m=>
   obtain⟨cs,rfl,hl⟩:=hr
   obtain⟨fp,h1,h2,h3⟩:=KU hL g hl h hnd hv
   exact⟨fp,⟨cs,rfl,h1⟩,h2,h3⟩
theorem MZ(hL:zb.L= [])(g:Good ty zb st a.tmps w env): ∀{xs ys:List S1} {us:List Value} {vc:List Prop} {k:List Nat},cO (ji w st.hp env) xs us→meets st xs ys=some (vc,k)→k.Nodup→(∀q,q∈vc→q)→
  ∃fp,Zt ty w zb.w.heap.size ys us fp∧Own zb.w.heap.size w fp∧ ∀b,b∈fp→ ∃i o,i∈k∧look st.hp i=some o∧b∈(env i).fp
 | [],ys,us,vc,k,hr,h,hnd,hv=>by
   cases ys with
   |nil=>
    simp only[meets,oI,pI]at h
    obtain⟨rfl,rfl⟩:=h
    cases us with
    |nil=>exact⟨[],rfl,Own.nil _ _,by simp⟩
    |cons _ _=>exact hr.elim
   |cons y ys=>simp[meets]at h
 |x::r,ys,us,vc,k,hr,h,hnd,hv=>by
  cases us with
  |nil=>exact hr.elim
  |cons u us=>
   cases ys with
   |nil=>simp[meets]at h
   |cons y s=>
    simp only[meets]at h
    split at h
    ·rename_i tO k1 vc2 k2 h1 h2
     simp only[oI,pI,gI]at h
     obtain⟨rfl,rfl⟩:=h
     obtain⟨n1,n2,n3⟩:=aY.1 hnd
     obtain⟨f1,p1,p2,p3⟩:=WO hL g hr.1 h1 n1 (fun q hq=>hv q (aM _ hq))
     obtain⟨f2,q1,q2,q3⟩:=MZ hL g hr.2 h2 n2 (fun q hq=>hv q (aH _ hq))
     obtain⟨r1,r2⟩:=Rm g hnd p2 p3 q2 q3
     exact⟨f1++f2,⟨_,_,p1,q1,rfl⟩,r1,r2⟩
    ·cases h
theorem M0{Γ:Nat→TK}(C: ∀t,fD P t (Γ t))(g:Good ty zb st a.tmps w env){fn:Func}{yP:List ResultVar}(hf:fn.results=yP.toArray){xs:List S1}(h:BB Γ st yP=some xs)(hl:yP.length≤4):
  ∃us,cO (ji w st.hp env) xs us∧us.length=yP.length∧(results fn a.tmps).run P w= .ok (match us with| [u]=>u|us=> .tuple us.toArray) w:=by
 have one: ∀{r:ResultVar} {rs:List ResultVar} {xs:List S1},BB Γ st (r::rs)=some xs→ ∃y ys,xs=y::ys∧WL Γ st r=some y∧BB Γ st rs=some ys:=by
  intro r rs xs h
  simp only[BB]at h
  split at h
  ·rename_i y ys h1 h2
   simp only[oI]at h
   exact⟨y,ys,h.symm,h1,h2⟩
  ·cases h
 have nil: ∀{xs:List S1},BB Γ st []=some xs→xs= []:=by
  intro xs h
  simp only[BB,oI]at h
  exact h.symm
 match yP,hf,h,hl with
 | [],hf,h,_=>
   rw[nil h]
   exact⟨[],trivial,rfl,by simp[results,hf]⟩
 | [r1],hf,h,_=>
   obtain⟨y1,ys,rfl,h1,h⟩:=one h
   rw[nil h]
   obtain⟨u1,k1,e1⟩:=zK C g h1
   refine⟨[u1],⟨k1,trivial⟩,rfl,?_⟩
   cases r1
   ·have e1:a.tmps.getD _ undef=u1:=e1
    rw[aa]at e1
    simp[results,hf,asAddr,e1]
   ·obtain⟨_,p1,e1⟩:=e1
    rw[aa]at p1
    simp[results,hf,asAddr,e1,p1]
 | [r1,r2],hf,h,_=>
   obtain⟨y1,ys,rfl,h1,h⟩:=one h
   obtain⟨y2,ys,rfl,h2,h⟩:=one h
   rw[nil h]
   obtain⟨u1,k1,e1⟩:=zK C g h1
   obtain⟨u2,k2,e2⟩:=zK C g h2
   refine⟨[u1,u2],⟨k1,k2,trivial⟩,rfl,?_⟩
   cases r1<;>cases r2
   ·have e1:a.tmps.getD _ undef=u1:=e1
    rw[aa]at e1
    have e2:a.tmps.getD _ undef=u2:=e2
    rw[aa]at e2
    simp[results,hf,asAddr,e1,e2]
   ·have e1:a.tmps.getD _ undef=u1:=e1
    rw[aa]at e1
    obtain⟨_,p2,e2⟩:=e2
    rw[aa]at p2
    simp[results,hf,asAddr,e1,e2,p2]
   ·obtain⟨_,p1,e1⟩:=e1
    rw[aa]at p1
    have e2:a.tmps.getD _ undef=u2:=e2
    rw[aa]at e2
    simp[results,hf,asAddr,e1,e2,p1]
   ·obtain⟨_,p1,e1⟩:=e1
    rw[aa]at p1
    obtain⟨_,p2,e2⟩:=e2
    rw[aa]at p2
    simp[results,hf,asAddr,e1,e2,p1,p2]
 | [r1,r2,r3],hf,h,_=>
   obtain⟨y1,ys,rfl,h1,h⟩:=one h
   obtain⟨y2,ys,rfl,h2,h⟩:=one h
   obtain⟨y3,ys,rfl,h3,h⟩:=one h
   rw[nil h]
   obtain⟨u1,k1,e1⟩:=zK C g h1
   obtain⟨u2,k2,e2⟩:=zK C g h2
   obtain⟨u3,k3,e3⟩:=zK C g h3
   refine⟨[u1,u2,u3],⟨k1,k2,k3,trivial⟩,rfl,?_⟩
   cases r1<;>cases r2<;>cases r3
   ·have e1:a.tmps.getD _ undef=u1:=e1
    rw[aa]at e1
    have e2:a.tmps.getD _ undef=u2:=e2
    rw[aa]at e2
    have e3:a.tmps.getD _ undef=u3:=e3
    rw[aa]at e3
    simp[results,hf,asAddr,e1,e2,e3]
   ·have e1:a.tmps.getD _ undef=u1:=e1
    rw[aa]at e1
    have e2:a.tmps.getD _ undef=u2:=e2
    rw[aa]at e2
    obtain⟨_,p3,e3⟩:=e3
    rw[aa]at p3
    simp[results,hf,asAddr,e1,e2,e3,p3]
   ·have e1:a.tmps.getD _ undef=u1:=e1
    rw[aa]at e1
    obtain⟨_,p2,e2⟩:=e2
    rw[aa]at p2
    have e3:a.tmps.getD _ undef=u3:=e3
    rw[aa]at e3
    simp[results,hf,asAddr,e1,e2,e3,p2]
   ·have e1:a.tmps.getD _ undef=u1:=e1
    rw[aa]at e1
    obtain⟨_,p2,e2⟩:=e2
    rw[aa]at p2
    obtain⟨_,p3,e3⟩:=e3
    rw[aa]at p3
    simp[results,hf,asAddr,e1,e2,e3,p2,p3]
   ·obtain⟨_,p1,e1⟩:=e1
    rw[aa]at p1
    have e2:a.tmps.getD _ undef=u2:=e2
    rw[aa]at e2
    have e3:a.tmps.getD _ undef=u3:=e3
    rw[aa]at e3
    simp[results,hf,asAddr,e1,e2,e3,p1]
   ·obtain⟨_,p1,e1⟩:=e1
    rw[aa]at p1
    have e2:a.tmps.getD _ undef=u2:=e2
    rw[aa]at e2
    obtain⟨_,p3,e3⟩:=e3
    rw[aa]at p3
    simp[results,hf,asAddr,e1,e2,e3,p1,p3]
   ·obtain⟨_,p1,e1⟩:=e1
    rw[aa]at p1
    obtain⟨_,p2,e2⟩:=e2
    rw[aa]at p2
    have e3:a.tmps.getD _ undef=u3:=e3
    rw[aa]at e3
    simp[results,hf,asAddr,e1,e2,e3,p1,p2]
   ·obtain⟨_,p1,e1⟩:=e1
    rw[aa]at p1
    obtain⟨_,p2,e2⟩:=e2
    rw[aa]at p2
    obtain⟨_,p3,e3⟩:=e3
    rw[aa]at p3
    simp[results,hf,asAddr,e1,e2,e3,p1,p2,p3]
 | [r1,r2,r3,r4],hf,h,_=>
   obtain⟨y1,ys,rfl,h1,h⟩:=one h
   obtain⟨y2,ys,rfl,h2,h⟩:=one h
   obtain⟨y3,ys,rfl,h3,h⟩:=one h
   obtain⟨y4,ys,rfl,h4,h⟩:=one h
   rw[nil h]
   obtain⟨u1,k1,e1⟩:=zK C g h1
   obtain⟨u2,k2,e2⟩:=zK C g h2
   obtain⟨u3,k3,e3⟩:=zK C g h3
   obtain⟨u4,k4,e4⟩:=zK C g h4
   refine⟨[u1,u2,u3,u4],⟨k1,k2,k3,k4,trivial⟩,rfl,?_⟩
   cases r1<;>cases r2<;>cases r3<;>cases r4
   ·have e1:a.tmps.getD _ undef=u1:=e1
    rw[aa]at e1
    have e2:a.tmps.getD _ undef=u2:=e2
    rw[aa]at e2
    have e3:a.tmps.getD _ undef=u3:=e3
    rw[aa]at e3
    have e4:a.tmps.getD _ undef=u4:=e4
    rw[aa]at e4
    simp[results,hf,asAddr,e1,e2,e3,e4]
   ·have e1:a.tmps.getD _ undef=u1:=e1
    rw[aa]at e1
    have e2:a.tmps.getD _ undef=u2:=e2
    rw[aa]at e2
    have e3:a.tmps.getD _ undef=u3:=e3
    rw[aa]at e3
    obtain⟨_,p4,e4⟩:=e4
    rw[aa]at p4
    simp[results,hf,asAddr,e1,e2,e3,e4,p4]
   ·have e1:a.tmps.getD _ undef=u1:=e1
    rw[aa]at e1
    have e2:a.tmps.getD _ undef=u2:=e2
    rw[aa]at e2
    obtain⟨_,p3,e3⟩:=e3
    rw[aa]at p3
    have e4:a.tmps.getD _ undef=u4:=e4
    rw[aa]at e4
    simp[results,hf,asAddr,e1,e2,e3,e4,p3]
   ·have e1:a.tmps.getD _ undef=u1:=e1
    rw[aa]at e1
    have e2:a.tmps.getD _ undef=u2:=e2
    rw[aa]at e2
    obtain⟨_,p3,e3⟩:=e3
    rw[aa]at p3
    obtain⟨_,p4,e4⟩:=e4
    rw[aa]at p4
    simp[results,hf,asAddr,e1,e2,e3,e4,p3,p4]
   ·have e1:a.tmps.getD _ undef=u1:=e1
    rw[aa]at e1
    obtain⟨_,p2,e2⟩:=e2
    rw[aa]at p2
    have e3:a.tmps.getD _ undef=u3:=e3
    rw[aa]at e3
    have e4:a.tmps.getD _ undef=u4:=e4
    rw[aa]at e4
    simp[results,hf,asAddr,e1,e2,e3,e4,p2]
   ·have e1:a.tmps.getD _ undef=u1:=e1
    rw[aa]at e1
    obtain⟨_,p2,e2⟩:=e2
    rw[aa]at p2
    have e3:a.tmps.getD _ undef=u3:=e3
    rw[aa]at e3
    obtain⟨_,p4,e4⟩:=e4
    rw[aa]at p4
    simp[results,hf,asAddr,e1,e2,e3,e4,p2,p4]
   ·have e1:a.tmps.getD _ undef=u1:=e1
    rw[aa]at e1
    obtain⟨_,p2,e2⟩:=e2
    rw[aa]at p2
    obtain⟨_,p3,e3⟩:=e3
    rw[aa]at p3
    have e4:a.tmps.getD _ undef=u4:=e4
    rw[aa]at e4
    simp[results,hf,asAddr,e1,e2,e3,e4,p2,p3]
   ·have e1:a.tmps.getD _ undef=u1:=e1
    rw[aa]at e1
    obtain⟨_,p2,e2⟩:=e2
    rw[aa]at p2
    obtain⟨_,p3,e3⟩:=e3
    rw[aa]at p3
    obtain⟨_,p4,e4⟩:=e4
    rw[aa]at p4
    simp[results,hf,asAddr,e1,e2,e3,e4,p2,p3,p4]
   ·obtain⟨_,p1,e1⟩:=e1
    rw[aa]at p1
    have e2:a.tmps.getD _ undef=u2:=e2
    rw[aa]at e2
    have e3:a.tmps.getD _ undef=u3:=e3
    rw[aa]at e3
    have e4:a.tmps.getD _ undef=u4:=e4
    rw[aa]at e4
    simp[results,hf,asAddr,e1,e2,e3,e4,p1]
   ·obtain⟨_,p1,e1⟩:=e1
    rw[aa]at p1
    have e2:a.tmps.getD _ undef=u2:=e2
    rw[aa]at e2
    have e3:a.tmps.getD _ undef=u3:=e3
    rw[aa]at e3
    obtain⟨_,p4,e4⟩:=e4
    rw[aa]at p4
    simp[results,hf,asAddr,e1,e2,e3,e4,p1,p4]
   ·obtain⟨_,p1,e1⟩:=e1
    rw[aa]at p1
    have e2:a.tmps.getD _ undef=u2:=e2
    rw[aa]at e2
    obtain⟨_,p3,e3⟩:=e3
    rw[aa]at p3
    have e4:a.tmps.getD _ undef=u4:=e4
    rw[aa]at e4
    simp[results,hf,asAddr,e1,e2,e3,e4,p1,p3]
   ·obtain⟨_,p1,e1⟩:=e1
    rw[aa]at p1
    have e2:a.tmps.getD _ undef=u2:=e2
    rw[aa]at e2
    obtain⟨_,p3,e3⟩:=e3
    rw[aa]at p3
    obtain⟨_,p4,e4⟩:=e4
    rw[aa]at p4
    simp[results,hf,asAddr,e1,e2,e3,e4,p1,p3,p4]
   ·obtain⟨_,p1,e1⟩:=e1
    rw[aa]at p1
    obtain⟨_,p2,e2⟩:=e2
    rw[aa]at p2
    have e3:a.tmps.getD _ undef=u3:=e3
    rw[aa]at e3
    have e4:a.tmps.getD _ undef=u4:=e4
    rw[aa]at e4
    simp[results,hf,asAddr,e1,e2,e3,e4,p1,p2]
   ·obtain⟨_,p1,e1⟩:=e1
    rw[aa]at p1
    obtain⟨_,p2,e2⟩:=e2
    rw[aa]at p2
    have e3:a.tmps.getD _ undef=u3:=e3
    rw[aa]at e3
    obtain⟨_,p4,e4⟩:=e4
    rw[aa]at p4
    simp[results,hf,asAddr,e1,e2,e3,e4,p1,p2,p4]
   ·obtain⟨_,p1,e1⟩:=e1
    rw[aa]at p1
    obtain⟨_,p2,e2⟩:=e2
    rw[aa]at p2
    obtain⟨_,p3,e3⟩:=e3
    rw[aa]at p3
    have e4:a.tmps.getD _ undef=u4:=e4
    rw[aa]at e4
    simp[results,hf,asAddr,e1,e2,e3,e4,p1,p2,p3]
   ·obtain⟨_,p1,e1⟩:=e1
    rw[aa]at p1
    obtain⟨_,p2,e2⟩:=e2
    rw[aa]at p2
    obtain⟨_,p3,e3⟩:=e3
    rw[aa]at p3
    obtain⟨_,p4,e4⟩:=e4
    rw[aa]at p4
    simp[results,hf,asAddr,e1,e2,e3,e4,p1,p2,p3,p4]
 |_::_::_::_::_::_,_,_,hl=>simp at hl
end
end
section
variable{ty:Tag→Nat}
theorem RI.ra{w:World}{env:Env}{v:V}{u:Value}{fp:List Nat}(h:RI w v u fp):RA w [] env v u:=by
 have hno: ∀b, ¬Ow [] env b:=by rintro b ⟨n,o,hl,_⟩;simp[look]at hl
 cases v with
 |lit x=>exact⟨h.1,h.2.1⟩
 |sl t l=>exact⟨fp,h,fun b _=>hno b⟩
 |_=>exact h.elim
theorem Kv.rs1{w:World}{env:Env}{x:S1}{u:Value}(h:Kv w x u):ji w [] env x u:=by
 cases x with
 |a v=>obtain⟨fp,h⟩:=h;exact h.ra
 |agg l=>
  obtain⟨cs,fp,rfl,h⟩:=h
  exact⟨cs,rfl,h.Gj fun b _=>by rintro⟨n,o,hl,_⟩;simp[look]at hl⟩
theorem Ag: ∀{as:List S1} {i s:Nat} {v:SV},look (enter i as) s=some v→ ∃x,v= .one x∧i≤s∧as[s-i]? =some x
 |x::r,i,s,v,h=>by
  by_cases hs:s=i
  ·subst hs
   rw[enter,look_eq]at h
   simp only[oI]at h
   exact⟨x,h.symm,bh _,by simp⟩
  ·rw[enter,bX hs]at h
   obtain⟨y,h1,h2,h3⟩:=Ag h
   refine⟨y,h1,by omega,?_⟩
   rw[show s-i=(s-(i+1))+1 by omega,List.getElem?_cons_succ];exact h3
theorem entry{as:List S1}{us:List Value}{w:World}{n:Nat}(hA:Ko w)(ha:cO (Kv w) as us)(hn:as.length≤n):
  Inv ty ⟨w,[],fun _=>⟨.tuple #[],[]⟩⟩ ⟨n,enter 0 as,[]⟩ {tmps:=us.toArray++nB (n-us.toArray.size) undef,defers:= []} w:=by
 have hl:=ha.len
 refine⟨by simp;omega,rfl,Kept.refl _ _,⟨hA,fun _ _ h=>by cases h⟩,fun _=>⟨.tuple #[],[]⟩,⟨fun n o h=>by simp[look]at h,fun n m o o' _ h=>by simp[look]at h,fun s v hv=> ?_,fun n o h=>by simp[look]at h,fun n _=>⟨rfl,fun b hb=>hb⟩⟩⟩
 obtain⟨x,rfl,_,hx⟩:=Ag hv
 rw[M1]at hx
 obtain⟨u,hu,hr⟩:=ha.at hx
 have hs:s<us.length:=(aI.1 hu).1
 have:(us.toArray++nB (n-us.toArray.size) undef).getD s undef=u:=by
  rw[aa,sL (by simpa using hs)]
  simp[hu]
 show ji w [] _ x _
 rw[this]
 exact hr.rs1
theorem Jz{P:Program}{Γ:Nat→TK}(X:Ctx P ty Γ){f:FuncId}{fn:Func}{c:Code}{yP:List ResultVar}{n:Nat}{as rs:List S1}
  (M3: ∀(args:Array Value) (w:World),(callFunc f args).run P w= .ok (.enter f args) w)(hf:P.funcs[f]? =some fn)(hb:fn.body=some c)(hr:fn.results=yP.toArray)(hl:yP.length≤4)(hn:fn.ntmps=n)(hlen:as.length≤n)
  (h: ∀zb,W P ty zb c (Fin Γ yP rs) ⟨n,enter 0 as,[]⟩):Sound ty P f as rs:=by
 refine⟨M3,fun w us hA ha=>calls_of_wp hf hb ?_⟩
 rw[hn]
 refine wp_mono (h _ _ w (entry hA ha hlen)) ?_
 rintro e a w' ⟨st,iv,he,vc,pP,hv⟩
 have key:a.defers= []∧ ∃v,(results fn a.tmps).run P w'= .ok v w'∧Ret ty w rs (.returned v) w':=by
  obtain⟨env,g⟩:=iv.good
  unfold ends at pP
  split at pP
  ·rename_i xs hx
   split at pP
   ·rename_i tO k hm
    split at pP
    ·rename_i hnd
     simp only[oI]at pP
     subst pP
     obtain⟨vs,h1,h2,h3⟩:=M0 X.kind g hr hx hl
     obtain⟨fp,q1,q2,_⟩:=MZ rfl g h1 hm (mR hnd) hv.out
     have adv:Below w.heap.size w w':=⟨iv.kept.os,iv.kept.tape,iv.kept.output,iv.kept.size,fun b hb=>iv.kept.block b hb (by simp)⟩
     refine⟨iv.defers,_,h3,_,fp,rfl,adv,q2,?_⟩
     match rs,vs,q1 with
     | [],[],q1=>exact⟨[],rfl,q1⟩
     | [r],[u],⟨f1,f2,p1,p2,e⟩=>
       have p2:f2= []:=p2
       rw[p2,cW]at e
       rw[e];exact p1
     |r1::r2::r,u1::u2::u,q1=>exact⟨_,rfl,q1⟩
     | [],_::_,q1=>exact q1.elim
     |_::_,[],q1=>exact q1.elim
     | [r],u1::u2::u,⟨_,_,_,p,_⟩=>exact p.elim
     |r1::r2::r,[u],⟨_,_,_,p,_⟩=>exact p.elim
    ·cases pP
   ·cases pP
  ·cases pP
 rcases he with rfl|rfl<;>exact key
theorem aD{P:Program}{Γ:Nat→TK}(X:Ctx P ty Γ){f:FuncId}{fn:Func}{c:Code}{yP:List ResultVar}{n:Nat}{xs rs:List S1}
  (M3: ∀(args:Array Value) (w:World),(callFunc f args).run P w= .ok (.enter f args) w)(hf:P.funcs[f]? =some fn)(hn:fn.ntmps=n)(hb:fn.body=some c)(hr:fn.results=yP.toArray)
  (h: ∀zb,W P ty zb c (Fin Γ yP rs) ⟨n,enter 0 xs,[]⟩)(hl:yP.length≤4:=by decide)(hlen:xs.length≤n:=by simp):Sound ty P f xs rs:=Jz X M3 hf hb hr hl hn hlen h
theorem RF.len{w:World}: ∀{vs:List V} {us:List Value} {cu:List (List Nat)},RF w vs us cu→us.length=vs.length∧cu.length=vs.length
 | [],[],_,h=>by rw[show _=_ from h];exact⟨rfl,rfl⟩
 |_::_,_::_,_,⟨_,_,_,h,e⟩=>by obtain⟨h1,h2⟩:=RF.len h;rw[e];exact⟨by simp[h1],by simp[h2]⟩
 | [],_::_,_,h=>h.elim
 |_::_,[],_,h=>h.elim
theorem Tw.nodup: ∀{fs gs:List (List Nat)},Tw fs gs→gs.flatten.Nodup→(∀f,f∈fs→f.Nodup)→fs.flatten.Nodup∧ ∀b,b∈fs.flatten→b∈gs.flatten
 | [],[],_,_,_=>⟨by simp,by simp⟩
 |f::fs,g::gs,⟨h1,h2⟩,hn,hf=>by
  rw[bO]at hn
  obtain⟨_,n2,n3⟩:=aY.1 hn
  obtain⟨q1,q2⟩:=Tw.nodup h2 n2 (fun f hm=>hf f (aJ _ hm))
  refine⟨?_,fun b hb=> ?_⟩
  ·rw[bO]
   exact aY.2 ⟨hf f (by simp),q1,fun b hb c hc e=>n3 b (h1 b hb) c (q2 c hc) e⟩
  ·rw[bO]at hb ⊢
   rcases aK.1 hb with hb|hb
   ·exact aM _ (h1 b hb)
   ·exact aH _ (q2 b hb)
 | [],_::_,h,_,_=>h.elim
 |_::_,[],h,_,_=>h.elim
section
variable{zb:eJ}{st:St}{tmps:Array Value}{w0 w:World}{env:Env}
theorem RF.one{w:World}{v:V}{u:Value}{cu:List (List Nat)}(h:RF w [v] [u] cu): ∃f,RI w v u f∧cu= [f]:=by
 obtain⟨f,g,h1,h2,h3⟩:=h
 exact⟨f,h1,by rw[h3,show g= []from h2]⟩
end
end
section
variable{ty:Tag→Nat}
def XB:V→V→Option (List Prop)
 |_, .any=>some []
 | .lit v, .lit u=>some [v=u]
 | .vO v t l, .vO u t' l'=>match jX t' t l with|some l2=>some [v=u,l2=l']|none=>none
 | .own n, .own m=>match bf n m with|true=>some []|false=>none
 | .ptr n o, .ptr m q=>match bf n m&&bf o q with|true=>some []|false=>none
 |_,_=>none
def xO:List V→List V→Option (List Prop)
 | [],[]=>some []
 |x::r,y::s=>match XB x y,xO r s with|some vc,some vcs=>some (qE vc vcs)|_,_=>none
 |_,_=>none
def sk:Obj→Obj→Option (List Prop)
 | .arr t l, .arr t' l'=>match jX t' t l with|some l2=>some [l2=l']|none=>none
 | .box c, .box d=>xO c d
 |_,_=>none
def Lm(hp:Hp):Hp→Option (List Prop)
 | []=>some []
 | (n,o)::r=>match look hp n with
   |some x=>match sk x o,Lm hp r with|some vc,some vcs=>some (qE vc vcs)|_,_=>none
   |none=>none
def Ln:S1→S1→Option (List Prop)
 | .a v, .a u=>xO [v] [u]
 | .agg l, .agg m=>xO l m
 |_,_=>none
def Du:List S1→List S1→Option (List Prop)
 | [],[]=>some []
 |x::r,y::s=>match Ln x y,Du r s with|some vc,some vcs=>some (qE vc vcs)|_,_=>none
 |_,_=>none
def R4(Γ:Nat→TK)(st:St)(yP:List ResultVar)(iT:Hp)(rs:List S1):Option (List Prop):=
 match BB Γ st yP with
 |some xs=>match Du xs rs,Lm st.hp iT with
  |some vc,some vcs=>some (qE vc vcs)
  |_,_=>none
 |none=>none
def aeS(Γ:Nat→TK)(yP:List ResultVar)(iT:Hp)(rs:List S1):Post:=fun e st=>(e= .ret∨e= .normal)∧ ∃vc,R4 Γ st yP iT rs=some vc∧qI vc
theorem uz{Γ:Nat→TK}{yP:List ResultVar}{iT:Hp}{rs:List S1}{st:St}{vc:List Prop}(h:R4 Γ st yP iT rs=some vc)(hv:qI vc):aeS Γ yP iT rs .ret st:=⟨.inl rfl,vc,h,hv⟩
theorem vF{Γ:Nat→TK}{yP:List ResultVar}{iT:Hp}{rs:List S1}{st:St}{vc:List Prop}(h:R4 Γ st yP iT rs=some vc)(hv:qI vc):aeS Γ yP iT rs .normal st:=⟨.inr rfl,vc,h,hv⟩
def okT(iT:Hp)(rs:List S1):Bool:=(rs.all (vk iT))&&(iT.all fun e=>BA iT e.2)&&kf iT
section
variable{P:Program}{zb:eJ}{st:St}{a:Act}{w:World}{env:Env}
theorem HL{x o:Obj}{vc:List Prop}(h:sk x o=some vc):(∀t l,x= .arr t l→ ∃t' l',o= .arr t' l')∧ ∀c,x= .box c→ ∃d,o= .box d:=by
 cases x<;>cases o<;>simp[sk]at h ⊢
theorem HM{hp:Hp}: ∀{iT:Hp} {vc:List Prop},Lm hp iT=some vc→(∀q,q∈vc→q)→ ∀n o,(n,o)∈iT→ ∃x v1,look hp n=some x∧sk x o=some v1∧ ∀q,q∈v1→q
 | (k,y)::r,vc,h,hv,n,o,hm=>by
   simp only[Lm]at h
   split at h
   ·rename_i x hx
    split at h
    ·rename_i v1 v2 h1 h2
     simp only[oI,gI]at h
     subst h
     rcases aW.1 hm with h'|h'
     ·simp only[pI]at h'
      obtain⟨rfl,rfl⟩:=h'
      exact⟨x,v1,hx,h1,fun q hq=>hv q (aM _ hq)⟩
     ·exact HM h2 (fun q hq=>hv q (aH _ hq)) n o h'
    ·cases h
   ·cases h
theorem XC{hp iT:Hp}(hT: ∀n o,look iT n=some o→ ∃x v1,look hp n=some x∧sk x o=some v1){x y:V}{u:Value}{vc:List Prop}(hr:RA w hp env x u)(h:XB x y=some vc)(hv: ∀q,q∈vc→q)(hn:qm iT y=true):RA w iT env y u:=by
 unfold XB at h
 split at h
 ·trivial
 ·simp only[oI]at h
  subst h
  have e:=hv _ (aP.2 rfl)
  subst e
  exact hr
 ·split at h
  ·rename_i l2 hc
   simp only[oI]at h
   subst h
   have e1:=hv _ (List.mem_cons_self ..)
   have e2:=hv _ (aJ _ (aP.2 rfl))
   obtain⟨et,rfl⟩:=fL hc
   subst et
   subst e1;subst e2
   obtain⟨hu,fp,h1,h2⟩:=hr
   refine⟨hu,fp,h1,fun b hb ho=>h2 b hb ?_⟩
   obtain⟨n,o,q1,q2⟩:=ho
   obtain⟨x,_,p1,_⟩:=hT n o q1
   exact⟨n,x,p1,q2⟩
  ·cases h
 ·rename_i n m
  split at h
  ·rename_i hb
   have hb:=av hb
   subst hb
   obtain⟨⟨t,l,hl⟩,hu⟩:=hr
   have hno:=yO hn n rfl
   cases hq:look iT n with
   |none=>exact absurd hq hno
   |some o=>
    obtain⟨x,v1,h1,h2⟩:=hT n o hq
    rw[hl]at h1
    simp only[oI]at h1
    subst h1
    obtain⟨t',l',rfl⟩:=(HL h2).1 t l rfl
    exact⟨⟨t',l',hq⟩,hu⟩
  ·cases h
 ·rename_i n o m q
  split at h
  ·rename_i hb
   simp only[aj]at hb
   have ck:=av hb.1
   have dS:=av hb.2
   subst ck;subst dS
   obtain⟨⟨c,hl⟩,hu⟩:=hr
   have hno:=yO hn n rfl
   cases hq:look iT n with
   |none=>exact absurd hq hno
   |some z=>
    obtain⟨x,v1,h1,h2⟩:=hT n z hq
    rw[hl]at h1
    simp only[oI]at h1
    subst h1
    obtain⟨d,rfl⟩:=(HL h2).2 c rfl
    exact⟨⟨d,hq⟩,hu⟩
  ·cases h
 ·cases h
theorem yW{hp iT:Hp}(hT: ∀n o,look iT n=some o→ ∃x v1,look hp n=some x∧sk x o=some v1): ∀{xs ys:List V} {us:List Value} {vc:List Prop},cO (RA w hp env) xs us→xO xs ys=some vc→(∀q,q∈vc→q)→(∀y,y∈ys→qm iT y=true)→cO (RA w iT env) ys us
 | [],ys,us,vc,hr,h,_,_=>by
   cases ys with
   |nil=>
    cases us with
    |nil=>trivial
    |cons _ _=>exact hr.elim
   |cons _ _=>simp[xO]at h
 |x::r,ys,us,vc,hr,h,hv,hn=>by
  cases us with
  |nil=>exact hr.elim
  |cons u us=>
   cases ys with
   |nil=>simp[xO]at h
   |cons y s=>
    simp only[xO]at h
    split at h
    ·rename_i v1 v2 h1 h2
     simp only[oI,gI]at h
     subst h
     exact⟨XC hT hr.1 h1 (fun q hq=>hv q (aM _ hq)) (hn y (by simp)),yW hT hr.2 h2 (fun q hq=>hv q (aH _ hq)) (fun z hz=>hn z (aJ _ hz))⟩
    ·cases h
theorem Uk{hp iT:Hp}(hT: ∀n o,look iT n=some o→ ∃x v1,look hp n=some x∧sk x o=some v1){x y:S1}{u:Value}{vc:List Prop}(hr:ji w hp env x u)(h:Ln x y=some vc)(hv: ∀q,q∈vc→q)(hn:vk iT y=true):ji w iT env y u:=by
 cases x with
 |a v=>
  cases y with
  |a v'=>
   have:=yW hT (xs:= [v]) (us:= [u]) ⟨hr,trivial⟩ h hv (fun z hz=>by rw[aP.1 hz];exact hn)
   exact this.1
  |agg _=>simp[Ln]at h
 |agg l=>
  cases y with
  |a v'=>simp[Ln]at h
  |agg m=>
   obtain⟨cs,rfl,hl⟩:=hr
   exact⟨cs,rfl,yW hT hl h hv (fun z hz=>bq.1 hn z hz)⟩
theorem JQ{hp iT:Hp}(hT: ∀n o,look iT n=some o→ ∃x v1,look hp n=some x∧sk x o=some v1): ∀{xs ys:List S1} {us:List Value} {vc:List Prop},cO (ji w hp env) xs us→Du xs ys=some vc→(∀q,q∈vc→q)→(∀y,y∈ys→vk iT y=true)→cO (ji w iT env) ys us
 | [],ys,us,vc,hr,h,_,_=>by
   cases ys with
   |nil=>
    cases us with
    |nil=>trivial
    |cons _ _=>exact hr.elim
   |cons _ _=>simp[Du]at h
 |x::r,ys,us,vc,hr,h,hv,hn=>by
  cases us with
  |nil=>exact hr.elim
  |cons u us=>
   cases ys with
   |nil=>simp[Du]at h
   |cons y s=>
    simp only[Du]at h
    split at h
    ·rename_i v1 v2 h1 h2
     simp only[oI,gI]at h
     subst h
     exact⟨Uk hT hr.1 h1 (fun q hq=>hv q (aM _ hq)) (hn y (by simp)),JQ hT hr.2 h2 (fun q hq=>hv q (aH _ hq)) (fun z hz=>hn z (aJ _ hz))⟩
    ·cases h
end
theorem aeT{as:List S1}{us:List Value}{w:World}{env:Env}{kE:Hp}{n:Nat}(hA:Ko w)(hL: ∀b,O8 b→b∉Bv kE env)(hG:MP ty w kE env)(ha:cO (ji w kE env) as us)(hn:as.length≤n):
  Inv ty ⟨w,Bv kE env,env⟩ ⟨n,enter 0 as,kE⟩ {tmps:=us.toArray++nB (n-us.toArray.size) undef,defers:= []} w:=by
 have hl:=ha.len
 refine⟨by simp;omega,rfl,Kept.refl _ _,⟨hA,hL⟩,env,⟨hG.1,hG.2,fun s v hv=> ?_,fun n o h b hb=>bG (jY.2 ⟨_,gM h,hb⟩),fun n _=>⟨rfl,fun b hb=>hb⟩⟩⟩
 obtain⟨x,rfl,_,hx⟩:=Ag hv
 rw[M1]at hx
 obtain⟨u,hu,hr⟩:=ha.at hx
 have hs:s<us.length:=(aI.1 hu).1
 have:(us.toArray++nB (n-us.toArray.size) undef).getD s undef=u:=by
  rw[aa,sL (by simpa using hs)]
  simp[hu]
 show ji w kE env x _
 rw[this]
 exact hr
theorem oU{P:Program}{Γ:Nat→TK}(X:Ctx P ty Γ){f:FuncId}{fn:Func}{c:Code}{yP:List ResultVar}{n:Nat}{kE iT:Hp}{as rs:List S1}
  (M3: ∀(args:Array Value) (w:World),(callFunc f args).run P w= .ok (.enter f args) w)(hf:P.funcs[f]? =some fn)(hb:fn.body=some c)(hr:fn.results=yP.toArray)(hl:yP.length≤4)(hn:fn.ntmps=n)(hlen:as.length≤n)(hT:okT iT rs=true)
  (h: ∀zb,W P ty zb c (aeS Γ yP iT rs) ⟨n,enter 0 as,kE⟩):rG ty P f kE as iT rs:=by
 refine⟨M3,fun w env us hA hL hG ha=>calls_of_wp hf hb ?_⟩
 rw[hn]
 refine wp_mono (h _ _ w (aeT hA hL hG ha hlen)) ?_
 simp only[okT,aj,bq]at hT
 obtain⟨⟨t1,t2⟩,t3⟩:=hT
 rintro e a w' ⟨st,iv,he,vc,pP,hv⟩
 have key:a.defers= []∧ ∃v,(results fn a.tmps).run P w'= .ok v w'∧ ∃env' u,Ending.returned v= .returned u∧Kept ⟨w,Bv kE env,env⟩ w w'∧MP ty w' iT env'∧
   (∀n o,look iT n=some o→ ∀b,b∈(env' n).fp→b∈Bv kE env∨w.heap.size≤b)∧(∀n,ng n=true→(env' n).v=(env n).v∧ ∀b,b∈(env' n).fp→b∈(env n).fp)∧agz w' iT env' rs u:=by
  obtain⟨env',g⟩:=iv.good
  unfold R4 at pP
  split at pP
  ·rename_i xs hx
   split at pP
   ·rename_i v1 v2 hm1 hm2
    simp only[oI,gI]at pP
    subst pP
    have EN: ∀q,q∈v1→q:=fun q hq=>hv.out q (aM _ hq)
    have Tq: ∀q,q∈v2→q:=fun q hq=>hv.out q (aH _ hq)
    obtain⟨vs,h1,h2,h3⟩:=M0 X.kind g hr hx hl
    have hmem:=HM hm2 Tq
    have hT: ∀n o,look iT n=some o→ ∃x v1,look st.hp n=some x∧sk x o=some v1:=fun n o hl=>by
     obtain⟨x,v1,p1,p2,_⟩:=hmem n o (gM hl)
     exact⟨x,v1,p1,p2⟩
    have hres:=JQ hT h1 hm1 EN t1
    refine⟨iv.defers,_,h3,env',_,rfl,iv.kept,⟨fun n o hl=> ?_,fun n m o o' hne hl1 qN=> ?_⟩,fun n o hl b hb=> ?_,fun n hp=>g.pins n hp,?_⟩
    ·obtain⟨x,v1,p1,p2,p3⟩:=hmem n o (gM hl)
     have hro:=g.obj n x p1
     cases x with
     |arr t l=>
      cases o with
      |box d=>simp[sk]at p2
      |jc t' l' s'=>simp[sk]at p2
      |arr t' l'=>
       simp only[sk]at p2
       split at p2
       ·rename_i l2 hc
        simp only[oI]at p2
        subst p2
        have e2:=p3 _ (aP.2 rfl)
        subst e2
        obtain⟨e,rfl⟩:=fL hc
        subst e
        exact Rf (fun h=>h) hro
       ·cases p2
     |jc t l s=>cases o<;>simp[sk]at p2
     |box c=>
      cases o with
      |arr t' l'=>simp[sk]at p2
      |jc t' l' s'=>simp[sk]at p2
      |box d=>
       obtain⟨b,cs,e,q1,q2,q3⟩:=hro
       exact⟨b,cs,e,q1,q2,yW hT q3 p2 p3 (fun y hy=>bq.1 (t2 _ (gM hl)) y hy)⟩
    ·obtain⟨x,_,p1,_⟩:=hT n o hl1
     obtain⟨y,_,p2,_⟩:=hT m o' qN
     exact g.lR n m x y hne p1 p2
    ·obtain⟨x,_,p1,_⟩:=hT n o hl
     exact g.dom n x p1 b hb
    ·match rs,vs,hres with
     | [r],[u],hres=>exact hres.1
     | [],[],hres=>exact⟨[],rfl,trivial⟩
     |r1::r2::r,u1::u2::u,hres=>exact⟨_,rfl,hres⟩
     | [],_::_,hres=>exact hres.elim
     |_::_,[],hres=>exact hres.elim
     | [_],_::_::_,hres=>exact hres.2.elim
     |_::_::_,[_],hres=>exact hres.2.elim
   ·cases pP
  ·cases pP
 rcases he with rfl|rfl<;>exact key
end
end Go.Proofs.YtkcegdacbddipaaGreat.G
