/-
  Contracts of functions that are lent memory: from the walk through their bodies.
-/
import Derived.Test.YtkkfjbfkjbljiaaGreatDoorM8
namespace Go.Proofs.YtkkfjbfkjbljiaaGreatDoor.G
set_option linter.all false
open Go.RowKit L D
section
variable{ty:Tag→Nat}
def ZQ(hp:Hp)(n m:Nat)(t:Tag)(l:List (T t))(r:oG:= .mE):Hp:=(m, .fk t l r)::cq [n] [] hp
def apx:S1→Option ((t:Tag)×List (T t)×oG)
 | .a (.sl t l)=>some ⟨t,l, .mE⟩
 | .a (.yI q t l)=>some ⟨t,l, .of q⟩
 |_=>none
def Oa:oG→oG→Nat→Bool
 | .mE, .mE,_=>true
 | .of q, .of q',n=>match Nat.beq q q',Nat.beq q n with|true,false=>true|_,_=>false
 |_,_,_=>false
theorem Ob{r r':oG}{n:Nat}(h:Oa r r' n=true):r=r'∧r.bF [n] []=r∧r.br:=by
 cases r with
 |gone=>cases r'<;>cases h
 |mp=>cases r'<;>cases h
 |B1 u=>cases r'<;>cases h
 |sN p=>cases r'<;>cases h
 |mE=>cases r' with
  |mE=>exact⟨rfl,rfl,trivial⟩
  |_=>cases h
 |of q=>cases r' with
  |of q'=>
   simp only[Oa]at h
   split at h
   ·rename_i h1 h2
    refine⟨by rw[Nat.eq_of_beq_eq_true h1],?_,trivial⟩
    simp[oG.bF,h2]
   ·cases h
  |_=>cases h
def HZ(P:Program)(ty:Tag→Nat)(Γ:Nat→TK)(st:St)(m0:Nat):Op→Option (List Prop×St×SV)
 | .call ⟨.builtin .append,xs,ts⟩=>match xs.toList,ts.toList with
   | [s,x],[t1,t2]=>match Γ t1,Nat.beq t1 t2 with
     | .sl t e,true=>match Nat.beq e (ty t),Nat.beq (kk t) 1,fC st [] s,(fC st [] x).bind apx with
       |true,true,some (.a (.pW n)),some ⟨t2',lx,r⟩=>match look st.hp n,gh t t2' lx with
        |some (.fk t' l r'),some lx=>match gh t t' l,pinned [n],gT m0,look (cq [n] [] st.hp) m0,Oa r r' n with
         |some l,false,false,none,true=>some ([El P ty t,(l.length+lx.length)*b7 t≤140737488355328∧l.length+lx.length≤maxLen],
           ⟨st.n,st.sl.map fun e=>(e.1,e.2.bF [n] []),ZQ st.hp n m0 t (l++lx) r⟩, .one (.a (.pW m0)))
         |_,_,_,_,_=>none
        |_,_=>none
       |_,_,_,_=>none
     |_,_=>none
   |_,_=>none
 |_=>none
section
variable{P:Program}{zb:cL}{st st':St}{a:Act}{w:World}{env:Env}{Q:Exit→Act→World→Prop}{o:Oper}
theorem ym{α β:Type}(l:List α):(l.map fun _=>([]:List β)).flatten= []:=by
 induction l with
 |nil=>rfl
 |cons _ _ ih=>simpa using ih
theorem SK{Γ:Nat→TK}(C: ∀t,cV P t (Γ t)){m0:Nat}{vc:List Prop}{v:SV}(h:HZ P ty Γ st m0 o.op=some (vc,st',v))(g:Good ty zb st a.tmps w env)(hB:zb.w.heap.size≤w.heap.size)(hv: ∀q,q∈vc→q):
  o.wp P a w (fun a' w'=> ∃u env',a'=a.put o.dst u∧Kept zb w w'∧Good ty zb st' a.tmps w' env'∧st'.n=st.n∧nE w' st'.hp env' a.tmps v u) Q:=by
 have hop: ∀{x v},fC st [] x=some v→fD w st.hp env v (a.eval x):=fun hx=>ef g (fun e he=>by simp at he) hx
 generalize dV:o.op=op at h
 cases op with
 |call c=>
  obtain⟨callee,xs,ts⟩:=c
  cases callee with
  |builtin b=>
   cases b with
   |append=>
    simp only[HZ]at h
    split at h
    case h_2=>cases h
    rename_i s x t1 t2 hxl htl
    obtain rfl:xs= #[s,x]:=by cases xs;simp_all
    obtain rfl:ts= #[t1,t2]:=by cases ts;simp_all
    split at h
    case h_2=>cases h
    rename_i t e hk tM
    have tM:=Nat.eq_of_beq_eq_true tM
    subst tM
    split at h
    case h_2=>cases h
    rename_i n t2' RT r he hk1 hs hx
    have he:=Nat.eq_of_beq_eq_true he
    have hk1:=Nat.eq_of_beq_eq_true hk1
    split at h
    case h_2=>cases h
    rename_i t' l0 r' lx hl hcx
    split at h
    case h_2=>cases h
    rename_i l pX hpk B9 hlk hbk
    obtain⟨rfl,hkr,hmp⟩:=Ob hbk
    obtain⟨sx,Zv,hx⟩:=Option.bind_eq_some_iff.1 hx
    simp only[oI,pI]at h
    obtain⟨rfl,rfl,rfl⟩:=h
    obtain⟨e1,rfl⟩:=c8 hcx
    subst e1
    obtain⟨e2,rfl⟩:=c8 pX
    subst e2
    have tL:El P ty t':=hv _ (by simp)
    obtain⟨bt,bY⟩:(l0.length+RT.length)*b7 t'≤140737488355328∧l0.length+RT.length≤maxLen:=hv _ (by simp)
    obtain⟨_,hu⟩:=hop hs
    obtain⟨fpx,hsx,hnx⟩: ∃fp,Sl (kk t') (rd t') w (a.eval x) RT fp∧ ∀(t:Tag) (y:T t) (u:Value) (f:List Nat),(∀b,b∈f→b∈fp)→rd t w [u] y f→BE w st.hp env r t y u:=by
     have hr:=hop Zv
     unfold apx at hx
     split at hx
     ·simp only[oI,Sigma.mk.injEq]at hx
      obtain⟨rfl,hx⟩:=hx
      obtain⟨rfl,rfl⟩:=Prod.mk.inj (eq_of_heq hx)
      obtain⟨fp,h1,h2⟩:=hr
      exact⟨fp,h1,fun t y u f hf hr=>⟨f,hr,fun b hb=>h2 b (hf b hb)⟩⟩
     ·simp only[oI,Sigma.mk.injEq]at hx
      obtain⟨rfl,hx⟩:=hx
      obtain⟨rfl,rfl⟩:=Prod.mk.inj (eq_of_heq hx)
      obtain⟨h0,b0,fp,h1,h2,_,h3⟩:=hr
      refine⟨_,h1,fun t y u f hf hr=>⟨h0,f,hr,fun b hb=> ?_⟩⟩
      rcases List.mem_cons.1 (hf b hb)with rfl|h
      ·exact Or.inr h2
      ·exact Or.inl (h3 b h)
     ·cases hx
    obtain⟨_,us,ZR,HL,Vb⟩:Nr ty w st.hp env t' l0 r (env n):=by
     rcases RO.B7 (g.obj n _ hl)with⟨rfl,_⟩| ⟨u,rfl,_⟩| ⟨p,rfl,_⟩| ⟨_,h⟩
     ·exact hmp.elim
     ·exact hmp.elim
     ·exact hmp.elim
     ·exact h
    obtain⟨news,fx,n1,n2,n3,n4,n5⟩:=uS (dF t') (fB t') hsx
    rw[hk1]at n3 n4
    have hC:=C t1
    rw[hk]at hC
    have hone: ∀(i:Nat) (y:Value),news[i]? =some y→y.oneCell'=true∧ ∀x,RT[i]? =some x→BE w st.hp env r t' x y:=by
     intro i y hy
     have hi:i<news.length:=(List.getElem?_eq_some_iff.1 hy).1
     have hx':RT[i]? =some (RT[i]'(by omega)):=List.getElem?_eq_getElem (by omega)
     have hf':fx[i]? =some (fx[i]'(by omega)):=List.getElem?_eq_getElem (by omega)
     have hr:=n4 i _ _ hx' hf'
     have hch:(news.drop (i*1)).take 1= [y]:=by
      rw[Nat.mul_one,List.drop_eq_getElem_cons hi]
      have:news[i]=y:=(List.getElem?_eq_some_iff.1 hy).2
      rw[this];rfl
     rw[hch]at hr
     refine⟨(dF t').one hr y (by simp),fun x hx=> ?_⟩
     rw[hx']at hx
     simp only[oI]at hx
     subst hx
     exact hnx _ _ _ _ (fun b hb=>n5.subset (List.mem_flatten.2 ⟨_,List.getElem_mem _,hb⟩)) hr
    have hB0:iW 1 Nq 0 (ty t') w (a.eval s) us (env n).fp:=by rw[hu];exact ZR
    have MW:(P.info? (ty t')).map (fun i=>(i.zero,i.size,i.bytes))=some (some (eZ t'),1,b7 t'):=by rw[←hk1];exact tL
    refine DE s x t1 dV Ac (by decide) 0 (ty t') (eZ t') (b7 t') (by rw[←he];exact hC.1) MW (by rw[←hk1];exact jX t') _ us (env n).fp rfl hB0 _ rfl news news (news.map fun _=> [])
     (by rw[show news.length=RT.length by omega];exact n1) (by simp) (by omega) (fun i y f hy hf=> ?_) (by rw[ym,List.append_nil];exact ZR.own) (by rw[HL,show news.length=RT.length by omega];exact bY) (by rw[HL,show news.length=RT.length by omega];exact bt) (Nat.zero_le _) ?_
    ·have hi:i<news.length:=(List.getElem?_eq_some_iff.1 hy).1
     have hf0:f= []:=by
      rw[List.getElem?_map,hy]at hf
      simpa using hf.symm
     subst hf0
     refine⟨?_,rfl,(hone i y hy).1⟩
     rw[Nat.mul_one,List.drop_eq_getElem_cons hi]
     have:news[i]=y:=(List.getElem?_eq_some_iff.1 hy).2
     rw[this];rfl
    ·intro v' w' gw k1 k2 k3 k4 k5 _
     have DZ: ∀b,(a.eval s).ownBlock=some b→b∈(env n).fp:=by
      intro b hb
      obtain⟨xs,bn,_,_,_,gb,_⟩:=hB0
      rw[gb,hb];simp
     obtain⟨env',hg',Ca,_,_⟩:=wL (ty:=ty) g hB (ks:= [n]) hpk B9 hlk (v:=a.eval s) (v':=v') (ob:= .fk t' (l0++RT) r) (fp:=(env n).fp) (fx:= []) (gw:=gw)
      (by
       intro b hb
       rw[List.append_nil]at hb
       exact⟨n,_,by simp,hl,hb⟩)
      DZ
      (by
       intro acR hd s2
       refine RO.Ns hmp ⟨hk1,us++news,k1,by rw[List.length_append,List.length_append,HL];omega,fun i x u hx NJ=> ?_⟩
       by_cases hi:i<l0.length
       ·rw[List.getElem?_append_left hi]at hx
        rw[List.getElem?_append_left (by omega)]at NJ
        have SL:=BE.gU s2 (r:=r) (Vb i x u hx NJ);rw[hkr]at SL;exact SL
       ·rw[List.getElem?_append_right (by omega)]at hx
        rw[List.getElem?_append_right (by omega),HL]at NJ
        have SL:=BE.gU s2 (r:=r) ((hone _ u NJ).2 x hx);rw[hkr]at SL;exact SL)
      k2 (by intro b hb;rcases k4 b hb with h|h|h
             ·exact Or.inl h
             ·rw[ym]at h;cases h
             ·exact Or.inr (Or.inr h))
     refine⟨v',env',rfl,⟨k2.os,k2.tape,k2.output,k2.size,fun b hb hn=>k2.block b (by omega) fun e=> ?_,k5⟩,hg',rfl,⟨t',_,_,look_eq⟩,Ca.symm⟩
     rcases g.dom n _ hl b (DZ b e.symm)with h|h
     ·exact hn h
     ·omega
   |_=>simp[HZ]at h
  |_=>simp[HZ]at h
 |_=>simp[HZ]at h
end
def Vg:Hp→Option (Nat×(t:Tag)×List (T t)×Value)
 | []=>none
 | (n, .fk t l (.B1 u))::_=>some (n,⟨t,l,u⟩)
 |_::r=>Vg r
def Oc(hp:Hp)(n:Nat)(t:Tag):Option (List (T t)×Value):=match look hp n with
 |some (.fk t' l (.B1 u))=>match gh t t' l with|some l=>some (l,u)|none=>none
 |_=>none
def acS(hp:Hp):Option Nat:=match Vg hp with|some (n,_)=>some n|none=>none
def SM(P:Program)(ty:Tag→Nat)(Γ:Nat→TK)(st:St)(m0:Nat):Op→Option (List Prop×St×SV)
 | .call ⟨.builtin .append,xs,ts⟩=>match xs.toList,ts.toList with
   | [s,x],[t1,t2]=>match Γ t1,Nat.beq t1 t2 with
     | .sl t e,true=>match Nat.beq e (ty t),fC st [] s,fC st [] x,acS st.hp with
       |true,some vs,some (.a (.raw u)),some n=>match D2 st t vs,Oc st.hp n t with
        |some (l,k),some (lx,u')=>match CM k [n]&& !pinned (kT k [n])&& !gT m0,look (cq (kT k [n]) [] st.hp) m0 with
         |true,none=>some ([u=u',El P ty t,(l.length+lx.length)*b7 t≤140737488355328∧l.length+lx.length≤maxLen],
           st.gone (kT k [n]) m0 t (l++lx), .one (.a (.own m0)))
         |_,_=>none
        |_,_=>none
       |_,_,_,_=>none
     |_,_=>none
   |_,_=>none
 |_=>none
theorem Od{zb:cL}{st:St}{tmps:Array Value}{w:World}{env:Env}(g:Good ty zb st tmps w env){t:Tag}{n:Nat}{l:List (T t)}{u:Value}(h:Oc st.hp n t=some (l,u)):
  ∃(news:List Value) (fx:List (List Nat)),Src w u l.length news∧fx.length=l.length∧news.length=l.length*kk t∧(∀i x f,l[i]? =some x→fx[i]? =some f→rd t w ((news.drop (i*kk t)).take (kk t)) x f)∧
   (∀b,b∈fx.flatten→ ∃i o,i∈ [n]∧look st.hp i=some o∧b∈(env i).fp)∧Own 0 w fx.flatten:=by
 unfold Oc at h
 split at h
 case h_2=>cases h
 rename_i t' l' u' hl
 split at h
 case h_2=>cases h
 rename_i l2 hc
 simp only[oI,pI]at h
 obtain⟨rfl,rfl⟩:=h
 obtain⟨e,rfl⟩:=c8 hc
 subst e
 obtain⟨_,ho,fp,hs,h2⟩:Fq w st.hp env t' l' u' (env n):=by
  rcases RO.B7 (g.obj n _ hl)with⟨h,_⟩| ⟨u,h,hh⟩| ⟨p,h,_⟩| ⟨h,_⟩
  ·cases h
  ·cases h;exact hh
  ·cases h
  ·exact h.elim
 obtain⟨news,fx,h1,h3,h4,h5,h6,h7⟩:=nG (dF t') (fB t') hs
 have zH:fx.flatten=(env n).fp:=by
  rcases h2 with⟨rfl,h2⟩| ⟨b,rfl,_⟩
  ·rw[h2];exact List.sublist_nil.1 h6
  ·exact h7 b _ rfl
 exact⟨news,fx,h1,h3,h4,h5,fun b hb=>⟨n,_,by simp,hl,by rw[←zH];exact hb⟩,by rw[zH];exact ho⟩
section
variable{P:Program}{zb:cL}{st:St}{a:Act}{w:World}{env:Env}{Q:Exit→Act→World→Prop}{o:Oper}
theorem SN{Γ:Nat→TK}(C: ∀t,cV P t (Γ t)){m0:Nat}{vc:List Prop}{st':St}{v:SV}(h:SM P ty Γ st m0 o.op=some (vc,st',v))(g:Good ty zb st a.tmps w env)(hB:zb.w.heap.size≤w.heap.size)(hv: ∀q,q∈vc→q):
  o.wp P a w (fun a' w'=> ∃u env',a'=a.put o.dst u∧Kept zb w w'∧Good ty zb st' a.tmps w' env'∧st'.n=st.n∧nE w' st'.hp env' a.tmps v u) Q:=by
 have hop: ∀{x v},fC st [] x=some v→fD w st.hp env v (a.eval x):=fun hx=>ef g (fun e he=>by simp at he) hx
 generalize dV:o.op=op at h
 unfold SM at h
 split at h
 case h_2=>cases h
 rename_i xs ts
 split at h
 case h_2=>cases h
 rename_i s x t1 t2 hxl htl
 obtain rfl:xs= #[s,x]:=by cases xs;simp_all
 obtain rfl:ts= #[t1,t2]:=by cases ts;simp_all
 split at h
 case h_2=>cases h
 rename_i t e hk tM
 have tM:=Nat.eq_of_beq_eq_true tM
 subst tM
 split at h
 case h_2=>cases h
 rename_i vs ux n he hs hx Y1
 have he:=Nat.eq_of_beq_eq_true he
 split at h
 case h_2=>cases h
 rename_i l k lx u' hds Zt
 split at h
 case h_2=>cases h
 rename_i hno hlk
 simp only[Bool.and_eq_true,Bool.not_eq_true']at hno
 obtain⟨⟨hno,hpk⟩,B9⟩:=hno
 rw[dJ]at hpk
 have Wm:pinned k=false:=by
  unfold pinned at hpk ⊢
  rw[List.any_append,Bool.or_eq_false_iff]at hpk
  exact hpk.1
 simp only[oI,pI,dJ]at h
 rw[dJ]at hlk
 obtain⟨rfl,h2,rfl⟩:=h
 rw[St.gone_eq]at h2
 subst h2
 have huu:ux=u':=hv _ (by simp)
 subst huu
 have tL:El P ty t:=hv _ (by simp)
 obtain⟨bt,bY⟩:(l.length+lx.length)*b7 t≤140737488355328∧l.length+lx.length≤maxLen:=hv _ (by simp)
 obtain⟨fp,hD,kU⟩:=CN g (hop hs) hds Wm
 obtain⟨news,fx,n1,n2,n3,n4,n5,n6⟩:=Od g Zt
 obtain⟨Zy,_⟩:=hop hx
 rw[←Zy]at n1
 have hC:=C t1
 rw[hk]at hC
 have Sd:Own 0 w (fp++fx.flatten):=by
  have ho:=hD.own
  refine⟨List.nodup_append.2 ⟨ho.nodup,n6.nodup,?_⟩,fun b hb=> ?_,fun b hb=> ?_⟩
  ·rintro b hb c hc rfl
   obtain⟨i,oi,hi,h1,h2⟩:=kU b hb
   obtain⟨j,oj,hj,h3,h4⟩:=n5 b hc
   have hij:i≠j:=by
    rintro rfl
    simp only[CM,List.all_eq_true,Bool.not_eq_true',List.any_eq_false]at hno
    exact hno i hi i hj (by simp)
   exact g.iN i j _ _ hij h1 h3 b h2 h4
  ·rcases List.mem_append.1 hb with hb|hb
   ·exact ho.ge b hb
   ·exact n6.ge b hb
  ·rcases List.mem_append.1 hb with hb|hb
   ·exact ho.kind b hb
   ·exact n6.kind b hb
 refine DE s x t1 dV (dF t) (fB t) 0 (ty t) (eZ t) (b7 t) (by rw[←he];exact hC.1) tL (jX t) _ l fp rfl hD _ rfl lx news fx n1 n2 n3 n4 Sd bY bt (Nat.zero_le _) ?_
 intro v' w' gw k1 k2 k3 k4 k5 _
 obtain⟨env',hg',Ca⟩:=uT (ty:=ty) g hB (ks:=k++ [n]) hpk B9 hlk (v:=a.eval s) (fp:=fp) (fx:=fx.flatten)
  (by
   intro b hb
   rcases List.mem_append.1 hb with hb|hb
   ·obtain⟨i,oi,hi,h1⟩:=kU b hb;exact⟨i,oi,List.mem_append_left _ hi,h1⟩
   ·obtain⟨i,oi,hi,h1⟩:=n5 b hb;exact⟨i,oi,List.mem_append_right _ hi,h1⟩)
  (by
   intro b hb
   obtain⟨xs,bn,_,_,_,gb,_⟩:=hD
   rw[gb,hb];simp)
  k1 k2 k4
 refine⟨v',env',rfl,⟨k2.os,k2.tape,k2.output,k2.size,fun b hb hn=>k2.block b (by omega) fun e=> ?_,k5⟩,hg',rfl,⟨t,_,look_eq⟩,Ca.symm⟩
 have MJ:b∈fp:=by
  obtain⟨xs,bn,_,_,_,gb,_⟩:=hD
  rw[gb, ←e];simp
 obtain⟨i,oi,hi,h1,h2⟩:=kU b MJ
 rcases g.dom i oi h1 b h2 with h|h
 ·exact hn h
 ·omega
end
theorem Oe{t:Tag}{w:World}{e:Nat}{v:Value}{l:List (T t)}{fp:List Nat}(h:iW (kk t) (rd t) 0 e w v l fp){j:Nat}(hj:j≤l.length):
  ∃oa cap,v= .slice oa l.length cap∧l.length≤cap∧ ∃gw,iW (kk t) (rd t) 0 e w (zk oa cap (kk t) j l.length) (l.drop j) gw∧ ∀b,b∈gw→b∈fp:=by
 have ho:=h.own
 obtain⟨oa,cap,hv,hc,hm,h3⟩:=h.sl
 refine⟨oa,cap,hv,hc,?_⟩
 rcases h.parts with⟨rfl,rfl,rfl⟩| ⟨g,o,n,c,Ws,hv2,hn,hnm,q1,q2,ZS⟩
 ·simp only[Value.slice.injEq]at hv
  obtain⟨rfl,_,rfl⟩:=hv
  obtain rfl:j=0:=by simpa using hj
  exact⟨[],iW.nil _ _ _ _ _,by simp⟩
 ·rw[hv2]at hv
  simp only[Value.slice.injEq,true_and]at hv
  obtain⟨rfl,rfl⟩:=hv
  have hnil:n=j→ ∃gw,iW (kk t) (rd t) 0 e w (zk (some ⟨g,o,none⟩) n (kk t) j l.length) (l.drop j) gw∧ ∀b,b∈gw→b∈fp:=by
   rintro rfl
   have e0:l.drop n= []:=List.drop_eq_nil_of_le hn
   have e1:l.length=n:=by omega
   refine⟨[g],?_,fun b hb=>by rw[ZS];rw[List.mem_singleton.1 hb];simp⟩
   rw[e0]
   have:zk (some ⟨g,o,none⟩) n (kk t) n l.length= .slice (some ⟨g,o,none⟩) ([]:List (T t)).length 0:=by
    unfold zk;rw[if_pos rfl,e1,Nat.sub_self];rfl
   rw[this]
   refine j8 (dF t) (bn:= []) q1 (by omega) (Nat.zero_le _) (Nat.zero_le _) ⟨rfl,by simp⟩ ⟨by simp,by simp,fun b hb=> ?_⟩
   simp only[List.flatten_nil,List.mem_singleton]at hb
   exact⟨_,_,by rw[hb];exact q1⟩
  by_cases Wg:n=j
  ·exact hnil Wg
  ·rcases h3 with⟨rfl,_,_⟩| ⟨b,off,bn,hb,acw,gb,hE⟩
   ·refine⟨[g],?_,fun b hb=>by rw[ZS];rw[List.mem_singleton.1 hb];simp⟩
    obtain rfl:j=0:=by simpa using hj
    have:zk (some ⟨g,o,none⟩) n (kk t) 0 ([]:List (T t)).length= .slice (some ⟨g,o,none⟩) ([]:List (T t)).length n:=by
     unfold zk;rw[if_neg Wg];simp[Addr.add_mid]
    rw[this]
    refine j8 (dF t) (bn:= []) q1 q2 (Nat.zero_le _) hm ⟨rfl,by simp⟩ ⟨by simp,by simp,fun b hb=> ?_⟩
    simp only[List.flatten_nil,List.mem_singleton]at hb
    exact⟨_,_,by rw[hb];exact q1⟩
   ·simp only[oI,Addr.mk.injEq,and_true]at hb
    obtain⟨rfl,rfl⟩:=hb
    have hsub: ∀b,b∈g::(bn.drop j).flatten→b∈fp:=by
     intro b hb
     rw[gb]
     rcases List.mem_cons.1 hb with rfl|hb
     ·simp
     ·exact List.mem_cons_of_mem _ ((mO (List.drop_sublist j bn)).subset hb)
    have lI:l.length-j=(l.drop j).length:=by simp
    refine⟨g::(bn.drop j).flatten,?_,hsub⟩
    have:zk (some ⟨g,o,none⟩) n (kk t) j l.length= .slice (some ⟨g,o+j*kk t,none⟩) (l.drop j).length (n-j):=by
     unfold zk;rw[if_neg Wg,lI];simp[Addr.add_mid]
    rw[this]
    refine j8 (dF t) q1 ?_ (by rw[←lI];omega) (by omega) ⟨by simp[hE.1],fun i x f hx hf=> ?_⟩ ?_
    ·have h5:j*kk t≤n*kk t:=Nat.mul_le_mul_right _ (by omega)
     rw[Nat.sub_mul];omega
    ·rw[List.getElem?_drop]at hx hf
     obtain⟨cs,k1,k2⟩:=hE.2 _ x f hx hf
     exact⟨cs,by rw[Nat.add_assoc, ←Nat.add_mul];exact k1,k2⟩
    ·rw[gb]at ho
     have hss:(g::(bn.drop j).flatten).Sublist (g::bn.flatten):=List.Sublist.cons_cons _ (mO (List.drop_sublist j bn))
     exact⟨hss.nodup ho.nodup,fun b hb=>ho.ge b (hss.subset hb),fun b hb=>ho.kind b (hss.subset hb)⟩
def SO(Γ:Nat→TK)(cr:List (Nat×CR))(st:St)(m0:Nat)(d:Option Nat):Op→Option (List Prop×St×SV)
 | .slice t x (some lo) none none=>match d,Γ t with
   |some dd, .sl g _=>match(look cr (dd+600000)).isSome,fC st [] x,Le st [] lo with
    |true,some (.a (.own n)),some (_,lo)=>match look st.hp n with
     |some (.arr t' l)=>match Nat.beq (kk g) (kk t'),pinned [n],gT m0,look (cq [n] [] st.hp) m0 with
      |true,false,false,none=>some ([0≤lo∧lo≤(l.length:Int)],st.gone [n] m0 t' (l.drop lo.toNat), .one (.a (.own m0)))
      |_,_,_,_=>none
     |_=>none
    |_,_,_=>none
   |_,_=>none
 |_=>none
section
variable{P:Program}{zb:cL}{st:St}{a:Act}{w:World}{env:Env}{Q:Exit→Act→World→Prop}{o:Oper}
theorem SP{Γ:Nat→TK}(C: ∀t,cV P t (Γ t)){cr:List (Nat×CR)}{m0:Nat}{d:Option Nat}{vc:List Prop}{st':St}{v:SV}(h:SO Γ cr st m0 d o.op=some (vc,st',v))(g:Good ty zb st a.tmps w env)(hB:zb.w.heap.size≤w.heap.size)(hv: ∀q,q∈vc→q):
  o.wp P a w (fun a' w'=> ∃u env',a'=a.put o.dst u∧Kept zb w w'∧Good ty zb st' a.tmps w' env'∧st'.n=st.n∧nE w' st'.hp env' a.tmps v u) Q:=by
 have hop: ∀{x v},fC st [] x=some v→fD w st.hp env v (a.eval x):=fun hx=>ef g (fun e he=>by simp at he) hx
 generalize dV:o.op=op at h
 unfold SO at h
 split at h
 case h_2=>cases h
 rename_i t x lo
 split at h
 case h_2=>cases h
 rename_i dd gt e hk
 split at h
 case h_2=>cases h
 rename_i n kk0 j hkey hx hlo
 split at h
 case h_2=>cases h
 rename_i t' l hl
 split at h
 case h_2=>cases h
 rename_i hkk hpk B9 hlk
 have hkk:=Nat.eq_of_beq_eq_true hkk
 simp only[oI,pI]at h
 obtain⟨rfl,h2,rfl⟩:=h
 rw[St.gone_eq]at h2
 subst h2
 obtain⟨q0,q1⟩:=hv _ (List.mem_singleton.2 rfl)
 have hC:=C t
 rw[hk]at hC
 obtain⟨_,hu⟩:=hop hx
 have ZR:=RO.RM (lQ hpk (by simp)) (g.obj n _ hl)
 obtain⟨oa,cap,hv1,hcap,gw,Zs,hsub⟩:=Oe ZR (j:=j.toNat) (by omega)
 have hex:a.eval x= .slice oa l.length cap:=by rw[←hv1];exact hu
 have acT:a.eval lo= .int kk0 j:=by
  unfold Le at hlo
  split at hlo
  ·rename_i k i hq
   simp only[oI,pI]at hlo
   obtain⟨rfl,rfl⟩:=hlo
   exact(hop hq).lit
  ·cases hlo
 have hrun:=JB (P:=P) (w:=w) dV hC hex (n1:=j) (n2:=(l.length:Int)) (Or.inr ⟨lo,kk0,rfl,acT⟩) (Or.inl ⟨rfl,rfl⟩) q0 q1 (Int.le_refl _) hcap
 have DZ: ∀b,(env n).v.ownBlock=some b→b∈(env n).fp:=by
  intro b hb
  obtain⟨xs,bn,_,_,_,gb,_⟩:=ZR
  rw[gb,hb];simp
 obtain⟨env',hg',Ca,_,_⟩:=wM (ty:=ty) g hB (ks:= [n]) hpk B9 hlk (v:=(env n).v) (w':=w) (fp:=(env n).fp) (fx:= [])
  (by
   intro b hb
   rw[List.append_nil]at hb
   exact⟨n,_,by simp,hl,hb⟩) DZ Zs ⟨rfl,rfl,rfl,Nat.le_refl _,fun _ _ _=>rfl⟩ (fun b hb=>Or.inl (hsub b hb))
 unfold Oper.wp
 rw[hrun]
 refine⟨_,env',rfl,Kept.refl _ _,hg',rfl,⟨t',_,look_eq⟩,?_⟩
 rw[Ca,hkk]
 rfl
end
end
section
variable{ty:Tag→Nat}
theorem Of{P:Program}(w:World)(t ty e:TypeId)(i:TypeInfo)(z:Value)(size bytes:Nat)(ht:P.underlying t=some (.slice e))(hi:P.info? e=some i)(hz:i.zero=some z)
  (hsize:i.size=size)(hby:i.bytes=bytes)(hzs:z.cells.size=size)(hsz:0<size)
  (oa:Option Addr)(n cap:Nat)(xs:List Value)(hxl:xs.length=n*size)
  (hown:(n=0∧cap=0)∨ ∃g o cur e2,oa=some ⟨g,o,none⟩∧w.heap[g]? =some (.cells cur e2 (0,0))∧n≤cap∧o+cap*size≤cur.size∧w.rangeAt g o xs)
  (x:Value)(m:Nat)(news:List Value)(hl:news.length=m*size)(hx:Src w x m news)(h1: ∀u∈news,u.oneCell'=true)(hm:0<m)
  (h63:n+m≤maxLen)(hbytes:(n+m)*bytes≤140737488355328):
  ∃v' w',(Builtin.append_ #[t,t] ty #[.slice oa n cap,x]).run P w= .ok v' w'∧
   ((∃g o cur e2 cur',oa=some ⟨g,o,none⟩∧w.heap[g]? =some (.cells cur e2 (0,0))∧v'= .slice oa (n+m) cap∧n+m≤cap∧w'=w.setRow g cur'∧cur'.size=cur.size∧w'.heap[g]? =some (.cells cur' e2 (0,0))∧w'.rangeAt g o (xs++news))∨
    (World.ownsRow w' w.heap.size e size v' (n+m) (xs++news)∧w.grownBy w' none∧v'.ownBlock=some w.heap.size∧Shape w w')):=by
 subst hsize
 subst hby
 rcases hx with⟨_,rfl,_⟩| ⟨a,c,rfl,hnews⟩
 ·omega
 have hgrow:cap<n+m→ ∀b,oa=some b→(∀j u,xs[j]? =some u→w.cell? (b.add j)=some u)→ ∃v' w',(Builtin.append_ #[t,t] ty #[.slice oa n cap, .slice (some a) m c]).run P w= .ok v' w'∧(World.ownsRow w' w.heap.size e i.size v' (n+m) (xs++news)∧w.grownBy w' none∧v'.ownBlock=some w.heap.size∧Shape w w'):=by
  intro hg b hb holds
  subst hb
  obtain⟨v',w',hr,h2,h3⟩:=run_append_arg_grows (P:=P) w t ty e i z i.size i.bytes ht hi hz rfl rfl hzs hsz b n cap xs hxl holds a m c news hl hnews hg h63 hbytes
  have yG:=run_append_grow (P:=P) w t ty e i z ht hi hz b n cap xs hxl holds a m c news hl hnews hg (by simp only[maxLen]at h63;omega) (growslice_fits (by simp only[maxLen]at h63;omega) hbytes)
  have e2:=yG.symm.trans hr
  simp only[Result.ok.injEq]at e2
  exact⟨v',w',hr,h2,h3,by rw[←e2.1];rfl,by rw[←e2.2];exact Shape.alloc _ _⟩
 rcases hown with⟨rfl,rfl⟩| ⟨g,o,cur,e2,rfl,hg,hnc,hcs,hr⟩
 ·have hx0:xs= []:=List.eq_nil_of_length_eq_zero (by simpa using hxl)
  subst hx0
  cases oa with
  |none=>
   have yG:=run_append_nil (P:=P) w t ty e i z ht hi hz a m c news hl hnews (by omega) (by simp only[maxLen]at h63;omega) (by have hb:=hbytes;simp only[Nat.zero_add]at hb;omega)
   obtain⟨v',w',hr,h2,h3,_⟩:=run_append_own (P:=P) w w.heap.size t ty e i z i.size i.bytes ht hi hz rfl rfl hzs hsz (.slice none 0 0) 0 [] (World.ownsRow_nil w _ _ _) a m c news hl hnews h1 h63 hbytes (Nat.le_refl _)
   have e2:=yG.symm.trans hr
   simp only[Result.ok.injEq]at e2
   exact⟨v',w',hr,Or.inr ⟨h2,h3,by rw[←e2.1];rfl,by rw[←e2.2];exact Shape.alloc _ _⟩⟩
  |some b=>
   obtain⟨v',w',h⟩:=hgrow (by omega) b rfl (by simp)
   exact⟨v',w',h.1,Or.inr h.2⟩
 ·by_cases hroom:n+m≤cap
  ·have h5:(n+m)*i.size≤cap*i.size:=Nat.mul_le_mul_right _ hroom
   have hfit:o+n*i.size+news.length≤cur.size:=by rw[hl];rw[Nat.add_mul]at h5;omega
   have hf:=run_firstCells_some (P:=P) w i.size m a m c news hl hnews
   have hst:=run_storeCells_at P g (o+n*i.size) e2 news 0 cur w hg (by simpa using hfit) h1
   simp only[Nat.add_zero]at hst
   have yG:(Builtin.append_ #[t,t] ty #[.slice (some ⟨g,o,none⟩) n cap, .slice (some a) m c]).run P w=
     .ok (.slice (some ⟨g,o,none⟩) (n+m) cap) (w.setRow g (cur.toList.take (o+n*i.size)++news++cur.toList.drop (o+n*i.size+news.length)).toArray):=by
    simp[Builtin.append_,run_underlying ht,sizeOf,typeInfo,hi,Builtin.lenOf,hroom,hf,Addr.add_mid,hst]
   refine⟨_,_,yG,Or.inl ⟨g,o,cur,e2,_,rfl,hg,rfl,hroom,rfl,?_,setRow_heap w g cur _ e2 _ hg,?_⟩⟩
   ·simp only[List.size_toArray,List.length_append,List.length_take,List.length_drop,Array.length_toList]
    omega
   ·refine Jx (setRow_heap w g cur _ e2 _ hg) _ _ fun j v hv=> ?_
    have pX:(cur.toList.take (o+n*i.size)).length=o+n*i.size:=by rw[List.length_take,Array.length_toList];omega
    rw[List.getElem?_toArray,List.append_assoc]
    by_cases hj:j<xs.length
    ·rw[List.getElem?_append_left hj]at hv
     have:=hr j v hv
     rw[zR hg]at this
     rw[List.getElem?_append_left (by omega),List.getElem?_take,if_pos (by omega),Array.getElem?_toList]
     exact this
    ·rw[List.getElem?_append_right (by omega)]at hv
     have hlt:=(List.getElem?_eq_some_iff.1 hv).1
     rw[List.getElem?_append_right (by omega),List.getElem?_append_left (by omega),pX]
     rw[show o+j-(o+n*i.size)=j-xs.length by omega]
     exact hv
  ·obtain⟨v',w',h⟩:=hgrow (by omega) _ rfl (fun j u hu=>by rw[Addr.add_mid];exact hr j u hu)
   exact⟨v',w',h.1,Or.inr h.2⟩
theorem Og{P:Program}{w:World}(t tyr e:TypeId)(i:TypeInfo)(z:Value)(size bytes:Nat)(ht:P.underlying t=some (.slice e))(hi:P.info? e=some i)(hz:i.zero=some z)
  (hsize:i.size=size)(hby:i.bytes=bytes)(hzs:z.cells.size=size)(hsz:0<size){α:Type}{E:ER α}(G:fL size E)
  {u0:Value}{l:List α}{fv:List Nat}(hS:Sl size E w u0 l fv){x:Value}{lx:List α}{news:List Value}{fx:List (List Nat)}(hx:Src w x lx.length news)(zH:fx.length=lx.length)(hl:news.length=lx.length*size)
  (hel: ∀i x f,lx[i]? =some x→fx[i]? =some f→E w ((news.drop (i*size)).take size) x f)(hO:Own 0 w (fv++fx.flatten))(hm:0<lx.length)
  (h63:l.length+lx.length≤maxLen)(hbytes:(l.length+lx.length)*bytes≤140737488355328):
  ∃v' w' SQ nb,(Builtin.append_ #[t,t] tyr #[u0,x]).run P w= .ok v' w'∧(∀y,y<w.heap.size→y∉fv→w'.heap[y]? =w.heap[y]?)∧w'.os=w.os∧w'.tape=w.tape∧w'.output=w.output∧w.heap.size≤w'.heap.size∧Shape w w'∧
   Sl size E w' u0 l fv∧Own 0 w' fv∧Sl size E w' v' (l++lx) SQ∧Own 0 w' SQ∧(∀y,y∈SQ→y∈fv∨y∈fx.flatten++nb)∧Own 0 w' (fx.flatten++nb)∧(∀y,y∈nb→w.heap.size≤y)∧ ∃oa m cap,v'= .slice oa m cap:=by
 obtain⟨ZT,Y2,hO3⟩:=List.nodup_append.1 hO.nodup
 have Lr: ∀y,y∈fx.flatten→y<w.heap.size:=fun y hy=>hO.lt y (List.mem_append_right _ hy)
 have WG: ∀y,y∈fv→y<w.heap.size:=fun y hy=>hO.lt y (List.mem_append_left _ hy)
 obtain⟨oa,cap,rfl,hc,hcm,h3⟩:=hS
 have key: ∃(xs:List Value) (bn:List (List Nat)),xs.length=l.length*size∧bn.length=l.length∧(∀i x f,l[i]? =some x→bn[i]? =some f→E w ((xs.drop (i*size)).take size) x f)∧(∀y,y∈bn.flatten→y∈fv)∧bn.flatten.Nodup∧
   ((l.length=0∧cap=0∧fv= [])∨ ∃g o cur e2,oa=some ⟨g,o,none⟩∧w.heap[g]? =some (.cells cur e2 (0,0))∧l.length≤cap∧o+cap*size≤cur.size∧w.rangeAt g o xs∧fv=g::bn.flatten):=by
  have hS0:Sl size E w (.slice oa l.length cap) l fv:=⟨oa,cap,rfl,hc,hcm,h3⟩
  obtain⟨xs,bn,h1,h2,h4,h5,h6,h7⟩:=nG G hsz hS0
  refine⟨xs,bn,h4,h2,h5,fun y hy=>h6.subset hy,h6.nodup ZT,?_⟩
  rcases h3 with⟨rfl,rfl,rfl⟩| ⟨g,o,Ws,rfl,hfit,rfl,hE⟩
  ·exact Or.inl ⟨rfl,rfl,rfl⟩
  ·obtain⟨c1,e1,fz1,hq,CQ⟩:=hfit
   obtain⟨cur,e2,hk⟩:=hO.kind g (by simp)
   rw[hq]at hk
   simp only[oI,Go.Obj.cells.injEq]at hk
   obtain⟨rfl,rfl,rfl⟩:=hk
   refine Or.inr ⟨g,o,c1,e1,rfl,hq,hc,CQ,?_,by rw[h7 g _ rfl]⟩
   rcases h1 with⟨hs,_⟩| ⟨a,c,hs,hcells⟩
   ·cases hs
   ·simp only[Value.slice.injEq,oI]at hs
    obtain⟨rfl,_,_⟩:=hs
    intro j u hu
    have:=hcells j u hu
    rwa [Addr.add_mid]at this
 obtain⟨xs,bn,hxl,hfl,hxe,hsub,NU,Vh⟩:=key
 have h1:=oy G zH hl hsz hel
 obtain⟨v',w',hr,hres⟩:=Of (P:=P) w t tyr e i z size bytes ht hi hz hsize hby hzs hsz oa l.length cap xs hxl
  (Vh.imp (fun h=>⟨h.1,h.2.1⟩) fun⟨g,o,cur,e2,q1,q2,q3,q4,q5,_⟩=>⟨g,o,cur,e2,q1,q2,q3,q4,q5⟩) x lx.length news hl hx h1 hm h63 hbytes
 have hall: ∀{w':World},Agree w w' (bn.flatten++fx.flatten)→ ∀j y f,(l++lx)[j]? =some y→(bn++fx)[j]? =some f→E w' (((xs++news).drop (j*size)).take size) y f:=by
  intro w' hag j y f hy lg
  by_cases hj:j<l.length
  ·rw[List.getElem?_append_left hj]at hy
   rw[List.getElem?_append_left (by omega)]at lg
   have:=hxe j y f hy lg
   have h5:j*size+size≤xs.length:=by
    rw[hxl]
    have:=Nat.mul_le_mul_right size (show j+1≤l.length by omega)
    rw[Nat.add_mul]at this;omega
   rw[List.drop_append_of_le_length (by omega),List.take_append_of_le_length (by rw[List.length_drop];omega)]
   exact G.agree this (hag.sub fun b hb=>List.mem_append_left _ (cE lg hb))
  ·rw[List.getElem?_append_right (by omega)]at hy
   rw[List.getElem?_append_right (by omega),hfl]at lg
   have:=hel _ y f hy lg
   have h5:(xs++news).drop (j*size)=news.drop ((j-l.length)*size):=by
    rw[List.drop_append,List.drop_eq_nil_of_le (by rw[hxl];exact Nat.mul_le_mul_right size (by omega)),List.nil_append,hxl,Nat.sub_mul]
   rw[h5]
   exact G.agree this (hag.sub fun b hb=>List.mem_append_right _ (cE lg hb))
 have pL:(bn++fx).flatten=bn.flatten++fx.flatten:=List.flatten_append
 rcases hres with⟨g,o,cur,e2,cur',rfl,hg,rfl,hroom,rfl,hcs,hg',WH⟩| ⟨hrow,NK,DZ,hsh⟩
 ·
  rcases Vh with⟨hl0,rfl,_⟩| ⟨g1,o1,afe,e3,q1,q2,q3,q4,q5,rfl⟩
  ·omega
  simp only[oI,Addr.mk.injEq,and_true]at q1
  obtain⟨rfl,rfl⟩:=q1
  rw[hg]at q2
  simp only[oI,Go.Obj.cells.injEq,and_true]at q2
  obtain⟨rfl,rfl⟩:=q2
  have hgn:g∉bn.flatten:=(List.nodup_cons.1 ZT).1
  have hgx:g∉fx.flatten:=fun h=>hO3 g (by simp) g h rfl
  have hkeep: ∀y,y≠g→(w.setRow g cur').heap[y]? =w.heap[y]? :=fun y hy=>setRow_other w g y _ hy
  have hag:Agree w (w.setRow g cur') (bn.flatten++fx.flatten):=fun y hy=>hkeep y fun h=>by
   subst h
   rcases List.mem_append.1 hy with hy|hy
   ·exact hgn hy
   ·exact hgx hy
  have hsh:Shape w (w.setRow g cur'):=Shape.row hg hcs
  have Ay: ∀{f:List Nat},Own 0 w f→Own 0 (w.setRow g cur') f:=fun h=>⟨h.nodup,h.ge,fun b hb=>by
   obtain⟨c,e,hc⟩:=h.kind b hb
   obtain⟨c',h5,_⟩:=hsh b c e hc
   exact⟨_,_,h5⟩⟩
  have ZU:Own 0 w (g::bn.flatten):=⟨ZT,fun _ _=>Nat.zero_le _,fun b hb=>hO.kind b (List.mem_append_left _ hb)⟩
  have hOx:Own 0 w fx.flatten:=⟨Y2,fun _ _=>Nat.zero_le _,fun b hb=>hO.kind b (List.mem_append_right _ hb)⟩
  have hOa:Own 0 w (g::(bn++fx).flatten):=by rw[pL];exact hO
  have hE':=kS (w:=w.setRow g cur') (b:=g) (o:=o) (l:=l++lx) (xs:=xs++news) (bn:=bn++fx) (by simp[hfl,zH]) WH (hall hag)
  have hE0:lO size E (w.setRow g cur') g o l bn:=by
   refine⟨hfl,fun j y f hy hf=> ?_⟩
   have hj:=(List.getElem?_eq_some_iff.1 hy).1
   have ZV:=(List.getElem?_eq_some_iff.1 hf).1
   obtain⟨cs,r1,r2⟩:=hE'.2 j y f (by rw[List.getElem?_append_left hj];exact hy) (by rw[List.getElem?_append_left ZV];exact hf)
   exact⟨cs,r1,r2⟩
  have hfit:Fit (w.setRow g cur') g (o+cap*size):=⟨cur',e2,(0,0),hg',by rw[hcs];exact q4⟩
  refine⟨_,_,g::(bn++fx).flatten,[],hr,fun y hy hn=>hkeep y fun h=>hn (by simp[h]),rfl,rfl,rfl,by simp[World.setRow],hsh,⟨_,cap,rfl,hc,hcm,Or.inr ⟨g,o,bn,rfl,hfit,rfl,hE0⟩⟩,Ay ZU,
   ⟨_,cap,by rw[List.length_append],by rw[List.length_append];exact hroom,hcm,Or.inr ⟨g,o,bn++fx,rfl,hfit,rfl,hE'⟩⟩,Ay hOa,fun y hy=> ?_,by rw[List.append_nil];exact Ay hOx,by simp,_,_,_,rfl⟩
  rw[pL]at hy
  simp only[List.mem_cons,List.mem_append]at hy ⊢
  rcases hy with h|h|h
  ·exact Or.inl (Or.inl h)
  ·exact Or.inl (Or.inr h)
  ·exact Or.inr (Or.inl h)
 ·
  have hkeep: ∀y,y<w.heap.size→w'.heap[y]? =w.heap[y]? :=fun y hy=>NK.block y hy (by simp)
  have hag: ∀{f:List Nat},(∀y,y∈f→y<w.heap.size)→Agree w w' f:=fun h y hy=>hkeep y (h y hy)
  obtain⟨g,cap',cur,rfl,hgb,hg,hn1,hn2,Wf,hn4⟩: ∃g cap' cur,v'= .slice (some ⟨g,0,none⟩) (l.length+lx.length) cap'∧w.heap.size≤g∧w'.heap[g]? =some (.cells cur e (0,0))∧l.length+lx.length≤cap'∧cap'≤maxLen∧cap'*size≤cur.size∧cur.toList.take ((l.length+lx.length)*size)=xs++news:=by
   rcases hrow.2 with⟨_,h0⟩| ⟨g,cap',cur,r1,r2,r3,r4,r5,r6,r7⟩
   ·omega
   ·exact⟨g,cap',cur,r1,r2,r3,r4,r5,Nat.le_of_eq r6.symm,r7⟩
  have afi:g=w.heap.size:=by simpa[Value.ownBlock]using DZ
  have ZU:Own 0 w fv:=⟨ZT,fun _ _=>Nat.zero_le _,fun b hb=>hO.kind b (List.mem_append_left _ hb)⟩
  have hS0:Sl size E w (.slice oa l.length cap) l fv:=⟨oa,cap,rfl,hc,hcm,h3⟩
  have hlt2: ∀y,y∈(bn++fx).flatten→y<w.heap.size:=by
   intro y hy
   rw[pL]at hy
   rcases List.mem_append.1 hy with hy|hy
   ·exact WG y (hsub y hy)
   ·exact Lr y hy
  have acW:(bn++fx).flatten.Nodup:=by
   rw[pL]
   exact List.nodup_append.2 ⟨NU,Y2,fun a ha b hb e=>hO3 a (hsub a ha) b hb e⟩
  have Vi: ∀y,y∈(bn++fx).flatten→ ∃c e,w'.heap[y]? =some (.cells c e (0,0)):=by
   intro y hy
   rw[hkeep y (hlt2 y hy)]
   rw[pL]at hy
   rcases List.mem_append.1 hy with hy|hy
   ·exact hO.kind y (List.mem_append_left _ (hsub y hy))
   ·exact hO.kind y (List.mem_append_right _ hy)
  have hE':=kS (w:=w') (b:=g) (o:=0) (l:=l++lx) (xs:=xs++news) (bn:=bn++fx) (by simp[hfl,zH])
   (fun j u hu=>wD (o:=0) (m:=(l.length+lx.length)*size) hg j u (by rw[List.drop_zero,hn4];exact hu)) (hall (hag (by rw[←pL];exact hlt2)))
  refine⟨_,_,g::(bn++fx).flatten,[g],hr,fun y hy _=>hkeep y hy,NK.os,NK.tape,NK.output,NK.size,hsh,Sl.agree G hS0 (hag WG),ZU.agree (hag WG),
   ⟨_,cap',by rw[List.length_append],by rw[List.length_append];exact hn1,hn2,Or.inr ⟨g,0,bn++fx,rfl,⟨cur,e,(0,0),hg,by omega⟩,rfl,hE'⟩⟩,⟨List.nodup_cons.2 ⟨fun h=>by have:=hlt2 g h;omega,acW⟩,fun _ _=>Nat.zero_le _,fun y hy=> ?_⟩,fun y hy=> ?_,⟨?_,fun _ _=>Nat.zero_le _,fun y hy=> ?_⟩,fun y hy=>by simp at hy;omega,_,_,_,rfl⟩
  ·rcases List.mem_cons.1 hy with rfl|hy
   ·exact⟨_,_,hg⟩
   ·exact Vi y hy
  ·rw[pL]at hy
   simp only[List.mem_cons,List.mem_append,List.not_mem_nil,or_false]at hy ⊢
   rcases hy with h|h|h
   ·exact Or.inr (Or.inr h)
   ·exact Or.inl (hsub y h)
   ·exact Or.inr (Or.inl h)
  ·refine List.nodup_append.2 ⟨Y2,by simp,fun a ha b hb e=> ?_⟩
   simp at hb
   have:=Lr a ha
   omega
  ·rcases List.mem_append.1 hy with hy|hy
   ·exact Vi y (by rw[pL];exact List.mem_append_right _ hy)
   ·simp at hy;subst hy;exact⟨_,_,hg⟩
section
variable{P:Program}{zb:cL}{st st':St}{a:Act}{w:World}{env:Env}{Q:Exit→Act→World→Prop}{o:Oper}
theorem FW{bn:List (List Nat)}{i:Nat}{f:List Nat}(h:i<bn.length):(bn.set i f).flatten=(bn.take i).flatten++(f++(bn.drop (i+1)).flatten):=by
 rw[List.set_eq_take_append_cons_drop,if_pos h,List.flatten_append,List.flatten_cons]
theorem wQ{w w':World}: ∀{c:List V} {us:List Value} {f:List Nat},cx w c us f→Agree w w' f→cx w' c us f
 | [],[],_,h,_=>h
 | [],_::_,_,h,_=>h.elim
 |_::_,[],_,h,_=>h.elim
 |v::r,u::us,f,h,ha=>by
  obtain⟨f1,f2,h1,h2,rfl⟩:=h
  refine⟨f1,f2,?_,wQ h2 (ha.sub fun y hy=>List.mem_append_right _ hy),rfl⟩
  cases v with
  |lit x=>exact h1
  |sl t l=>exact Sl.agree (dF t) h1 (ha.sub fun y hy=>List.mem_append_left _ hy)
  |_=>exact h1.elim
theorem Lv{n i off:Nat}{t:Tag}{l:List (T t)}{u0:Value}{gt:Tag}{l0:List (T gt)}(g:Good ty zb st a.tmps w env)(RQ:RV w st.hp env n (some (i,off)) t l u0)(hl:look st.hp n=some (.arr gt l0)):
  ∃(b o1 len cap:Nat) (fv A B:List Nat),(env n).v= .slice (some ⟨b,o1,none⟩) len cap∧(env n).fp=b::(A++(fv++B))∧Sl (kk t) (rd t) w u0 l fv∧Own 0 w (b::(A++(fv++B)))∧w.cell? ⟨b,o1+i*kk gt+off,none⟩=some u0∧
   ∀(l2:List (T t)) c oL x',B6 (dec gt (l0.getD i (aI gt))) off [.sl t l2]=some c→enc gt c=some (oL,x')→(∀q,q∈oL→q)→ ∀(w':World) (u':Value) (yP:List Nat),
    (∀y,y∈A++B→w'.heap[y]? =w.heap[y]?)→(∀o cs,w.rangeAt b o cs→(o+cs.length≤o1+i*kk gt+off∨o1+i*kk gt+off+1≤o)→w'.rangeAt b o cs)→
    w'.cell? ⟨b,o1+i*kk gt+off,none⟩=some u'→(∀c e,w.heap[b]? =some (.cells c e (0,0))→ ∃c',w'.heap[b]? =some (.cells c' e (0,0))∧c'.size=c.size)→
    Sl (kk t) (rd t) w' u' l2 yP→Own 0 w' (b::(A++(yP++B)))→jU ty w' n gt (l0.set i x') ⟨(env n).v,b::(A++(yP++B))⟩:=by
 obtain⟨_,_,NY⟩:=RQ
 obtain⟨t1,l1,b2,o2,Wq,SC,hl1,hi,HR,NZ,Hv,hcell⟩:=NY i off rfl
 rw[hl]at hl1
 simp only[oI,Obj.arr.injEq]at hl1
 obtain⟨rfl,hl1⟩:=hl1
 cases hl1
 have hro:=g.obj n _ hl
 obtain⟨oa,cap,sP,hc1,hc2,h3⟩:=RO.sl hro
 have hown:=RO.own hro
 rcases h3 with⟨rfl,_⟩| ⟨b,o1,bn,HQ,bY,gb,hE⟩
 ·simp at hi
 rw[sP,HQ]at NZ
 simp only[Value.slice.injEq,oI,Addr.mk.injEq,and_true]at NZ
 obtain⟨⟨rfl,rfl⟩,rfl,rfl⟩:=NZ
 have NT:l0[i]? =some (l0.getD i (aI gt)):=by rw[List.getD_eq_getElem?_getD,List.getElem?_eq_getElem hi];rfl
 obtain⟨fe,hf⟩:=fP hE.1 NT
 have K1:=(List.getElem?_eq_some_iff.1 hf).1
 obtain⟨cs,uP,RR⟩:=hE.2 _ _ fe NT hf
 have hlen:=(dF gt).len RR
 have hR:=reads gt RR
 obtain⟨f1,f',Ww,k1,k2⟩:=cx.split off hR
 have hdl: ∃r',(dec gt (l0.getD i (aI gt))).drop off= .sl t l::r':=by
  rw[rN]at HR
  have hlt:=(List.getElem?_eq_some_iff.1 HR).1
  rw[List.drop_eq_getElem_cons hlt]
  have:=(List.getElem?_eq_some_iff.1 HR).2
  rw[this]
  exact⟨_,rfl⟩
 obtain⟨r',hdl⟩:=hdl
 rw[hdl]at k2
 have Ax: ∃u us,cs.drop off=u::us:=by
  cases hq:cs.drop off with
  |nil=>rw[hq]at k2;exact k2.elim
  |cons u us=>exact⟨u,us,rfl⟩
 obtain⟨u,us,Ax⟩:=Ax
 rw[Ax]at k2
 obtain⟨fv,f3,Hs,N0,hf'⟩:=k2
 have huc:cs[off]? =some u:=by
  have:=congrArg (fun l=>l[0]?) Ax
  simpa using this
 have hoff:off<cs.length:=(List.getElem?_eq_some_iff.1 huc).1
 have Zy:u0=u:=by
  have:=uP off u huc
  rw[hcell]at this
  simpa using this
 subst Zy
 have hfl:bn.flatten=((bn.take i).flatten++f1)++(fv++(f3++(bn.drop (i+1)).flatten)):=by
  have h1:bn.set i fe=bn:=by
   obtain⟨_,h⟩:=List.getElem?_eq_some_iff.1 hf
   rw[←h];exact List.set_getElem_self K1
  have h2:=FW (bn:=bn) (f:=fe) K1
  rw[h1]at h2
  rw[h2,Ww,hf']
  simp only[List.append_assoc]
 refine⟨b,o1,l0.length,cap,fv,(bn.take i).flatten++f1,f3++(bn.drop (i+1)).flatten,by rw[sP,HQ],by rw[gb,hfl],Hs,by rw[←hfl, ←gb];exact hown,hcell,?_⟩
 intro l2 c oL x' hs he hv w' u' yP hAB hbr hbc DF hS' RS
 have Ct:c=(dec gt (l0.getD i (aI gt))).take off++([.sl t l2]++r'):=by
  unfold B6 at hs
  split at hs
  ·simp only[oI]at hs
   rw[←hs]
   congr 2
   have:(dec gt (l0.getD i (aI gt))).drop (off+ [V.sl t l2].length)=((dec gt (l0.getD i (aI gt))).drop off).drop 1:=by rw[List.drop_drop];rfl
   rw[this,hdl];rfl
  ·cases hs
 have ag1:Agree w w' f1:=fun y hy=>hAB y (by simp[hy])
 have ag3:Agree w w' f3:=fun y hy=>hAB y (by simp[hy])
 have hrd:cx w' c (cs.take off++([u']++us)) (f1++(yP++f3)):=by
  rw[Ct]
  exact cx.Wn (wQ k1 ag1) (y:= [.sl t l2]) (vs:= [u']) ⟨yP,[],hS',rfl,by simp⟩ (wQ N0 ag3)
 have Wr:=qw gt he (fun q hq=>hv q hq) hrd
 have hkk:0<kk gt:=fB gt
 have NH:us=cs.drop (off+1):=by
  have:=congrArg (fun l=>l.drop 1) Ax
  simp only[List.drop_drop,List.drop_succ_cons,List.drop_zero]at this
  exact this.symm
 have htl:(cs.take off).length=off:=by rw[List.length_take];omega
 have WH:w'.rangeAt b (o1+i*kk gt) (cs.take off++([u']++us)):=by
  refine mP (hbr _ _ (uW uP) (Or.inl (by rw[htl];omega))) ?_
  rw[htl]
  refine mP (x:= [u']) (fun j v hj=> ?_) ?_
  ·have hj0:j=0:=by have:=(List.getElem?_eq_some_iff.1 hj).1;simpa using this
   subst hj0
   simp at hj
   rw[Nat.add_zero,hbc,hj]
  ·rw[NH]
   refine hbr _ _ ?_ (Or.inr (by simp))
   have:=uX (n:=off+1) uP
   rwa [←Nat.add_assoc]at this
 have D4:lO (kk gt) (rd gt) w' b o1 (l0.set i x') (bn.set i (f1++(yP++f3))):=by
  refine⟨by rw[List.length_set,List.length_set];exact hE.1,fun j y fy hy lg=> ?_⟩
  by_cases hj:i=j
  ·subst hj
   rw[List.getElem?_set_self hi]at hy
   rw[List.getElem?_set_self K1]at lg
   simp only[oI]at hy lg
   subst hy;subst lg
   exact⟨_,WH,Wr⟩
  ·rw[List.getElem?_set_ne hj]at hy lg
   obtain⟨cy,hry,Jo⟩:=hE.2 j y fy hy lg
   refine⟨cy,hbr _ _ hry ?_,(dF gt).agree Jo fun z hz=>hAB z ?_⟩
   ·rw[(dF gt).len Jo]
    rcases Nat.lt_or_ge j i with h1|h1
    ·left
     have:=Nat.mul_le_mul_right (kk gt) (show j+1≤i by omega)
     rw[Nat.add_mul]at this;omega
    ·right
     have:=Nat.mul_le_mul_right (kk gt) (show i+1≤j by omega)
     rw[Nat.add_mul]at this;omega
   ·rcases Nat.lt_or_ge j i with h1|h1
    ·refine List.mem_append_left _ (List.mem_append_left _ (cE (i:=j) ?_ hz))
     rw[List.getElem?_take,if_pos h1];exact lg
    ·refine List.mem_append_right _ (List.mem_append_right _ (cE (i:=j-(i+1)) ?_ hz))
     rw[List.getElem?_drop,show i+1+(j-(i+1))=j by omega];exact lg
 have acZ:(bn.set i (f1++(yP++f3))).flatten=((bn.take i).flatten++f1)++(yP++(f3++(bn.drop (i+1)).flatten)):=by
  rw[FW K1];simp only[List.append_assoc]
 rw[←acZ]at RS ⊢
 have hfit:Fit w' b (o1+cap*kk gt):=by
  obtain⟨c0,e0,fz0,q1,q2⟩:=bY
  obtain⟨c1,e1,q3⟩:=hown.kind b (by rw[gb];simp)
  rw[q3]at q1
  simp only[oI,Go.Obj.cells.injEq]at q1
  obtain⟨rfl,rfl,rfl⟩:=q1
  obtain⟨c',q4,q5⟩:=DF _ _ q3
  exact⟨c',_,_,q4,by rw[q5];exact q2⟩
 have NV:Sl (kk gt) (rd gt) w' (env n).v (l0.set i x') (b::(bn.set i (f1++(yP++f3))).flatten):=
  ⟨some ⟨b,o1,none⟩,cap,by rw[sP,HQ,List.length_set],by rw[List.length_set];exact hc1,hc2,Or.inr ⟨b,o1,_,rfl,hfit,rfl,D4⟩⟩
 unfold jU
 cases hp:soft n with
 |true=>exact⟨NV,RS⟩
 |false=>
  have hB:=RO.RM hp hro
  rcases hB.parts with⟨h1,rfl,_⟩| ⟨g0,o0,n0,cc,Ws,h1,hn0,Ln,q1,q2,_⟩
  ·simp at hi
  ·rw[sP,HQ]at h1
   simp only[Value.slice.injEq,oI,Addr.mk.injEq,and_true,true_and]at h1
   obtain⟨⟨rfl,rfl⟩,rfl⟩:=h1
   obtain⟨cc',q3,q4⟩:=DF _ _ q1
   show iW (kk gt) (rd gt) 0 (ty gt) w' (env n).v (l0.set i x') _
   rw[sP,HQ, ←List.length_set (as:=l0) (i:=i) (a:=x')]
   exact j8 (dF gt) q3 (by rw[q4];exact q2) (by rw[List.length_set];exact hc1) hc2 D4 RS
def SR(P:Program)(ty:Tag→Nat)(Γ:Nat→TK)(st:St)(m0:Nat):Op→Option (List Prop×St×SV)
 | .call ⟨.builtin .append,xs,ts⟩=>match xs.toList,ts.toList with
   | [s,x],[t1,t2]=>match Γ t1,Nat.beq t1 t2 with
     | .sl t e,true=>match Nat.beq e (ty t),fC st [] s,fC st [] x with
       |true,some (.a (.vw n (some (i,off)) t' l')),some vx=>match gh t t' l',D3 st t vx,look st.hp n with
        |some l,some (lx,m),some (.arr gt l0)=>match CM [n] m&& !pinned m&& !gT m0,look (cq m [n] st.hp) m0,(B6 (dec gt (l0.getD i (aI gt))) off [.sl t l]).bind (enc gt)with
         |true,none,some (vc0,x0)=>some (El P ty t::(0<lx.length)::((l.length+lx.length)*b7 t≤140737488355328∧l.length+lx.length≤maxLen)::(x0=l0.getD i (aI gt))::vc0,
           ⟨st.n,st.sl.map fun e=>(e.1,e.2.bF m [n]),(m0, .fk t (l++lx) (.sN (some (n,i,off))))::cq m [n] st.hp⟩, .one (.a (.pW m0)))
         |_,_,_=>none
        |_,_,_=>none
       |_,_,_=>none
     |_,_=>none
   |_,_=>none
 |_=>none
theorem SS{Γ:Nat→TK}(C: ∀t,cV P t (Γ t)){m0:Nat}{vc:List Prop}{v:SV}(h:SR P ty Γ st m0 o.op=some (vc,st',v))(g:Good ty zb st a.tmps w env)(hB:zb.w.heap.size≤w.heap.size)(hv: ∀q,q∈vc→q):
  o.wp P a w (fun a' w'=> ∃u env',a'=a.put o.dst u∧Kept zb w w'∧Good ty zb st' a.tmps w' env'∧st'.n=st.n∧nE w' st'.hp env' a.tmps v u) Q:=by
 have hop: ∀{x v},fC st [] x=some v→fD w st.hp env v (a.eval x):=fun hx=>ef g (fun e he=>by simp at he) hx
 generalize dV:o.op=op at h
 unfold SR at h
 split at h
 case h_2=>cases h
 rename_i xs ts
 split at h
 case h_2=>cases h
 rename_i s x t1 t2 hxl htl
 obtain rfl:xs= #[s,x]:=Array.ext' hxl
 obtain rfl:ts= #[t1,t2]:=Array.ext' htl
 split at h
 case h_2=>cases h
 rename_i t0 e hk tM
 have tM:=Nat.eq_of_beq_eq_true tM
 subst tM
 split at h
 case h_2=>cases h
 rename_i n i off t l vx he hs hx
 have he:=Nat.eq_of_beq_eq_true he
 split at h
 case h_2=>cases h
 rename_i l2 lx m gt l0 hc Zt SU
 split at h
 case h_2=>cases h
 rename_i vc0 x0 hno hlk hse
 simp only[oI,pI]at h
 obtain⟨rfl,rfl,rfl⟩:=h
 obtain⟨ec,lI⟩:=c8 hc
 subst ec
 obtain rfl:l=l2:=lI.symm
 simp only[Bool.and_eq_true,Bool.not_eq_true']at hno
 obtain⟨⟨hno,hpk⟩,B9⟩:=hno
 have hnm:n∉m:=by
  intro hm
  simp only[CM,List.all_cons,List.all_nil,Bool.and_true,Bool.not_eq_true',List.any_eq_false]at hno
  exact hno n hm (by simp)
 obtain⟨c0,hs0,he0⟩:=Option.bind_eq_some_iff.1 hse
 have tL:El P ty t:=hv _ (by simp)
 have hlx:0<lx.length:=hv _ (by simp)
 obtain⟨bt,bY⟩:(l.length+lx.length)*b7 t≤140737488355328∧l.length+lx.length≤maxLen:=hv _ (by simp)
 have hx0:x0=l0.getD i (aI gt):=hv _ (by simp)
 have hv0: ∀q,q∈vc0→q:=fun q hq=>hv q (by simp[hq])
 have RQ:RV w st.hp env n (some (i,off)) t l (a.eval s):=hop hs
 obtain⟨b,o1,len,cap,fv,A,B,NZ,gb,hS,hO,hcell,hput⟩:=Lv g RQ SU
 obtain⟨news,fx,n1,n2,n3,n4,n5,n6⟩:=CP g (hop hx) Zt
 have hC:=C t1
 rw[hk]at hC
 obtain⟨inf,hi,hz,hsize,hby⟩:=info_parts tL
 have hxn: ∀y,y∈fx.flatten→y∉(env n).fp:=by
  intro y hy hyn
  obtain⟨j,oj,hj,h1,h2⟩:=n5 y hy
  exact g.iN j n _ _ (fun e=>hnm (e▸hj)) h1 SU y h2 hyn
 have Lw: ∀y,y∈fv→y∈(env n).fp:=fun y hy=>by rw[gb];simp[hy]
 obtain⟨d1,d2⟩:=List.nodup_cons.1 hO.nodup
 obtain⟨d3,d4,d5⟩:=List.nodup_append.1 d2
 obtain⟨d6,d7,d8⟩:=List.nodup_append.1 d4
 have ZU:Own 0 w (fv++fx.flatten):=by
  refine⟨List.nodup_append.2 ⟨d6,n6.nodup,fun y hy z hz e=>hxn z hz (e▸Lw y hy)⟩,fun _ _=>Nat.zero_le _,fun y hy=> ?_⟩
  rcases List.mem_append.1 hy with hy|hy
  ·exact hO.kind y (by simp[hy])
  ·exact n6.kind y hy
 obtain⟨v',w',SQ,nb,hr,hkeep,k1,k2,k3,k4,hsh,Zw,ZT,Zx,Y2,hsub,hO3,hnb,MV,m',cap',Ca⟩:=Og (P:=P) t1 o.type (ty t) inf (eZ t) (kk t) (b7 t) (by rw[←he];exact hC.1) hi hz hsize hby (jX t) (fB t) (dF t) hS n1 n2 n3 n4 ZU hlx bY bt
 have hnlt: ∀y,y∈(env n).fp→y<w.heap.size:=(g.obj n _ SU).blk
 have hdn: ∀y,y∈fx.flatten++nb→y∉(env n).fp:=by
  intro y hy hyn
  rcases List.mem_append.1 hy with hy|hy
  ·exact hxn y hy hyn
  ·have:=hnb y hy;have:=hnlt y hyn;omega
 have hkA: ∀y,y∈A++B→w'.heap[y]? =w.heap[y]? :=by
  intro y hy
  have hyf:y∈(env n).fp:=by rw[gb];rcases List.mem_append.1 hy with h|h<;>simp[h]
  refine hkeep y (hnlt y hyf) fun hf=> ?_
  rcases List.mem_append.1 hy with h|h
  ·exact d5 y h y (by simp[hf]) rfl
  ·exact d8 y hf y h rfl
 have hkb:w'.heap[b]? =w.heap[b]? :=hkeep b (hnlt b (by rw[gb];simp)) fun hf=>d1 (by simp[hf])
 obtain⟨cb,eb,oO⟩:=hO.kind b (by simp)
 have nB:o1+i*kk gt+off<cb.size:=by
  rw[zR oO]at hcell
  exact(Array.getElem?_eq_some_iff.1 hcell).1
 have ZW:l0.set i x0=l0:=by
  rw[hx0]
  by_cases hi:i<l0.length
  ·rw[List.getD_eq_getElem?_getD,List.getElem?_eq_getElem hi];exact List.set_getElem_self hi
  ·rw[List.set_eq_of_length_le (by omega)]
 have hRn:jU ty w' n gt l0 (env n):=by
  have:=hput l c0 vc0 x0 hs0 he0 hv0 w' (a.eval s) fv hkA (fun o cs hr _ j u hu=>by rw[World.cell?_of_block (w:=w) (a:=⟨b,_,none⟩) hkb];exact hr j u hu)
   (by rw[World.cell?_of_block (w:=w) (a:=⟨b,_,none⟩) hkb];exact hcell) (fun c e h=>hsh b c e h) Zw (hO.nodup|>fun hn=>⟨hn,fun _ _=>Nat.zero_le _,fun y hy=>by
    obtain⟨c,e,h1⟩:=hO.kind y hy
    obtain⟨c',h2,_⟩:=hsh y c e h1
    exact⟨_,_,h2⟩⟩)
  rw[ZW, ←gb]at this
  exact this
 have hnd: ∀k o,k∉m→look st.hp k=some o→k≠m0:=by
  rintro k o hks h1 rfl
  rw[bC,if_neg hks,h1]at hlk
  cases hlk
 have Ln:n≠m0:=hnd n _ hnm SU
 have Oh: ∀k o,look ((m0,Obj.fk t (l++lx) (.sN (some (n,i,off))))::cq m [n] st.hp) k=some o→(k=m0∧o= .fk t (l++lx) (.sN (some (n,i,off))))∨(k≠m0∧k∉m∧ ∃o',look st.hp k=some o'∧o=o'.bF m [n]):=by
  intro k o hm
  by_cases kR:k=m0
  ·subst kR;rw[look_eq]at hm;simp only[oI]at hm;exact Or.inl ⟨rfl,hm.symm⟩
  ·rw[aY kR,bC]at hm
   split at hm
   ·cases hm
   ·rename_i hks
    cases hq:look st.hp k with
    |none=>rw[hq]at hm;cases hm
    |some o'=>rw[hq]at hm;simp only[Option.map_some,oI]at hm;exact Or.inr ⟨kR,hks,o',rfl,hm.symm⟩
 have JN: ∀y,y∈fx.flatten++nb→y<w.heap.size→ ∃j oj,j∈m∧look st.hp j=some oj∧y∈(env j).fp:=by
  intro y hy hlt
  rcases List.mem_append.1 hy with hy|hy
  ·exact n5 y hy
  ·have:=hnb y hy;omega
 have hst: ∀k o,k≠n→look st.hp k=some o→ ∀y,y∈(env k).fp→w'.heap[y]? =w.heap[y]? :=fun k o hkn h1 y hy=>
  hkeep y ((g.obj k o h1).blk y hy) fun hf=>g.iN k n _ _ hkn h1 SU y hy (Lw y hf)
 have ac3:look ((m0,Obj.fk t (l++lx) (.sN (some (n,i,off))))::cq m [n] st.hp) n=some (.arr gt l0):=by
  rw[aY Ln,bC,if_neg hnm,SU];rfl
 have hs':sO m [n] w st.hp env w' ((m0, .fk t (l++lx) (.sN (some (n,i,off))))::cq m [n] st.hp) (fun k=>if k=m0 then⟨v',fx.flatten++nb⟩else env k):=by
  refine⟨fun y hy hno=>hkeep y hy fun hf=>hno ⟨n,_,SU,Lw y hf⟩,?_,?_,?_⟩
  ·rintro y hy ⟨k,o',h1,h2⟩
   rcases Oh k o' h1 with⟨rfl,_⟩| ⟨kR,hks,yN,h3,rfl⟩
   ·simp only[if_true]at h2
    obtain⟨j,oj,_,h3,h4⟩:=JN y h2 hy
    exact⟨j,oj,h3,h4⟩
   ·simp only[if_neg kR]at h2
    exact⟨k,yN,h3,h2⟩
  ·intro k o' hks h1
   have kR:=hnd k o' hks h1
   exact⟨o'.bF m [n],by rw[aY kR,bC,if_neg hks,h1];rfl,by cases o'<;>simp[Obj.like,Obj.bF],by simp[kR]⟩
  ·rintro k t2 l2 ⟨hks,hkn⟩ h1
   have kR:=hnd k _ hks h1
   exact⟨by rw[aY kR,bC,if_neg hks,h1];rfl,by simp[kR],hst k _ (by simpa using hkn) h1⟩
 have ZX:=g.gU hs' (fun k o' hm=> ?_) (fun k k' q1 q2 hne h1 h2 y hy hy'=> ?_) (fun k o' hm y hy=> ?_) (fun k hm=> ?_)
 ·refine ?_
  unfold Oper.wp execOp
  simp only[dV,resolve,invoke,builtin,Sem.run_bind,Sem.run_pure,Result.andThen_ok,List.map_toArray,List.map_cons,List.map_nil,hr]
  exact⟨v',_,rfl,⟨k1,k2,k3,k4,fun y hy hn=>hkeep y (by omega) fun hf=>by
   rcases g.dom n _ SU y (Lw y hf)with h|h
   ·exact hn h
   ·omega,hsh⟩,ZX,trivial,⟨t,_,_,look_eq⟩,by simp⟩
 ·rcases Oh k o' hm with⟨e1,e2⟩| ⟨kR,hks,yN,h3,rfl⟩
  ·rw[e1,e2]
   simp only[if_true]
   refine⟨hO3,⟨MV,m',cap',Ca⟩,fun n' i' off' e=> ?_⟩
   simp only[oI,pI]at e
   obtain⟨rfl,rfl,rfl⟩:=e
   refine⟨gt,l0,b,o1,len,cap,ac3,by simp only[if_neg Ln];exact NZ,by simp only[if_neg Ln];rw[gb];simp,?_⟩
   simp only[if_neg Ln]
   intro w2 a1 a2 d vc y' hs1 he1 hv1
   have Y1:b∈(env n).fp:=by rw[gb];simp
   have ZY:w2.heap[b]? =w.heap[b]? :=(a1 b Y1).trans hkb
   have Oi:w2.heap[b]? =some (.cells cb eb (0,0)):=ZY.trans oO
   have Jn:w2.there b (o1+i*kk gt+off) [v'].length:=DI Oi _ _ (by simp only[List.length_singleton];omega)
   have hbA: ∀y,y∈A++B→y≠b:=by
    rintro y hy rfl
    apply d1
    rcases List.mem_append.1 hy with h|h<;>simp[h]
   have hAf: ∀y,y∈A++B→y∈(env n).fp:=by
    intro y hy
    rw[gb];rcases List.mem_append.1 hy with h|h<;>simp[h]
   have Ea: ∀y,y≠b→(w2.setCells b (o1+i*kk gt+off) [v']).heap[y]? =w2.heap[y]? :=fun y hy=>cA b _ _ w2 y hy
   have WI: ∀y,y∈A++B→(w2.setCells b (o1+i*kk gt+off) [v']).heap[y]? =w.heap[y]? :=fun y hy=>(Ea y (hbA y hy)).trans ((a1 y (hAf y hy)).trans (hkA y hy))
   have hfb: ∀y,y∈SQ→y≠b:=by
    rintro y hy rfl
    rcases hsub y hy with h|h
    ·exact d1 (by simp[h])
    ·exact hdn y h Y1
   have hfa: ∀y,y∈SQ→(w2.setCells b (o1+i*kk gt+off) [v']).heap[y]? =w'.heap[y]? :=by
    intro y hy
    refine(Ea y (hfb y hy)).trans ?_
    rcases hsub y hy with h|h
    ·exact a1 y (Lw y h)
    ·exact a2 y h
   have ZZ: ∀y,y∈SQ→y∉A++B:=by
    intro y hy hyA
    rcases hsub y hy with h|h
    ·rcases List.mem_append.1 hyA with h2|h2
     ·exact d5 y h2 y (by simp[h]) rfl
     ·exact d8 y h y h2 rfl
    ·exact hdn y h (hAf y hyA)
   refine⟨by simpa using Jn,b::(A++(SQ++B)),fun y hy=> ?_,?_⟩
   ·simp only[List.mem_cons,List.mem_append]at hy
    rcases hy with rfl|h|h|h
    ·exact Or.inl Y1
    ·exact Or.inl (hAf y (by simp[h]))
    ·rcases hsub y h with h|h
     ·exact Or.inl (Lw y h)
     ·exact Or.inr h
    ·exact Or.inl (hAf y (by simp[h]))
   ·refine hput (l++lx) d vc y' hs1 he1 hv1 _ v' SQ WI (fun o cs hr hd=> ?_) ?_ (fun c e h=> ?_) (Sl.agree (dF t) Zx hfa) ⟨List.nodup_cons.2 ⟨fun hm=> ?_,?_⟩,fun _ _=>Nat.zero_le _,fun y hy=> ?_⟩
    ·refine World.rangeAt_setCells_apart (fun j u hu=> ?_) _ _ _ (Or.inr (hd.imp id fun h=>by simpa using h))
     rw[World.cell?_of_block (w:=w) (a:=⟨b,_,none⟩) ZY];exact hr j u hu
    ·have:=World.rangeAt_setCells_same w2 b _ [v'] Jn 0 v' rfl
     simpa using this
    ·rw[oO]at h
     simp only[oI,Go.Obj.cells.injEq,and_true]at h
     obtain⟨rfl,rfl⟩:=h
     exact dx b eb [v'] _ w2 cb Oi
    ·simp only[List.mem_append]at hm
     rcases hm with h|h|h
     ·exact hbA b (by simp[h]) rfl
     ·exact hfb b h rfl
     ·exact hbA b (by simp[h]) rfl
    ·refine List.nodup_append.2 ⟨d3,List.nodup_append.2 ⟨Y2.nodup,d7,fun y hy z hz e=>ZZ y hy (by simp[e▸hz])⟩,fun y hy z hz e=> ?_⟩
     rcases List.mem_append.1 hz with h|h
     ·exact ZZ z h (by simp[e▸hy])
     ·exact d5 y hy z (by simp[h]) e
    ·rcases List.mem_cons.1 hy with rfl|hy
     ·obtain⟨c',q1,_⟩:=dx y eb [v'] (o1+i*kk gt+off) w2 cb Oi
      exact⟨_,_,q1⟩
     ·simp only[List.mem_append]at hy
      rcases hy with h|h|h
      ·rw[WI y (by simp[h])];exact hO.kind y (by simp[h])
      ·rw[hfa y h];exact Y2.kind y h
      ·rw[WI y (by simp[h])];exact hO.kind y (by simp[h])
  ·simp only[if_neg kR]
   by_cases hkn:k=n
   ·subst hkn
    rw[SU]at h3
    simp only[oI]at h3
    subst h3
    exact hRn
   ·exact(g.obj k yN h3).gU hs' (hst k yN hkn h3)
 ·rcases Oh k q1 h1 with⟨e1,_⟩| ⟨kR,hks,r1,h3,_⟩<;>rcases Oh k' q2 h2 with⟨e2,_⟩| ⟨D0,NQ,r2,h4,_⟩
  ·exact hne (e1.trans e2.symm)
  ·simp only[if_pos e1]at hy
   simp only[if_neg D0]at hy'
   obtain⟨j,oj,hj,h5,h6⟩:=JN y hy ((g.obj k' r2 h4).blk y hy')
   exact g.iN k' j _ _ (fun e=>NQ (e▸hj)) h4 h5 y hy' h6
  ·simp only[if_pos e2]at hy'
   simp only[if_neg kR]at hy
   obtain⟨j,oj,hj,h5,h6⟩:=JN y hy' ((g.obj k r1 h3).blk y hy)
   exact g.iN k j _ _ (fun e=>hks (e▸hj)) h3 h5 y hy h6
  ·simp only[if_neg kR]at hy
   simp only[if_neg D0]at hy'
   exact g.iN k k' _ _ hne h3 h4 y hy hy'
 ·rcases Oh k o' hm with⟨e1,_⟩| ⟨kR,hks,q1,h3,_⟩
  ·simp only[if_pos e1]at hy
   by_cases hlt:y<w.heap.size
   ·obtain⟨j,oj,_,h5,h6⟩:=JN y hy hlt
    exact g.dom j oj h5 y h6
   ·exact Or.inr (by omega)
  ·simp only[if_neg kR]at hy
   exact g.dom k q1 h3 y hy
 ·have:k≠m0:=by rintro rfl;rw[B9]at hm;cases hm
  simp only[if_neg this]
  exact g.pins k hm
def WJ(Γ:Nat→TK)(st:St):Op→Option (List Prop×St)
 | .store t x y=>match fC st [] x,fC st [] y with
   |some (.a (.kE n i off)),some (.a (.pW d))=>match look st.hp n,look st.hp d with
    |some (.arr gt l0),some (.fk t' l (.sN (some (n',i',off'))))=>match Nat.beq n n'&&(Nat.beq i i'&&Nat.beq off off')&& !gT n&&FG n [d]&&fits (Γ t) (.a (.pW d)),(B6 (dec gt (l0.getD i (aI gt))) off [.sl t' l]).bind (enc gt)with
     |true,some (vc,y')=>some (vc,st.HP [d] n gt (l0.set i y'))
     |_,_=>none
    |_,_=>none
   |_,_=>none
 |_=>none
theorem SW{Γ:Nat→TK}(Z: ∀t,(∀z tg fo,Γ t≠ .st z tg fo)→Γ t≠ .other→(P.info? t).map (·.size)=some 1){vc:List Prop}(h:WJ Γ st o.op=some (vc,st'))(g:Good ty zb st a.tmps w env)(hv: ∀q,q∈vc→q):
  o.wp P a w (fun a' w'=> ∃env',a'=a.put o.dst undef∧Kept zb w w'∧Good ty zb st' a.tmps w' env'∧st'.n=st.n) Q:=by
 have hop: ∀{x v},fC st [] x=some v→fD w st.hp env v (a.eval x):=fun hx=>ef g (fun e he=>by simp at he) hx
 generalize dV:o.op=op at h
 unfold WJ at h
 split at h
 case h_2=>cases h
 rename_i t x y
 split at h
 case h_2=>cases h
 rename_i n i off d hx hy
 have hx:=hop hx
 have hy:=hop hy
 split at h
 case h_2=>cases h
 rename_i gt l0 t' l n' i' off' hl hd
 split at h
 case h_2=>cases h
 rename_i oL y' hok hse
 simp only[oI,pI]at h
 obtain⟨rfl,rfl⟩:=h
 simp only[Bool.and_eq_true,Bool.not_eq_true']at hok
 obtain⟨⟨⟨⟨e1,e2,e3⟩,Wp⟩,hok⟩,hfit⟩:=hok
 obtain rfl:=Nat.eq_of_beq_eq_true e1
 obtain rfl:=Nat.eq_of_beq_eq_true e2
 obtain rfl:=Nat.eq_of_beq_eq_true e3
 obtain⟨c0,hs0,he0⟩:=Option.bind_eq_some_iff.1 hse
 obtain⟨hOd,⟨oa,m,cp,yh⟩,hpr⟩:yJ ty w st.hp env t' l (some (n,i,off)) (env d):=g.obj d _ hd
 obtain⟨tA,lA,b,o1,len,cap,q1,q2,q3,q4⟩:=hpr n i off rfl
 rw[hl]at q1
 simp only[oI,Obj.arr.injEq]at q1
 obtain⟨rfl,q1⟩:=q1
 cases q1
 obtain⟨Jn,Ft,hsub,hR⟩:=q4 w (fun _ _=>rfl) (fun _ _=>rfl) c0 oL y' hs0 he0 hv
 obtain⟨t1,l1,hl1,b2,o2,Wq,SC,hv1,hu⟩:=hx
 rw[hl]at hl1
 simp only[oI,Obj.arr.injEq]at hl1
 obtain⟨rfl,_⟩:=hl1
 rw[q2]at hv1
 simp only[Value.slice.injEq,oI,Addr.mk.injEq,and_true]at hv1
 obtain⟨⟨rfl,rfl⟩,_,_⟩:=hv1
 obtain⟨_,huy⟩:=(show RA w st.hp env (.pW d) (a.eval y)from hy)
 have pX:(a.eval y).cells.toList= [(env d).v]:=by rw[huy,yh];rfl
 have hsz:(P.info? t).map (·.size)=some 1:=Z t (uY hfit).1 (uY hfit).2
 obtain⟨cb,eb,oO⟩:=(RO.own (g.obj n _ hl)).kind b q3
 obtain⟨env',hg',Ca⟩:=yj (fx:=(env d).fp) g hl hok (w':=w.setCells b (o1+i*kk gt+off) [(env d).v]) (fun y hy=>⟨d,_,by simp,hd,hy⟩) hsub (fun h=>by rw[Wp]at h;cases h) (fun y h1 _ _=>cA b _ _ w y fun e=>h1 (e▸q3)) hR
 have hrun:(storeVar t ⟨b,o1+i*kk gt+off,none⟩ (a.eval y)).run P w= .ok () (w.setCells b (o1+i*kk gt+off) [(env d).v]):=lu (by rw[←pX]) Jn hsz (by intro u hu;simp at hu;rw[hu,yh];rfl)
 unfold Oper.wp execOp
 simp only[dV,hu,Instr.storeAt,Instr.sureAddr,Sem.run_bind,Sem.run_pure,Result.andThen_ok,hrun]
 exact⟨env',rfl,uR (g.dom n _ hl b q3) oO _ _,hg',rfl⟩
end
end
section
variable{ty:Tag→Nat}
def fV:V→Option V
 | .any=>some .any
 | .lit (.int k n)=>some (.lit (.int k n))
 | .lit (.bool b)=>some (.lit (.bool b))
 | .lit (.string s)=>some (.lit (.string s))
 | .lit v=>some (.lit v)
 | .sl t l=>some (.sl t l)
 | .own n=>some (.own n)
 | .ptr n o=>some (.ptr n o)
 | .kE n i o=>some (.kE n i o)
 | .ip t x o=>some (.ip t x o)
 | .vw n p t l=>some (.vw n p t l)
 | .yH n p t x o=>some (.yH n p t x o)
 | .yI n t l=>some (.yI n t l)
 | .mix n c t l=>some (.mix n c t l)
 | .pW n=>some (.pW n)
 | .yf f n=>some (.yf f n)
 | .oA k=>some (.oA k)
 | .raw v=>some (.raw v)
 | .eF v t l=>some (.eF v t l)
theorem Vj(v:V):fV v=some v:=by
 unfold fV;split<;>rfl
def Y3:List V→Option (List V)
 | []=>some []
 |v::r=>match fV v,Y3 r with
  |some x,some y=>some (x::y)
  |_,_=>none
theorem H6: ∀l:List V,Y3 l=some l
 | []=>rfl
 |v::r=>by simp[Y3,Vj,H6 r]
def fS:SV→Option SV
 | .one (.a v)=>match fV v with|some v=>some (.one (.a v))|none=>none
 | .one (.agg l)=>match Y3 l with|some l=>some (.one (.agg l))|none=>none
 | .td l=>some (.td l)
 | .cond p (.a v)=>match fV v with|some v=>some (.cond p (.a v))|none=>none
 | .cond p (.agg l)=>match Y3 l with|some l=>some (.cond p (.agg l))|none=>none
theorem Oj{x y:SV}(h:fS x=some y):y=x:=by
 unfold fS at h
 split at h<;>simp_all [Vj,H6]
def fO:Obj→Option Obj
 | .box c=>match Y3 c with|some c=>some (.box c)|none=>none
 | .arr t l=>some (.arr t l)
 | .fk t l .gone=>some (.fk t l .gone)
 | .fk t l .mE=>some (.fk t l .mE)
 | .fk t l .mp=>some (.fk t l .mp)
 | .fk t l (.B1 u)=>some (.fk t l (.B1 u))
 | .fk t l (.of n)=>some (.fk t l (.of n))
 | .fk t l (.sN p)=>some (.fk t l (.sN p))
theorem Vk{x y:Obj}(h:fO x=some y):y=x:=by
 unfold fO at h
 split at h<;>simp_all [H6]
def Z0:List (Nat×SV)→Option (List (Nat×SV))
 | []=>some []
 | (n,x)::r=>match fS x,Z0 r with
   |some x,some r=>some ((n,x)::r)
   |_,_=>none
theorem Ok: ∀{l m:List (Nat×SV)},Z0 l=some m→m=l
 | [],m,h=>by simp only[Z0,oI]at h;exact h.symm
 | (n,x)::r,m,h=>by
   simp only[Z0]at h
   split at h
   ·rename_i y r' h1 h2
    simp only[oI]at h
    rw[←h,Oj h1,Ok h2]
   ·cases h
def WK:Hp→Option Hp
 | []=>some []
 | (n,x)::r=>match fO x,WK r with
   |some x,some r=>some ((n,x)::r)
   |_,_=>none
theorem Eb: ∀{l m:Hp},WK l=some m→m=l
 | [],m,h=>by simp only[WK,oI]at h;exact h.symm
 | (n,x)::r,m,h=>by
   simp only[WK]at h
   split at h
   ·rename_i y r' h1 h2
    simp only[oI]at h
    rw[←h,Vk h1,Eb h2]
   ·cases h
def JO:St→Option St
 | ⟨n,sl,hp⟩=>match Z0 sl,WK hp with
   |some sl,some hp=>some ⟨n,sl,hp⟩
   |_,_=>none
theorem kV{s s':St}(h:JO s=some s'):s'=s:=by
 obtain⟨n,sl,hp⟩:=s
 simp only[JO]at h
 split at h
 ·rename_i a b h1 h2
  simp only[oI]at h
  rw[←h,Ok h1,Eb h2]
 ·cases h
def Vl:TypeDesc→Bool
 | .struct _=>false
 | .array _ _=>false
 |_=>true
def SX(P:Program)(t f k:Nat):Prop:= ∃fs fd d,P.underlying t=some (.struct fs)∧fs[f]? =some fd∧fd.offset=k∧P.underlying fd.type=some d∧Vl d=true
def CZ:List V→Option (List Int)
 | []=>some []
 | .lit (.int .i64 a)::r=>match CZ r with|some l=>some (a::l)|none=>none
 |_=>none
def Vm(P:Program)(t n:Nat):Prop:= ∀(xs ys:List Int) (X Y:Operand) (w:World),xs.length=n→ys.length=n→
 (do eqGuard .neq t X Y (.agg (xs.map (Value.int .i64)).toArray) (.agg (ys.map (Value.int .i64)).toArray);binOp .neq t (.agg (xs.map (Value.int .i64)).toArray) (.agg (ys.map (Value.int .i64)).toArray):Sem Value).run P w= .ok (.bool (xs !=ys)) w
theorem AF{w:World}{hp:Hp}{env:Env}: ∀{l:List V} {xs:List Int} {cs:List Value},CZ l=some xs→bH (RA w hp env) l cs→cs=xs.map (Value.int .i64)
 | [],xs,[],h,_=>by simp only[CZ,oI]at h;subst h;rfl
 | [],_,_::_,_,h=>h.elim
 |v::r,xs,[],_,h=>h.elim
 |v::r,xs,c::cs,h,⟨h1,h2⟩=>by
  unfold CZ at h
  split at h
  ·rename_i e;cases e
  ·rename_i a r' e
   simp only[List.cons.injEq]at e
   obtain⟨rfl,rfl⟩:=e
   split at h
   ·rename_i l' hl
    simp only[oI]at h
    subst h
    rw[AF hl h2,List.map_cons,h1.1]
   ·cases h
  ·cases h
def H7(P:Program)(Γ:Nat→TK)(st:St):Op→Option (List Prop×St×SV)
 | .field t x f=>match fC st [] x,Γ t with
   |some (.agg c), .st _ _ fo=>match mF fo f with
    |some k=>match uC c k with
     |some v=>some ([SX P t f k],st, .one (.a v))
     |none=>none
    |none=>none
   |_,_=>none
 | .binOp .neq t x y _=>match fC st [] x,fC st [] y with
   |some (.agg l),some (.agg l')=>match CZ l,CZ l' with
    |some xs,some ys=>match Nat.beq xs.length ys.length with
     |true=>some ([Vm P t xs.length],st, .one (.a (.lit (.bool (xs !=ys)))))
     |false=>none
    |_,_=>none
   |_,_=>none
 |_=>none
theorem H8{P:Program}{t:TypeId}{d:TypeDesc}(h:P.underlying t=some d)(hd:Vl d=true)(w:World):(isAgg t).run P w= .ok false w:=by
 cases d<;>first| (cases hd;done)|simp[isAgg,run_underlying h]
section
variable{P:Program}{zb:cL}{st st':St}{a:Act}{w:World}{env:Env}{Q:Exit→Act→World→Prop}{o:Oper}
theorem SY{Γ:Nat→TK}{vc:List Prop}{v:SV}(h:H7 P Γ st o.op=some (vc,st',v))(g:Good ty zb st a.tmps w env)(hv: ∀q,q∈vc→q):
  o.wp P a w (fun a' w'=> ∃u env',a'=a.put o.dst u∧Kept zb w w'∧Good ty zb st' a.tmps w' env'∧st'.n=st.n∧nE w' st'.hp env' a.tmps v u) Q:=by
 generalize dV:o.op=op at h
 cases op with
 |field t x f=>
  simp only[H7]at h
  split at h
  case h_2=>cases h
  rename_i c z tg fo hx hk
  split at h
  case h_2=>cases h
  rename_i k hf
  split at h
  case h_2=>cases h
  rename_i v' hel
  simp only[oI,pI]at h
  obtain⟨rfl,rfl,rfl⟩:=h
  obtain⟨fs,fd,d,h1,h2,h3,h4,h5⟩:=hv _ (List.mem_singleton.2 rfl)
  obtain⟨us,hu,hA⟩:=ef g (fun e he=>by simp at he) hx
  obtain⟨u,k1,k2⟩:=hA.at (DU hel)
  have hr:(execOp a.eval o).run P w= .ok (.value u) w:=by
   unfold execOp
   simp[dV,hu,Instr.field,part,run_underlying h1,h2,h3,H8 h4 h5,asAgg,k1]
  unfold Oper.wp
  rw[hr]
  exact⟨u,env,rfl,Kept.refl _ _,g,rfl,k2⟩
 |binOp b t x y t'=>
  cases b with
  |neq=>
   simp only[H7]at h
   split at h
   case h_2=>cases h
   rename_i l l' hx hy
   split at h
   case h_2=>cases h
   rename_i xs ys h1 h2
   split at h
   case h_2=>cases h
   rename_i hn
   have hn:=Nat.eq_of_beq_eq_true hn
   simp only[oI,pI]at h
   obtain⟨rfl,rfl,rfl⟩:=h
   have hS:Vm P t xs.length:=hv _ (List.mem_singleton.2 rfl)
   obtain⟨us,hu,hA⟩:=ef g (fun e he=>by simp at he) hx
   obtain⟨us',YZ,hA'⟩:=ef g (fun e he=>by simp at he) hy
   rw[AF h1 hA]at hu
   rw[AF h2 hA']at YZ
   have hr:(execOp a.eval o).run P w= .ok (.value (.bool (xs !=ys))) w:=by
    unfold execOp
    simp only[dV,hu,YZ]
    rw[Sem.run_bind,hS xs ys x y w rfl hn.symm]
    rfl
   unfold Oper.wp
   rw[hr]
   exact⟨_,env,rfl,Kept.refl _ _,g,rfl,rfl,rfl⟩
  |_=>simp[H7]at h
 |_=>simp[H7]at h
end
def Ol(P:Program)(ty:Tag→Nat)(Γ:Nat→TK)(cr:List (Nat×CR))(st:St)(m:Nat)(d:Option Nat)(op:Op):Option (List Prop×St×SV):=
 match HO P ty Γ st m op with
 |some r=>some r
 |none=>match Ar P ty Γ st m op with
  |some r=>some r
  |none=>match eio P ty Γ cr st d op with
   |some r=>some r
   |none=>match eiv P ty cr st d op with
    |some r=>some r
    |none=>match N6 P ty Γ cr st d op with
     |some r=>some r
     |none=>match ZC P ty Γ st op with
      |some r=>some r
      |none=>match H7 P Γ st op with
       |some r=>some r
       |none=>match HZ P ty Γ st m op with
        |some r=>some r
        |none=>match SM P ty Γ st m op with
         |some r=>some r
         |none=>match SO Γ cr st m d op with
          |some r=>some r
          |none=>SR P ty Γ st m op
def Om(Γ:Nat→TK)(st:St)(op:Op):Option (List Prop×St):=
 match SA Γ st op with
 |some r=>some r
 |none=>match evs Γ st op with
  |some r=>some r
  |none=>WJ Γ st op
def step(P:Program)(ty:Tag→Nat)(Γ:Nat→TK)(cU:List (Nat×Nat))(cr:List (Nat×CR))(ops:List Oper)(st:St)(o:Oper):Option (List Prop×St):=
 match Np Γ (Fw P ty) (Sound ty P) cU cr ops st o with
 |some r=>some r
 |none=>match o.guard,qz st o.dst,Zj cU o.dst with
  |none,true,some m=>match Ao Γ st o.op with
   |some st'=>match o.dst with|none=>some ([],st')|some _=>none
   |none=>match Om Γ st o.op with
    |some (vc,st')=>match o.dst,JO st' with|none,some st'=>some (vc,st')|_,_=>none
    |none=>match Ol P ty Γ cr st m o.dst o.op with
     |some (vc,st',v)=>match JO st' with|some st'=>some (vc,st'.put o.dst v)|none=>none
     |none=>none
  |_,_,_=>none
def run(P:Program)(ty:Tag→Nat)(Γ:Nat→TK)(cU:List (Nat×Nat))(cr:List (Nat×CR))(ops:List Oper):List Oper→St→List Prop→Option (List Prop×St)
 | [],st,acc=>some (acc,st)
 |o::r,st,acc=>match step P ty Γ cU cr ops st o with
  |some ([],⟨n,sl,hp⟩)=>run P ty Γ cU cr ops r ⟨n,sl,hp⟩ acc
  |some ([p],⟨n,sl,hp⟩)=>run P ty Γ cU cr ops r ⟨n,sl,hp⟩ (p::acc)
  |some ([p,q],⟨n,sl,hp⟩)=>run P ty Γ cU cr ops r ⟨n,sl,hp⟩ (p::q::acc)
  |some (l,⟨n,sl,hp⟩)=>run P ty Γ cU cr ops r ⟨n,sl,hp⟩ (l++acc)
  |none=>none
@[reducible] def kW:List Prop→Prop
  | []=>True
  |p::r=>p∧kW r
theorem kW.out: ∀{l:List Prop},kW l→ ∀q,q∈l→q
 |p::r,h,q,hq=>by
  rcases List.mem_cons.1 hq with rfl|hq
  ·exact h.1
  ·exact kW.out h.2 q hq
section
variable{P:Program}{zb:cL}{st st':St}{a:Act}{w:World}{Q:Exit→Act→World→Prop}{o:Oper}
theorem FX{v:SV}{d:Nat}(h: ∃x,v= .one x):v.mentions d=false:=by
 obtain⟨x,rfl⟩:=h;rfl
theorem iC.mono{ops:Array Oper}{K K':Act→World→Prop}(h: ∀a w,K a w→K' a w)(hr:iC P ops o a w K Q):iC P ops o a w K' Q:=by
 unfold iC at*
 split
 ·rename_i hw;rw[if_pos hw]at hr;exact hr.imp (Oper.wp_mono h) id
 ·rename_i hw;rw[if_neg hw]at hr;exact h _ _ hr
theorem On{Γ:Nat→TK}(C: ∀t,cV P t (Γ t)){cr:List (Nat×CR)}{m:Nat}{vc:List Prop}{v:SV}{env:Env}{d:Option Nat}(h:Ol P ty Γ cr st m d o.op=some (vc,st',v))(g:Good ty zb st a.tmps w env)(hB:zb.w.heap.size≤w.heap.size)(hA:DR zb)(hN:zj w)(hv: ∀q,q∈vc→q):
  (∀k,v.mentions k=false)∧o.wp P a w (fun a' w'=> ∃u env',a'=a.put o.dst u∧Kept zb w w'∧Good ty zb st' a.tmps w' env'∧st'.n=st.n∧nE w' st'.hp env' a.tmps v u) Q:=by
 have one:(∃x,v= .one x)→ ∀k,v.mentions k=false:=fun hx k=>FX hx
 unfold Ol at h
 split at h
 ·rename_i r he
  simp only[oI]at h
  subst h
  refine⟨one ?_,Sz C he g hB hv⟩
  unfold HO at he
  repeat' split at he
  all_goals first
   | (cases he;done)
   | (simp only[oI,pI]at he;exact⟨_,he.2.2.symm⟩)
 ·split at h
  ·rename_i r he
   simp only[oI]at h
   subst h
   refine⟨one ?_,Lm C he g hB hv⟩
   unfold Ar at he
   repeat' split at he
   all_goals first
    | (cases he;done)
    | (simp only[oI,pI]at he;exact⟨_,he.2.2.symm⟩)
  ·split at h
   ·rename_i r he
    simp only[oI]at h
    subst h
    refine⟨one ?_,Wv he g hB hA hN hv⟩
    unfold eio at he
    repeat' split at he
    all_goals first
     | (cases he;done)
     | (simp only[oI,pI]at he;exact⟨_,he.2.2.symm⟩)
   ·split at h
    ·rename_i r he
     simp only[oI]at h
     subst h
     refine⟨one ?_,Wy (Γ:=Γ) he g hB hA hN hv⟩
     unfold eiv at he
     repeat' split at he
     all_goals first
      | (cases he;done)
      | (simp only[oI,pI]at he;exact⟨_,he.2.2.symm⟩)
    ·split at h
     ·rename_i r he
      simp only[oI]at h
      subst h
      exact SI he g hB hA hN hv
     ·split at h
      ·rename_i r he
       simp only[oI]at h
       subst h
       refine⟨one ?_,WA C he g hB hv⟩
       unfold ZC at he
       repeat' split at he
       all_goals first
        | (cases he;done)
        | (simp only[oI,pI]at he;exact⟨_,he.2.2.symm⟩)
      ·split at h
       ·rename_i r he
        simp only[oI]at h
        subst h
        refine⟨one ?_,SY he g hv⟩
        unfold H7 at he
        repeat' split at he
        all_goals first
         | (cases he;done)
         | (simp only[oI,pI]at he;exact⟨_,he.2.2.symm⟩)
       ·split at h
        ·rename_i r he
         simp only[oI]at h
         subst h
         refine⟨one ?_,SK C he g hB hv⟩
         unfold HZ at he
         repeat' split at he
         all_goals first
          | (cases he;done)
          | (simp only[oI,pI]at he;exact⟨_,he.2.2.symm⟩)
        ·split at h
         ·rename_i r he
          simp only[oI]at h
          subst h
          refine⟨one ?_,SN C he g hB hv⟩
          unfold SM at he
          repeat' split at he
          all_goals first
           | (cases he;done)
           | (simp only[oI,pI]at he;exact⟨_,he.2.2.symm⟩)
         ·split at h
          ·rename_i r he
           simp only[oI]at h
           subst h
           refine⟨one ?_,SP C he g hB hv⟩
           unfold SO at he
           repeat' split at he
           all_goals first
            | (cases he;done)
            | (simp only[oI,pI]at he;exact⟨_,he.2.2.symm⟩)
          ·refine⟨one ?_,SS C h g hB hv⟩
           unfold SR at h
           repeat' split at h
           all_goals first
            | (cases h;done)
            | (simp only[oI,pI]at h;exact⟨_,h.2.2.symm⟩)
theorem Oo{Γ:Nat→TK}(C: ∀t,cV P t (Γ t))(Z: ∀t,(∀z tg fo,Γ t≠ .st z tg fo)→Γ t≠ .other→(P.info? t).map (·.size)=some 1){vc:List Prop}{env:Env}(h:Om Γ st o.op=some (vc,st'))(g:Good ty zb st a.tmps w env)(hB:zb.w.heap.size≤w.heap.size)(hv: ∀q,q∈vc→q):
  o.wp P a w (fun a' w'=> ∃env',a'=a.put o.dst undef∧Kept zb w w'∧Good ty zb st' a.tmps w' env'∧st'.n=st.n) Q:=by
 unfold Om at h
 split at h
 ·rename_i r hr
  simp only[oI]at h
  subst h
  exact SB C Z hr g hv
 ·split at h
  ·rename_i r hr
   simp only[oI]at h
   subst h
   exact Wz C Z hr g hB hv
  ·exact SW Z h g hv
theorem rU{Γ:Nat→TK}(C: ∀t,cV P t (Γ t))(Z: ∀t,(∀z tg fo,Γ t≠ .st z tg fo)→Γ t≠ .other→(P.info? t).map (·.size)=some 1){cU:List (Nat×Nat)}{cr:List (Nat×CR)}{ops:List Oper}{vc:List Prop}(h:step P ty Γ cU cr ops st o=some (vc,st'))(iv:Inv ty zb st a w)(hv: ∀q,q∈vc→q):
  iC P ops.toArray o a w (fun a' w'=>Inv ty zb st' a' w') Q:=by
 simp only[step]at h
 split at h
 ·rename_i r hq
  simp only[oI]at h
  subst h
  exact NM C hq iv hv
 ·split at h
  ·rename_i m hg hd _
   have hdl:=DY iv hd
   obtain⟨env,g⟩:=iv.good
   have Wl:=iv.kept.size
   split at h
   ·rename_i s1 hs
    split at h
    ·rename_i WL
     simp only[oI,pI]at h
     obtain⟨rfl,rfl⟩:=h
     refine oM hg (Oper.wp_mono ?_ (Ll (Q:=Q) C Z hs g))
     rintro a' w' ⟨rfl,hb,hg',hn,FY⟩
     rw[WL]
     exact⟨by rw[kI,hn];exact iv.size,by rw[put_defers];exact iv.defers,iv.kept.trans hb,iv.yK,env,hg'⟩
    ·cases h
   ·split at h
    ·rename_i oL s1 hs
     split at h
     ·rename_i s2 WL hfs
      have hfs:=kV hfs
      subst hfs
      simp only[oI,pI]at h
      obtain⟨rfl,rfl⟩:=h
      refine oM hg (Oper.wp_mono ?_ (Oo (Q:=Q) C Z hs g Wl hv))
      rintro a' w' ⟨env',rfl,hb,hg',hn⟩
      rw[WL]
      exact⟨by rw[kI,hn];exact iv.size,by rw[put_defers];exact iv.defers,iv.kept.trans hb,iv.yK,env',hg'⟩
     ·cases h
    ·split at h
     ·rename_i oL s1 v he
      split at h
      case h_2=>cases h
      rename_i s2 hfs
      have hfs:=kV hfs
      subst hfs
      simp only[oI,pI]at h
      obtain⟨rfl,rfl⟩:=h
      obtain⟨hv1,hwp⟩:=On (Q:=Q) C he g Wl iv.yK (iv.yK.now iv.kept) hv
      refine oM hg (Oper.wp_mono ?_ hwp)
      rintro a' w' ⟨u,env',rfl,hb,hg',hn,hr⟩
      refine⟨by rw[kI,CL,hn];exact iv.size,by rw[put_defers];exact iv.defers,iv.kept.trans hb,iv.yK,env',uQ hg' hdl hr fun d _=>hv1 d⟩
     ·cases h
  ·cases h
theorem wS{Γ:Nat→TK}{cU:List (Nat×Nat)}{cr:List (Nat×CR)}{ops:List Oper}{r:List Oper}{acc vcs:List Prop}{qg:St}(h:run P ty Γ cU cr ops (o::r) st acc=some (vcs,qg)):
  ∃vc Vn,step P ty Γ cU cr ops st o=some (vc,Vn)∧run P ty Γ cU cr ops r Vn (vc++acc)=some (vcs,qg):=by
 simp only[run]at h
 split at h
 ·rename_i n sl hp hs;exact⟨[],⟨n,sl,hp⟩,hs,h⟩
 ·rename_i p n sl hp hs;exact⟨[p],⟨n,sl,hp⟩,hs,h⟩
 ·rename_i p q n sl hp hs;exact⟨[p,q],⟨n,sl,hp⟩,hs,h⟩
 ·rename_i l n sl hp _ _ _ hs;exact⟨_,⟨n,sl,hp⟩,hs,h⟩
 ·cases h
theorem zo{Γ:Nat→TK}{cU:List (Nat×Nat)}{cr:List (Nat×CR)}{ops:List Oper}: ∀{l:List Oper} {st qg:St} {acc vcs:List Prop},run P ty Γ cU cr ops l st acc=some (vcs,qg)→ ∀q,q∈acc→q∈vcs
 | [],st,qg,acc,vcs,h,q,hq=>by
   simp only[run,oI,pI]at h
   rw[←h.1];exact hq
 |o::r,st,qg,acc,vcs,h,q,hq=>by
  obtain⟨vc,Vn,_,h2⟩:=wS h
  exact zo h2 q (List.mem_append_right _ hq)
theorem Oq{Γ:Nat→TK}(C: ∀t,cV P t (Γ t))(Z: ∀t,(∀z tg fo,Γ t≠ .st z tg fo)→Γ t≠ .other→(P.info? t).map (·.size)=some 1){cU:List (Nat×Nat)}{cr:List (Nat×CR)}{ops:List Oper}{qg:St}{vcs:List Prop}
  (hQ: ∀a w,Inv ty zb qg a w→Q .normal a w): ∀{l:List Oper} {st:St} {acc:List Prop} {a:Act} {w:World},run P ty Γ cU cr ops l st acc=some (vcs,qg)→(∀q,q∈vcs→q)→Inv ty zb st a w→wpList P ops.toArray Q l a w
 | [],st,acc,a,w,h,hv,iv=>by
   simp only[run,oI,pI]at h
   obtain⟨_,rfl⟩:=h
   exact hQ a w iv
 |o::r,st,acc,a,w,h,hv,iv=>by
  obtain⟨vc,Vn,h1,h2⟩:=wS h
  have:=rU (Q:=Q) C Z h1 iv (fun q hq=>hv q (zo h2 q (List.mem_append_left _ hq)))
  exact this.mono fun a' w' kX=>Oq C Z hQ h2 hv kX
end
abbrev Post:=Exit→St→Prop
def SZ(ty:Tag→Nat)(zb:cL)(Q:Post):Exit→Act→World→Prop:=fun e a w=> ∃st,Inv ty zb st a w∧Q e st
def W(P:Program)(ty:Tag→Nat)(zb:cL)(c:Code)(Q:Post)(st:St):Prop:= ∀a w,Inv ty zb st a w→c.wp P (SZ ty zb Q) a w
def Post.then(next:St→Prop)(Q:Post):Post
 | .normal,st=>next st
 |e,st=>Q e st
def Post.inBlock(id:Nat)(Q:Post):Post
 | .exit i,st=>if i=id then Q .normal st else Q (.exit i) st
 |e,st=>Q e st
def yp(sl:List (Nat×SV)):List Nat→Option (List (Nat×SV))
 | []=>some []
 |s::r=>match look sl s with
  |some x=>match fS x,yp sl r with
   |some x,some l=>some ((s,x)::l)
   |_,_=>none
  |none=>none
def yq(hp:Hp):List Nat→Option Hp
 | []=>some []
 |s::r=>match look hp s with
  |some x=>match fO x,yq hp r with
   |some x,some l=>some ((s,x)::l)
   |_,_=>none
  |none=>none
def kY(hp:Hp)(v:V):Bool:=match v.name with|some n=>(match look hp n with|some _=>true|none=>false)|none=>true
def oQ(hp:Hp):S1→Bool
 | .a v=>kY hp v
 | .agg l=>l.all (kY hp)
def JP(hp:Hp):SV→Bool
 | .one x=>oQ hp x
 | .td l=>l.all (oQ hp)
 | .cond _ x=>oQ hp x
def vi(hp:Hp):Obj→Bool
 | .box c=>c.all (kY hp)
 | .arr _ _=>true
 | .fk _ _ s=>match s.name with|some n=>(match look hp n with|some _=>true|none=>false)|none=>true
def oR(sl:List (Nat×SV))(hp:Hp):Bool:=(sl.all fun e=>JP hp e.2)&&hp.all fun e=>vi hp e.2
def V.S0(v:V):List Nat:=match v.name with|some n=> [n]|none=> []
def SV.S0:SV→List Nat
 | .one (.a v)=>v.S0
 | .one (.agg l)=>l.flatMap V.S0
 | .td l=>l.flatMap fun x=>(match x with| .a v=>v.S0| .agg l=>l.flatMap V.S0)
 | .cond _ (.a v)=>v.S0
 | .cond _ (.agg l)=>l.flatMap V.S0
def H9:Nat→Hp→List Nat→List Nat→List Nat
 |0,_,_,acc=>acc
 |_,_,[],acc=>acc
 |f+1,hp,n::r,acc=>match acc.any (Nat.beq n)with
  |true=>H9 f hp r acc
  |false=>H9 f hp (match look hp n with|some (.box c)=>c.flatMap V.S0++r|some (.fk _ _ (.of m))=>m::r|_=>r) (acc++ [n])
def Ec(sl:List (Nat×SV)):List Nat→List Nat
 | []=> []
 |s::r=>match look sl s with|some x=>x.S0++Ec sl r|none=>Ec sl r
def JQ(sl:List (Nat×SV))(hp:Hp)(ks:List Nat):List Nat→List Nat
 | []=>H9 300 hp (Ec sl ks++(hp.map Prod.fst).filter gT) []
 |hs=>hs
def RU(P:Program)(ty:Tag→Nat)(Γ:Nat→TK)(cU:List (Nat×Nat))(cr:List (Nat×CR))(ks hs:List Nat)(ops:List Oper):St→Option (List Prop×St)
 | ⟨n,MK,gH⟩=>match run P ty Γ cU cr ops ops ⟨n,MK,gH⟩ []with
 |some (vc,st')=>match yp st'.sl ks,yq st'.hp (JQ st'.sl st'.hp ks hs)with
  |some sl,some hp=>match oR sl hp,Nat.beq st'.n n with
   |true,true=>some (vc,⟨n,sl,hp⟩)
   |_,_=>none
  |_,_=>none
 |none=>none
theorem lS{sl:List (Nat×SV)}: ∀{ks:List Nat} {l:List (Nat×SV)},yp sl ks=some l→ ∀s v,look l s=some v→look sl s=some v
 | [],l,h,s,v,hl=>by
   simp only[yp,oI]at h
   subst h;cases hl
 |k::r,l,h,s,v,hl=>by
  simp only[yp]at h
  split at h
  ·rename_i x0 h1
   split at h
   ·rename_i x l' hf h2
    simp only[oI]at h
    subst h
    by_cases hs:s=k
    ·subst hs;rw[look_eq]at hl;rw[←hl,Oj hf];exact h1
    ·rw[aY hs]at hl;exact lS h2 s v hl
   ·cases h
  ·cases h
theorem lT{hp:Hp}: ∀{ks:List Nat} {l:Hp},yq hp ks=some l→ ∀s v,look l s=some v→look hp s=some v
 | [],l,h,s,v,hl=>by
   simp only[yq,oI]at h
   subst h;cases hl
 |k::r,l,h,s,v,hl=>by
  simp only[yq]at h
  split at h
  ·rename_i x0 h1
   split at h
   ·rename_i x l' hf h2
    simp only[oI]at h
    subst h
    by_cases hs:s=k
    ·subst hs;rw[look_eq]at hl;rw[←hl,Vk hf];exact h1
    ·rw[aY hs]at hl;exact lT h2 s v hl
   ·cases h
  ·cases h
theorem rV{hp:Hp}{v:V}(h:kY hp v=true): ∀n,v.name=some n→look hp n≠none:=by
 intro n hn hl
 simp[kY,hn,hl]at h
theorem tO{hp:Hp}{x:S1}(h:oQ hp x=true): ∀v,v∈x.vs→kY hp v=true:=by
 intro v hv
 cases x with
 |a y=>simp only[S1.vs,List.mem_singleton]at hv;subst hv;exact h
 |agg l=>exact List.all_eq_true.1 h v hv
theorem Ia{hp:Hp}{x:SV}(h:JP hp x=true): ∀v,v∈x.vs→kY hp v=true:=by
 intro v hv
 cases x with
 |one x=>exact tO h v hv
 |td l=>
  simp only[SV.vs,List.mem_flatMap]at hv
  obtain⟨y,hy,hv⟩:=hv
  exact tO (List.all_eq_true.1 h y hy) v hv
 |cond p x=>exact tO h v hv
theorem Good.weaken{zb:cL}{st st':St}{tmps:Array Value}{w:World}{env:Env}(g:Good ty zb st tmps w env)(hs: ∀s v,look st'.sl s=some v→look st.sl s=some v)(hh: ∀n o,look st'.hp n=some o→look st.hp n=some o)
  (hc1: ∀s v,look st'.sl s=some v→ ∀x,x∈v.vs→kY st'.hp x=true)(hc2: ∀m o,look st'.hp m=some o→vi st'.hp o=true):Good ty zb st' tmps w env:=by
 have s:Step (fun n=>look st'.hp n≠none) (fun n=>look st'.hp n≠none) w st.hp env w st'.hp env:=by
  refine⟨fun _ _ _=>rfl,?_,?_,?_⟩
  ·rintro b _ ⟨n,o,h1,h2⟩;exact⟨n,o,hh n o h1,h2⟩
  ·intro n o hK h1
   cases hq:look st'.hp n with
   |none=>exact absurd hq hK
   |some o'=>
    have:=hh n o' hq
    rw[h1]at this
    simp only[oI]at this
    subst this
    exact⟨o,rfl,by cases o<;>simp[Obj.like],rfl⟩
  ·intro n t l hK h1
   cases hq:look st'.hp n with
   |none=>exact absurd hq hK
   |some o'=>
    have:=hh n o' hq
    rw[h1]at this
    simp only[oI]at this
    subst this
    exact⟨rfl,rfl,fun _ _=>rfl⟩
 have Z1: ∀v,kY st'.hp v=true→v.qA (fun n=>look st'.hp n≠none) (fun n=>look st'.hp n≠none):=fun v h=>⟨fun n hn=>rV h n hn,fun n hn=>rV h n (V.nF hn)⟩
 refine⟨fun n o hl=> ?_,fun n m o o' hne h1 h2=>g.iN n m o o' hne (hh n o h1) (hh m o' h2),fun t v hl=>nE.step s (fun x hx=>Z1 x (hc1 t v hl x hx)) (g.slot t v (hs t v hl)),fun n o hl=>g.dom n o (hh n o hl),g.pins⟩
 refine(g.obj n o (hh n o hl)).step s ?_ (fun _ _=>rfl)
 have hO:=hc2 n o hl
 cases o with
 |box c=>exact fun v hv=>Z1 v (List.all_eq_true.1 hO v hv)
 |arr t l=>trivial
 |fk t l r=>
  intro m hm
  simp only[vi,hm]at hO
  intro he
  rw[he]at hO
  cases hO
theorem Ib{sl:List (Nat×SV)}{hp:Hp}(h:oR sl hp=true):(∀s v,look sl s=some v→ ∀x,x∈v.vs→kY hp x=true)∧(∀m o,look hp m=some o→vi hp o=true):=by
 simp only[oR,Bool.and_eq_true,List.all_eq_true]at h
 exact⟨fun s v hl=>Ia (h.1 _ (dZ hl)),fun m o hl=>h.2 _ (dZ hl)⟩
theorem Inv.weaken{zb:cL}{st st':St}{a:Act}{w:World}(iv:Inv ty zb st a w)(hn:st'.n=st.n)(hs: ∀s v,look st'.sl s=some v→look st.sl s=some v)(hh: ∀n o,look st'.hp n=some o→look st.hp n=some o)(hc:oR st'.sl st'.hp=true):Inv ty zb st' a w:=by
 obtain⟨env,g⟩:=iv.good
 obtain⟨c1,c2⟩:=Ib hc
 exact⟨by rw[iv.size,hn],iv.defers,iv.kept,iv.yK,env,g.weaken hs hh c1 c2⟩
structure Ctx(P:Program)(ty:Tag→Nat)(Γ:Nat→TK):Prop where
 kind: ∀t,cV P t (Γ t)
 one: ∀t,(∀z tg fo,Γ t≠ .st z tg fo)→Γ t≠ .other→(P.info? t).map (·.size)=some 1
section
variable{P:Program}{Γ:Nat→TK}{zb:cL}{Q:Post}{st:St}
theorem Lx{cU:List (Nat×Nat)}{cr:List (Nat×CR)}{ks hs:List Nat}{ops:List Oper}{vc:List Prop}{st':St}(h:RU P ty Γ cU cr ks hs ops st=some (vc,st')): ∃s1,run P ty Γ cU cr ops ops st []=some (vc,s1)∧
  ∀a w,Inv ty zb s1 a w→Inv ty zb st' a w:=by
 obtain⟨n,MK,gH⟩:=st
 simp only[RU]at h
 split at h
 ·rename_i oL s1 hr
  split at h
  ·rename_i sl hp h1 h2
   split at h
   ·rename_i hc hn
    simp only[oI,pI]at h
    obtain⟨rfl,rfl⟩:=h
    exact⟨s1,hr,fun a w iv=>iv.weaken (Nat.eq_of_beq_eq_true hn).symm (lS h1) (lT h2) hc⟩
   ·cases h
  ·cases h
 ·cases h
theorem aH(X:Ctx P ty Γ)(cU:List (Nat×Nat))(cr:List (Nat×CR))(ks hs:List Nat){id:Nat}{ops:List Oper}{vc:List Prop}{st':St}(h:RU P ty Γ cU cr ks hs ops st=some (vc,st'))(hv:kW vc)(k:Q .normal st'):W P ty zb (.region id ops.toArray false) Q st:=by
 intro a w iv
 obtain⟨s1,h1,h2⟩:=Lx (zb:=zb) h
 exact wp_region_lit (Oq X.kind X.one (fun a w kX=>⟨st',h2 a w kX,k⟩) h1 hv.out iv)
theorem fK(X:Ctx P ty Γ)(ks:List Nat){id:Nat}{ops:List Oper}{vc:List Prop}{st':St}(h:G.RU P ty Γ [] [] ks [] ops st=some (vc,st'))(hv:kW vc)(k:Q .normal st'):W P ty zb (.region id ops.toArray false) Q st:=aH X [] [] ks [] h hv k
theorem bT(X:Ctx P ty Γ)(ks:List Nat){id:Nat}{ops:List Oper}{st':St}(h:G.RU P ty Γ [] [] ks [] ops st=some ([],st'))(k:Q .normal st'):W P ty zb (.region id ops.toArray false) Q st:=fK X ks h ⟨⟩ k
theorem aa{x y:Code}(h:W P ty zb x (Post.then (W P ty zb y Q) Q) st):W P ty zb (.seq x y) Q st:=by
 intro a w iv
 refine wp_seq (wp_mono (h a w iv) ?_)
 rintro e a' w' ⟨st',kX,hq⟩
 cases e with
 |normal=>exact hq a' w' kX
 |_=>exact⟨st',kX,hq⟩
theorem aS(X:Ctx P ty Γ)(cU:List (Nat×Nat))(cr:List (Nat×CR))(ks hs:List Nat){y:Code}{id:Nat}{ops:List Oper}{vc:List Prop}{st':St}(h:G.RU P ty Γ cU cr ks hs ops st=some (vc,st'))(hv:kW vc)(k:W P ty zb y Q st'):W P ty zb (.seq (.region id ops.toArray false) y) Q st:=aa (aH X cU cr ks hs h hv k)
theorem aN(X:Ctx P ty Γ)(ks:List Nat){y:Code}{id:Nat}{ops:List Oper}{vc:List Prop}{st':St}(h:G.RU P ty Γ [] [] ks [] ops st=some (vc,st'))(hv:kW vc)(k:W P ty zb y Q st'):W P ty zb (.seq (.region id ops.toArray false) y) Q st:=aS X [] [] ks [] h hv k
theorem av(X:Ctx P ty Γ)(ks:List Nat){y:Code}{id:Nat}{ops:List Oper}{st':St}(h:G.RU P ty Γ [] [] ks [] ops st=some ([],st'))(k:W P ty zb y Q st'):W P ty zb (.seq (.region id ops.toArray false) y) Q st:=aN X ks h ⟨⟩ k
theorem ay(h:Q .normal st):W P ty zb .skip Q st:=fun _ _ iv=>wp_skip ⟨st,iv,h⟩
theorem aV{id:Nat}(h:Q (.exit id) st):W P ty zb (.exit id) Q st:=fun _ _ iv=>wp_exit ⟨st,iv,h⟩
theorem aj(h:Q .ret st):W P ty zb .ret Q st:=fun _ _ iv=>wp_ret ⟨st,iv,h⟩
theorem aq{id:Nat}{c:Code}(h:W P ty zb c (Post.inBlock id Q) st):W P ty zb (.block id c) Q st:=by
 intro a w iv
 refine wp_block (wp_mono (h a w iv) ?_)
 rintro e a' w' ⟨st',kX,hq⟩
 cases e with
 |exit i=>
  simp only[Post.inBlock]at hq
  simp only[Exit.inBlock]
  split
  ·rename_i hi;rw[if_pos hi]at hq;exact⟨st',kX,hq⟩
  ·rename_i hi;rw[if_neg hi]at hq;exact⟨st',kX,hq⟩
 |_=>exact⟨st',kX,hq⟩
theorem ak{c:Operand}{x y:Code}{b:Bool}(hc:fC st [] c=some (.a (.lit (.bool b))))(h1:b=true→W P ty zb x Q st)(h2:b=false→W P ty zb y Q st):W P ty zb (.cond c x y) Q st:=by
 intro a w iv
 obtain⟨env,g⟩:=iv.good
 have:=(ef g (fun e he=>by simp at he) hc).lit
 exact wp_cond_split this (fun hb=>h1 hb a w iv) (fun hb=>h2 hb a w iv)
theorem Inv.of_eq{st st':St}(h:st'=st): ∀a w,Inv ty zb st a w→Inv ty zb st' a w:=fun _ _ iv=>h▸iv
theorem Ed{ι:Type}(p:ι→Prop)(I:ι→St)(μ:ι→Nat)(i:ι){c:Code}(hp:p i)(h0: ∀a w,Inv ty zb st a w→Inv ty zb (I i) a w)
  (round: ∀i,p i→W P ty zb c (Post.then (fun st'=> ∃j,p j∧μ j<μ i∧ ∀a w,Inv ty zb st' a w→Inv ty zb (I j) a w) Q) (I i)):W P ty zb (.loop c) Q st:=by
 intro a w iv b k cs
 have key: ∀n i a w,μ i=n→p i→Inv ty zb (I i) a w→ ∃e a' w',SZ ty zb Q e a' w'∧Arrives P (lone (b.at a (.code c:: .inLoop c::k)) cs w) b k cs e a' w':=by
  intro n
  induction n using Nat.strongRecOn with
  |_ n ih=>
   intro i a w hn hpi iv
   obtain⟨e,a₁,w₁,⟨st',kX,hq⟩,FZ⟩:=round i hpi a w iv b (.inLoop c::k) cs
   cases e with
   |normal=>
    obtain⟨j,Z2,hlt,hj⟩:=hq
    obtain⟨e₂,a₂,w₂,hq₂,Z3⟩:=ih (μ j) (hn▸hlt) j a₁ w₁ rfl Z2 (hj _ _ kX)
    exact⟨e₂,a₂,w₂,hq₂, .of_steps (Steps.trans FZ (.one step_inLoop)) Z3⟩
   |exit id=>exact⟨_,a₁,w₁,⟨st',kX,hq⟩, .pass (x:= .inLoop c) rfl (fun _ _=> .inl (by simp)) FZ⟩
   |goto l=>exact⟨_,a₁,w₁,⟨st',kX,hq⟩, .pass (x:= .inLoop c) rfl (fun _ _=> .inl (by simp)) FZ⟩
   |ret=>exact⟨_,a₁,w₁,⟨st',kX,hq⟩, .pass (x:= .inLoop c) rfl (fun _ _=> .inl (by simp)) FZ⟩
   |panic ch=>exact⟨_,a₁,w₁,⟨st',kX,hq⟩, .pass (x:= .inLoop c) rfl (fun _ _=> .inl (by simp)) FZ⟩
   |outgrown=>exact⟨_,a₁,w₁,⟨st',kX,hq⟩, .pass (x:= .inLoop c) rfl (fun _ _=> .inl (by simp)) FZ⟩
 obtain⟨e,a',w',hq,FZ⟩:=key _ i a w rfl hp (h0 a w iv)
 exact⟨e,a',w',hq, .of_steps (.one step_loop) FZ⟩
def Vo:List (Nat×SV)→List (Nat×SV)→Option (List (Nat×SV))
 | [],_=>some []
 | (s,x)::r,ov=>match fS (match look ov s with|some y=>y|none=>x),Vo r ov with
   |some x,some l=>some ((s,x)::l)
   |_,_=>none
def Vp:Hp→Hp→Option Hp
 | [],_=>some []
 | (s,x)::r,ov=>match fO (match look ov s with|some y=>y|none=>x),Vp r ov with
   |some x,some l=>some ((s,x)::l)
   |_,_=>none
def over:St→List (Nat×SV)→Hp→Option St
 | ⟨n,sl,hp⟩,ov,oh=>match Vo sl ov,Vp hp oh with
   |some sl,some hp=>some ⟨n,sl,hp⟩
   |_,_=>none
theorem aQ{ι:Type}(p:ι→Prop)(ov:ι→List (Nat×SV))(oh:ι→Hp)(μ:ι→Nat)(i:ι){c:Code}{I:ι→St}(_hI: ∀k,over st (ov k) (oh k)=some (I k))(hp:p i)(h0:I i=st)
  (round: ∀i,p i→W P ty zb c (Post.then (fun st'=> ∃j,p j∧μ j<μ i∧st'=I j) Q) (I i)):W P ty zb (.loop c) Q st:=by
 refine Ed p I μ i hp (fun a w iv=>by rw[h0];exact iv) fun i hi=> ?_
 intro a w iv
 refine wp_mono (round i hi a w iv) ?_
 rintro e a' w' ⟨st',kX,hq⟩
 cases e with
 |normal=>
  obtain⟨j,h1,h2,rfl⟩:=hq
  exact⟨_,kX,j,h1,h2,fun a w h=>h⟩
 |_=>exact⟨st',kX,hq⟩
end
end
section
variable{ty:Tag→Nat}
def enter:Nat→List S1→List (Nat×SV)
 |_,[]=> []
 |i,x::r=>(i, .one x)::enter (i+1) r
def Ly(Γ:Nat→TK)(st:St):ResultVar→Option S1
 | .tmp t=>match look st.sl t with|some (.one x)=>some x|_=>none
 | .cell p t=>match look st.sl p with
   |some (.one (.a (.ptr n 0)))=>match look st.hp n,Γ t with
    |some (.box c), .st z _ _=>match Nat.beq c.length z.length with|true=>some (.agg c)|false=>none
    |_,_=>none
   |_=>none
def qH(Γ:Nat→TK)(st:St):List ResultVar→Option (List S1)
 | []=>some []
 |r::rs=>match Ly Γ st r,qH Γ st rs with|some x,some xs=>some (x::xs)|_,_=>none
def Ot(st:St):V→V→Option (List Prop×List Nat)
 | .lit v, .lit u=>some ([v=u],[])
 | .lit (.slice none 0 0), .sl _ l=>some ([l= []],[])
 | .own n, .sl t l=>match look st.hp n,soft n with
   |some (.arr t' l'),false=>match gh t t' l' with
    |some l2=>some ([l2=l],[n])
    |none=>none
   |_,_=>none
 | .lit (.slice none 0 0), .vw _ _ _ l=>some ([l= []],[])
 | .own n, .vw _ _ t l=>match look st.hp n with
   |some (.arr t' l')=>match gh t t' l' with
    |some l2=>some ([l2=l],[n])
    |none=>none
   |_=>none
 | .vw n _ t' l', .vw _ _ t l=>match gh t t' l' with
   |some l2=>some ([l2=l],[n])
   |none=>none
 |_,_=>none
def meet(st:St):List V→List V→Option (List Prop×List Nat)
 | [],[]=>some ([],[])
 |x::r,y::s=>match Ot st x y,meet st r s with
  |some (vc,k),some (vcs,ks)=>some (kT vc vcs,kT k ks)
  |_,_=>none
 |_,_=>none
def JR(st:St):S1→S1→Option (List Prop×List Nat)
 | .a v, .a u=>meet st [v] [u]
 | .agg l, .agg m=>meet st l m
 |_,_=>none
def meets(st:St):List S1→List S1→Option (List Prop×List Nat)
 | [],[]=>some ([],[])
 |x::r,y::s=>match JR st x y,meets st r s with
  |some (vc,k),some (vcs,ks)=>some (kT vc vcs,kT k ks)
  |_,_=>none
 |_,_=>none
def ends(Γ:Nat→TK)(st:St)(pY:List ResultVar)(rs:List S1):Option (List Prop):=
 match qH Γ st pY with
 |some xs=>match meets st xs rs with
  |some (vc,k)=>match oN k with|true=>some vc|false=>none
  |none=>none
 |none=>none
def Fin(Γ:Nat→TK)(pY:List ResultVar)(rs:List S1):Post:=fun e st=>(e= .ret∨e= .normal)∧ ∃vc,ends Γ st pY rs=some vc∧kW vc
theorem ah{Γ:Nat→TK}{pY:List ResultVar}{rs:List S1}{st:St}{vc:List Prop}(h:ends Γ st pY rs=some vc)(hv:kW vc):Fin Γ pY rs .ret st:=⟨.inl rfl,vc,h,hv⟩
theorem Vq{Γ:Nat→TK}{pY:List ResultVar}{rs:List S1}{st:St}{vc:List Prop}(h:ends Γ st pY rs=some vc)(hv:kW vc):Fin Γ pY rs .normal st:=⟨.inr rfl,vc,h,hv⟩
theorem iW.lift{α:Type}{k:Nat}{E:ER α}{lo e:Nat}{w:World}{v:Value}{l:List α}{fp:List Nat}(h:iW k E 0 e w v l fp)(hl: ∀b,b∈fp→lo≤b):iW k E lo e w v l fp:=by
 obtain⟨xs,bn,hown,hf,he,rfl,ho⟩:=h
 refine⟨xs,bn,⟨hown.1,?_⟩,hf,he,rfl,⟨ho.nodup,hl,ho.kind⟩⟩
 rcases hown.2 with h| ⟨g,o,cap,cur,rfl,RL,r⟩
 ·exact Or.inl h
 ·exact Or.inr ⟨g,o,cap,cur,rfl,hl g (by simp[Value.ownBlock]),r⟩
section
variable{P:Program}{zb:cL}{st:St}{a:Act}{w:World}{env:Env}
theorem tj{Γ:Nat→TK}(C: ∀t,cV P t (Γ t))(g:Good ty zb st a.tmps w env){r:ResultVar}{x:S1}(h:Ly Γ st r=some x):
  ∃u,fD w st.hp env x u∧(match r with| .tmp t=>a.tmps.getD t undef=u| .cell p t=> ∃ad,a.tmps.getD p undef= .pointer (some ad)∧(loadVar t ad).run P w= .ok u w):=by
 cases r with
 |tmp t=>
  simp only[Ly]at h
  split at h
  ·rename_i y hl
   simp only[oI]at h
   subst h
   exact⟨_,g.slot t _ hl,rfl⟩
  ·cases h
 |cell p t=>
  simp only[Ly]at h
  split at h
  ·rename_i n hl
   split at h
   ·rename_i c z tg fo hb hk
    split at h
    ·rename_i hlen
     have hlen:=Nat.eq_of_beq_eq_true hlen
     simp only[oI]at h
     subst h
     obtain⟨_,b,hv,hu⟩:=g.slot p _ hl
     obtain⟨b',cs,e,yh,hh,hc⟩:=g.obj n _ hb
     have Ht:b=b':=by rw[yh]at hv;simpa using hv.symm
     subst Ht
     have hC:=C t
     rw[hk]at hC
     obtain⟨fs,NJ,hi,_⟩:=hC
     have hi':(P.info? t).map (·.size)=some cs.length:=by
      rw[hc.len,hlen]
      cases hq:P.info? t with
      |none=>simp[hq]at hi
      |some i=>simp[hq]at hi;simp[hi.1]
     refine⟨.agg cs.toArray,⟨cs,rfl,hc⟩,?_⟩
     have uP:w.rangeAt b 0 cs:=by simpa using Nc hh
     exact⟨_,hu,run_loadVar_mid w b 0 t cs _ uP NJ rfl hi'⟩
    ·cases h
   ·cases h
  ·cases h
theorem JS(g:Good ty zb st a.tmps w env){k1 k2:List Nat}{f1 f2:List Nat}(hnd:(k1++k2).Nodup)(p2:Own zb.w.heap.size w f1)(p3: ∀b,b∈f1→ ∃i o,i∈k1∧look st.hp i=some o∧b∈(env i).fp)(q2:Own zb.w.heap.size w f2)(q3: ∀b,b∈f2→ ∃i o,i∈k2∧look st.hp i=some o∧b∈(env i).fp):
  Own zb.w.heap.size w (f1++f2)∧ ∀b,b∈f1++f2→ ∃i o,i∈k1++k2∧look st.hp i=some o∧b∈(env i).fp:=by
 obtain⟨n1,n2,n3⟩:=List.nodup_append.1 hnd
 refine⟨⟨List.nodup_append.2 ⟨p2.nodup,q2.nodup,?_⟩,fun b hb=> ?_,fun b hb=> ?_⟩,fun b hb=> ?_⟩
 ·rintro b hb z hz rfl
  obtain⟨n,o1,h1,h2,h3⟩:=p3 b hb
  obtain⟨m,o2,h4,h5,h6⟩:=q3 b hz
  exact g.iN n m _ _ (fun e=>n3 n h1 m h4 e) h2 h5 b h3 h6
 ·rcases List.mem_append.1 hb with hb|hb
  ·exact p2.ge b hb
  ·exact q2.ge b hb
 ·rcases List.mem_append.1 hb with hb|hb
  ·exact p2.kind b hb
  ·exact q2.kind b hb
 ·rcases List.mem_append.1 hb with hb|hb
  ·obtain⟨n,o1,h1,h2,h3⟩:=p3 b hb;exact⟨n,o1,List.mem_append_left _ h1,h2,h3⟩
  ·obtain⟨n,o1,h1,h2,h3⟩:=q3 b hb;exact⟨n,o1,List.mem_append_right _ h1,h2,h3⟩
theorem Ou(hL:zb.L= [])(g:Good ty zb st a.tmps w env){x y:V}{u:Value}{vc:List Prop}{k:List Nat}(hr:RA w st.hp env x u)(h:Ot st x y=some (vc,k))(hv: ∀q,q∈vc→q):
  ∃fp,RB ty w zb.w.heap.size y u fp∧Own zb.w.heap.size w fp∧ ∀b,b∈fp→ ∃i o,i∈k∧look st.hp i=some o∧b∈(env i).fp:=by
 unfold Ot at h
 split at h
 ·simp only[oI,pI]at h
  obtain⟨rfl,rfl⟩:=h
  have hl:=hv _ (List.mem_singleton.2 rfl)
  obtain⟨rfl,ho⟩:=hr
  exact⟨[],⟨hl,hl▸ho,rfl⟩,Own.nil _ _,by simp⟩
 ·simp only[oI,pI]at h
  obtain⟨rfl,rfl⟩:=h
  have hl:=hv _ (List.mem_singleton.2 rfl)
  subst hl
  obtain⟨rfl,ho⟩:=hr
  exact⟨[],iW.nil _ _ _ _ _,Own.nil _ _,by simp⟩
 ·rename_i n t l
  split at h
  ·rename_i t' l' hl Cb
   split at h
   ·rename_i l2 hc
    simp only[oI,pI]at h
    obtain⟨rfl,rfl⟩:=h
    have nC:=hv _ (List.mem_singleton.2 rfl)
    subst nC
    obtain⟨e,rfl⟩:=c8 hc
    subst e
    obtain⟨_,rfl⟩:=hr
    have hb:=iW.lift (RO.RM Cb (g.obj n _ hl)) (lo:=zb.w.heap.size) (fun b hb=>by
     rcases g.dom n _ hl b hb with h|h
     ·rw[hL]at h;cases h
     ·exact h)
    exact⟨(env n).fp,hb,hb.own,fun b hb=>⟨n,_,by simp,hl,hb⟩⟩
   ·cases h
  ·cases h
 ·simp only[oI,pI]at h
  obtain⟨rfl,rfl⟩:=h
  have hl:=hv _ (List.mem_singleton.2 rfl)
  subst hl
  obtain⟨rfl,ho⟩:=hr
  exact⟨[],⟨iW.sl (iW.nil _ _ 0 0 _),Own.nil _ _⟩,Own.nil _ _,by simp⟩
 ·rename_i n _ _ t l
  split at h
  ·rename_i t' l' hl
   split at h
   ·rename_i l2 hc
    simp only[oI,pI]at h
    obtain⟨rfl,rfl⟩:=h
    have nC:=hv _ (List.mem_singleton.2 rfl)
    subst nC
    obtain⟨e,rfl⟩:=c8 hc
    subst e
    obtain⟨_,rfl⟩:=hr
    have hs:=RO.sl (g.obj n _ hl)
    have ho0:=RO.own (g.obj n _ hl)
    have ho:Own zb.w.heap.size w (env n).fp:=⟨ho0.nodup,fun b hb=>by
     rcases g.dom n _ hl b hb with h|h
     ·rw[hL]at h;cases h
     ·exact h,ho0.kind⟩
    exact⟨(env n).fp,⟨hs,ho⟩,ho,fun b hb=>⟨n,_,by simp,hl,hb⟩⟩
   ·cases h
  ·cases h
 ·rename_i n _ t' l' _ _ t l
  split at h
  ·rename_i l2 hc
   simp only[oI,pI]at h
   obtain⟨rfl,rfl⟩:=h
   have nC:=hv _ (List.mem_singleton.2 rfl)
   subst nC
   obtain⟨e,rfl⟩:=c8 hc
   subst e
   obtain⟨⟨t0,l0,hl⟩,⟨fp,hs,hnd,hsub⟩,_⟩:=hr
   have ho0:=RO.own (g.obj n _ hl)
   have ho:Own zb.w.heap.size w fp:=⟨hnd,fun b hb=>by
    rcases g.dom n _ hl b (hsub b hb)with h|h
    ·rw[hL]at h;cases h
    ·exact h,fun b hb=>ho0.kind b (hsub b hb)⟩
   exact⟨fp,⟨hs,ho⟩,ho,fun b hb=>⟨n,_,by simp,hl,hsub b hb⟩⟩
  ·cases h
 ·cases h
theorem Ee(hL:zb.L= [])(g:Good ty zb st a.tmps w env): ∀{xs ys:List V} {us:List Value} {vc:List Prop} {k:List Nat},bH (RA w st.hp env) xs us→meet st xs ys=some (vc,k)→k.Nodup→(∀q,q∈vc→q)→
  ∃fp,Nw ty w zb.w.heap.size ys us fp∧Own zb.w.heap.size w fp∧ ∀b,b∈fp→ ∃i o,i∈k∧look st.hp i=some o∧b∈(env i).fp
 | [],ys,us,vc,k,hr,h,hnd,hv=>by
   cases ys with
   |nil=>
    simp only[meet,oI,pI]at h
    obtain⟨rfl,rfl⟩:=h
    cases us with
    |nil=>exact⟨[],rfl,Own.nil _ _,by simp⟩
    |cons _ _=>exact hr.elim
   |cons y ys=>simp[meet]at h
 |x::r,ys,us,vc,k,hr,h,hnd,hv=>by
  cases us with
  |nil=>exact hr.elim
  |cons u us=>
   cases ys with
   |nil=>simp[meet]at h
   |cons y s=>
    simp only[meet]at h
    split at h
    ·rename_i oL k1 Vc k2 h1 h2
     simp only[oI,pI,dJ]at h
     obtain⟨rfl,rfl⟩:=h
     obtain⟨n1,n2,n3⟩:=List.nodup_append.1 hnd
     obtain⟨f1,p1,p2,p3⟩:=Ou hL g hr.1 h1 (fun q hq=>hv q (List.mem_append_left _ hq))
     obtain⟨f2,q1,q2,q3⟩:=Ee hL g hr.2 h2 n2 (fun q hq=>hv q (List.mem_append_right _ hq))
     obtain⟨r1,r2⟩:=JS g hnd p2 p3 q2 q3
     exact⟨f1++f2,⟨_,_,p1,q1,rfl⟩,r1,r2⟩
    ·cases h
theorem Ov(hL:zb.L= [])(g:Good ty zb st a.tmps w env){x y:S1}{u:Value}{vc:List Prop}{k:List Nat}(hr:fD w st.hp env x u)(h:JR st x y=some (vc,k))(hnd:k.Nodup)(hv: ∀q,q∈vc→q):
  ∃fp,U6 ty w zb.w.heap.size y u fp∧Own zb.w.heap.size w fp∧ ∀b,b∈fp→ ∃i o,i∈k∧look st.hp i=some o∧b∈(env i).fp:=by
 cases x with
 |a v=>
  cases y with
  |a v'=>exact Ee hL g (xs:= [v]) (us:= [u]) ⟨hr,trivial⟩ h hnd hv
  |agg _=>simp[JR]at h
 |agg l=>
  cases y with
  |a v'=>simp[JR]at h
  |agg m=>
   obtain⟨cs,rfl,hl⟩:=hr
   obtain⟨fp,h1,h2,h3⟩:=Ee hL g hl h hnd hv
   exact⟨fp,⟨cs,rfl,h1⟩,h2,h3⟩
theorem F0(hL:zb.L= [])(g:Good ty zb st a.tmps w env): ∀{xs ys:List S1} {us:List Value} {vc:List Prop} {k:List Nat},bH (fD w st.hp env) xs us→meets st xs ys=some (vc,k)→k.Nodup→(∀q,q∈vc→q)→
  ∃fp,RN ty w zb.w.heap.size ys us fp∧Own zb.w.heap.size w fp∧ ∀b,b∈fp→ ∃i o,i∈k∧look st.hp i=some o∧b∈(env i).fp
 | [],ys,us,vc,k,hr,h,hnd,hv=>by
   cases ys with
   |nil=>
    simp only[meets,oI,pI]at h
    obtain⟨rfl,rfl⟩:=h
    cases us with
    |nil=>exact⟨[],rfl,Own.nil _ _,by simp⟩
    |cons _ _=>exact hr.elim
   |cons y ys=>simp[meets]at h
 |x::r,ys,us,vc,k,hr,h,hnd,hv=>by
  cases us with
  |nil=>exact hr.elim
  |cons u us=>
   cases ys with
   |nil=>simp[meets]at h
   |cons y s=>
    simp only[meets]at h
    split at h
    ·rename_i oL k1 Vc k2 h1 h2
     simp only[oI,pI,dJ]at h
     obtain⟨rfl,rfl⟩:=h
     obtain⟨n1,n2,n3⟩:=List.nodup_append.1 hnd
     obtain⟨f1,p1,p2,p3⟩:=Ov hL g hr.1 h1 n1 (fun q hq=>hv q (List.mem_append_left _ hq))
     obtain⟨f2,q1,q2,q3⟩:=F0 hL g hr.2 h2 n2 (fun q hq=>hv q (List.mem_append_right _ hq))
     obtain⟨r1,r2⟩:=JS g hnd p2 p3 q2 q3
     exact⟨f1++f2,⟨_,_,p1,q1,rfl⟩,r1,r2⟩
    ·cases h
theorem AG{Γ:Nat→TK}(C: ∀t,cV P t (Γ t))(g:Good ty zb st a.tmps w env){fn:Func}{pY:List ResultVar}(hf:fn.results=pY.toArray){xs:List S1}(h:qH Γ st pY=some xs)(hl:pY.length≤4):
  ∃us,bH (fD w st.hp env) xs us∧us.length=pY.length∧(results fn a.tmps).run P w= .ok (match us with| [u]=>u|us=> .tuple us.toArray) w:=by
 have one: ∀{r:ResultVar} {rs:List ResultVar} {xs:List S1},qH Γ st (r::rs)=some xs→ ∃y ys,xs=y::ys∧Ly Γ st r=some y∧qH Γ st rs=some ys:=by
  intro r rs xs h
  simp only[qH]at h
  split at h
  ·rename_i y ys h1 h2
   simp only[oI]at h
   exact⟨y,ys,h.symm,h1,h2⟩
  ·cases h
 have nil: ∀{xs:List S1},qH Γ st []=some xs→xs= []:=by
  intro xs h
  simp only[qH,oI]at h
  exact h.symm
 match pY,hf,h,hl with
 | [],hf,h,_=>
   rw[nil h]
   exact⟨[],trivial,rfl,by simp[results,hf]⟩
 | [r1],hf,h,_=>
   obtain⟨y1,ys,rfl,h1,h⟩:=one h
   rw[nil h]
   obtain⟨u1,k1,e1⟩:=tj C g h1
   refine⟨[u1],⟨k1,trivial⟩,rfl,?_⟩
   cases r1
   ·have e1:a.tmps.getD _ undef=u1:=e1
    rw[Array.getD_eq_getD_getElem?]at e1
    simp[results,hf,asAddr,e1]
   ·obtain⟨_,p1,e1⟩:=e1
    rw[Array.getD_eq_getD_getElem?]at p1
    simp[results,hf,asAddr,e1,p1]
 | [r1,r2],hf,h,_=>
   obtain⟨y1,ys,rfl,h1,h⟩:=one h
   obtain⟨y2,ys,rfl,h2,h⟩:=one h
   rw[nil h]
   obtain⟨u1,k1,e1⟩:=tj C g h1
   obtain⟨u2,k2,e2⟩:=tj C g h2
   refine⟨[u1,u2],⟨k1,k2,trivial⟩,rfl,?_⟩
   cases r1<;>cases r2
   ·have e1:a.tmps.getD _ undef=u1:=e1
    rw[Array.getD_eq_getD_getElem?]at e1
    have e2:a.tmps.getD _ undef=u2:=e2
    rw[Array.getD_eq_getD_getElem?]at e2
    simp[results,hf,asAddr,e1,e2]
   ·have e1:a.tmps.getD _ undef=u1:=e1
    rw[Array.getD_eq_getD_getElem?]at e1
    obtain⟨_,p2,e2⟩:=e2
    rw[Array.getD_eq_getD_getElem?]at p2
    simp[results,hf,asAddr,e1,e2,p2]
   ·obtain⟨_,p1,e1⟩:=e1
    rw[Array.getD_eq_getD_getElem?]at p1
    have e2:a.tmps.getD _ undef=u2:=e2
    rw[Array.getD_eq_getD_getElem?]at e2
    simp[results,hf,asAddr,e1,e2,p1]
   ·obtain⟨_,p1,e1⟩:=e1
    rw[Array.getD_eq_getD_getElem?]at p1
    obtain⟨_,p2,e2⟩:=e2
    rw[Array.getD_eq_getD_getElem?]at p2
    simp[results,hf,asAddr,e1,e2,p1,p2]
 | [r1,r2,r3],hf,h,_=>
   obtain⟨y1,ys,rfl,h1,h⟩:=one h
   obtain⟨y2,ys,rfl,h2,h⟩:=one h
   obtain⟨y3,ys,rfl,h3,h⟩:=one h
   rw[nil h]
   obtain⟨u1,k1,e1⟩:=tj C g h1
   obtain⟨u2,k2,e2⟩:=tj C g h2
   obtain⟨u3,k3,e3⟩:=tj C g h3
   refine⟨[u1,u2,u3],⟨k1,k2,k3,trivial⟩,rfl,?_⟩
   cases r1<;>cases r2<;>cases r3
   ·have e1:a.tmps.getD _ undef=u1:=e1
    rw[Array.getD_eq_getD_getElem?]at e1
    have e2:a.tmps.getD _ undef=u2:=e2
    rw[Array.getD_eq_getD_getElem?]at e2
    have e3:a.tmps.getD _ undef=u3:=e3
    rw[Array.getD_eq_getD_getElem?]at e3
    simp[results,hf,asAddr,e1,e2,e3]
   ·have e1:a.tmps.getD _ undef=u1:=e1
    rw[Array.getD_eq_getD_getElem?]at e1
    have e2:a.tmps.getD _ undef=u2:=e2
    rw[Array.getD_eq_getD_getElem?]at e2
    obtain⟨_,p3,e3⟩:=e3
    rw[Array.getD_eq_getD_getElem?]at p3
    simp[results,hf,asAddr,e1,e2,e3,p3]
   ·have e1:a.tmps.getD _ undef=u1:=e1
    rw[Array.getD_eq_getD_getElem?]at e1
    obtain⟨_,p2,e2⟩:=e2
    rw[Array.getD_eq_getD_getElem?]at p2
    have e3:a.tmps.getD _ undef=u3:=e3
    rw[Array.getD_eq_getD_getElem?]at e3
    simp[results,hf,asAddr,e1,e2,e3,p2]
   ·have e1:a.tmps.getD _ undef=u1:=e1
    rw[Array.getD_eq_getD_getElem?]at e1
    obtain⟨_,p2,e2⟩:=e2
    rw[Array.getD_eq_getD_getElem?]at p2
    obtain⟨_,p3,e3⟩:=e3
    rw[Array.getD_eq_getD_getElem?]at p3
    simp[results,hf,asAddr,e1,e2,e3,p2,p3]
   ·obtain⟨_,p1,e1⟩:=e1
    rw[Array.getD_eq_getD_getElem?]at p1
    have e2:a.tmps.getD _ undef=u2:=e2
    rw[Array.getD_eq_getD_getElem?]at e2
    have e3:a.tmps.getD _ undef=u3:=e3
    rw[Array.getD_eq_getD_getElem?]at e3
    simp[results,hf,asAddr,e1,e2,e3,p1]
   ·obtain⟨_,p1,e1⟩:=e1
    rw[Array.getD_eq_getD_getElem?]at p1
    have e2:a.tmps.getD _ undef=u2:=e2
    rw[Array.getD_eq_getD_getElem?]at e2
    obtain⟨_,p3,e3⟩:=e3
    rw[Array.getD_eq_getD_getElem?]at p3
    simp[results,hf,asAddr,e1,e2,e3,p1,p3]
   ·obtain⟨_,p1,e1⟩:=e1
    rw[Array.getD_eq_getD_getElem?]at p1
    obtain⟨_,p2,e2⟩:=e2
    rw[Array.getD_eq_getD_getElem?]at p2
    have e3:a.tmps.getD _ undef=u3:=e3
    rw[Array.getD_eq_getD_getElem?]at e3
    simp[results,hf,asAddr,e1,e2,e3,p1,p2]
   ·obtain⟨_,p1,e1⟩:=e1
    rw[Array.getD_eq_getD_getElem?]at p1
    obtain⟨_,p2,e2⟩:=e2
    rw[Array.getD_eq_getD_getElem?]at p2
    obtain⟨_,p3,e3⟩:=e3
    rw[Array.getD_eq_getD_getElem?]at p3
    simp[results,hf,asAddr,e1,e2,e3,p1,p2,p3]
 | [r1,r2,r3,r4],hf,h,_=>
   obtain⟨y1,ys,rfl,h1,h⟩:=one h
   obtain⟨y2,ys,rfl,h2,h⟩:=one h
   obtain⟨y3,ys,rfl,h3,h⟩:=one h
   obtain⟨y4,ys,rfl,h4,h⟩:=one h
   rw[nil h]
   obtain⟨u1,k1,e1⟩:=tj C g h1
   obtain⟨u2,k2,e2⟩:=tj C g h2
   obtain⟨u3,k3,e3⟩:=tj C g h3
   obtain⟨u4,k4,e4⟩:=tj C g h4
   refine⟨[u1,u2,u3,u4],⟨k1,k2,k3,k4,trivial⟩,rfl,?_⟩
   cases r1<;>cases r2<;>cases r3<;>cases r4
   ·have e1:a.tmps.getD _ undef=u1:=e1
    rw[Array.getD_eq_getD_getElem?]at e1
    have e2:a.tmps.getD _ undef=u2:=e2
    rw[Array.getD_eq_getD_getElem?]at e2
    have e3:a.tmps.getD _ undef=u3:=e3
    rw[Array.getD_eq_getD_getElem?]at e3
    have e4:a.tmps.getD _ undef=u4:=e4
    rw[Array.getD_eq_getD_getElem?]at e4
    simp[results,hf,asAddr,e1,e2,e3,e4]
   ·have e1:a.tmps.getD _ undef=u1:=e1
    rw[Array.getD_eq_getD_getElem?]at e1
    have e2:a.tmps.getD _ undef=u2:=e2
    rw[Array.getD_eq_getD_getElem?]at e2
    have e3:a.tmps.getD _ undef=u3:=e3
    rw[Array.getD_eq_getD_getElem?]at e3
    obtain⟨_,p4,e4⟩:=e4
    rw[Array.getD_eq_getD_getElem?]at p4
    simp[results,hf,asAddr,e1,e2,e3,e4,p4]
   ·have e1:a.tmps.getD _ undef=u1:=e1
    rw[Array.getD_eq_getD_getElem?]at e1
    have e2:a.tmps.getD _ undef=u2:=e2
    rw[Array.getD_eq_getD_getElem?]at e2
    obtain⟨_,p3,e3⟩:=e3
    rw[Array.getD_eq_getD_getElem?]at p3
    have e4:a.tmps.getD _ undef=u4:=e4
    rw[Array.getD_eq_getD_getElem?]at e4
    simp[results,hf,asAddr,e1,e2,e3,e4,p3]
   ·have e1:a.tmps.getD _ undef=u1:=e1
    rw[Array.getD_eq_getD_getElem?]at e1
    have e2:a.tmps.getD _ undef=u2:=e2
    rw[Array.getD_eq_getD_getElem?]at e2
    obtain⟨_,p3,e3⟩:=e3
    rw[Array.getD_eq_getD_getElem?]at p3
    obtain⟨_,p4,e4⟩:=e4
    rw[Array.getD_eq_getD_getElem?]at p4
    simp[results,hf,asAddr,e1,e2,e3,e4,p3,p4]
   ·have e1:a.tmps.getD _ undef=u1:=e1
    rw[Array.getD_eq_getD_getElem?]at e1
    obtain⟨_,p2,e2⟩:=e2
    rw[Array.getD_eq_getD_getElem?]at p2
    have e3:a.tmps.getD _ undef=u3:=e3
    rw[Array.getD_eq_getD_getElem?]at e3
    have e4:a.tmps.getD _ undef=u4:=e4
    rw[Array.getD_eq_getD_getElem?]at e4
    simp[results,hf,asAddr,e1,e2,e3,e4,p2]
   ·have e1:a.tmps.getD _ undef=u1:=e1
    rw[Array.getD_eq_getD_getElem?]at e1
    obtain⟨_,p2,e2⟩:=e2
    rw[Array.getD_eq_getD_getElem?]at p2
    have e3:a.tmps.getD _ undef=u3:=e3
    rw[Array.getD_eq_getD_getElem?]at e3
    obtain⟨_,p4,e4⟩:=e4
    rw[Array.getD_eq_getD_getElem?]at p4
    simp[results,hf,asAddr,e1,e2,e3,e4,p2,p4]
   ·have e1:a.tmps.getD _ undef=u1:=e1
    rw[Array.getD_eq_getD_getElem?]at e1
    obtain⟨_,p2,e2⟩:=e2
    rw[Array.getD_eq_getD_getElem?]at p2
    obtain⟨_,p3,e3⟩:=e3
    rw[Array.getD_eq_getD_getElem?]at p3
    have e4:a.tmps.getD _ undef=u4:=e4
    rw[Array.getD_eq_getD_getElem?]at e4
    simp[results,hf,asAddr,e1,e2,e3,e4,p2,p3]
   ·have e1:a.tmps.getD _ undef=u1:=e1
    rw[Array.getD_eq_getD_getElem?]at e1
    obtain⟨_,p2,e2⟩:=e2
    rw[Array.getD_eq_getD_getElem?]at p2
    obtain⟨_,p3,e3⟩:=e3
    rw[Array.getD_eq_getD_getElem?]at p3
    obtain⟨_,p4,e4⟩:=e4
    rw[Array.getD_eq_getD_getElem?]at p4
    simp[results,hf,asAddr,e1,e2,e3,e4,p2,p3,p4]
   ·obtain⟨_,p1,e1⟩:=e1
    rw[Array.getD_eq_getD_getElem?]at p1
    have e2:a.tmps.getD _ undef=u2:=e2
    rw[Array.getD_eq_getD_getElem?]at e2
    have e3:a.tmps.getD _ undef=u3:=e3
    rw[Array.getD_eq_getD_getElem?]at e3
    have e4:a.tmps.getD _ undef=u4:=e4
    rw[Array.getD_eq_getD_getElem?]at e4
    simp[results,hf,asAddr,e1,e2,e3,e4,p1]
   ·obtain⟨_,p1,e1⟩:=e1
    rw[Array.getD_eq_getD_getElem?]at p1
    have e2:a.tmps.getD _ undef=u2:=e2
    rw[Array.getD_eq_getD_getElem?]at e2
    have e3:a.tmps.getD _ undef=u3:=e3
    rw[Array.getD_eq_getD_getElem?]at e3
    obtain⟨_,p4,e4⟩:=e4
    rw[Array.getD_eq_getD_getElem?]at p4
    simp[results,hf,asAddr,e1,e2,e3,e4,p1,p4]
   ·obtain⟨_,p1,e1⟩:=e1
    rw[Array.getD_eq_getD_getElem?]at p1
    have e2:a.tmps.getD _ undef=u2:=e2
    rw[Array.getD_eq_getD_getElem?]at e2
    obtain⟨_,p3,e3⟩:=e3
    rw[Array.getD_eq_getD_getElem?]at p3
    have e4:a.tmps.getD _ undef=u4:=e4
    rw[Array.getD_eq_getD_getElem?]at e4
    simp[results,hf,asAddr,e1,e2,e3,e4,p1,p3]
   ·obtain⟨_,p1,e1⟩:=e1
    rw[Array.getD_eq_getD_getElem?]at p1
    have e2:a.tmps.getD _ undef=u2:=e2
    rw[Array.getD_eq_getD_getElem?]at e2
    obtain⟨_,p3,e3⟩:=e3
    rw[Array.getD_eq_getD_getElem?]at p3
    obtain⟨_,p4,e4⟩:=e4
    rw[Array.getD_eq_getD_getElem?]at p4
    simp[results,hf,asAddr,e1,e2,e3,e4,p1,p3,p4]
   ·obtain⟨_,p1,e1⟩:=e1
    rw[Array.getD_eq_getD_getElem?]at p1
    obtain⟨_,p2,e2⟩:=e2
    rw[Array.getD_eq_getD_getElem?]at p2
    have e3:a.tmps.getD _ undef=u3:=e3
    rw[Array.getD_eq_getD_getElem?]at e3
    have e4:a.tmps.getD _ undef=u4:=e4
    rw[Array.getD_eq_getD_getElem?]at e4
    simp[results,hf,asAddr,e1,e2,e3,e4,p1,p2]
   ·obtain⟨_,p1,e1⟩:=e1
    rw[Array.getD_eq_getD_getElem?]at p1
    obtain⟨_,p2,e2⟩:=e2
    rw[Array.getD_eq_getD_getElem?]at p2
    have e3:a.tmps.getD _ undef=u3:=e3
    rw[Array.getD_eq_getD_getElem?]at e3
    obtain⟨_,p4,e4⟩:=e4
    rw[Array.getD_eq_getD_getElem?]at p4
    simp[results,hf,asAddr,e1,e2,e3,e4,p1,p2,p4]
   ·obtain⟨_,p1,e1⟩:=e1
    rw[Array.getD_eq_getD_getElem?]at p1
    obtain⟨_,p2,e2⟩:=e2
    rw[Array.getD_eq_getD_getElem?]at p2
    obtain⟨_,p3,e3⟩:=e3
    rw[Array.getD_eq_getD_getElem?]at p3
    have e4:a.tmps.getD _ undef=u4:=e4
    rw[Array.getD_eq_getD_getElem?]at e4
    simp[results,hf,asAddr,e1,e2,e3,e4,p1,p2,p3]
   ·obtain⟨_,p1,e1⟩:=e1
    rw[Array.getD_eq_getD_getElem?]at p1
    obtain⟨_,p2,e2⟩:=e2
    rw[Array.getD_eq_getD_getElem?]at p2
    obtain⟨_,p3,e3⟩:=e3
    rw[Array.getD_eq_getD_getElem?]at p3
    obtain⟨_,p4,e4⟩:=e4
    rw[Array.getD_eq_getD_getElem?]at p4
    simp[results,hf,asAddr,e1,e2,e3,e4,p1,p2,p3,p4]
 |_::_::_::_::_::_,_,_,hl=>simp at hl
end
end
section
variable{ty:Tag→Nat}
theorem RI.ra{w:World}{env:Env}{v:V}{u:Value}{fp:List Nat}(h:RI w v u fp):RA w [] env v u:=by
 have hno: ∀b, ¬Ow [] env b:=by rintro b ⟨n,o,hl,_⟩;simp[look]at hl
 cases v with
 |lit x=>exact⟨h.1,h.2.1⟩
 |sl t l=>exact⟨fp,h,fun b _=>hno b⟩
 |_=>exact h.elim
theorem DS.rs1{w:World}{env:Env}{x:S1}{u:Value}(h:DS w x u):fD w [] env x u:=by
 cases x with
 |a v=>obtain⟨fp,h⟩:=h;exact h.ra
 |agg l=>
  obtain⟨cs,fp,rfl,h⟩:=h
  exact⟨cs,rfl,h.Ad fun b _=>by rintro⟨n,o,hl,_⟩;simp[look]at hl⟩
theorem oS: ∀{as:List S1} {i s:Nat} {v:SV},look (enter i as) s=some v→ ∃x,v= .one x∧i≤s∧as[s-i]? =some x
 |x::r,i,s,v,h=>by
  by_cases hs:s=i
  ·subst hs
   rw[enter,look_eq]at h
   simp only[oI]at h
   exact⟨x,h.symm,Nat.le_refl _,by simp⟩
  ·rw[enter,aY hs]at h
   obtain⟨y,h1,h2,h3⟩:=oS h
   refine⟨y,h1,by omega,?_⟩
   rw[show s-i=(s-(i+1))+1 by omega,List.getElem?_cons_succ];exact h3
theorem entry{as:List S1}{us:List Value}{w:World}{n:Nat}(hA:zj w)(ha:bH (DS w) as us)(hn:as.length≤n):
  Inv ty ⟨w,[],fun _=>⟨.tuple #[],[]⟩⟩ ⟨n,enter 0 as,[]⟩ {tmps:=us.toArray++Array.replicate (n-us.toArray.size) undef,defers:= []} w:=by
 have hl:=ha.len
 refine⟨by simp;omega,rfl,Kept.refl _ _,⟨hA,fun _ _ h=>by cases h⟩,fun _=>⟨.tuple #[],[]⟩,⟨fun n o h=>by simp[look]at h,fun n m o o' _ h=>by simp[look]at h,fun s v hv=> ?_,fun n o h=>by simp[look]at h,fun n _=>⟨rfl,fun b hb=>hb⟩⟩⟩
 obtain⟨x,rfl,_,hx⟩:=oS hv
 rw[Nat.sub_zero]at hx
 obtain⟨u,hu,hr⟩:=ha.at hx
 have hs:s<us.length:=(List.getElem?_eq_some_iff.1 hu).1
 have:(us.toArray++Array.replicate (n-us.toArray.size) undef).getD s undef=u:=by
  rw[Array.getD_eq_getD_getElem?,Array.getElem?_append_left (by simpa using hs)]
  simp[hu]
 show fD w [] _ x _
 rw[this]
 exact hr.rs1
theorem cX{P:Program}{Γ:Nat→TK}(X:Ctx P ty Γ){f:FuncId}{fn:Func}{c:Code}{pY:List ResultVar}{n:Nat}{as rs:List S1}
  (AH: ∀(args:Array Value) (w:World),(callFunc f args).run P w= .ok (.enter f args) w)(hf:P.funcs[f]? =some fn)(hb:fn.body=some c)(hr:fn.results=pY.toArray)(hl:pY.length≤4)(hn:fn.ntmps=n)(hlen:as.length≤n)
  (h: ∀zb,W P ty zb c (Fin Γ pY rs) ⟨n,enter 0 as,[]⟩):Sound ty P f as rs:=by
 refine⟨AH,fun w us hA ha=>calls_of_wp hf hb ?_⟩
 rw[hn]
 refine wp_mono (h _ _ w (entry hA ha hlen)) ?_
 rintro e a w' ⟨st,iv,he,vc,gV,hv⟩
 have key:a.defers= []∧ ∃v,(results fn a.tmps).run P w'= .ok v w'∧Ret ty w rs (.returned v) w':=by
  obtain⟨env,g⟩:=iv.good
  unfold ends at gV
  split at gV
  ·rename_i xs hx
   split at gV
   ·rename_i oL k hm
    split at gV
    ·rename_i hnd
     simp only[oI]at gV
     subst gV
     obtain⟨vs,h1,h2,h3⟩:=AG X.kind g hr hx hl
     obtain⟨fp,q1,q2,_⟩:=F0 rfl g h1 hm (j6 hnd) hv.out
     have V5:Below w.heap.size w w':=⟨iv.kept.os,iv.kept.tape,iv.kept.output,iv.kept.size,fun b hb=>iv.kept.block b hb (by simp)⟩
     refine⟨iv.defers,_,h3,_,fp,rfl,V5,q2,?_⟩
     match rs,vs,q1 with
     | [],[],q1=>exact⟨[],rfl,q1⟩
     | [r],[u],⟨f1,f2,p1,p2,e⟩=>
       have p2:f2= []:=p2
       rw[p2,List.append_nil]at e
       rw[e];exact p1
     |r1::r2::r,u1::u2::u,q1=>exact⟨_,rfl,q1⟩
     | [],_::_,q1=>exact q1.elim
     |_::_,[],q1=>exact q1.elim
     | [r],u1::u2::u,⟨_,_,_,p,_⟩=>exact p.elim
     |r1::r2::r,[u],⟨_,_,_,p,_⟩=>exact p.elim
    ·cases gV
   ·cases gV
  ·cases gV
 rcases he with rfl|rfl<;>exact key
theorem aD{P:Program}{Γ:Nat→TK}(X:Ctx P ty Γ){f:FuncId}{fn:Func}{c:Code}{pY:List ResultVar}{n:Nat}{xs rs:List S1}
  (AH: ∀(args:Array Value) (w:World),(callFunc f args).run P w= .ok (.enter f args) w)(hf:P.funcs[f]? =some fn)(hn:fn.ntmps=n)(hb:fn.body=some c)(hr:fn.results=pY.toArray)
  (h: ∀zb,W P ty zb c (Fin Γ pY rs) ⟨n,enter 0 xs,[]⟩)(hl:pY.length≤4:=by decide)(hlen:xs.length≤n:=by simp):Sound ty P f xs rs:=cX X AH hf hb hr hl hn hlen h
def iX(m:Nat):List V→List V×Hp
 | []=>([],[])
 | .sl t l::r=>match iX (m+1) r with| (vs,os)=>(.own m::vs,(m, .arr t l)::os)
 |v::r=>match iX (m+1) r with| (vs,os)=>(v::vs,os)
def iL(m:Nat):List S1→List S1×Hp
 | []=>([],[])
 | .a v::r=>match iX m [v],iL (m+1) r with
   | ([v'],os),(as,os')=>(.a v'::as,os++os')
   |_,(as,os')=>(.a .any::as,os')
 | .agg l::r=>match iX m l,iL (m+l.length) r with
   | (l',os),(as,os')=>(.agg l'::as,os++os')
def dW(st:St)(m:Nat):List V→List V→Option (List Prop)
 | [],[]=>some []
 | .sl _ _::r, .sl t' l'::s=>match look st.hp m,dW st (m+1) r s with
   |some (.arr t l2),some vc=>match gh t' t l2 with|some l2=>some ((l2=l')::vc)|none=>none
   |_,_=>none
 | .lit v::r, .lit v'::s=>match dW st (m+1) r s with|some vc=>some ((v=v')::vc)|none=>none
 |_,_=>none
def AI(st:St)(m:Nat):List S1→List S1→Option (List Prop)
 | [],[]=>some []
 | .a v::r, .a v'::s=>match dW st m [v] [v'],AI st (m+1) r s with|some x,some y=>some (x++y)|_,_=>none
 | .agg l::r, .agg l'::s=>match dW st m l l',AI st (m+l.length) r s with|some x,some y=>some (x++y)|_,_=>none
 |_,_=>none
def Ox(Γ:Nat→TK)(st:St)(rv:ResultVar)(as as':List S1)(v:Value):Option (List Prop):=
 match Ly Γ st rv,AI st 1000 as as' with
 |some (.a (.lit v')),some vc=>some ((v'=v)::vc)
 |_,_=>none
def WM(Γ:Nat→TK)(rv:ResultVar)(as as':List S1)(v:Value):Post:=fun e st=>(e= .ret∨e= .normal)∧ ∃vc,Ox Γ st rv as as' v=some vc∧kW vc
theorem WM.ret{Γ:Nat→TK}{rv:ResultVar}{as as':List S1}{v:Value}{st:St}{vc:List Prop}(h:Ox Γ st rv as as' v=some vc)(hv:kW vc):WM Γ rv as as' v .ret st:=⟨.inl rfl,vc,h,hv⟩
def F1(m:Nat):List Value→List (List Nat)→List (Nat×CO)
 |u::us,f::fs=>(m,⟨u,f⟩)::F1 (m+1) us fs
 |_,_=> []
theorem AJ: ∀{us:List Value} {fs:List (List Nat)} {m i:Nat} {u:Value} {f:List Nat},us[i]? =some u→fs[i]? =some f→look (F1 m us fs) (m+i)=some ⟨u,f⟩
 |u::us,f::fs,m,0,u',f',h1,h2=>by
  simp at h1 h2
  subst h1;subst h2
  rw[F1];exact look_eq
 |u::us,f::fs,m,i+1,u',f',h1,h2=>by
  rw[F1,aY (by omega),show m+(i+1)=(m+1)+i by omega]
  exact AJ (by simpa using h1) (by simpa using h2)
 | [],_,_,_,_,_,h1,_=>by simp at h1
 |_::_,[],_,_,_,_,_,h2=>by simp at h2
theorem AK{w:World}: ∀{vs:List V} {us:List Value} {bn:List (List Nat)} (m:Nat),RF w vs us bn→(∀n o,look (iX m vs).2 n=some o→ ∃t l u f,o= .arr t l∧m≤n∧n<m+vs.length∧us[n-m]? =some u∧bn[n-m]? =some f∧vs[n-m]? =some (.sl t l)∧Sl (kk t) (rd t) w u l f)∧
  ∀hp env,(∀n o,look (iX m vs).2 n=some o→look hp n=some o)→(∀i u f,us[i]? =some u→bn[i]? =some f→env (m+i)=⟨u,f⟩)→bH (RA w hp env) (iX m vs).1 us
 | [],[],_,m,h=>⟨fun n o hl=>by simp[iX,look]at hl,fun _ _ _ _=>trivial⟩
 |v::vs,u::us,bn,m,⟨f,fr,h1,h2,e⟩=>by
  subst e
  obtain⟨q1,q2⟩:=AK (m+1) h2
  have up: ∀n o,(∃t l u' f',o=Obj.arr t l∧m+1≤n∧n<m+1+vs.length∧us[n-(m+1)]? =some u'∧fr[n-(m+1)]? =some f'∧vs[n-(m+1)]? =some (.sl t l)∧Sl (kk t) (rd t) w u' l f')→
    ∃t l u' f',o=Obj.arr t l∧m≤n∧n<m+(v::vs).length∧(u::us)[n-m]? =some u'∧(f::fr)[n-m]? =some f'∧(v::vs)[n-m]? =some (.sl t l)∧Sl (kk t) (rd t) w u' l f':=by
   rintro n o ⟨t,l,u',f',k1,k2,k3,k4,k5,k6,k7⟩
   have e:n-m=(n-(m+1))+1:=by omega
   exact⟨t,l,u',f',k1,by omega,by simp;omega,by rw[e];simpa using k4,by rw[e];simpa using k5,by rw[e];simpa using k6,k7⟩
  cases v with
  |sl t l=>
   refine⟨fun n o hl=> ?_,fun hp env hh he=>⟨?_,q2 hp env (fun n o hl=>hh n o ?_) (fun i u' f' hu hf=> ?_)⟩⟩
   ·by_cases hn:n=m
    ·subst hn
     simp only[iX]at hl
     rw[look_eq]at hl
     simp only[oI]at hl
     exact⟨t,l,u,f,hl.symm,Nat.le_refl _,by simp,by simp,by simp,by simp,h1⟩
    ·simp only[iX]at hl
     rw[aY hn]at hl
     exact up n o (q1 n o hl)
   ·refine⟨⟨t,l,hh m _ ?_⟩,?_⟩
    ·simp only[iX];exact look_eq
    ·have:=he 0 u f (by simp) (by simp)
     rw[Nat.add_zero]at this
     rw[this]
   ·have hge:=(q1 n o hl)
    obtain⟨_,_,_,_,_,hge,_⟩:=hge
    simp only[iX]
    rw[aY (by omega)];exact hl
   ·have:=he (i+1) u' f' (by simpa using hu) (by simpa using hf)
    rwa [show m+(i+1)=m+1+i by omega]at this
  |lit x=>
   refine⟨fun n o hl=>up n o (q1 n o hl),fun hp env hh he=>⟨⟨h1.1,h1.2.1⟩,q2 hp env hh (fun i u' f' hu hf=> ?_)⟩⟩
   have:=he (i+1) u' f' (by simpa using hu) (by simpa using hf)
   rwa [show m+(i+1)=m+1+i by omega]at this
  |_=>exact h1.elim
 | [],_::_,_,_,h=>h.elim
 |_::_,[],_,_,h=>h.elim
theorem RF.len{w:World}: ∀{vs:List V} {us:List Value} {bn:List (List Nat)},RF w vs us bn→us.length=vs.length∧bn.length=vs.length
 | [],[],_,h=>by rw[show _=_ from h];exact⟨rfl,rfl⟩
 |_::_,_::_,_,⟨_,_,_,h,e⟩=>by obtain⟨h1,h2⟩:=RF.len h;rw[e];exact⟨by simp[h1],by simp[h2]⟩
 | [],_::_,_,h=>h.elim
 |_::_,[],_,h=>h.elim
theorem wU: ∀{vs:List V} (m:Nat),(iX m vs).1.length=vs.length
 | [],_=>rfl
 |v::r,m=>by
  have:=wU (vs:=r) (m+1)
  cases v<;>simp[iX,this]
theorem AL{w:World}: ∀{as:List S1} {us:List Value} {bn:List (List Nat)} (m:Nat),nJ w as us bn→
  (∀n o,look (iL m as).2 n=some o→ ∃t l u f,o= .arr t l∧m≤n∧(us.flatMap fun u=>u.cells.toList)[n-m]? =some u∧bn[n-m]? =some f∧Sl (kk t) (rd t) w u l f)∧
  ∀hp env,(∀n o,look (iL m as).2 n=some o→look hp n=some o)→(∀i u f,(us.flatMap fun u=>u.cells.toList)[i]? =some u→bn[i]? =some f→env (m+i)=⟨u,f⟩)→bH (fD w hp env) (iL m as).1 us
 | [],[],bn,m,h=>⟨fun n o hl=>by simp[iL,look]at hl,fun _ _ _ _=>trivial⟩
 | .a v::as,u::us,bn,m,⟨f,g,h1,h2,e⟩=>by
   subst e
   have hc:u.cells.toList= [u]:=by rw[h1.cells]
   obtain⟨p1,p2⟩:=AK m (show RF w [v] [u] [f]from ⟨f,[],h1,rfl,rfl⟩)
   obtain⟨q1,q2⟩:=AL (m+1) h2
   have hl1:=wU (vs:= [v]) m
   rw[List.flatMap_cons,hc]
   simp only[iL]
   generalize iX m [v]=x at p1 p2 hl1 ⊢
   obtain⟨xs,os⟩:=x
   match xs,hl1 with
   | [v'],_=>
     have up: ∀n o,look (iL (m+1) as).2 n=some o→look os n=none:=by
      intro n o hl
      cases hq:look os n with
      |none=>rfl
      |some o'=>
       obtain⟨_,_,_,_,_,k1,_⟩:=q1 n o hl
       obtain⟨_,_,_,_,_,_,k2,_⟩:=p1 n o' hq
       simp at k2;omega
     refine⟨fun n o hl=> ?_,fun hp env hh he=>⟨?_,q2 hp env (fun n o hl=>hh n o (by
       show look (os++(iL (m+1) as).2) n=some o
       rw[bl (up n o hl)];exact hl)) fun i u' f' hu hf=> ?_⟩⟩
     ·have hl:look (os++(iL (m+1) as).2) n=some o:=hl
      cases hq:look os n with
      |some o'=>
       rw[bS hq]at hl
       simp only[oI]at hl
       subst hl
       obtain⟨t,l,u',f',k1,k2,k3,k4,k5,k6,k7⟩:=p1 n _ hq
       have h0:n-m=0:=by simp at k3;omega
       rw[h0]at k4 k5 ⊢
       simp at k4 k5
       subst k4;subst k5
       exact⟨t,l,u,f,k1,k2,by simp,by simp,k7⟩
      |none=>
       rw[bl hq]at hl
       obtain⟨t,l,u',f',k1,k2,k3,k4,k5⟩:=q1 n o hl
       have e:n-m=(n-(m+1))+1:=by omega
       exact⟨t,l,u',f',k1,by omega,by rw[e];simpa using k3,by rw[e];simpa using k4,k5⟩
     ·have:=p2 hp env (fun n o hl=>hh n o (bS hl)) (fun i u' f' hu hf=>by
       match i with
       |0=>exact he 0 u' f' (by simpa using hu) (by simpa using hf)
       |i+1=>simp at hu)
      exact this.1
     ·have:=he (i+1) u' f' (by simpa using hu) (by simpa using hf)
      rwa [show m+(i+1)=m+1+i by omega]at this
 | .agg l::as,u::us,bn,m,⟨cs,f,g,e1,h1,h2,e⟩=>by
   subst e;subst e1
   have hc:(Value.agg cs.toArray).cells.toList=cs:=by simp[Value.cells]
   obtain⟨p1,p2⟩:=AK m h1
   obtain⟨q1,q2⟩:=AL (m+l.length) h2
   obtain⟨n1,n2⟩:=RF.len h1
   rw[List.flatMap_cons,hc]
   have up: ∀n o,look (iL (m+l.length) as).2 n=some o→look (iX m l).2 n=none:=by
    intro n o hl
    cases hq:look (iX m l).2 n with
    |none=>rfl
    |some o'=>
     obtain⟨_,_,_,_,_,k1,_⟩:=q1 n o hl
     obtain⟨_,_,_,_,_,_,k2,_⟩:=p1 n o' hq
     omega
   refine⟨fun n o hl=> ?_,fun hp env hh he=>⟨⟨cs,rfl,?_⟩,q2 hp env (fun n o hl=>hh n o (by
     show look ((iX m l).2++(iL (m+l.length) as).2) n=some o
     rw[bl (up n o hl)];exact hl)) fun i u' f' hu hf=> ?_⟩⟩
   ·have hl:look ((iX m l).2++(iL (m+l.length) as).2) n=some o:=hl
    cases hq:look (iX m l).2 n with
    |some o'=>
     rw[bS hq]at hl
     simp only[oI]at hl
     subst hl
     obtain⟨t,l',u',f',k1,k2,k3,k4,k5,k6,k7⟩:=p1 n _ hq
     exact⟨t,l',u',f',k1,k2,by rw[List.getElem?_append_left (by omega)];exact k4,by rw[List.getElem?_append_left (by omega)];exact k5,k7⟩
    |none=>
     rw[bl hq]at hl
     obtain⟨t,l',u',f',k1,k2,k3,k4,k5⟩:=q1 n o hl
     have e:n-m-l.length=n-(m+l.length):=by omega
     exact⟨t,l',u',f',k1,by omega,by rw[List.getElem?_append_right (by omega),n1,e];exact k3,by rw[List.getElem?_append_right (by omega),n2,e];exact k4,k5⟩
   ·exact p2 hp env (fun n o hl=>hh n o (bS hl)) (fun i u' f' hu hf=>he i u' f'
     (by rw[List.getElem?_append_left (List.getElem?_eq_some_iff.1 hu).1];exact hu)
     (by rw[List.getElem?_append_left (List.getElem?_eq_some_iff.1 hf).1];exact hf))
   ·have:=he (l.length+i) u' f' (by rw[List.getElem?_append_right (by omega),n1,show l.length+i-l.length=i by omega];exact hu)
     (by rw[List.getElem?_append_right (by omega),n2,show l.length+i-l.length=i by omega];exact hf)
    rwa [show m+(l.length+i)=m+l.length+i by omega]at this
 | [],_::_,_,_,h=>h.elim
 | .a _::_,[],_,_,h=>h.elim
 | .agg _::_,[],_,_,h=>h.elim
theorem sQ.nodup: ∀{fs gs:List (List Nat)},sQ fs gs→gs.flatten.Nodup→(∀f,f∈fs→f.Nodup)→fs.flatten.Nodup∧ ∀b,b∈fs.flatten→b∈gs.flatten
 | [],[],_,_,_=>⟨by simp,by simp⟩
 |f::fs,g::gs,⟨h1,h2⟩,hn,hf=>by
  rw[List.flatten_cons]at hn
  obtain⟨_,n2,n3⟩:=List.nodup_append.1 hn
  obtain⟨q1,q2⟩:=sQ.nodup h2 n2 (fun f hm=>hf f (List.mem_cons_of_mem _ hm))
  refine⟨?_,fun b hb=> ?_⟩
  ·rw[List.flatten_cons]
   exact List.nodup_append.2 ⟨hf f (by simp),q1,fun b hb c hc e=>n3 b (h1 b hb) c (q2 c hc) e⟩
  ·rw[List.flatten_cons]at hb ⊢
   rcases List.mem_append.1 hb with hb|hb
   ·exact List.mem_append_left _ (h1 b hb)
   ·exact List.mem_append_right _ (q2 b hb)
 | [],_::_,h,_,_=>h.elim
 |_::_,[],h,_,_=>h.elim
theorem sQ.app: ∀{a b c d:List (List Nat)},sQ a b→sQ c d→sQ (a++c) (b++d)
 | [],[],_,_,_,h=>h
 |_::_,_::_,_,_,⟨h1,h2⟩,h=>⟨h1,sQ.app h2 h⟩
 | [],_::_,_,_,h,_=>h.elim
 |_::_,[],_,_,h,_=>h.elim
section
variable{zb:cL}{st:St}{tmps:Array Value}{w0 w:World}{env:Env}
theorem zq(g:Good ty zb st tmps w env): ∀{vs vs':List V} {us:List Value} {bn:List (List Nat)} {vc:List Prop} (m:Nat),gT m=true→dW st m vs vs'=some vc→(∀q,q∈vc→q)→RF w0 vs us bn→
  (∀i u f,us[i]? =some u→bn[i]? =some f→zb.pv (m+i)=⟨u,f⟩)→ ∃jI,RF w vs' us jI∧sQ jI bn∧ ∀f,f∈jI→Own 0 w f
 | [],[],[],bn,vc,m,_,_,_,h,_=>⟨[],rfl,by rw[show bn= []from h];trivial,by simp⟩
 | .sl t l::r, .sl t' l'::s,u::us,bn,vc,m,hm,hh,hv,⟨f,fr,h1,h2,e⟩,hz=>by
   subst e
   simp only[dW]at hh
   split at hh
   ·rename_i t2 l2 vcs hl hr
    split at hh
    ·rename_i l3 hc
     simp only[oI]at hh
     subst hh
     obtain⟨e,rfl⟩:=c8 hc
     subst e
     have e2:l2=l':=hv _ (by simp)
     subst e2
     obtain⟨jI,q1,q2,q3⟩:=zq g (m+1) (by unfold gT at hm ⊢;exact Nat.ble_eq_true_of_le (Nat.le_succ_of_le (Nat.le_of_ble_eq_true hm))) hr (fun q hq=>hv q (List.mem_cons_of_mem _ hq)) h2 (fun i u' f' hu hf=>by
      have:=hz (i+1) u' f' (by simpa using hu) (by simpa using hf)
      rwa [show m+(i+1)=m+1+i by omega]at this)
     have hp:=hz 0 u f (by simp) (by simp)
     rw[Nat.add_zero]at hp
     obtain⟨k1,k2⟩:=g.pins m hm
     rw[hp]at k1 k2
     have hro:=g.obj m _ hl
     refine⟨(env m).fp::jI,⟨_,_,?_,q1,rfl⟩,⟨k2,q2⟩,?_⟩
     ·have:=RO.sl hro
      rw[k1]at this
      exact this
     ·intro f' hf'
      rcases List.mem_cons.1 hf' with rfl|hf'
      ·exact RO.own hro
      ·exact q3 f' hf'
    ·cases hh
   ·cases hh
 | .lit x::r, .lit x'::s,u::us,bn,vc,m,hm,hh,hv,⟨f,fr,h1,h2,e⟩,hz=>by
   subst e
   simp only[dW]at hh
   split at hh
   ·rename_i vcs hr
    simp only[oI]at hh
    subst hh
    have e2:x=x':=hv _ (by simp)
    subst e2
    obtain⟨jI,q1,q2,q3⟩:=zq g (m+1) (by unfold gT at hm ⊢;exact Nat.ble_eq_true_of_le (Nat.le_succ_of_le (Nat.le_of_ble_eq_true hm))) hr (fun q hq=>hv q (List.mem_cons_of_mem _ hq)) h2 (fun i u' f' hu hf=>by
     have:=hz (i+1) u' f' (by simpa using hu) (by simpa using hf)
     rwa [show m+(i+1)=m+1+i by omega]at this)
    refine⟨[]::jI,⟨_,_,⟨h1.1,h1.2.1,rfl⟩,q1,rfl⟩,⟨by simp,q2⟩,?_⟩
    intro f' hf'
    rcases List.mem_cons.1 hf' with rfl|hf'
    ·exact Own.nil _ _
    ·exact q3 f' hf'
   ·cases hh
 | [],_::_,_,_,_,_,_,hh,_,_,_=>by simp[dW]at hh
 | .sl _ _::_,[],_,_,_,_,_,hh,_,_,_=>by simp[dW]at hh
 | .sl _ _::_, .lit _::_,_,_,_,_,_,hh,_,_,_=>by simp[dW]at hh
 | .sl _ _::_, .any::_,_,_,_,_,_,hh,_,_,_=>by simp[dW]at hh
 | .sl _ _::_, .own _::_,_,_,_,_,_,hh,_,_,_=>by simp[dW]at hh
 | .sl _ _::_, .ptr _ _::_,_,_,_,_,_,hh,_,_,_=>by simp[dW]at hh
 | .sl _ _::_, .kE _ _ _::_,_,_,_,_,_,hh,_,_,_=>by simp[dW]at hh
 | .sl _ _::_, .ip _ _ _::_,_,_,_,_,_,hh,_,_,_=>by simp[dW]at hh
 | .sl _ _::_, .vw _ _ _ _::_,_,_,_,_,_,hh,_,_,_=>by simp[dW]at hh
 | .sl _ _::_, .yH _ _ _ _ _::_,_,_,_,_,_,hh,_,_,_=>by simp[dW]at hh
 | .sl _ _::_, .yI _ _ _::_,_,_,_,_,_,hh,_,_,_=>by simp[dW]at hh
 | .sl _ _::_, .mix _ _ _ _::_,_,_,_,_,_,hh,_,_,_=>by simp[dW]at hh
 | .sl _ _::_, .pW _::_,_,_,_,_,_,hh,_,_,_=>by simp[dW]at hh
 | .sl _ _::_, .yf _ _::_,_,_,_,_,_,hh,_,_,_=>by simp[dW]at hh
 | .sl _ _::_, .oA _::_,_,_,_,_,_,hh,_,_,_=>by simp[dW]at hh
 | .sl _ _::_, .raw _::_,_,_,_,_,_,hh,_,_,_=>by simp[dW]at hh
 | .sl _ _::_, .eF _ _ _::_,_,_,_,_,_,hh,_,_,_=>by simp[dW]at hh
 | .lit _::_,[],_,_,_,_,_,hh,_,_,_=>by simp[dW]at hh
 | .lit _::_, .sl _ _::_,_,_,_,_,_,hh,_,_,_=>by simp[dW]at hh
 | .lit _::_, .any::_,_,_,_,_,_,hh,_,_,_=>by simp[dW]at hh
 | .lit _::_, .own _::_,_,_,_,_,_,hh,_,_,_=>by simp[dW]at hh
 | .lit _::_, .ptr _ _::_,_,_,_,_,_,hh,_,_,_=>by simp[dW]at hh
 | .lit _::_, .kE _ _ _::_,_,_,_,_,_,hh,_,_,_=>by simp[dW]at hh
 | .lit _::_, .ip _ _ _::_,_,_,_,_,_,hh,_,_,_=>by simp[dW]at hh
 | .lit _::_, .vw _ _ _ _::_,_,_,_,_,_,hh,_,_,_=>by simp[dW]at hh
 | .lit _::_, .yH _ _ _ _ _::_,_,_,_,_,_,hh,_,_,_=>by simp[dW]at hh
 | .lit _::_, .yI _ _ _::_,_,_,_,_,_,hh,_,_,_=>by simp[dW]at hh
 | .lit _::_, .mix _ _ _ _::_,_,_,_,_,_,hh,_,_,_=>by simp[dW]at hh
 | .lit _::_, .pW _::_,_,_,_,_,_,hh,_,_,_=>by simp[dW]at hh
 | .lit _::_, .yf _ _::_,_,_,_,_,_,hh,_,_,_=>by simp[dW]at hh
 | .lit _::_, .oA _::_,_,_,_,_,_,hh,_,_,_=>by simp[dW]at hh
 | .lit _::_, .raw _::_,_,_,_,_,_,hh,_,_,_=>by simp[dW]at hh
 | .lit _::_, .eF _ _ _::_,_,_,_,_,_,hh,_,_,_=>by simp[dW]at hh
 | .any::_,_,_,_,_,_,_,hh,_,_,_=>by simp[dW]at hh
 | .own _::_,_,_,_,_,_,_,hh,_,_,_=>by simp[dW]at hh
 | .ptr _ _::_,_,_,_,_,_,_,hh,_,_,_=>by simp[dW]at hh
 | .kE _ _ _::_,_,_,_,_,_,_,hh,_,_,_=>by simp[dW]at hh
 | .ip _ _ _::_,_,_,_,_,_,_,hh,_,_,_=>by simp[dW]at hh
 | .vw _ _ _ _::_,_,_,_,_,_,_,hh,_,_,_=>by simp[dW]at hh
 | .yH _ _ _ _ _::_,_,_,_,_,_,_,hh,_,_,_=>by simp[dW]at hh
 | .yI _ _ _::_,_,_,_,_,_,_,hh,_,_,_=>by simp[dW]at hh
 | .mix _ _ _ _::_,_,_,_,_,_,_,hh,_,_,_=>by simp[dW]at hh
 | .pW _::_,_,_,_,_,_,_,hh,_,_,_=>by simp[dW]at hh
 | .yf _ _::_,_,_,_,_,_,_,hh,_,_,_=>by simp[dW]at hh
 | .oA _::_,_,_,_,_,_,_,hh,_,_,_=>by simp[dW]at hh
 | .raw _::_,_,_,_,_,_,_,hh,_,_,_=>by simp[dW]at hh
 | .eF _ _ _::_,_,_,_,_,_,_,hh,_,_,_=>by simp[dW]at hh
 |_::_,_,[],_,_,_,_,_,_,h,_=>h.elim
 | [],[],_::_,_,_,_,_,_,_,h,_=>h.elim
theorem RF.one{w:World}{v:V}{u:Value}{bn:List (List Nat)}(h:RF w [v] [u] bn): ∃f,RI w v u f∧bn= [f]:=by
 obtain⟨f,g,h1,h2,h3⟩:=h
 exact⟨f,h1,by rw[h3,show g= []from h2]⟩
theorem Ef(g:Good ty zb st tmps w env): ∀{as as':List S1} {us:List Value} {bn:List (List Nat)} {vc:List Prop} (m:Nat),gT m=true→AI st m as as'=some vc→(∀q,q∈vc→q)→nJ w0 as us bn→
  (∀i u f,(us.flatMap fun u=>u.cells.toList)[i]? =some u→bn[i]? =some f→zb.pv (m+i)=⟨u,f⟩)→ ∃jI,nJ w as' us jI∧sQ jI bn∧ ∀f,f∈jI→Own 0 w f
 | [],[],[],bn,vc,m,_,_,_,h,_=>⟨[],rfl,by rw[show bn= []from h];trivial,by simp⟩
 | .a v::r, .a v'::s,u::us,bn,vc,m,hm,hh,hv,⟨f,fr,h1,h2,e⟩,hz=>by
   subst e
   have hc:u.cells.toList= [u]:=by rw[h1.cells]
   rw[List.flatMap_cons,hc]at hz
   simp only[AI]at hh
   split at hh
   ·rename_i x y hx hy
    simp only[oI]at hh
    subst hh
    obtain⟨f1,p1,p2,p3⟩:=zq g m hm hx (fun q hq=>hv q (List.mem_append_left _ hq)) (show RF w0 [v] [u] [f]from ⟨f,[],h1,rfl,rfl⟩) (fun i u' f' hu hf=>by
     match i with
     |0=>exact hz 0 u' f' (by simpa using hu) (by simpa using hf)
     |i+1=>simp at hu)
    obtain⟨f2,rfl⟩: ∃f2,f1= [f2]:=by obtain⟨f2,_,h⟩:=RF.one p1;exact⟨f2,h⟩
    obtain⟨f3,p4,p5⟩:=RF.one p1
    simp only[List.cons.injEq,and_true]at p5
    subst p5
    obtain⟨jI,q1,q2,q3⟩:=Ef g (m+1) (by unfold gT at hm ⊢;exact Nat.ble_eq_true_of_le (Nat.le_succ_of_le (Nat.le_of_ble_eq_true hm))) hy (fun q hq=>hv q (List.mem_append_right _ hq)) h2 (fun i u' f' hu hf=>by
     have:=hz (i+1) u' f' (by simpa using hu) (by simpa using hf)
     rwa [show m+(i+1)=m+1+i by omega]at this)
    refine⟨f2::jI,⟨_,_,p4,q1,rfl⟩,⟨p2.1,q2⟩,?_⟩
    intro f' hf'
    rcases List.mem_cons.1 hf' with rfl|hf'
    ·exact p3 _ (by simp)
    ·exact q3 f' hf'
   ·cases hh
 | .agg l::r, .agg l'::s,u::us,bn,vc,m,hm,hh,hv,⟨cs,f,fr,e1,h1,h2,e⟩,hz=>by
   subst e;subst e1
   have hc:(Value.agg cs.toArray).cells.toList=cs:=by simp[Value.cells]
   obtain⟨n1,n2⟩:=RF.len h1
   rw[List.flatMap_cons,hc]at hz
   simp only[AI]at hh
   split at hh
   ·rename_i x y hx hy
    simp only[oI]at hh
    subst hh
    obtain⟨f1,p1,p2,p3⟩:=zq g m hm hx (fun q hq=>hv q (List.mem_append_left _ hq)) h1 (fun i u' f' hu hf=>hz i u' f'
     (by rw[List.getElem?_append_left (List.getElem?_eq_some_iff.1 hu).1];exact hu)
     (by rw[List.getElem?_append_left (List.getElem?_eq_some_iff.1 hf).1];exact hf))
    obtain⟨jI,q1,q2,q3⟩:=Ef g (m+l.length) (by unfold gT at hm ⊢;exact Nat.ble_eq_true_of_le (Nat.le_trans (Nat.le_of_ble_eq_true hm) (Nat.le_add_right _ _))) hy (fun q hq=>hv q (List.mem_append_right _ hq)) h2 (fun i u' f' hu hf=>by
     have:=hz (l.length+i) u' f' (by rw[List.getElem?_append_right (by omega),n1,show l.length+i-l.length=i by omega];exact hu)
      (by rw[List.getElem?_append_right (by omega),n2,show l.length+i-l.length=i by omega];exact hf)
     rwa [show m+(l.length+i)=m+l.length+i by omega]at this)
    refine⟨f1++jI,⟨cs,f1,jI,rfl,p1,q1,rfl⟩,sQ.app p2 q2,?_⟩
    intro f' hf'
    rcases List.mem_append.1 hf' with hf'|hf'
    ·exact p3 _ hf'
    ·exact q3 f' hf'
   ·cases hh
 | [],_::_,_,_,_,_,_,hh,_,_,_=>by simp[AI]at hh
 | .a _::_,[],_,_,_,_,_,hh,_,_,_=>by simp[AI]at hh
 | .agg _::_,[],_,_,_,_,_,hh,_,_,_=>by simp[AI]at hh
 | .a _::_, .agg _::_,_,_,_,_,_,hh,_,_,_=>by simp[AI]at hh
 | .agg _::_, .a _::_,_,_,_,_,_,hh,_,_,_=>by simp[AI]at hh
 | .a _::_,_,[],_,_,_,_,_,_,h,_=>h.elim
 | .agg _::_,_,[],_,_,_,_,_,_,h,_=>h.elim
 | [],[],_::_,_,_,_,_,_,_,h,_=>h.elim
end
theorem wV: ∀{as:List S1} (m:Nat),(iL m as).1.length=as.length
 | [],_=>rfl
 | .a v::r,m=>by
   have:=wV (as:=r) (m+1)
   have h2:=wU (vs:= [v]) m
   simp only[iL]
   generalize iX m [v]=x at h2 ⊢
   obtain⟨xs,os⟩:=x
   match xs,h2 with
   | [v'],_=>simp[this]
 | .agg l::r,m=>by
   have:=wV (as:=r) (m+l.length)
   simp[iL,this]
theorem WN{bn:List (List Nat)}(h:bn.flatten.Nodup){i j:Nat}{f f':List Nat}(hi:bn[i]? =some f)(hj:bn[j]? =some f')(hne:i≠j): ∀b,b∈f→b∉f':=by
 induction bn generalizing i j with
 |nil=>simp at hi
 |cons g r ih=>
  rw[List.flatten_cons]at h
  obtain⟨_,n2,n3⟩:=List.nodup_append.1 h
  intro b hb hb'
  cases i with
  |zero=>
   cases j with
   |zero=>exact hne rfl
   |succ j=>
    simp at hi hj
    subst hi
    exact n3 b hb b (List.mem_flatten.2 ⟨f',List.mem_of_getElem? hj,hb'⟩) rfl
  |succ i=>
   cases j with
   |zero=>
    simp at hi hj
    subst hj
    exact n3 b hb' b (List.mem_flatten.2 ⟨f,List.mem_of_getElem? hi,hb⟩) rfl
   |succ j=>exact ih n2 (by simpa using hi) (by simpa using hj) (by omega) b hb hb'
def Eg(us:List Value)(bn:List (List Nat)):Nat→CO:=fun n=>match look (F1 1000 (us.flatMap fun u=>u.cells.toList) bn) n with|some c=>c|none=>⟨.tuple #[],[]⟩
theorem WO{as:List S1}{us:List Value}{bn:List (List Nat)}{w:World}{n:Nat}(hA:zj w)(hL: ∀b,Fi b→b∉bn.flatten)(ha:nJ w as us bn)(ho:Own 0 w bn.flatten)(hn:as.length≤n):
  Inv ty ⟨w,bn.flatten,Eg us bn⟩ ⟨n,enter 0 (iL 1000 as).1,(iL 1000 as).2⟩ {tmps:=us.toArray++Array.replicate (n-us.toArray.size) undef,defers:= []} w:=by
 obtain⟨q1,q2⟩:=AL 1000 ha
 have hpv: ∀i u f,(us.flatMap fun u=>u.cells.toList)[i]? =some u→bn[i]? =some f→Eg us bn (1000+i)=⟨u,f⟩:=by
  intro i u f hu hf
  unfold Eg
  rw[AJ hu hf]
 have hall:=q2 (iL 1000 as).2 (Eg us bn) (fun _ _ h=>h) hpv
 have hl:=hall.len
 rw[wV]at hl
 have S2: ∀m o,look (iL 1000 as).2 m=some o→ ∃t l f,o= .arr t l∧1000≤m∧bn[m-1000]? =some f∧(Eg us bn m).fp=f∧Sl (kk t) (rd t) w (Eg us bn m).v l f:=by
  intro m o hm
  obtain⟨t,l,u,f,k1,k2,k3,k4,k5⟩:=q1 m o hm
  have h:=hpv _ _ _ k3 k4
  rw[show 1000+(m-1000)=m by omega]at h
  refine⟨t,l,f,k1,k2,k4,by rw[h],by rw[h];exact k5⟩
 refine⟨by simp;omega,rfl,Kept.refl _ _,⟨hA,hL⟩,Eg us bn,⟨?_,?_,?_,?_,fun n _=>⟨rfl,fun b hb=>hb⟩⟩⟩
 ·intro m o hm
  obtain⟨t,l,f,rfl,k2,k3,k4,k5⟩:=S2 m o hm
  have hp:gT m=true:=by unfold gT;exact Nat.ble_eq_true_of_le k2
  show jU ty w m t l _
  unfold jU
  rw[Fv hp]
  refine⟨by rw[k4];exact k5,?_⟩
  rw[k4]
  have hmem:=List.mem_of_getElem? k3
  exact⟨(List.pairwise_flatten.1 ho.nodup).1 f hmem,fun _ _=>Nat.zero_le _,fun b hb=>ho.kind b (List.mem_flatten.2 ⟨f,hmem,hb⟩)⟩
 ·intro m m' o o' hne hm hm' b hb hb'
  obtain⟨t,l,f,_,k2,k3,k4,_⟩:=S2 m o hm
  obtain⟨t',l',f',_,k2',k3',k4',_⟩:=S2 m' o' hm'
  rw[k4]at hb
  rw[k4']at hb'
  exact WN ho.nodup k3 k3' (by omega) b hb hb'
 ·intro s v hv
  obtain⟨x,rfl,_,hx⟩:=oS hv
  rw[Nat.sub_zero]at hx
  obtain⟨u,hu,hr⟩:=hall.at hx
  have hs:s<us.length:=(List.getElem?_eq_some_iff.1 hu).1
  have:(us.toArray++Array.replicate (n-us.toArray.size) undef).getD s undef=u:=by
   rw[Array.getD_eq_getD_getElem?,Array.getElem?_append_left (by simpa using hs)]
   simp[hu]
  show fD w _ _ x _
  rw[this]
  exact hr
 ·intro m o hm b hb
  obtain⟨t,l,f,_,k2,k3,k4,_⟩:=S2 m o hm
  rw[k4]at hb
  exact Or.inl (List.mem_flatten.2 ⟨f,List.mem_of_getElem? k3,hb⟩)
theorem wO.of{P:Program}{Γ:Nat→TK}(X:Ctx P ty Γ){f:FuncId}{fn:Func}{c:Code}{rv:ResultVar}{n:Nat}{as as':List S1}{v:Value}
  (AH: ∀(args:Array Value) (w:World),(callFunc f args).run P w= .ok (.enter f args) w)(hf:P.funcs[f]? =some fn)(hb:fn.body=some c)(hr:fn.results= [rv].toArray)(hn:fn.ntmps=n)(hlen:as.length≤n)
  (h: ∀zb,W P ty zb c (WM Γ rv as as' v) ⟨n,enter 0 (iL 1000 as).1,(iL 1000 as).2⟩):wO P f as as' v:=by
 refine⟨AH,fun w us bn hA hL ha ho=>calls_of_wp hf hb ?_⟩
 rw[hn]
 refine wp_mono (h _ _ w (WO (ty:=ty) hA hL ha ho hlen)) ?_
 rintro e a w' ⟨st,iv,he,vc,gV,hv⟩
 have key:a.defers= []∧ ∃v',(results fn a.tmps).run P w'= .ok v' w'∧ ∃jI,(Ending.returned v'= .returned v)∧Kept ⟨w,bn.flatten,fun _=>⟨v,[]⟩⟩ w w'∧nJ w' as' us jI∧Own 0 w' jI.flatten∧sQ jI bn:=by
  obtain⟨env,g⟩:=iv.good
  unfold Ox at gV
  split at gV
  ·rename_i v1 oL h1 h2
   simp only[oI]at gV
   subst gV
   have hx:qH Γ st [rv]=some [.a (.lit v1)]:=by simp[qH,h1]
   obtain⟨vs,k1,k2,k3⟩:=AG X.kind g hr hx (by simp)
   match vs,k1 with
   | [u],⟨k4,_⟩=>
     have hu:u=v1:=k4.1
     have hv1:v1=v:=hv.out _ (by simp)
     obtain⟨jI,q1,q2,q3⟩:=Ef g 1000 rfl h2 (fun q hq=>hv.out q (List.mem_cons_of_mem _ hq)) ha (fun i u f hu hf=>by
      show Eg us bn (1000+i)=_
      unfold Eg
      rw[AJ hu hf])
     obtain⟨r1,r2⟩:=sQ.nodup q2 ho.nodup (fun f hf=>(q3 f hf).nodup)
     refine⟨iv.defers,_,k3,jI,by rw[hu,hv1],⟨iv.kept.os,iv.kept.tape,iv.kept.output,iv.kept.size,iv.kept.block,iv.kept.shape⟩,q1,⟨r1,fun _ _=>Nat.zero_le _,fun b hb=> ?_⟩,q2⟩
     obtain⟨f,hf,hb⟩:=List.mem_flatten.1 hb
     exact(q3 f hf).kind b hb
  ·cases gV
 rcases he with rfl|rfl<;>exact key
end
section
variable{ty:Tag→Nat}
def Ph:V→V→Option (List Prop)
 |_, .any=>some []
 | .lit v, .lit u=>some [v=u]
 | .eF v t l, .eF u t' l'=>match gh t' t l with|some l2=>some [v=u,l2=l']|none=>none
 | .own n, .own m=>match Nat.beq n m with|true=>some []|false=>none
 | .ptr n o, .ptr m q=>match Nat.beq n m&&Nat.beq o q with|true=>some []|false=>none
 |_,_=>none
def qY:List V→List V→Option (List Prop)
 | [],[]=>some []
 |x::r,y::s=>match Ph x y,qY r s with|some vc,some vcs=>some (kT vc vcs)|_,_=>none
 |_,_=>none
def l6:Obj→Obj→Option (List Prop)
 | .arr t l, .arr t' l'=>match gh t' t l with|some l2=>some [l2=l']|none=>none
 | .box c, .box d=>qY c d
 |_,_=>none
def EB(hp:Hp):Hp→Option (List Prop)
 | []=>some []
 | (n,o)::r=>match look hp n with
   |some x=>match l6 x o,EB hp r with|some vc,some vcs=>some (kT vc vcs)|_,_=>none
   |none=>none
def EC:S1→S1→Option (List Prop)
 | .a v, .a u=>qY [v] [u]
 | .agg l, .agg m=>qY l m
 |_,_=>none
def xu:List S1→List S1→Option (List Prop)
 | [],[]=>some []
 |x::r,y::s=>match EC x y,xu r s with|some vc,some vcs=>some (kT vc vcs)|_,_=>none
 |_,_=>none
def J9(Γ:Nat→TK)(st:St)(pY:List ResultVar)(eM:Hp)(rs:List S1):Option (List Prop):=
 match qH Γ st pY with
 |some xs=>match xu xs rs,EB st.hp eM with
  |some vc,some vcs=>some (kT vc vcs)
  |_,_=>none
 |none=>none
def Xm(Γ:Nat→TK)(pY:List ResultVar)(eM:Hp)(rs:List S1):Post:=fun e st=>(e= .ret∨e= .normal)∧ ∃vc,J9 Γ st pY eM rs=some vc∧kW vc
theorem aW{Γ:Nat→TK}{pY:List ResultVar}{eM:Hp}{rs:List S1}{st:St}{vc:List Prop}(h:J9 Γ st pY eM rs=some vc)(hv:kW vc):Xm Γ pY eM rs .ret st:=⟨.inl rfl,vc,h,hv⟩
theorem ED{Γ:Nat→TK}{pY:List ResultVar}{eM:Hp}{rs:List S1}{st:St}{vc:List Prop}(h:J9 Γ st pY eM rs=some vc)(hv:kW vc):Xm Γ pY eM rs .normal st:=⟨.inr rfl,vc,h,hv⟩
def okT(eM:Hp)(rs:List S1):Bool:=(rs.all (oQ eM))&&(eM.all fun e=>vi eM e.2)&&gG eM
section
variable{P:Program}{zb:cL}{st:St}{a:Act}{w:World}{env:Env}
theorem Bn{x o:Obj}{vc:List Prop}(h:l6 x o=some vc):(∀t l,x= .arr t l→ ∃t' l',o= .arr t' l')∧ ∀c,x= .box c→ ∃d,o= .box d:=by
 cases x<;>cases o<;>simp[l6]at h ⊢
theorem Bo{hp:Hp}: ∀{eM:Hp} {vc:List Prop},EB hp eM=some vc→(∀q,q∈vc→q)→ ∀n o,(n,o)∈eM→ ∃x v1,look hp n=some x∧l6 x o=some v1∧ ∀q,q∈v1→q
 | (k,y)::r,vc,h,hv,n,o,hm=>by
   simp only[EB]at h
   split at h
   ·rename_i x hx
    split at h
    ·rename_i v1 v2 h1 h2
     simp only[oI,dJ]at h
     subst h
     rcases List.mem_cons.1 hm with h'|h'
     ·simp only[pI]at h'
      obtain⟨rfl,rfl⟩:=h'
      exact⟨x,v1,hx,h1,fun q hq=>hv q (List.mem_append_left _ hq)⟩
     ·exact Bo h2 (fun q hq=>hv q (List.mem_append_right _ hq)) n o h'
    ·cases h
   ·cases h
theorem Pj{hp eM:Hp}(hT: ∀n o,look eM n=some o→ ∃x v1,look hp n=some x∧l6 x o=some v1){x y:V}{u:Value}{vc:List Prop}(hr:RA w hp env x u)(h:Ph x y=some vc)(hv: ∀q,q∈vc→q)(hn:kY eM y=true):RA w eM env y u:=by
 unfold Ph at h
 split at h
 ·trivial
 ·simp only[oI]at h
  subst h
  have e:=hv _ (List.mem_singleton.2 rfl)
  subst e
  exact hr
 ·split at h
  ·rename_i l2 hc
   simp only[oI]at h
   subst h
   have e1:=hv _ (List.mem_cons_self ..)
   have e2:=hv _ (List.mem_cons_of_mem _ (List.mem_singleton.2 rfl))
   obtain⟨et,rfl⟩:=c8 hc
   subst et
   subst e1;subst e2
   obtain⟨hu,fp,h1,h2⟩:=hr
   refine⟨hu,fp,h1,fun b hb ho=>h2 b hb ?_⟩
   obtain⟨n,o,q1,q2⟩:=ho
   obtain⟨x,_,p1,_⟩:=hT n o q1
   exact⟨n,x,p1,q2⟩
  ·cases h
 ·rename_i n m
  split at h
  ·rename_i hb
   have hb:=Nat.eq_of_beq_eq_true hb
   subst hb
   obtain⟨⟨t,l,hl⟩,hu⟩:=hr
   have hno:=rV hn n rfl
   cases hq:look eM n with
   |none=>exact absurd hq hno
   |some o=>
    obtain⟨x,v1,h1,h2⟩:=hT n o hq
    rw[hl]at h1
    simp only[oI]at h1
    subst h1
    obtain⟨t',l',rfl⟩:=(Bn h2).1 t l rfl
    exact⟨⟨t',l',hq⟩,hu⟩
  ·cases h
 ·rename_i n o m q
  split at h
  ·rename_i hb
   simp only[Bool.and_eq_true]at hb
   have bt:=Nat.eq_of_beq_eq_true hb.1
   have bY:=Nat.eq_of_beq_eq_true hb.2
   subst bt;subst bY
   obtain⟨⟨c,hl⟩,hu⟩:=hr
   have hno:=rV hn n rfl
   cases hq:look eM n with
   |none=>exact absurd hq hno
   |some z=>
    obtain⟨x,v1,h1,h2⟩:=hT n z hq
    rw[hl]at h1
    simp only[oI]at h1
    subst h1
    obtain⟨d,rfl⟩:=(Bn h2).2 c rfl
    exact⟨⟨d,hq⟩,hu⟩
  ·cases h
 ·cases h
theorem sE{hp eM:Hp}(hT: ∀n o,look eM n=some o→ ∃x v1,look hp n=some x∧l6 x o=some v1): ∀{xs ys:List V} {us:List Value} {vc:List Prop},bH (RA w hp env) xs us→qY xs ys=some vc→(∀q,q∈vc→q)→(∀y,y∈ys→kY eM y=true)→bH (RA w eM env) ys us
 | [],ys,us,vc,hr,h,_,_=>by
   cases ys with
   |nil=>
    cases us with
    |nil=>trivial
    |cons _ _=>exact hr.elim
   |cons _ _=>simp[qY]at h
 |x::r,ys,us,vc,hr,h,hv,hn=>by
  cases us with
  |nil=>exact hr.elim
  |cons u us=>
   cases ys with
   |nil=>simp[qY]at h
   |cons y s=>
    simp only[qY]at h
    split at h
    ·rename_i v1 v2 h1 h2
     simp only[oI,dJ]at h
     subst h
     exact⟨Pj hT hr.1 h1 (fun q hq=>hv q (List.mem_append_left _ hq)) (hn y (by simp)),sE hT hr.2 h2 (fun q hq=>hv q (List.mem_append_right _ hq)) (fun z hz=>hn z (List.mem_cons_of_mem _ hz))⟩
    ·cases h
theorem L4{hp eM:Hp}(hT: ∀n o,look eM n=some o→ ∃x v1,look hp n=some x∧l6 x o=some v1){x y:S1}{u:Value}{vc:List Prop}(hr:fD w hp env x u)(h:EC x y=some vc)(hv: ∀q,q∈vc→q)(hn:oQ eM y=true):fD w eM env y u:=by
 cases x with
 |a v=>
  cases y with
  |a v'=>
   have:=sE hT (xs:= [v]) (us:= [u]) ⟨hr,trivial⟩ h hv (fun z hz=>by rw[List.mem_singleton.1 hz];exact hn)
   exact this.1
  |agg _=>simp[EC]at h
 |agg l=>
  cases y with
  |a v'=>simp[EC]at h
  |agg m=>
   obtain⟨cs,rfl,hl⟩:=hr
   exact⟨cs,rfl,sE hT hl h hv (fun z hz=>List.all_eq_true.1 hn z hz)⟩
theorem Df{hp eM:Hp}(hT: ∀n o,look eM n=some o→ ∃x v1,look hp n=some x∧l6 x o=some v1): ∀{xs ys:List S1} {us:List Value} {vc:List Prop},bH (fD w hp env) xs us→xu xs ys=some vc→(∀q,q∈vc→q)→(∀y,y∈ys→oQ eM y=true)→bH (fD w eM env) ys us
 | [],ys,us,vc,hr,h,_,_=>by
   cases ys with
   |nil=>
    cases us with
    |nil=>trivial
    |cons _ _=>exact hr.elim
   |cons _ _=>simp[xu]at h
 |x::r,ys,us,vc,hr,h,hv,hn=>by
  cases us with
  |nil=>exact hr.elim
  |cons u us=>
   cases ys with
   |nil=>simp[xu]at h
   |cons y s=>
    simp only[xu]at h
    split at h
    ·rename_i v1 v2 h1 h2
     simp only[oI,dJ]at h
     subst h
     exact⟨L4 hT hr.1 h1 (fun q hq=>hv q (List.mem_append_left _ hq)) (hn y (by simp)),Df hT hr.2 h2 (fun q hq=>hv q (List.mem_append_right _ hq)) (fun z hz=>hn z (List.mem_cons_of_mem _ hz))⟩
    ·cases h
end
theorem Xn{as:List S1}{us:List Value}{w:World}{env:Env}{gH:Hp}{n:Nat}(hA:zj w)(hL: ∀b,Fi b→b∉vf gH env)(hG:FO ty w gH env)(ha:bH (fD w gH env) as us)(hn:as.length≤n):
  Inv ty ⟨w,vf gH env,env⟩ ⟨n,enter 0 as,gH⟩ {tmps:=us.toArray++Array.replicate (n-us.toArray.size) undef,defers:= []} w:=by
 have hl:=ha.len
 refine⟨by simp;omega,rfl,Kept.refl _ _,⟨hA,hL⟩,env,⟨hG.1,hG.2,fun s v hv=> ?_,fun n o h b hb=>Or.inl (List.mem_flatMap.2 ⟨_,dZ h,hb⟩),fun n _=>⟨rfl,fun b hb=>hb⟩⟩⟩
 obtain⟨x,rfl,_,hx⟩:=oS hv
 rw[Nat.sub_zero]at hx
 obtain⟨u,hu,hr⟩:=ha.at hx
 have hs:s<us.length:=(List.getElem?_eq_some_iff.1 hu).1
 have:(us.toArray++Array.replicate (n-us.toArray.size) undef).getD s undef=u:=by
  rw[Array.getD_eq_getD_getElem?,Array.getElem?_append_left (by simpa using hs)]
  simp[hu]
 show fD w gH env x _
 rw[this]
 exact hr
theorem cu{P:Program}{Γ:Nat→TK}(X:Ctx P ty Γ){f:FuncId}{fn:Func}{c:Code}{pY:List ResultVar}{n:Nat}{gH eM:Hp}{as rs:List S1}
  (AH: ∀(args:Array Value) (w:World),(callFunc f args).run P w= .ok (.enter f args) w)(hf:P.funcs[f]? =some fn)(hb:fn.body=some c)(hr:fn.results=pY.toArray)(hl:pY.length≤4)(hn:fn.ntmps=n)(hlen:as.length≤n)(hT:okT eM rs=true)
  (h: ∀zb,W P ty zb c (Xm Γ pY eM rs) ⟨n,enter 0 as,gH⟩):dK ty P f gH as eM rs:=by
 refine⟨AH,fun w env us hA hL hG ha=>calls_of_wp hf hb ?_⟩
 rw[hn]
 refine wp_mono (h _ _ w (Xn hA hL hG ha hlen)) ?_
 simp only[okT,Bool.and_eq_true,List.all_eq_true]at hT
 obtain⟨⟨t1,t2⟩,t3⟩:=hT
 rintro e a w' ⟨st,iv,he,vc,gV,hv⟩
 have key:a.defers= []∧ ∃v,(results fn a.tmps).run P w'= .ok v w'∧ ∃env' u,Ending.returned v= .returned u∧Kept ⟨w,vf gH env,env⟩ w w'∧FO ty w' eM env'∧
   (∀n o,look eM n=some o→ ∀b,b∈(env' n).fp→b∈vf gH env∨w.heap.size≤b)∧(∀n,gT n=true→(env' n).v=(env n).v∧ ∀b,b∈(env' n).fp→b∈(env n).fp)∧ZH w' eM env' rs u:=by
  obtain⟨env',g⟩:=iv.good
  unfold J9 at gV
  split at gV
  ·rename_i xs hx
   split at gV
   ·rename_i v1 v2 hm1 hm2
    simp only[oI,dJ]at gV
    subst gV
    have hv1: ∀q,q∈v1→q:=fun q hq=>hv.out q (List.mem_append_left _ hq)
    have hv2: ∀q,q∈v2→q:=fun q hq=>hv.out q (List.mem_append_right _ hq)
    obtain⟨vs,h1,h2,h3⟩:=AG X.kind g hr hx hl
    have hmem:=Bo hm2 hv2
    have hT: ∀n o,look eM n=some o→ ∃x v1,look st.hp n=some x∧l6 x o=some v1:=fun n o hl=>by
     obtain⟨x,v1,p1,p2,_⟩:=hmem n o (dZ hl)
     exact⟨x,v1,p1,p2⟩
    have hres:=Df hT h1 hm1 hv1 t1
    refine⟨iv.defers,_,h3,env',_,rfl,iv.kept,⟨fun n o hl=> ?_,fun n m o o' hne hl1 lI=> ?_⟩,fun n o hl b hb=> ?_,fun n hp=>g.pins n hp,?_⟩
    ·obtain⟨x,v1,p1,p2,p3⟩:=hmem n o (dZ hl)
     have hro:=g.obj n x p1
     cases x with
     |arr t l=>
      cases o with
      |box d=>simp[l6]at p2
      |fk t' l' s'=>simp[l6]at p2
      |arr t' l'=>
       simp only[l6]at p2
       split at p2
       ·rename_i l2 hc
        simp only[oI]at p2
        subst p2
        have e2:=p3 _ (List.mem_singleton.2 rfl)
        subst e2
        obtain⟨e,rfl⟩:=c8 hc
        subst e
        exact JJ (fun h=>h) hro
       ·cases p2
     |fk t l s=>cases o<;>simp[l6]at p2
     |box c=>
      cases o with
      |arr t' l'=>simp[l6]at p2
      |fk t' l' s'=>simp[l6]at p2
      |box d=>
       obtain⟨b,cs,e,q1,q2,q3⟩:=hro
       exact⟨b,cs,e,q1,q2,sE hT q3 p2 p3 (fun y hy=>List.all_eq_true.1 (t2 _ (dZ hl)) y hy)⟩
    ·obtain⟨x,_,p1,_⟩:=hT n o hl1
     obtain⟨y,_,p2,_⟩:=hT m o' lI
     exact g.iN n m x y hne p1 p2
    ·obtain⟨x,_,p1,_⟩:=hT n o hl
     exact g.dom n x p1 b hb
    ·match rs,vs,hres with
     | [r],[u],hres=>exact hres.1
     | [],[],hres=>exact⟨[],rfl,trivial⟩
     |r1::r2::r,u1::u2::u,hres=>exact⟨_,rfl,hres⟩
     | [],_::_,hres=>exact hres.elim
     |_::_,[],hres=>exact hres.elim
     | [_],_::_::_,hres=>exact hres.2.elim
     |_::_::_,[_],hres=>exact hres.2.elim
   ·cases gV
  ·cases gV
 rcases he with rfl|rfl<;>exact key
end
end Go.Proofs.YtkkfjbfkjbljiaaGreatDoor.G
