/-
  Contracts of functions that are lent memory: from the walk through their bodies.
-/
import Derived.Test.YtcnomgcfijjkmaaGreatR7
namespace Go.Proofs.YtcnomgcfijjkmaaGreat.G
set_option linter.all false
open Go.RowKit L D
section
variable{ty:Tag→Nat}
def Vp(hp:Hp)(n m:Nat)(t:Tag)(l:List (T t))(r:mO:= .kI):Hp:=(m, .dY t l r)::bE [n] [] hp
def Y8:S1→Option ((t:Tag)×List (T t)×mO)
 | .a (.sl t l)=>some ⟨t,l, .kI⟩
 | .a (.wL q t l)=>some ⟨t,l, .of q⟩
 |_=>none
def Ls:mO→mO→Nat→Bool
 | .kI, .kI,_=>true
 | .of q, .of q',n=>match Nat.beq q q',Nat.beq q n with|true,false=>true|_,_=>false
 |_,_,_=>false
theorem Lt{r r':mO}{n:Nat}(h:Ls r r' n=true):r=r'∧r.bf [n] []=r∧r.br:=by
 cases r with
 |gone=>cases r'<;>cases h
 |mp=>cases r'<;>cases h
 |As u=>cases r'<;>cases h
 |qB p=>cases r'<;>cases h
 |kI=>cases r' with
  |kI=>exact⟨rfl,rfl,trivial⟩
  |_=>cases h
 |of q=>cases r' with
  |of q'=>
   simp only[Ls]at h
   split at h
   ·rename_i h1 h2
    refine⟨by rw[Nat.eq_of_beq_eq_true h1],?_,trivial⟩
    simp[mO.bf,h2]
   ·cases h
  |_=>cases h
def FY(P:Program)(ty:Tag→Nat)(Γ:Nat→TK)(st:St)(m0:Nat):Op→Option (List Prop×St×SV)
 | .call ⟨.builtin .append,xs,ts⟩=>match xs.toList,ts.toList with
   | [s,x],[t1,t2]=>match Γ t1,Nat.beq t1 t2 with
     | .sl t e,true=>match Nat.beq e (ty t),Nat.beq (kk t) 1,ew st [] s,(ew st [] x).bind Y8 with
       |true,true,some (.a (.nK n)),some ⟨Y9,lx,r⟩=>match look st.hp n,eL t Y9 lx with
        |some (.dY t' l r'),some lx=>match eL t t' l,pinned [n],fu m0,look (bE [n] [] st.hp) m0,Ls r r' n with
         |some l,false,false,none,true=>some ([El P ty t,(l.length+lx.length)*dB t≤140737488355328∧l.length+lx.length≤maxLen],
           ⟨st.n,st.sl.map fun e=>(e.1,e.2.bf [n] []),Vp st.hp n m0 t (l++lx) r⟩, .one (.a (.nK m0)))
         |_,_,_,_,_=>none
        |_,_=>none
       |_,_,_,_=>none
     |_,_=>none
   |_,_=>none
 |_=>none
section
variable{P:Program}{zb:bP}{st st':St}{a:Act}{w:World}{env:Env}{Q:Exit→Act→World→Prop}{o:Oper}
theorem v7{α β:Type}(l:List α):(l.map fun _=>([]:List β)).flatten= []:=by
 induction l with
 |nil=>rfl
 |cons _ _ ih=>simpa using ih
theorem O5{Γ:Nat→TK}(C: ∀t,b7 P t (Γ t)){m0:Nat}{vc:List Prop}{v:SV}(h:FY P ty Γ st m0 o.op=some (vc,st',v))(g:Good ty zb st a.tmps w env)(hB:zb.w.heap.size≤w.heap.size)(hv: ∀q,q∈vc→q):
  o.wp P a w (fun a' w'=> ∃u env',a'=a.put o.dst u∧Kept zb w w'∧Good ty zb st' a.tmps w' env'∧st'.n=st.n∧lT w' st'.hp env' a.tmps v u) Q:=by
 have hop: ∀{x v},ew st [] x=some v→eC w st.hp env v (a.eval x):=fun hx=>dh g (fun e he=>by simp at he) hx
 generalize dL:o.op=op at h
 cases op with
 |call c=>
  obtain⟨callee,xs,ts⟩:=c
  cases callee with
  |builtin b=>
   cases b with
   |append=>
    simp only[FY]at h
    split at h
    case h_2=>cases h
    rename_i s x t1 t2 hxl htl
    obtain rfl:xs= #[s,x]:=by cases xs;simp_all
    obtain rfl:ts= #[t1,t2]:=by cases ts;simp_all
    split at h
    case h_2=>cases h
    rename_i t e hk ry
    have ry:=Nat.eq_of_beq_eq_true ry
    subst ry
    split at h
    case h_2=>cases h
    rename_i n Y9 Of r he hk1 hs hx
    have he:=Nat.eq_of_beq_eq_true he
    have hk1:=Nat.eq_of_beq_eq_true hk1
    split at h
    case h_2=>cases h
    rename_i t' l0 r' lx hl hcx
    split at h
    case h_2=>cases h
    rename_i l um hpk AB hlk hbk
    obtain⟨rfl,hkr,hmp⟩:=Lt hbk
    obtain⟨sx,U4,hx⟩:=Option.bind_eq_some_iff.1 hx
    simp only[oI,pI]at h
    obtain⟨rfl,rfl,rfl⟩:=h
    obtain⟨e1,rfl⟩:=ct hcx
    subst e1
    obtain⟨e2,rfl⟩:=ct um
    subst e2
    have oB:El P ty t':=hv _ (by simp)
    obtain⟨bz,bW⟩:(l0.length+Of.length)*dB t'≤140737488355328∧l0.length+Of.length≤maxLen:=hv _ (by simp)
    obtain⟨_,hu⟩:=hop hs
    obtain⟨fpx,Xr,Z6⟩: ∃fp,Sl (kk t') (rd t') w (a.eval x) Of fp∧ ∀(t:Tag) (y:T t) (u:Value) (f:List Nat),(∀b,b∈f→b∈fp)→rd t w [u] y f→BE w st.hp env r t y u:=by
     have hr:=hop U4
     unfold Y8 at hx
     split at hx
     ·simp only[oI,Sigma.mk.injEq]at hx
      obtain⟨rfl,hx⟩:=hx
      obtain⟨rfl,rfl⟩:=Prod.mk.inj (eq_of_heq hx)
      obtain⟨fp,h1,h2⟩:=hr
      exact⟨fp,h1,fun t y u f hf hr=>⟨f,hr,fun b hb=>h2 b (hf b hb)⟩⟩
     ·simp only[oI,Sigma.mk.injEq]at hx
      obtain⟨rfl,hx⟩:=hx
      obtain⟨rfl,rfl⟩:=Prod.mk.inj (eq_of_heq hx)
      obtain⟨h0,b0,fp,h1,h2,_,h3⟩:=hr
      refine⟨_,h1,fun t y u f hf hr=>⟨h0,f,hr,fun b hb=> ?_⟩⟩
      rcases List.mem_cons.1 (hf b hb)with rfl|h
      ·exact Or.inr h2
      ·exact Or.inl (h3 b h)
     ·cases hx
    obtain⟨_,us,Vq,FI,Rm⟩:KG ty w st.hp env t' l0 r (env n):=by
     rcases RO.AA (g.obj n _ hl)with⟨rfl,_⟩| ⟨u,rfl,_⟩| ⟨p,rfl,_⟩| ⟨_,h⟩
     ·exact hmp.elim
     ·exact hmp.elim
     ·exact hmp.elim
     ·exact h
    obtain⟨news,fx,n1,n2,n3,n4,n5⟩:=sQ (cF t') (eu t') Xr
    rw[hk1]at n3 n4
    have hC:=C t1
    rw[hk]at hC
    have hone: ∀(i:Nat) (y:Value),news[i]? =some y→y.oneCell'=true∧ ∀x,Of[i]? =some x→BE w st.hp env r t' x y:=by
     intro i y hy
     have hi:i<news.length:=(List.getElem?_eq_some_iff.1 hy).1
     have hx':Of[i]? =some (Of[i]'(by omega)):=List.getElem?_eq_getElem (by omega)
     have hf':fx[i]? =some (fx[i]'(by omega)):=List.getElem?_eq_getElem (by omega)
     have hr:=n4 i _ _ hx' hf'
     have Z7:(news.drop (i*1)).take 1= [y]:=by
      rw[Nat.mul_one,List.drop_eq_getElem_cons hi]
      have:news[i]=y:=(List.getElem?_eq_some_iff.1 hy).2
      rw[this];rfl
     rw[Z7]at hr
     refine⟨(cF t').one hr y (by simp),fun x hx=> ?_⟩
     rw[hx']at hx
     simp only[oI]at hx
     subst hx
     exact Z6 _ _ _ _ (fun b hb=>n5.subset (List.mem_flatten.2 ⟨_,List.getElem_mem _,hb⟩)) hr
    have Za:fZ 1 KF 0 (ty t') w (a.eval s) us (env n).fp:=by rw[hu];exact Vq
    have Kg:(P.info? (ty t')).map (fun i=>(i.zero,i.size,i.bytes))=some (some (dN t'),1,dB t'):=by rw[←hk1];exact oB
    refine BW s x t1 dL yj (by decide) 0 (ty t') (dN t') (dB t') (by rw[←he];exact hC.1) Kg (by rw[←hk1];exact ij t') _ us (env n).fp rfl Za _ rfl news news (news.map fun _=> [])
     (by rw[show news.length=Of.length by omega];exact n1) (by simp) (by omega) (fun i y f hy hf=> ?_) (by rw[v7,List.append_nil];exact Vq.own) (by rw[FI,show news.length=Of.length by omega];exact bW) (by rw[FI,show news.length=Of.length by omega];exact bz) (Nat.zero_le _) ?_
    ·have hi:i<news.length:=(List.getElem?_eq_some_iff.1 hy).1
     have XR:f= []:=by
      rw[List.getElem?_map,hy]at hf
      simpa using hf.symm
     subst XR
     refine⟨?_,rfl,(hone i y hy).1⟩
     rw[Nat.mul_one,List.drop_eq_getElem_cons hi]
     have:news[i]=y:=(List.getElem?_eq_some_iff.1 hy).2
     rw[this];rfl
    ·intro v' w' eR k1 k2 k3 k4 k5 _
     have Ci: ∀b,(a.eval s).ownBlock=some b→b∈(env n).fp:=by
      intro b hb
      obtain⟨xs,aO,_,_,_,eK,_⟩:=Za
      rw[eK,hb];simp
     obtain⟨env',hg',AD,_,_⟩:=uD (ty:=ty) g hB (ks:= [n]) hpk AB hlk (v:=a.eval s) (v':=v') (ob:= .dY t' (l0++Of) r) (fp:=(env n).fp) (fx:= []) (eR:=eR)
      (by
       intro b hb
       rw[List.append_nil]at hb
       exact⟨n,_,by simp,hl,hb⟩)
      Ci
      (by
       intro XS hd s2
       refine RO.KH hmp ⟨hk1,us++news,k1,by rw[List.length_append,List.length_append,FI];omega,fun i x u hx K0=> ?_⟩
       by_cases hi:i<l0.length
       ·rw[List.getElem?_append_left hi]at hx
        rw[List.getElem?_append_left (by omega)]at K0
        have O6:=BE.fA s2 (r:=r) (Rm i x u hx K0);rw[hkr]at O6;exact O6
       ·rw[List.getElem?_append_right (by omega)]at hx
        rw[List.getElem?_append_right (by omega),FI]at K0
        have O6:=BE.fA s2 (r:=r) ((hone _ u K0).2 x hx);rw[hkr]at O6;exact O6)
      k2 (by intro b hb;rcases k4 b hb with h|h|h
             ·exact Or.inl h
             ·rw[v7]at h;cases h
             ·exact Or.inr (Or.inr h))
     refine⟨v',env',rfl,⟨k2.os,k2.tape,k2.output,k2.size,fun b hb hn=>k2.block b (by omega) fun e=> ?_,k5⟩,hg',rfl,⟨t',_,_,look_eq⟩,AD.symm⟩
     rcases g.dom n _ hl b (Ci b e.symm)with h|h
     ·exact hn h
     ·omega
   |_=>simp[FY]at h
  |_=>simp[FY]at h
 |_=>simp[FY]at h
end
def Rr:Hp→Option (Nat×(t:Tag)×List (T t)×Value)
 | []=>none
 | (n, .dY t l (.As u))::_=>some (n,⟨t,l,u⟩)
 |_::r=>Rr r
def Lu(hp:Hp)(n:Nat)(t:Tag):Option (List (T t)×Value):=match look hp n with
 |some (.dY t' l (.As u))=>match eL t t' l with|some l=>some (l,u)|none=>none
 |_=>none
def XT(hp:Hp):Option Nat:=match Rr hp with|some (n,_)=>some n|none=>none
def O7(P:Program)(ty:Tag→Nat)(Γ:Nat→TK)(st:St)(m0:Nat):Op→Option (List Prop×St×SV)
 | .call ⟨.builtin .append,xs,ts⟩=>match xs.toList,ts.toList with
   | [s,x],[t1,t2]=>match Γ t1,Nat.beq t1 t2 with
     | .sl t e,true=>match Nat.beq e (ty t),ew st [] s,ew st [] x,XT st.hp with
       |true,some vs,some (.a (.raw u)),some n=>match Ck st t vs,Lu st.hp n t with
        |some (l,k),some (lx,u')=>match Bd k [n]&& !pinned (je k [n])&& !fu m0,look (bE (je k [n]) [] st.hp) m0 with
         |true,none=>some ([u=u',El P ty t,(l.length+lx.length)*dB t≤140737488355328∧l.length+lx.length≤maxLen],
           st.gone (je k [n]) m0 t (l++lx), .one (.a (.own m0)))
         |_,_=>none
        |_,_=>none
       |_,_,_,_=>none
     |_,_=>none
   |_,_=>none
 |_=>none
theorem Lv{zb:bP}{st:St}{tmps:Array Value}{w:World}{env:Env}(g:Good ty zb st tmps w env){t:Tag}{n:Nat}{l:List (T t)}{u:Value}(h:Lu st.hp n t=some (l,u)):
  ∃(news:List Value) (fx:List (List Nat)),Src w u l.length news∧fx.length=l.length∧news.length=l.length*kk t∧(∀i x f,l[i]? =some x→fx[i]? =some f→rd t w ((news.drop (i*kk t)).take (kk t)) x f)∧
   (∀b,b∈fx.flatten→ ∃i o,i∈ [n]∧look st.hp i=some o∧b∈(env i).fp)∧Own 0 w fx.flatten:=by
 unfold Lu at h
 split at h
 case h_2=>cases h
 rename_i t' l' u' hl
 split at h
 case h_2=>cases h
 rename_i l2 hc
 simp only[oI,pI]at h
 obtain⟨rfl,rfl⟩:=h
 obtain⟨e,rfl⟩:=ct hc
 subst e
 obtain⟨_,ho,fp,hs,h2⟩:DF w st.hp env t' l' u' (env n):=by
  rcases RO.AA (g.obj n _ hl)with⟨h,_⟩| ⟨u,h,hh⟩| ⟨p,h,_⟩| ⟨h,_⟩
  ·cases h
  ·cases h;exact hh
  ·cases h
  ·exact h.elim
 obtain⟨news,fx,h1,h3,h4,h5,h6,h7⟩:=lX (cF t') (eu t') hs
 have xK:fx.flatten=(env n).fp:=by
  rcases h2 with⟨rfl,h2⟩| ⟨b,rfl,_⟩
  ·rw[h2];exact List.sublist_nil.1 h6
  ·exact h7 b _ rfl
 exact⟨news,fx,h1,h3,h4,h5,fun b hb=>⟨n,_,by simp,hl,by rw[←xK];exact hb⟩,by rw[xK];exact ho⟩
section
variable{P:Program}{zb:bP}{st:St}{a:Act}{w:World}{env:Env}{Q:Exit→Act→World→Prop}{o:Oper}
theorem O8{Γ:Nat→TK}(C: ∀t,b7 P t (Γ t)){m0:Nat}{vc:List Prop}{st':St}{v:SV}(h:O7 P ty Γ st m0 o.op=some (vc,st',v))(g:Good ty zb st a.tmps w env)(hB:zb.w.heap.size≤w.heap.size)(hv: ∀q,q∈vc→q):
  o.wp P a w (fun a' w'=> ∃u env',a'=a.put o.dst u∧Kept zb w w'∧Good ty zb st' a.tmps w' env'∧st'.n=st.n∧lT w' st'.hp env' a.tmps v u) Q:=by
 have hop: ∀{x v},ew st [] x=some v→eC w st.hp env v (a.eval x):=fun hx=>dh g (fun e he=>by simp at he) hx
 generalize dL:o.op=op at h
 unfold O7 at h
 split at h
 case h_2=>cases h
 rename_i xs ts
 split at h
 case h_2=>cases h
 rename_i s x t1 t2 hxl htl
 obtain rfl:xs= #[s,x]:=by cases xs;simp_all
 obtain rfl:ts= #[t1,t2]:=by cases ts;simp_all
 split at h
 case h_2=>cases h
 rename_i t e hk ry
 have ry:=Nat.eq_of_beq_eq_true ry
 subst ry
 split at h
 case h_2=>cases h
 rename_i vs ux n he hs hx UB
 have he:=Nat.eq_of_beq_eq_true he
 split at h
 case h_2=>cases h
 rename_i l k lx u' hds U2
 split at h
 case h_2=>cases h
 rename_i hno hlk
 simp only[Bool.and_eq_true,Bool.not_eq_true']at hno
 obtain⟨⟨hno,hpk⟩,AB⟩:=hno
 rw[cO]at hpk
 have Sw:pinned k=false:=by
  unfold pinned at hpk ⊢
  rw[List.any_append,Bool.or_eq_false_iff]at hpk
  exact hpk.1
 simp only[oI,pI,cO]at h
 rw[cO]at hlk
 obtain⟨rfl,h2,rfl⟩:=h
 rw[St.gone_eq]at h2
 subst h2
 have Z8:ux=u':=hv _ (by simp)
 subst Z8
 have oB:El P ty t:=hv _ (by simp)
 obtain⟨bz,bW⟩:(l.length+lx.length)*dB t≤140737488355328∧l.length+lx.length≤maxLen:=hv _ (by simp)
 obtain⟨fp,hD,jf⟩:=Be g (hop hs) hds Sw
 obtain⟨news,fx,n1,n2,n3,n4,n5,n6⟩:=Lv g U2
 obtain⟨U7,_⟩:=hop hx
 rw[←U7]at n1
 have hC:=C t1
 rw[hk]at hC
 have OB:Own 0 w (fp++fx.flatten):=by
  have ho:=hD.own
  refine⟨List.nodup_append.2 ⟨ho.nodup,n6.nodup,?_⟩,fun b hb=> ?_,fun b hb=> ?_⟩
  ·rintro b hb c hc rfl
   obtain⟨i,oi,hi,h1,h2⟩:=jf b hb
   obtain⟨j,oj,hj,h3,h4⟩:=n5 b hc
   have hij:i≠j:=by
    rintro rfl
    simp only[Bd,List.all_eq_true,Bool.not_eq_true',List.any_eq_false]at hno
    exact hno i hi i hj (by simp)
   exact g.fU i j _ _ hij h1 h3 b h2 h4
  ·rcases List.mem_append.1 hb with hb|hb
   ·exact ho.ge b hb
   ·exact n6.ge b hb
  ·rcases List.mem_append.1 hb with hb|hb
   ·exact ho.kind b hb
   ·exact n6.kind b hb
 refine BW s x t1 dL (cF t) (eu t) 0 (ty t) (dN t) (dB t) (by rw[←he];exact hC.1) oB (ij t) _ l fp rfl hD _ rfl lx news fx n1 n2 n3 n4 OB bW bz (Nat.zero_le _) ?_
 intro v' w' eR k1 k2 k3 k4 k5 _
 obtain⟨env',hg',AD⟩:=sR (ty:=ty) g hB (ks:=k++ [n]) hpk AB hlk (v:=a.eval s) (fp:=fp) (fx:=fx.flatten)
  (by
   intro b hb
   rcases List.mem_append.1 hb with hb|hb
   ·obtain⟨i,oi,hi,h1⟩:=jf b hb;exact⟨i,oi,List.mem_append_left _ hi,h1⟩
   ·obtain⟨i,oi,hi,h1⟩:=n5 b hb;exact⟨i,oi,List.mem_append_right _ hi,h1⟩)
  (by
   intro b hb
   obtain⟨xs,aO,_,_,_,eK,_⟩:=hD
   rw[eK,hb];simp)
  k1 k2 k4
 refine⟨v',env',rfl,⟨k2.os,k2.tape,k2.output,k2.size,fun b hb hn=>k2.block b (by omega) fun e=> ?_,k5⟩,hg',rfl,⟨t,_,look_eq⟩,AD.symm⟩
 have J4:b∈fp:=by
  obtain⟨xs,aO,_,_,_,eK,_⟩:=hD
  rw[eK, ←e];simp
 obtain⟨i,oi,hi,h1,h2⟩:=jf b J4
 rcases g.dom i oi h1 b h2 with h|h
 ·exact hn h
 ·omega
end
theorem Lw{t:Tag}{w:World}{e:Nat}{v:Value}{l:List (T t)}{fp:List Nat}(h:fZ (kk t) (rd t) 0 e w v l fp){j:Nat}(hj:j≤l.length):
  ∃oa cap,v= .slice oa l.length cap∧l.length≤cap∧ ∃eR,fZ (kk t) (rd t) 0 e w (xk oa cap (kk t) j l.length) (l.drop j) eR∧ ∀b,b∈eR→b∈fp:=by
 have ho:=h.own
 obtain⟨oa,cap,hv,hc,hm,h3⟩:=h.sl
 refine⟨oa,cap,hv,hc,?_⟩
 rcases h.parts with⟨rfl,rfl,rfl⟩| ⟨g,o,n,c,SD,IP,hn,hnm,q1,q2,Vr⟩
 ·simp only[Value.slice.injEq]at hv
  obtain⟨rfl,_,rfl⟩:=hv
  obtain rfl:j=0:=by simpa using hj
  exact⟨[],fZ.nil _ _ _ _ _,by simp⟩
 ·rw[IP]at hv
  simp only[Value.slice.injEq,true_and]at hv
  obtain⟨rfl,rfl⟩:=hv
  have hnil:n=j→ ∃eR,fZ (kk t) (rd t) 0 e w (xk (some ⟨g,o,none⟩) n (kk t) j l.length) (l.drop j) eR∧ ∀b,b∈eR→b∈fp:=by
   rintro rfl
   have e0:l.drop n= []:=List.drop_eq_nil_of_le hn
   have e1:l.length=n:=by omega
   refine⟨[g],?_,fun b hb=>by rw[Vr];rw[List.mem_singleton.1 hb];simp⟩
   rw[e0]
   have:xk (some ⟨g,o,none⟩) n (kk t) n l.length= .slice (some ⟨g,o,none⟩) ([]:List (T t)).length 0:=by
    unfold xk;rw[if_pos rfl,e1,Nat.sub_self];rfl
   rw[this]
   refine gD (cF t) (aO:= []) q1 (by omega) (Nat.zero_le _) (Nat.zero_le _) ⟨rfl,by simp⟩ ⟨by simp,by simp,fun b hb=> ?_⟩
   simp only[List.flatten_nil,List.mem_singleton]at hb
   exact⟨_,_,by rw[hb];exact q1⟩
  by_cases Sp:n=j
  ·exact hnil Sp
  ·rcases h3 with⟨rfl,_,_⟩| ⟨b,off,aO,hb,Xy,eK,hE⟩
   ·refine⟨[g],?_,fun b hb=>by rw[Vr];rw[List.mem_singleton.1 hb];simp⟩
    obtain rfl:j=0:=by simpa using hj
    have:xk (some ⟨g,o,none⟩) n (kk t) 0 ([]:List (T t)).length= .slice (some ⟨g,o,none⟩) ([]:List (T t)).length n:=by
     unfold xk;rw[if_neg Sp];simp[Addr.add_mid]
    rw[this]
    refine gD (cF t) (aO:= []) q1 q2 (Nat.zero_le _) hm ⟨rfl,by simp⟩ ⟨by simp,by simp,fun b hb=> ?_⟩
    simp only[List.flatten_nil,List.mem_singleton]at hb
    exact⟨_,_,by rw[hb];exact q1⟩
   ·simp only[oI,Addr.mk.injEq,and_true]at hb
    obtain⟨rfl,rfl⟩:=hb
    have hsub: ∀b,b∈g::(aO.drop j).flatten→b∈fp:=by
     intro b hb
     rw[eK]
     rcases List.mem_cons.1 hb with rfl|hb
     ·simp
     ·exact List.mem_cons_of_mem _ ((kQ (List.drop_sublist j aO)).subset hb)
    have lH:l.length-j=(l.drop j).length:=by simp
    refine⟨g::(aO.drop j).flatten,?_,hsub⟩
    have:xk (some ⟨g,o,none⟩) n (kk t) j l.length= .slice (some ⟨g,o+j*kk t,none⟩) (l.drop j).length (n-j):=by
     unfold xk;rw[if_neg Sp,lH];simp[Addr.add_mid]
    rw[this]
    refine gD (cF t) q1 ?_ (by rw[←lH];omega) (by omega) ⟨by simp[hE.1],fun i x f hx hf=> ?_⟩ ?_
    ·have h5:j*kk t≤n*kk t:=Nat.mul_le_mul_right _ (by omega)
     rw[Nat.sub_mul];omega
    ·rw[List.getElem?_drop]at hx hf
     obtain⟨cs,k1,k2⟩:=hE.2 _ x f hx hf
     exact⟨cs,by rw[Nat.add_assoc, ←Nat.add_mul];exact k1,k2⟩
    ·rw[eK]at ho
     have hss:(g::(aO.drop j).flatten).Sublist (g::aO.flatten):=List.Sublist.cons_cons _ (kQ (List.drop_sublist j aO))
     exact⟨hss.nodup ho.nodup,fun b hb=>ho.ge b (hss.subset hb),fun b hb=>ho.kind b (hss.subset hb)⟩
def O9(Γ:Nat→TK)(cr:List (Nat×CR))(st:St)(m0:Nat)(d:Option Nat):Op→Option (List Prop×St×SV)
 | .slice t x (some lo) none none=>match d,Γ t with
   |some dd, .sl g _=>match(look cr (dd+600000)).isSome,ew st [] x,II st [] lo with
    |true,some (.a (.own n)),some (_,lo)=>match look st.hp n with
     |some (.arr t' l)=>match Nat.beq (kk g) (kk t'),pinned [n],fu m0,look (bE [n] [] st.hp) m0 with
      |true,false,false,none=>some ([0≤lo∧lo≤(l.length:Int)],st.gone [n] m0 t' (l.drop lo.toNat), .one (.a (.own m0)))
      |_,_,_,_=>none
     |_=>none
    |_,_,_=>none
   |_,_=>none
 |_=>none
section
variable{P:Program}{zb:bP}{st:St}{a:Act}{w:World}{env:Env}{Q:Exit→Act→World→Prop}{o:Oper}
theorem Pa{Γ:Nat→TK}(C: ∀t,b7 P t (Γ t)){cr:List (Nat×CR)}{m0:Nat}{d:Option Nat}{vc:List Prop}{st':St}{v:SV}(h:O9 Γ cr st m0 d o.op=some (vc,st',v))(g:Good ty zb st a.tmps w env)(hB:zb.w.heap.size≤w.heap.size)(hv: ∀q,q∈vc→q):
  o.wp P a w (fun a' w'=> ∃u env',a'=a.put o.dst u∧Kept zb w w'∧Good ty zb st' a.tmps w' env'∧st'.n=st.n∧lT w' st'.hp env' a.tmps v u) Q:=by
 have hop: ∀{x v},ew st [] x=some v→eC w st.hp env v (a.eval x):=fun hx=>dh g (fun e he=>by simp at he) hx
 generalize dL:o.op=op at h
 unfold O9 at h
 split at h
 case h_2=>cases h
 rename_i t x lo
 split at h
 case h_2=>cases h
 rename_i dd gt e hk
 split at h
 case h_2=>cases h
 rename_i n Zb j hkey hx hlo
 split at h
 case h_2=>cases h
 rename_i t' l hl
 split at h
 case h_2=>cases h
 rename_i hkk hpk AB hlk
 have hkk:=Nat.eq_of_beq_eq_true hkk
 simp only[oI,pI]at h
 obtain⟨rfl,h2,rfl⟩:=h
 rw[St.gone_eq]at h2
 subst h2
 obtain⟨q0,q1⟩:=hv _ (List.mem_singleton.2 rfl)
 have hC:=C t
 rw[hk]at hC
 obtain⟨_,hu⟩:=hop hx
 have Vq:=RO.N9 (jU hpk (by simp)) (g.obj n _ hl)
 obtain⟨oa,cap,uC,hcap,eR,U1,hsub⟩:=Lw Vq (j:=j.toNat) (by omega)
 have hex:a.eval x= .slice oa l.length cap:=by rw[←uC];exact hu
 have XU:a.eval lo= .int Zb j:=by
  unfold II at hlo
  split at hlo
  ·rename_i k i hq
   simp only[oI,pI]at hlo
   obtain⟨rfl,rfl⟩:=hlo
   exact(hop hq).lit
  ·cases hlo
 have hrun:=Hf (P:=P) (w:=w) dL hC hex (n1:=j) (n2:=(l.length:Int)) (Or.inr ⟨lo,Zb,rfl,XU⟩) (Or.inl ⟨rfl,rfl⟩) q0 q1 (Int.le_refl _) hcap
 have Ci: ∀b,(env n).v.ownBlock=some b→b∈(env n).fp:=by
  intro b hb
  obtain⟨xs,aO,_,_,_,eK,_⟩:=Vq
  rw[eK,hb];simp
 obtain⟨env',hg',AD,_,_⟩:=uE (ty:=ty) g hB (ks:= [n]) hpk AB hlk (v:=(env n).v) (w':=w) (fp:=(env n).fp) (fx:= [])
  (by
   intro b hb
   rw[List.append_nil]at hb
   exact⟨n,_,by simp,hl,hb⟩) Ci U1 ⟨rfl,rfl,rfl,Nat.le_refl _,fun _ _ _=>rfl⟩ (fun b hb=>Or.inl (hsub b hb))
 unfold Oper.wp
 rw[hrun]
 refine⟨_,env',rfl,Kept.refl _ _,hg',rfl,⟨t',_,look_eq⟩,?_⟩
 rw[AD,hkk]
 rfl
end
end
section
variable{ty:Tag→Nat}
theorem Lx{P:Program}(w:World)(t ty e:TypeId)(i:TypeInfo)(z:Value)(size bytes:Nat)(ht:P.underlying t=some (.slice e))(hi:P.info? e=some i)(hz:i.zero=some z)
  (hsize:i.size=size)(hby:i.bytes=bytes)(hzs:z.cells.size=size)(hsz:0<size)
  (oa:Option Addr)(n cap:Nat)(xs:List Value)(hxl:xs.length=n*size)
  (hown:(n=0∧cap=0)∨ ∃g o cur e2,oa=some ⟨g,o,none⟩∧w.heap[g]? =some (.cells cur e2 (0,0))∧n≤cap∧o+cap*size≤cur.size∧w.rangeAt g o xs)
  (x:Value)(m:Nat)(news:List Value)(hl:news.length=m*size)(hx:Src w x m news)(h1: ∀u∈news,u.oneCell'=true)(hm:0<m)
  (h63:n+m≤maxLen)(hbytes:(n+m)*bytes≤140737488355328):
  ∃v' w',(Builtin.append_ #[t,t] ty #[.slice oa n cap,x]).run P w= .ok v' w'∧
   ((∃g o cur e2 cur',oa=some ⟨g,o,none⟩∧w.heap[g]? =some (.cells cur e2 (0,0))∧v'= .slice oa (n+m) cap∧n+m≤cap∧w'=w.setRow g cur'∧cur'.size=cur.size∧w'.heap[g]? =some (.cells cur' e2 (0,0))∧w'.rangeAt g o (xs++news))∨
    (World.ownsRow w' w.heap.size e size v' (n+m) (xs++news)∧w.grownBy w' none∧v'.ownBlock=some w.heap.size∧Shape w w')):=by
 subst hsize
 subst hby
 rcases hx with⟨_,rfl,_⟩| ⟨a,c,rfl,hnews⟩
 ·omega
 have hgrow:cap<n+m→ ∀b,oa=some b→(∀j u,xs[j]? =some u→w.cell? (b.add j)=some u)→ ∃v' w',(Builtin.append_ #[t,t] ty #[.slice oa n cap, .slice (some a) m c]).run P w= .ok v' w'∧(World.ownsRow w' w.heap.size e i.size v' (n+m) (xs++news)∧w.grownBy w' none∧v'.ownBlock=some w.heap.size∧Shape w w'):=by
  intro hg b hb holds
  subst hb
  obtain⟨v',w',hr,h2,h3⟩:=run_append_arg_grows (P:=P) w t ty e i z i.size i.bytes ht hi hz rfl rfl hzs hsz b n cap xs hxl holds a m c news hl hnews hg h63 hbytes
  have Dq:=run_append_grow (P:=P) w t ty e i z ht hi hz b n cap xs hxl holds a m c news hl hnews hg (by simp only[maxLen]at h63;omega) (growslice_fits (by simp only[maxLen]at h63;omega) hbytes)
  have e2:=Dq.symm.trans hr
  simp only[Result.ok.injEq]at e2
  exact⟨v',w',hr,h2,h3,by rw[←e2.1];rfl,by rw[←e2.2];exact Shape.alloc _ _⟩
 rcases hown with⟨rfl,rfl⟩| ⟨g,o,cur,e2,rfl,hg,hnc,hcs,hr⟩
 ·have hx0:xs= []:=List.eq_nil_of_length_eq_zero (by simpa using hxl)
  subst hx0
  cases oa with
  |none=>
   have Dq:=run_append_nil (P:=P) w t ty e i z ht hi hz a m c news hl hnews (by omega) (by simp only[maxLen]at h63;omega) (by have hb:=hbytes;simp only[Nat.zero_add]at hb;omega)
   obtain⟨v',w',hr,h2,h3,_⟩:=run_append_own (P:=P) w w.heap.size t ty e i z i.size i.bytes ht hi hz rfl rfl hzs hsz (.slice none 0 0) 0 [] (World.ownsRow_nil w _ _ _) a m c news hl hnews h1 h63 hbytes (Nat.le_refl _)
   have e2:=Dq.symm.trans hr
   simp only[Result.ok.injEq]at e2
   exact⟨v',w',hr,Or.inr ⟨h2,h3,by rw[←e2.1];rfl,by rw[←e2.2];exact Shape.alloc _ _⟩⟩
  |some b=>
   obtain⟨v',w',h⟩:=hgrow (by omega) b rfl (by simp)
   exact⟨v',w',h.1,Or.inr h.2⟩
 ·by_cases hroom:n+m≤cap
  ·have h5:(n+m)*i.size≤cap*i.size:=Nat.mul_le_mul_right _ hroom
   have hfit:o+n*i.size+news.length≤cur.size:=by rw[hl];rw[Nat.add_mul]at h5;omega
   have hf:=run_firstCells_some (P:=P) w i.size m a m c news hl hnews
   have hst:=run_storeCells_at P g (o+n*i.size) e2 news 0 cur w hg (by simpa using hfit) h1
   simp only[Nat.add_zero]at hst
   have Dq:(Builtin.append_ #[t,t] ty #[.slice (some ⟨g,o,none⟩) n cap, .slice (some a) m c]).run P w=
     .ok (.slice (some ⟨g,o,none⟩) (n+m) cap) (w.setRow g (cur.toList.take (o+n*i.size)++news++cur.toList.drop (o+n*i.size+news.length)).toArray):=by
    simp[Builtin.append_,run_underlying ht,sizeOf,typeInfo,hi,Builtin.lenOf,hroom,hf,Addr.add_mid,hst]
   refine⟨_,_,Dq,Or.inl ⟨g,o,cur,e2,_,rfl,hg,rfl,hroom,rfl,?_,setRow_heap w g cur _ e2 _ hg,?_⟩⟩
   ·simp only[List.size_toArray,List.length_append,List.length_take,List.length_drop,Array.length_toList]
    omega
   ·refine G7 (setRow_heap w g cur _ e2 _ hg) _ _ fun j v hv=> ?_
    have um:(cur.toList.take (o+n*i.size)).length=o+n*i.size:=by rw[List.length_take,Array.length_toList];omega
    rw[List.getElem?_toArray,List.append_assoc]
    by_cases hj:j<xs.length
    ·rw[List.getElem?_append_left hj]at hv
     have:=hr j v hv
     rw[xW hg]at this
     rw[List.getElem?_append_left (by omega),List.getElem?_take,if_pos (by omega),Array.getElem?_toList]
     exact this
    ·rw[List.getElem?_append_right (by omega)]at hv
     have hlt:=(List.getElem?_eq_some_iff.1 hv).1
     rw[List.getElem?_append_right (by omega),List.getElem?_append_left (by omega),um]
     rw[show o+j-(o+n*i.size)=j-xs.length by omega]
     exact hv
  ·obtain⟨v',w',h⟩:=hgrow (by omega) _ rfl (fun j u hu=>by rw[Addr.add_mid];exact hr j u hu)
   exact⟨v',w',h.1,Or.inr h.2⟩
theorem Ly{P:Program}{w:World}(t Zc e:TypeId)(i:TypeInfo)(z:Value)(size bytes:Nat)(ht:P.underlying t=some (.slice e))(hi:P.info? e=some i)(hz:i.zero=some z)
  (hsize:i.size=size)(hby:i.bytes=bytes)(hzs:z.cells.size=size)(hsz:0<size){α:Type}{E:ER α}(G:eB size E)
  {u0:Value}{l:List α}{fv:List Nat}(hS:Sl size E w u0 l fv){x:Value}{lx:List α}{news:List Value}{fx:List (List Nat)}(hx:Src w x lx.length news)(xK:fx.length=lx.length)(hl:news.length=lx.length*size)
  (hel: ∀i x f,lx[i]? =some x→fx[i]? =some f→E w ((news.drop (i*size)).take size) x f)(hO:Own 0 w (fv++fx.flatten))(hm:0<lx.length)
  (h63:l.length+lx.length≤maxLen)(hbytes:(l.length+lx.length)*bytes≤140737488355328):
  ∃v' w' Pc nb,(Builtin.append_ #[t,t] Zc #[u0,x]).run P w= .ok v' w'∧(∀y,y<w.heap.size→y∉fv→w'.heap[y]? =w.heap[y]?)∧w'.os=w.os∧w'.tape=w.tape∧w'.output=w.output∧w.heap.size≤w'.heap.size∧Shape w w'∧
   Sl size E w' u0 l fv∧Own 0 w' fv∧Sl size E w' v' (l++lx) Pc∧Own 0 w' Pc∧(∀y,y∈Pc→y∈fv∨y∈fx.flatten++nb)∧Own 0 w' (fx.flatten++nb)∧(∀y,y∈nb→w.heap.size≤y)∧ ∃oa m cap,v'= .slice oa m cap:=by
 obtain⟨Vt,UC,WU⟩:=List.nodup_append.1 hO.nodup
 have IX: ∀y,y∈fx.flatten→y<w.heap.size:=fun y hy=>hO.lt y (List.mem_append_right _ hy)
 have SQ: ∀y,y∈fv→y<w.heap.size:=fun y hy=>hO.lt y (List.mem_append_left _ hy)
 obtain⟨oa,cap,rfl,hc,hcm,h3⟩:=hS
 have key: ∃(xs:List Value) (aO:List (List Nat)),xs.length=l.length*size∧aO.length=l.length∧(∀i x f,l[i]? =some x→aO[i]? =some f→E w ((xs.drop (i*size)).take size) x f)∧(∀y,y∈aO.flatten→y∈fv)∧aO.flatten.Nodup∧
   ((l.length=0∧cap=0∧fv= [])∨ ∃g o cur e2,oa=some ⟨g,o,none⟩∧w.heap[g]? =some (.cells cur e2 (0,0))∧l.length≤cap∧o+cap*size≤cur.size∧w.rangeAt g o xs∧fv=g::aO.flatten):=by
  have XV:Sl size E w (.slice oa l.length cap) l fv:=⟨oa,cap,rfl,hc,hcm,h3⟩
  obtain⟨xs,aO,h1,h2,h4,h5,h6,h7⟩:=lX G hsz XV
  refine⟨xs,aO,h4,h2,h5,fun y hy=>h6.subset hy,h6.nodup Vt,?_⟩
  rcases h3 with⟨rfl,rfl,rfl⟩| ⟨g,o,SD,rfl,hfit,rfl,hE⟩
  ·exact Or.inl ⟨rfl,rfl,rfl⟩
  ·obtain⟨c1,e1,fz1,hq,Fw⟩:=hfit
   obtain⟨cur,e2,hk⟩:=hO.kind g (by simp)
   rw[hq]at hk
   simp only[oI,Go.Obj.cells.injEq]at hk
   obtain⟨rfl,rfl,rfl⟩:=hk
   refine Or.inr ⟨g,o,c1,e1,rfl,hq,hc,Fw,?_,by rw[h7 g _ rfl]⟩
   rcases h1 with⟨hs,_⟩| ⟨a,c,hs,hcells⟩
   ·cases hs
   ·simp only[Value.slice.injEq,oI]at hs
    obtain⟨rfl,_,_⟩:=hs
    intro j u hu
    have:=hcells j u hu
    rwa [Addr.add_mid]at this
 obtain⟨xs,aO,hxl,hfl,Z9,hsub,Lb,Rs⟩:=key
 have h1:=mI G xK hl hsz hel
 obtain⟨v',w',hr,hres⟩:=Lx (P:=P) w t Zc e i z size bytes ht hi hz hsize hby hzs hsz oa l.length cap xs hxl
  (Rs.imp (fun h=>⟨h.1,h.2.1⟩) fun⟨g,o,cur,e2,q1,q2,q3,q4,q5,_⟩=>⟨g,o,cur,e2,q1,q2,q3,q4,q5⟩) x lx.length news hl hx h1 hm h63 hbytes
 have hall: ∀{w':World},Agree w w' (aO.flatten++fx.flatten)→ ∀j y f,(l++lx)[j]? =some y→(aO++fx)[j]? =some f→E w' (((xs++news).drop (j*size)).take size) y f:=by
  intro w' xM j y f hy jt
  by_cases hj:j<l.length
  ·rw[List.getElem?_append_left hj]at hy
   rw[List.getElem?_append_left (by omega)]at jt
   have:=Z9 j y f hy jt
   have h5:j*size+size≤xs.length:=by
    rw[hxl]
    have:=Nat.mul_le_mul_right size (show j+1≤l.length by omega)
    rw[Nat.add_mul]at this;omega
   rw[List.drop_append_of_le_length (by omega),List.take_append_of_le_length (by rw[List.length_drop];omega)]
   exact G.agree this (xM.sub fun b hb=>List.mem_append_left _ (bL jt hb))
  ·rw[List.getElem?_append_right (by omega)]at hy
   rw[List.getElem?_append_right (by omega),hfl]at jt
   have:=hel _ y f hy jt
   have h5:(xs++news).drop (j*size)=news.drop ((j-l.length)*size):=by
    rw[List.drop_append,List.drop_eq_nil_of_le (by rw[hxl];exact Nat.mul_le_mul_right size (by omega)),List.nil_append,hxl,Nat.sub_mul]
   rw[h5]
   exact G.agree this (xM.sub fun b hb=>List.mem_append_right _ (bL jt hb))
 have nx:(aO++fx).flatten=aO.flatten++fx.flatten:=List.flatten_append
 rcases hres with⟨g,o,cur,e2,cur',rfl,hg,rfl,hroom,rfl,hcs,hg',SR⟩| ⟨hrow,K1,Ci,hsh⟩
 ·
  rcases Rs with⟨hl0,rfl,_⟩| ⟨g1,o1,aaa,e3,q1,q2,q3,q4,q5,rfl⟩
  ·omega
  simp only[oI,Addr.mk.injEq,and_true]at q1
  obtain⟨rfl,rfl⟩:=q1
  rw[hg]at q2
  simp only[oI,Go.Obj.cells.injEq,and_true]at q2
  obtain⟨rfl,rfl⟩:=q2
  have Zd:g∉aO.flatten:=(List.nodup_cons.1 Vt).1
  have hgx:g∉fx.flatten:=fun h=>WU g (by simp) g h rfl
  have hkeep: ∀y,y≠g→(w.setRow g cur').heap[y]? =w.heap[y]? :=fun y hy=>setRow_other w g y _ hy
  have xM:Agree w (w.setRow g cur') (aO.flatten++fx.flatten):=fun y hy=>hkeep y fun h=>by
   subst h
   rcases List.mem_append.1 hy with hy|hy
   ·exact Zd hy
   ·exact hgx hy
  have hsh:Shape w (w.setRow g cur'):=Shape.row hg hcs
  have yM: ∀{f:List Nat},Own 0 w f→Own 0 (w.setRow g cur') f:=fun h=>⟨h.nodup,h.ge,fun b hb=>by
   obtain⟨c,e,hc⟩:=h.kind b hb
   obtain⟨c',h5,_⟩:=hsh b c e hc
   exact⟨_,_,h5⟩⟩
  have Vu:Own 0 w (g::aO.flatten):=⟨Vt,fun _ _=>Nat.zero_le _,fun b hb=>hO.kind b (List.mem_append_left _ hb)⟩
  have hOx:Own 0 w fx.flatten:=⟨UC,fun _ _=>Nat.zero_le _,fun b hb=>hO.kind b (List.mem_append_right _ hb)⟩
  have hOa:Own 0 w (g::(aO++fx).flatten):=by rw[nx];exact hO
  have WV:=jd (w:=w.setRow g cur') (b:=g) (o:=o) (l:=l++lx) (xs:=xs++news) (aO:=aO++fx) (by simp[hfl,xK]) SR (hall xM)
  have XW:jQ size E (w.setRow g cur') g o l aO:=by
   refine⟨hfl,fun j y f hy hf=> ?_⟩
   have hj:=(List.getElem?_eq_some_iff.1 hy).1
   have Vv:=(List.getElem?_eq_some_iff.1 hf).1
   obtain⟨cs,r1,r2⟩:=WV.2 j y f (by rw[List.getElem?_append_left hj];exact hy) (by rw[List.getElem?_append_left Vv];exact hf)
   exact⟨cs,r1,r2⟩
  have hfit:Fit (w.setRow g cur') g (o+cap*size):=⟨cur',e2,(0,0),hg',by rw[hcs];exact q4⟩
  refine⟨_,_,g::(aO++fx).flatten,[],hr,fun y hy hn=>hkeep y fun h=>hn (by simp[h]),rfl,rfl,rfl,by simp[World.setRow],hsh,⟨_,cap,rfl,hc,hcm,Or.inr ⟨g,o,aO,rfl,hfit,rfl,XW⟩⟩,yM Vu,
   ⟨_,cap,by rw[List.length_append],by rw[List.length_append];exact hroom,hcm,Or.inr ⟨g,o,aO++fx,rfl,hfit,rfl,WV⟩⟩,yM hOa,fun y hy=> ?_,by rw[List.append_nil];exact yM hOx,by simp,_,_,_,rfl⟩
  rw[nx]at hy
  simp only[List.mem_cons,List.mem_append]at hy ⊢
  rcases hy with h|h|h
  ·exact Or.inl (Or.inl h)
  ·exact Or.inl (Or.inr h)
  ·exact Or.inr (Or.inl h)
 ·
  have hkeep: ∀y,y<w.heap.size→w'.heap[y]? =w.heap[y]? :=fun y hy=>K1.block y hy (by simp)
  have xM: ∀{f:List Nat},(∀y,y∈f→y<w.heap.size)→Agree w w' f:=fun h y hy=>hkeep y (h y hy)
  obtain⟨g,cap',cur,rfl,hgb,hg,hn1,hn2,Sn,hn4⟩: ∃g cap' cur,v'= .slice (some ⟨g,0,none⟩) (l.length+lx.length) cap'∧w.heap.size≤g∧w'.heap[g]? =some (.cells cur e (0,0))∧l.length+lx.length≤cap'∧cap'≤maxLen∧cap'*size≤cur.size∧cur.toList.take ((l.length+lx.length)*size)=xs++news:=by
   rcases hrow.2 with⟨_,h0⟩| ⟨g,cap',cur,r1,r2,r3,r4,r5,r6,r7⟩
   ·omega
   ·exact⟨g,cap',cur,r1,r2,r3,r4,r5,Nat.le_of_eq r6.symm,r7⟩
  have aaf:g=w.heap.size:=by simpa[Value.ownBlock]using Ci
  have Vu:Own 0 w fv:=⟨Vt,fun _ _=>Nat.zero_le _,fun b hb=>hO.kind b (List.mem_append_left _ hb)⟩
  have XV:Sl size E w (.slice oa l.length cap) l fv:=⟨oa,cap,rfl,hc,hcm,h3⟩
  have hlt2: ∀y,y∈(aO++fx).flatten→y<w.heap.size:=by
   intro y hy
   rw[nx]at hy
   rcases List.mem_append.1 hy with hy|hy
   ·exact SQ y (hsub y hy)
   ·exact IX y hy
  have XX:(aO++fx).flatten.Nodup:=by
   rw[nx]
   exact List.nodup_append.2 ⟨Lb,UC,fun a ha b hb e=>WU a (hsub a ha) b hb e⟩
  have Rt: ∀y,y∈(aO++fx).flatten→ ∃c e,w'.heap[y]? =some (.cells c e (0,0)):=by
   intro y hy
   rw[hkeep y (hlt2 y hy)]
   rw[nx]at hy
   rcases List.mem_append.1 hy with hy|hy
   ·exact hO.kind y (List.mem_append_left _ (hsub y hy))
   ·exact hO.kind y (List.mem_append_right _ hy)
  have WV:=jd (w:=w') (b:=g) (o:=0) (l:=l++lx) (xs:=xs++news) (aO:=aO++fx) (by simp[hfl,xK])
   (fun j u hu=>uq (o:=0) (m:=(l.length+lx.length)*size) hg j u (by rw[List.drop_zero,hn4];exact hu)) (hall (xM (by rw[←nx];exact hlt2)))
  refine⟨_,_,g::(aO++fx).flatten,[g],hr,fun y hy _=>hkeep y hy,K1.os,K1.tape,K1.output,K1.size,hsh,Sl.agree G XV (xM SQ),Vu.agree (xM SQ),
   ⟨_,cap',by rw[List.length_append],by rw[List.length_append];exact hn1,hn2,Or.inr ⟨g,0,aO++fx,rfl,⟨cur,e,(0,0),hg,by omega⟩,rfl,WV⟩⟩,⟨List.nodup_cons.2 ⟨fun h=>by have:=hlt2 g h;omega,XX⟩,fun _ _=>Nat.zero_le _,fun y hy=> ?_⟩,fun y hy=> ?_,⟨?_,fun _ _=>Nat.zero_le _,fun y hy=> ?_⟩,fun y hy=>by simp at hy;omega,_,_,_,rfl⟩
  ·rcases List.mem_cons.1 hy with rfl|hy
   ·exact⟨_,_,hg⟩
   ·exact Rt y hy
  ·rw[nx]at hy
   simp only[List.mem_cons,List.mem_append,List.not_mem_nil,or_false]at hy ⊢
   rcases hy with h|h|h
   ·exact Or.inr (Or.inr h)
   ·exact Or.inl (hsub y h)
   ·exact Or.inr (Or.inl h)
  ·refine List.nodup_append.2 ⟨UC,by simp,fun a ha b hb e=> ?_⟩
   simp at hb
   have:=IX a ha
   omega
  ·rcases List.mem_append.1 hy with hy|hy
   ·exact Rt y (by rw[nx];exact List.mem_append_right _ hy)
   ·simp at hy;subst hy;exact⟨_,_,hg⟩
section
variable{P:Program}{zb:bP}{st st':St}{a:Act}{w:World}{env:Env}{Q:Exit→Act→World→Prop}{o:Oper}
theorem D7{aO:List (List Nat)}{i:Nat}{f:List Nat}(h:i<aO.length):(aO.set i f).flatten=(aO.take i).flatten++(f++(aO.drop (i+1)).flatten):=by
 rw[List.set_eq_take_append_cons_drop,if_pos h,List.flatten_append,List.flatten_cons]
theorem uI{w w':World}: ∀{c:List V} {us:List Value} {f:List Nat},bG w c us f→Agree w w' f→bG w' c us f
 | [],[],_,h,_=>h
 | [],_::_,_,h,_=>h.elim
 |_::_,[],_,h,_=>h.elim
 |v::r,u::us,f,h,ha=>by
  obtain⟨f1,f2,h1,h2,rfl⟩:=h
  refine⟨f1,f2,?_,uI h2 (ha.sub fun y hy=>List.mem_append_right _ hy),rfl⟩
  cases v with
  |lit x=>exact h1
  |sl t l=>exact Sl.agree (cF t) h1 (ha.sub fun y hy=>List.mem_append_left _ hy)
  |_=>exact h1.elim
theorem I1{n i off:Nat}{t:Tag}{l:List (T t)}{u0:Value}{gt:Tag}{l0:List (T gt)}(g:Good ty zb st a.tmps w env)(Oc:RV w st.hp env n (some (i,off)) t l u0)(hl:look st.hp n=some (.arr gt l0)):
  ∃(b o1 len cap:Nat) (fv A B:List Nat),(env n).v= .slice (some ⟨b,o1,none⟩) len cap∧(env n).fp=b::(A++(fv++B))∧Sl (kk t) (rd t) w u0 l fv∧Own 0 w (b::(A++(fv++B)))∧w.cell? ⟨b,o1+i*kk gt+off,none⟩=some u0∧
   ∀(l2:List (T t)) c nL x',Az (dec gt (l0.getD i (aA gt))) off [.sl t l2]=some c→enc gt c=some (nL,x')→(∀q,q∈nL→q)→ ∀(w':World) (u':Value) (wU:List Nat),
    (∀y,y∈A++B→w'.heap[y]? =w.heap[y]?)→(∀o cs,w.rangeAt b o cs→(o+cs.length≤o1+i*kk gt+off∨o1+i*kk gt+off+1≤o)→w'.rangeAt b o cs)→
    w'.cell? ⟨b,o1+i*kk gt+off,none⟩=some u'→(∀c e,w.heap[b]? =some (.cells c e (0,0))→ ∃c',w'.heap[b]? =some (.cells c' e (0,0))∧c'.size=c.size)→
    Sl (kk t) (rd t) w' u' l2 wU→Own 0 w' (b::(A++(wU++B)))→hJ ty w' n gt (l0.set i x') ⟨(env n).v,b::(A++(wU++B))⟩:=by
 obtain⟨_,_,Lf⟩:=Oc
 obtain⟨t1,l1,b2,o2,SA,OX,hl1,hi,FP,IW,AF,hcell⟩:=Lf i off rfl
 rw[hl]at hl1
 simp only[oI,Obj.arr.injEq]at hl1
 obtain⟨rfl,hl1⟩:=hl1
 cases hl1
 have hro:=g.obj n _ hl
 obtain⟨oa,cap,uo,wS,Bg,h3⟩:=RO.sl hro
 have hown:=RO.own hro
 rcases h3 with⟨rfl,_⟩| ⟨b,o1,aO,FO,bW,eK,hE⟩
 ·simp at hi
 rw[uo,FO]at IW
 simp only[Value.slice.injEq,oI,Addr.mk.injEq,and_true]at IW
 obtain⟨⟨rfl,rfl⟩,rfl,rfl⟩:=IW
 have La:l0[i]? =some (l0.getD i (aA gt)):=by rw[List.getD_eq_getElem?_getD,List.getElem?_eq_getElem hi];rfl
 obtain⟨fe,hf⟩:=eU hE.1 La
 have Iv:=(List.getElem?_eq_some_iff.1 hf).1
 obtain⟨cs,sN,Od⟩:=hE.2 _ _ fe La hf
 have hlen:=(cF gt).len Od
 have hR:=reads gt Od
 obtain⟨f1,f',SH,k1,k2⟩:=bG.split off hR
 have Ch: ∃r',(dec gt (l0.getD i (aA gt))).drop off= .sl t l::r':=by
  rw[pU]at FP
  have hlt:=(List.getElem?_eq_some_iff.1 FP).1
  rw[List.drop_eq_getElem_cons hlt]
  have:=(List.getElem?_eq_some_iff.1 FP).2
  rw[this]
  exact⟨_,rfl⟩
 obtain⟨r',Ch⟩:=Ch
 rw[Ch]at k2
 have yL: ∃u us,cs.drop off=u::us:=by
  cases hq:cs.drop off with
  |nil=>rw[hq]at k2;exact k2.elim
  |cons u us=>exact⟨u,us,rfl⟩
 obtain⟨u,us,yL⟩:=yL
 rw[yL]at k2
 obtain⟨fv,f3,Ft,Lg,hf'⟩:=k2
 have WM:cs[off]? =some u:=by
  have:=congrArg (fun l=>l[0]?) yL
  simpa using this
 have hoff:off<cs.length:=(List.getElem?_eq_some_iff.1 WM).1
 have U7:u0=u:=by
  have:=sN off u WM
  rw[hcell]at this
  simpa using this
 subst U7
 have hfl:aO.flatten=((aO.take i).flatten++f1)++(fv++(f3++(aO.drop (i+1)).flatten)):=by
  have h1:aO.set i fe=aO:=by
   obtain⟨_,h⟩:=List.getElem?_eq_some_iff.1 hf
   rw[←h];exact List.set_getElem_self Iv
  have h2:=D7 (aO:=aO) (f:=fe) Iv
  rw[h1]at h2
  rw[h2,SH,hf']
  simp only[List.append_assoc]
 refine⟨b,o1,l0.length,cap,fv,(aO.take i).flatten++f1,f3++(aO.drop (i+1)).flatten,by rw[uo,FO],by rw[eK,hfl],Ft,by rw[←hfl, ←eK];exact hown,hcell,?_⟩
 intro l2 c nL x' hs he hv w' u' wU XY XZ hbc BX hS' Oe
 have AS:c=(dec gt (l0.getD i (aA gt))).take off++([.sl t l2]++r'):=by
  unfold Az at hs
  split at hs
  ·simp only[oI]at hs
   rw[←hs]
   congr 2
   have:(dec gt (l0.getD i (aA gt))).drop (off+ [V.sl t l2].length)=((dec gt (l0.getD i (aA gt))).drop off).drop 1:=by rw[List.drop_drop];rfl
   rw[this,Ch];rfl
  ·cases hs
 have XB:Agree w w' f1:=fun y hy=>XY y (by simp[hy])
 have XC:Agree w w' f3:=fun y hy=>XY y (by simp[hy])
 have hrd:bG w' c (cs.take off++([u']++us)) (f1++(wU++f3)):=by
  rw[AS]
  exact bG.Sx (uI k1 XB) (y:= [.sl t l2]) (vs:= [u']) ⟨wU,[],hS',rfl,by simp⟩ (uI Lg XC)
 have SB:=oq gt he (fun q hq=>hv q hq) hrd
 have hkk:0<kk gt:=eu gt
 have KX:us=cs.drop (off+1):=by
  have:=congrArg (fun l=>l.drop 1) yL
  simp only[List.drop_drop,List.drop_succ_cons,List.drop_zero]at this
  exact this.symm
 have htl:(cs.take off).length=off:=by rw[List.length_take];omega
 have SR:w'.rangeAt b (o1+i*kk gt) (cs.take off++([u']++us)):=by
  refine kR (XZ _ _ (sV sN) (Or.inl (by rw[htl];omega))) ?_
  rw[htl]
  refine kR (x:= [u']) (fun j v hj=> ?_) ?_
  ·have hj0:j=0:=by have:=(List.getElem?_eq_some_iff.1 hj).1;simpa using this
   subst hj0
   simp at hj
   rw[Nat.add_zero,hbc,hj]
  ·rw[KX]
   refine XZ _ _ ?_ (Or.inr (by simp))
   have:=sW (n:=off+1) sN
   rwa [←Nat.add_assoc]at this
 have Cm:jQ (kk gt) (rd gt) w' b o1 (l0.set i x') (aO.set i (f1++(wU++f3))):=by
  refine⟨by rw[List.length_set,List.length_set];exact hE.1,fun j y fy hy jt=> ?_⟩
  by_cases hj:i=j
  ·subst hj
   rw[List.getElem?_set_self hi]at hy
   rw[List.getElem?_set_self Iv]at jt
   simp only[oI]at hy jt
   subst hy;subst jt
   exact⟨_,SR,SB⟩
  ·rw[List.getElem?_set_ne hj]at hy jt
   obtain⟨cy,Xx,GY⟩:=hE.2 j y fy hy jt
   refine⟨cy,XZ _ _ Xx ?_,(cF gt).agree GY fun z hz=>XY z ?_⟩
   ·rw[(cF gt).len GY]
    rcases Nat.lt_or_ge j i with h1|h1
    ·left
     have:=Nat.mul_le_mul_right (kk gt) (show j+1≤i by omega)
     rw[Nat.add_mul]at this;omega
    ·right
     have:=Nat.mul_le_mul_right (kk gt) (show i+1≤j by omega)
     rw[Nat.add_mul]at this;omega
   ·rcases Nat.lt_or_ge j i with h1|h1
    ·refine List.mem_append_left _ (List.mem_append_left _ (bL (i:=j) ?_ hz))
     rw[List.getElem?_take,if_pos h1];exact jt
    ·refine List.mem_append_right _ (List.mem_append_right _ (bL (i:=j-(i+1)) ?_ hz))
     rw[List.getElem?_drop,show i+1+(j-(i+1))=j by omega];exact jt
 have X0:(aO.set i (f1++(wU++f3))).flatten=((aO.take i).flatten++f1)++(wU++(f3++(aO.drop (i+1)).flatten)):=by
  rw[D7 Iv];simp only[List.append_assoc]
 rw[←X0]at Oe ⊢
 have hfit:Fit w' b (o1+cap*kk gt):=by
  obtain⟨c0,e0,fz0,q1,q2⟩:=bW
  obtain⟨c1,e1,q3⟩:=hown.kind b (by rw[eK];simp)
  rw[q3]at q1
  simp only[oI,Go.Obj.cells.injEq]at q1
  obtain⟨rfl,rfl,rfl⟩:=q1
  obtain⟨c',q4,q5⟩:=BX _ _ q3
  exact⟨c',_,_,q4,by rw[q5];exact q2⟩
 have Lc:Sl (kk gt) (rd gt) w' (env n).v (l0.set i x') (b::(aO.set i (f1++(wU++f3))).flatten):=
  ⟨some ⟨b,o1,none⟩,cap,by rw[uo,FO,List.length_set],by rw[List.length_set];exact wS,Bg,Or.inr ⟨b,o1,_,rfl,hfit,rfl,Cm⟩⟩
 unfold hJ
 cases hp:soft n with
 |true=>exact⟨Lc,Oe⟩
 |false=>
  have hB:=RO.N9 hp hro
  rcases hB.parts with⟨h1,rfl,_⟩| ⟨g0,o0,n0,cc,SD,h1,hn0,IT,q1,q2,_⟩
  ·simp at hi
  ·rw[uo,FO]at h1
   simp only[Value.slice.injEq,oI,Addr.mk.injEq,and_true,true_and]at h1
   obtain⟨⟨rfl,rfl⟩,rfl⟩:=h1
   obtain⟨ZZ,q3,q4⟩:=BX _ _ q1
   show fZ (kk gt) (rd gt) 0 (ty gt) w' (env n).v (l0.set i x') _
   rw[uo,FO, ←List.length_set (as:=l0) (i:=i) (a:=x')]
   exact gD (cF gt) q3 (by rw[q4];exact q2) (by rw[List.length_set];exact wS) Bg Cm Oe
def Pd(P:Program)(ty:Tag→Nat)(Γ:Nat→TK)(st:St)(m0:Nat):Op→Option (List Prop×St×SV)
 | .call ⟨.builtin .append,xs,ts⟩=>match xs.toList,ts.toList with
   | [s,x],[t1,t2]=>match Γ t1,Nat.beq t1 t2 with
     | .sl t e,true=>match Nat.beq e (ty t),ew st [] s,ew st [] x with
       |true,some (.a (.vw n (some (i,off)) t' l')),some vx=>match eL t t' l',Cl st t vx,look st.hp n with
        |some l,some (lx,m),some (.arr gt l0)=>match Bd [n] m&& !pinned m&& !fu m0,look (bE m [n] st.hp) m0,(Az (dec gt (l0.getD i (aA gt))) off [.sl t l]).bind (enc gt)with
         |true,none,some (WW,x0)=>some (El P ty t::(0<lx.length)::((l.length+lx.length)*dB t≤140737488355328∧l.length+lx.length≤maxLen)::(x0=l0.getD i (aA gt))::WW,
           ⟨st.n,st.sl.map fun e=>(e.1,e.2.bf m [n]),(m0, .dY t (l++lx) (.qB (some (n,i,off))))::bE m [n] st.hp⟩, .one (.a (.nK m0)))
         |_,_,_=>none
        |_,_,_=>none
       |_,_,_=>none
     |_,_=>none
   |_,_=>none
 |_=>none
theorem Pe{Γ:Nat→TK}(C: ∀t,b7 P t (Γ t)){m0:Nat}{vc:List Prop}{v:SV}(h:Pd P ty Γ st m0 o.op=some (vc,st',v))(g:Good ty zb st a.tmps w env)(hB:zb.w.heap.size≤w.heap.size)(hv: ∀q,q∈vc→q):
  o.wp P a w (fun a' w'=> ∃u env',a'=a.put o.dst u∧Kept zb w w'∧Good ty zb st' a.tmps w' env'∧st'.n=st.n∧lT w' st'.hp env' a.tmps v u) Q:=by
 have hop: ∀{x v},ew st [] x=some v→eC w st.hp env v (a.eval x):=fun hx=>dh g (fun e he=>by simp at he) hx
 generalize dL:o.op=op at h
 unfold Pd at h
 split at h
 case h_2=>cases h
 rename_i xs ts
 split at h
 case h_2=>cases h
 rename_i s x t1 t2 hxl htl
 obtain rfl:xs= #[s,x]:=Array.ext' hxl
 obtain rfl:ts= #[t1,t2]:=Array.ext' htl
 split at h
 case h_2=>cases h
 rename_i t0 e hk ry
 have ry:=Nat.eq_of_beq_eq_true ry
 subst ry
 split at h
 case h_2=>cases h
 rename_i n i off t l vx he hs hx
 have he:=Nat.eq_of_beq_eq_true he
 split at h
 case h_2=>cases h
 rename_i l2 lx m gt l0 hc U2 Pf
 split at h
 case h_2=>cases h
 rename_i WW x0 hno hlk X1
 simp only[oI,pI]at h
 obtain⟨rfl,rfl,rfl⟩:=h
 obtain⟨ec,lH⟩:=ct hc
 subst ec
 obtain rfl:l=l2:=lH.symm
 simp only[Bool.and_eq_true,Bool.not_eq_true']at hno
 obtain⟨⟨hno,hpk⟩,AB⟩:=hno
 have hnm:n∉m:=by
  intro hm
  simp only[Bd,List.all_cons,List.all_nil,Bool.and_true,Bool.not_eq_true',List.any_eq_false]at hno
  exact hno n hm (by simp)
 obtain⟨c0,hs0,X3⟩:=Option.bind_eq_some_iff.1 X1
 have oB:El P ty t:=hv _ (by simp)
 have hlx:0<lx.length:=hv _ (by simp)
 obtain⟨bz,bW⟩:(l.length+lx.length)*dB t≤140737488355328∧l.length+lx.length≤maxLen:=hv _ (by simp)
 have hx0:x0=l0.getD i (aA gt):=hv _ (by simp)
 have hv0: ∀q,q∈WW→q:=fun q hq=>hv q (by simp[hq])
 have Oc:RV w st.hp env n (some (i,off)) t l (a.eval s):=hop hs
 obtain⟨b,o1,len,cap,fv,A,B,IW,eK,hS,hO,hcell,hput⟩:=I1 g Oc Pf
 obtain⟨news,fx,n1,n2,n3,n4,n5,n6⟩:=Bf g (hop hx) U2
 have hC:=C t1
 rw[hk]at hC
 obtain⟨inf,hi,hz,hsize,hby⟩:=info_parts oB
 have X4: ∀y,y∈fx.flatten→y∉(env n).fp:=by
  intro y hy WX
  obtain⟨j,oj,hj,h1,h2⟩:=n5 y hy
  exact g.fU j n _ _ (fun e=>hnm (e▸hj)) h1 Pf y h2 WX
 have I2: ∀y,y∈fv→y∈(env n).fp:=fun y hy=>by rw[eK];simp[hy]
 obtain⟨d1,d2⟩:=List.nodup_cons.1 hO.nodup
 obtain⟨d3,d4,d5⟩:=List.nodup_append.1 d2
 obtain⟨d6,d7,d8⟩:=List.nodup_append.1 d4
 have Vu:Own 0 w (fv++fx.flatten):=by
  refine⟨List.nodup_append.2 ⟨d6,n6.nodup,fun y hy z hz e=>X4 z hz (e▸I2 y hy)⟩,fun _ _=>Nat.zero_le _,fun y hy=> ?_⟩
  rcases List.mem_append.1 hy with hy|hy
  ·exact hO.kind y (by simp[hy])
  ·exact n6.kind y hy
 obtain⟨v',w',Pc,nb,hr,hkeep,k1,k2,k3,k4,hsh,U5,Vt,U6,UC,hsub,WU,hnb,Kf,m',cap',AD⟩:=Ly (P:=P) t1 o.type (ty t) inf (dN t) (kk t) (dB t) (by rw[←he];exact hC.1) hi hz hsize hby (ij t) (eu t) (cF t) hS n1 n2 n3 n4 Vu hlx bW bz
 have hnlt: ∀y,y∈(env n).fp→y<w.heap.size:=(g.obj n _ Pf).sy
 have hdn: ∀y,y∈fx.flatten++nb→y∉(env n).fp:=by
  intro y hy WX
  rcases List.mem_append.1 hy with hy|hy
  ·exact X4 y hy WX
  ·have:=hnb y hy;have:=hnlt y WX;omega
 have Ze: ∀y,y∈A++B→w'.heap[y]? =w.heap[y]? :=by
  intro y hy
  have hyf:y∈(env n).fp:=by rw[eK];rcases List.mem_append.1 hy with h|h<;>simp[h]
  refine hkeep y (hnlt y hyf) fun hf=> ?_
  rcases List.mem_append.1 hy with h|h
  ·exact d5 y h y (by simp[hf]) rfl
  ·exact d8 y hf y h rfl
 have hkb:w'.heap[b]? =w.heap[b]? :=hkeep b (hnlt b (by rw[eK];simp)) fun hf=>d1 (by simp[hf])
 obtain⟨cb,eb,mT⟩:=hO.kind b (by simp)
 have kP:o1+i*kk gt+off<cb.size:=by
  rw[xW mT]at hcell
  exact(Array.getElem?_eq_some_iff.1 hcell).1
 have Vw:l0.set i x0=l0:=by
  rw[hx0]
  by_cases hi:i<l0.length
  ·rw[List.getD_eq_getElem?_getD,List.getElem?_eq_getElem hi];exact List.set_getElem_self hi
  ·rw[List.set_eq_of_length_le (by omega)]
 have hRn:hJ ty w' n gt l0 (env n):=by
  have:=hput l c0 WW x0 hs0 X3 hv0 w' (a.eval s) fv Ze (fun o cs hr _ j u hu=>by rw[World.cell?_of_block (w:=w) (a:=⟨b,_,none⟩) hkb];exact hr j u hu)
   (by rw[World.cell?_of_block (w:=w) (a:=⟨b,_,none⟩) hkb];exact hcell) (fun c e h=>hsh b c e h) U5 (hO.nodup|>fun hn=>⟨hn,fun _ _=>Nat.zero_le _,fun y hy=>by
    obtain⟨c,e,h1⟩:=hO.kind y hy
    obtain⟨c',h2,_⟩:=hsh y c e h1
    exact⟨_,_,h2⟩⟩)
  rw[Vw, ←eK]at this
  exact this
 have hnd: ∀k o,k∉m→look st.hp k=some o→k≠m0:=by
  rintro k o hks h1 rfl
  rw[aY,if_neg hks,h1]at hlk
  cases hlk
 have IT:n≠m0:=hnd n _ hnm Pf
 have Lz: ∀k o,look ((m0,Obj.dY t (l++lx) (.qB (some (n,i,off))))::bE m [n] st.hp) k=some o→(k=m0∧o= .dY t (l++lx) (.qB (some (n,i,off))))∨(k≠m0∧k∉m∧ ∃o',look st.hp k=some o'∧o=o'.bf m [n]):=by
  intro k o hm
  by_cases jc:k=m0
  ·subst jc;rw[look_eq]at hm;simp only[oI]at hm;exact Or.inl ⟨rfl,hm.symm⟩
  ·rw[aK jc,aY]at hm
   split at hm
   ·cases hm
   ·rename_i hks
    cases hq:look st.hp k with
    |none=>rw[hq]at hm;cases hm
    |some o'=>rw[hq]at hm;simp only[Option.map_some,oI]at hm;exact Or.inr ⟨jc,hks,o',rfl,hm.symm⟩
 have Hu: ∀y,y∈fx.flatten++nb→y<w.heap.size→ ∃j oj,j∈m∧look st.hp j=some oj∧y∈(env j).fp:=by
  intro y hy hlt
  rcases List.mem_append.1 hy with hy|hy
  ·exact n5 y hy
  ·have:=hnb y hy;omega
 have hst: ∀k o,k≠n→look st.hp k=some o→ ∀y,y∈(env k).fp→w'.heap[y]? =w.heap[y]? :=fun k o hkn h1 y hy=>
  hkeep y ((g.obj k o h1).sy y hy) fun hf=>g.fU k n _ _ hkn h1 Pf y hy (I2 y hf)
 have X5:look ((m0,Obj.dY t (l++lx) (.qB (some (n,i,off))))::bE m [n] st.hp) n=some (.arr gt l0):=by
  rw[aK IT,aY,if_neg hnm,Pf];rfl
 have hs':qC m [n] w st.hp env w' ((m0, .dY t (l++lx) (.qB (some (n,i,off))))::bE m [n] st.hp) (fun k=>if k=m0 then⟨v',fx.flatten++nb⟩else env k):=by
  refine⟨fun y hy hno=>hkeep y hy fun hf=>hno ⟨n,_,Pf,I2 y hf⟩,?_,?_,?_⟩
  ·rintro y hy ⟨k,o',h1,h2⟩
   rcases Lz k o' h1 with⟨rfl,_⟩| ⟨jc,hks,wQ,h3,rfl⟩
   ·simp only[if_true]at h2
    obtain⟨j,oj,_,h3,h4⟩:=Hu y h2 hy
    exact⟨j,oj,h3,h4⟩
   ·simp only[if_neg jc]at h2
    exact⟨k,wQ,h3,h2⟩
  ·intro k o' hks h1
   have jc:=hnd k o' hks h1
   exact⟨o'.bf m [n],by rw[aK jc,aY,if_neg hks,h1];rfl,by cases o'<;>simp[Obj.like,Obj.bf],by simp[jc]⟩
  ·rintro k t2 l2 ⟨hks,hkn⟩ h1
   have jc:=hnd k _ hks h1
   exact⟨by rw[aK jc,aY,if_neg hks,h1];rfl,by simp[jc],hst k _ (by simpa using hkn) h1⟩
 have Vx:=g.fA hs' (fun k o' hm=> ?_) (fun k k' q1 q2 hne h1 h2 y hy hy'=> ?_) (fun k o' hm y hy=> ?_) (fun k hm=> ?_)
 ·refine ?_
  unfold Oper.wp execOp
  simp only[dL,resolve,invoke,builtin,Sem.run_bind,Sem.run_pure,Result.andThen_ok,List.map_toArray,List.map_cons,List.map_nil,hr]
  exact⟨v',_,rfl,⟨k1,k2,k3,k4,fun y hy hn=>hkeep y (by omega) fun hf=>by
   rcases g.dom n _ Pf y (I2 y hf)with h|h
   ·exact hn h
   ·omega,hsh⟩,Vx,trivial,⟨t,_,_,look_eq⟩,by simp⟩
 ·rcases Lz k o' hm with⟨e1,e2⟩| ⟨jc,hks,wQ,h3,rfl⟩
  ·rw[e1,e2]
   simp only[if_true]
   refine⟨WU,⟨Kf,m',cap',AD⟩,fun n' i' off' e=> ?_⟩
   simp only[oI,pI]at e
   obtain⟨rfl,rfl,rfl⟩:=e
   refine⟨gt,l0,b,o1,len,cap,X5,by simp only[if_neg IT];exact IW,by simp only[if_neg IT];rw[eK];simp,?_⟩
   simp only[if_neg IT]
   intro w2 a1 a2 d vc y' hs1 XE uC
   have UB:b∈(env n).fp:=by rw[eK];simp
   have Vy:w2.heap[b]? =w.heap[b]? :=(a1 b UB).trans hkb
   have LA:w2.heap[b]? =some (.cells cb eb (0,0)):=Vy.trans mT
   have GX:w2.there b (o1+i*kk gt+off) [v'].length:=BZ LA _ _ (by simp only[List.length_singleton];omega)
   have X6: ∀y,y∈A++B→y≠b:=by
    rintro y hy rfl
    apply d1
    rcases List.mem_append.1 hy with h|h<;>simp[h]
   have WY: ∀y,y∈A++B→y∈(env n).fp:=by
    intro y hy
    rw[eK];rcases List.mem_append.1 hy with h|h<;>simp[h]
   have Cs: ∀y,y≠b→(w2.setCells b (o1+i*kk gt+off) [v']).heap[y]? =w2.heap[y]? :=fun y hy=>bI b _ _ w2 y hy
   have SS: ∀y,y∈A++B→(w2.setCells b (o1+i*kk gt+off) [v']).heap[y]? =w.heap[y]? :=fun y hy=>(Cs y (X6 y hy)).trans ((a1 y (WY y hy)).trans (Ze y hy))
   have Zf: ∀y,y∈Pc→y≠b:=by
    rintro y hy rfl
    rcases hsub y hy with h|h
    ·exact d1 (by simp[h])
    ·exact hdn y h UB
   have Zg: ∀y,y∈Pc→(w2.setCells b (o1+i*kk gt+off) [v']).heap[y]? =w'.heap[y]? :=by
    intro y hy
    refine(Cs y (Zf y hy)).trans ?_
    rcases hsub y hy with h|h
    ·exact a1 y (I2 y h)
    ·exact a2 y h
   have Vz: ∀y,y∈Pc→y∉A++B:=by
    intro y hy Zh
    rcases hsub y hy with h|h
    ·rcases List.mem_append.1 Zh with h2|h2
     ·exact d5 y h2 y (by simp[h]) rfl
     ·exact d8 y h y h2 rfl
    ·exact hdn y h (WY y Zh)
   refine⟨by simpa using GX,b::(A++(Pc++B)),fun y hy=> ?_,?_⟩
   ·simp only[List.mem_cons,List.mem_append]at hy
    rcases hy with rfl|h|h|h
    ·exact Or.inl UB
    ·exact Or.inl (WY y (by simp[h]))
    ·rcases hsub y h with h|h
     ·exact Or.inl (I2 y h)
     ·exact Or.inr h
    ·exact Or.inl (WY y (by simp[h]))
   ·refine hput (l++lx) d vc y' hs1 XE uC _ v' Pc SS (fun o cs hr hd=> ?_) ?_ (fun c e h=> ?_) (Sl.agree (cF t) U6 Zg) ⟨List.nodup_cons.2 ⟨fun hm=> ?_,?_⟩,fun _ _=>Nat.zero_le _,fun y hy=> ?_⟩
    ·refine World.rangeAt_setCells_apart (fun j u hu=> ?_) _ _ _ (Or.inr (hd.imp id fun h=>by simpa using h))
     rw[World.cell?_of_block (w:=w) (a:=⟨b,_,none⟩) Vy];exact hr j u hu
    ·have:=World.rangeAt_setCells_same w2 b _ [v'] GX 0 v' rfl
     simpa using this
    ·rw[mT]at h
     simp only[oI,Go.Obj.cells.injEq,and_true]at h
     obtain⟨rfl,rfl⟩:=h
     exact cC b eb [v'] _ w2 cb LA
    ·simp only[List.mem_append]at hm
     rcases hm with h|h|h
     ·exact X6 b (by simp[h]) rfl
     ·exact Zf b h rfl
     ·exact X6 b (by simp[h]) rfl
    ·refine List.nodup_append.2 ⟨d3,List.nodup_append.2 ⟨UC.nodup,d7,fun y hy z hz e=>Vz y hy (by simp[e▸hz])⟩,fun y hy z hz e=> ?_⟩
     rcases List.mem_append.1 hz with h|h
     ·exact Vz z h (by simp[e▸hy])
     ·exact d5 y hy z (by simp[h]) e
    ·rcases List.mem_cons.1 hy with rfl|hy
     ·obtain⟨c',q1,_⟩:=cC y eb [v'] (o1+i*kk gt+off) w2 cb LA
      exact⟨_,_,q1⟩
     ·simp only[List.mem_append]at hy
      rcases hy with h|h|h
      ·rw[SS y (by simp[h])];exact hO.kind y (by simp[h])
      ·rw[Zg y h];exact UC.kind y h
      ·rw[SS y (by simp[h])];exact hO.kind y (by simp[h])
  ·simp only[if_neg jc]
   by_cases hkn:k=n
   ·subst hkn
    rw[Pf]at h3
    simp only[oI]at h3
    subst h3
    exact hRn
   ·exact(g.obj k wQ h3).fA hs' (hst k wQ hkn h3)
 ·rcases Lz k q1 h1 with⟨e1,_⟩| ⟨jc,hks,r1,h3,_⟩<;>rcases Lz k' q2 h2 with⟨e2,_⟩| ⟨Cj,K7,r2,h4,_⟩
  ·exact hne (e1.trans e2.symm)
  ·simp only[if_pos e1]at hy
   simp only[if_neg Cj]at hy'
   obtain⟨j,oj,hj,h5,h6⟩:=Hu y hy ((g.obj k' r2 h4).sy y hy')
   exact g.fU k' j _ _ (fun e=>K7 (e▸hj)) h4 h5 y hy' h6
  ·simp only[if_pos e2]at hy'
   simp only[if_neg jc]at hy
   obtain⟨j,oj,hj,h5,h6⟩:=Hu y hy' ((g.obj k r1 h3).sy y hy)
   exact g.fU k j _ _ (fun e=>hks (e▸hj)) h3 h5 y hy h6
  ·simp only[if_neg jc]at hy
   simp only[if_neg Cj]at hy'
   exact g.fU k k' _ _ hne h3 h4 y hy hy'
 ·rcases Lz k o' hm with⟨e1,_⟩| ⟨jc,hks,q1,h3,_⟩
  ·simp only[if_pos e1]at hy
   by_cases hlt:y<w.heap.size
   ·obtain⟨j,oj,_,h5,h6⟩:=Hu y hy hlt
    exact g.dom j oj h5 y h6
   ·exact Or.inr (by omega)
  ·simp only[if_neg jc]at hy
   exact g.dom k q1 h3 y hy
 ·have:k≠m0:=by rintro rfl;rw[AB]at hm;cases hm
  simp only[if_neg this]
  exact g.pins k hm
def SU(Γ:Nat→TK)(st:St):Op→Option (List Prop×St)
 | .store t x y=>match ew st [] x,ew st [] y with
   |some (.a (.iQ n i off)),some (.a (.nK d))=>match look st.hp n,look st.hp d with
    |some (.arr gt l0),some (.dY t' l (.qB (some (n',i',off'))))=>match Nat.beq n n'&&(Nat.beq i i'&&Nat.beq off off')&& !fu n&&DS n [d]&&fits (Γ t) (.a (.nK d)),(Az (dec gt (l0.getD i (aA gt))) off [.sl t' l]).bind (enc gt)with
     |true,some (vc,y')=>some (vc,st.FN [d] n gt (l0.set i y'))
     |_,_=>none
    |_,_=>none
   |_,_=>none
 |_=>none
theorem Pg{Γ:Nat→TK}(Z: ∀t,(∀z tg fo,Γ t≠ .st z tg fo)→Γ t≠ .other→(P.info? t).map (·.size)=some 1){vc:List Prop}(h:SU Γ st o.op=some (vc,st'))(g:Good ty zb st a.tmps w env)(hv: ∀q,q∈vc→q):
  o.wp P a w (fun a' w'=> ∃env',a'=a.put o.dst undef∧Kept zb w w'∧Good ty zb st' a.tmps w' env'∧st'.n=st.n) Q:=by
 have hop: ∀{x v},ew st [] x=some v→eC w st.hp env v (a.eval x):=fun hx=>dh g (fun e he=>by simp at he) hx
 generalize dL:o.op=op at h
 unfold SU at h
 split at h
 case h_2=>cases h
 rename_i t x y
 split at h
 case h_2=>cases h
 rename_i n i off d hx hy
 have hx:=hop hx
 have hy:=hop hy
 split at h
 case h_2=>cases h
 rename_i gt l0 t' l n' i' off' hl hd
 split at h
 case h_2=>cases h
 rename_i nL y' hok X1
 simp only[oI,pI]at h
 obtain⟨rfl,rfl⟩:=h
 simp only[Bool.and_eq_true,Bool.not_eq_true']at hok
 obtain⟨⟨⟨⟨e1,e2,e3⟩,Sz⟩,hok⟩,hfit⟩:=hok
 obtain rfl:=Nat.eq_of_beq_eq_true e1
 obtain rfl:=Nat.eq_of_beq_eq_true e2
 obtain rfl:=Nat.eq_of_beq_eq_true e3
 obtain⟨c0,hs0,X3⟩:=Option.bind_eq_some_iff.1 X1
 obtain⟨hOd,⟨oa,m,cp,vX⟩,hpr⟩:wM ty w st.hp env t' l (some (n,i,off)) (env d):=g.obj d _ hd
 obtain⟨tA,lA,b,o1,len,cap,q1,q2,q3,q4⟩:=hpr n i off rfl
 rw[hl]at q1
 simp only[oI,Obj.arr.injEq]at q1
 obtain⟨rfl,q1⟩:=q1
 cases q1
 obtain⟨GX,DG,hsub,hR⟩:=q4 w (fun _ _=>rfl) (fun _ _=>rfl) c0 nL y' hs0 X3 hv
 obtain⟨t1,l1,hl1,b2,o2,SA,OX,uC,hu⟩:=hx
 rw[hl]at hl1
 simp only[oI,Obj.arr.injEq]at hl1
 obtain⟨rfl,_⟩:=hl1
 rw[q2]at uC
 simp only[Value.slice.injEq,oI,Addr.mk.injEq,and_true]at uC
 obtain⟨⟨rfl,rfl⟩,_,_⟩:=uC
 obtain⟨_,huy⟩:=(show RA w st.hp env (.nK d) (a.eval y)from hy)
 have um:(a.eval y).cells.toList= [(env d).v]:=by rw[huy,vX];rfl
 have hsz:(P.info? t).map (·.size)=some 1:=Z t (sX hfit).1 (sX hfit).2
 obtain⟨cb,eb,mT⟩:=(RO.own (g.obj n _ hl)).kind b q3
 obtain⟨env',hg',AD⟩:=vY (fx:=(env d).fp) g hl hok (w':=w.setCells b (o1+i*kk gt+off) [(env d).v]) (fun y hy=>⟨d,_,by simp,hd,hy⟩) hsub (fun h=>by rw[Sz]at h;cases h) (fun y h1 _ _=>bI b _ _ w y fun e=>h1 (e▸q3)) hR
 have hrun:(storeVar t ⟨b,o1+i*kk gt+off,none⟩ (a.eval y)).run P w= .ok () (w.setCells b (o1+i*kk gt+off) [(env d).v]):=jx (by rw[←um]) GX hsz (by intro u hu;simp at hu;rw[hu,vX];rfl)
 unfold Oper.wp execOp
 simp only[dL,hu,Instr.storeAt,Instr.sureAddr,Sem.run_bind,Sem.run_pure,Result.andThen_ok,hrun]
 exact⟨env',rfl,sP (g.dom n _ hl b q3) mT _ _,hg',rfl⟩
end
end
section
variable{ty:Tag→Nat}
def fV:V→Option V
 | .any=>some .any
 | .lit (.int k n)=>some (.lit (.int k n))
 | .lit (.bool b)=>some (.lit (.bool b))
 | .lit (.string s)=>some (.lit (.string s))
 | .lit v=>some (.lit v)
 | .sl t l=>some (.sl t l)
 | .own n=>some (.own n)
 | .ptr n o=>some (.ptr n o)
 | .iQ n i o=>some (.iQ n i o)
 | .ip t x o=>some (.ip t x o)
 | .vw n p t l=>some (.vw n p t l)
 | .wK n p t x o=>some (.wK n p t x o)
 | .wL n t l=>some (.wL n t l)
 | .mix n c t l=>some (.mix n c t l)
 | .nK n=>some (.nK n)
 | .vV f n=>some (.vV f n)
 | .mJ k=>some (.mJ k)
 | .raw v=>some (.raw v)
 | .gL v t l=>some (.gL v t l)
theorem Ru(v:V):fV v=some v:=by
 unfold fV;split<;>rfl
def UD:List V→Option (List V)
 | []=>some []
 |v::r=>match fV v,UD r with
  |some x,some y=>some (x::y)
  |_,_=>none
theorem FZ: ∀l:List V,UD l=some l
 | []=>rfl
 |v::r=>by simp[UD,Ru,FZ r]
def fS:SV→Option SV
 | .one (.a v)=>match fV v with|some v=>some (.one (.a v))|none=>none
 | .one (.agg l)=>match UD l with|some l=>some (.one (.agg l))|none=>none
 | .qR l=>some (.qR l)
 | .cond p (.a v)=>match fV v with|some v=>some (.cond p (.a v))|none=>none
 | .cond p (.agg l)=>match UD l with|some l=>some (.cond p (.agg l))|none=>none
theorem LB{x y:SV}(h:fS x=some y):y=x:=by
 unfold fS at h
 split at h<;>simp_all [Ru,FZ]
def fO:Obj→Option Obj
 | .box c=>match UD c with|some c=>some (.box c)|none=>none
 | .arr t l=>some (.arr t l)
 | .dY t l .gone=>some (.dY t l .gone)
 | .dY t l .kI=>some (.dY t l .kI)
 | .dY t l .mp=>some (.dY t l .mp)
 | .dY t l (.As u)=>some (.dY t l (.As u))
 | .dY t l (.of n)=>some (.dY t l (.of n))
 | .dY t l (.qB p)=>some (.dY t l (.qB p))
theorem Rv{x y:Obj}(h:fO x=some y):y=x:=by
 unfold fO at h
 split at h<;>simp_all [FZ]
def VA:List (Nat×SV)→Option (List (Nat×SV))
 | []=>some []
 | (n,x)::r=>match fS x,VA r with
   |some x,some r=>some ((n,x)::r)
   |_,_=>none
theorem LC: ∀{l m:List (Nat×SV)},VA l=some m→m=l
 | [],m,h=>by simp only[VA,oI]at h;exact h.symm
 | (n,x)::r,m,h=>by
   simp only[VA]at h
   split at h
   ·rename_i y r' h1 h2
    simp only[oI]at h
    rw[←h,LB h1,LC h2]
   ·cases h
def SW:Hp→Option Hp
 | []=>some []
 | (n,x)::r=>match fO x,SW r with
   |some x,some r=>some ((n,x)::r)
   |_,_=>none
theorem Ct: ∀{l m:Hp},SW l=some m→m=l
 | [],m,h=>by simp only[SW,oI]at h;exact h.symm
 | (n,x)::r,m,h=>by
   simp only[SW]at h
   split at h
   ·rename_i y r' h1 h2
    simp only[oI]at h
    rw[←h,Rv h1,Ct h2]
   ·cases h
def Hv:St→Option St
 | ⟨n,sl,hp⟩=>match VA sl,SW hp with
   |some sl,some hp=>some ⟨n,sl,hp⟩
   |_,_=>none
theorem jg{s s':St}(h:Hv s=some s'):s'=s:=by
 obtain⟨n,sl,hp⟩:=s
 simp only[Hv]at h
 split at h
 ·rename_i a b h1 h2
  simp only[oI]at h
  rw[←h,LC h1,Ct h2]
 ·cases h
def Rw:TypeDesc→Bool
 | .struct _=>false
 | .array _ _=>false
 |_=>true
def Ph(P:Program)(t f k:Nat):Prop:= ∃fs fd d,P.underlying t=some (.struct fs)∧fs[f]? =some fd∧fd.offset=k∧P.underlying fd.type=some d∧Rw d=true
def Bo:List V→Option (List Int)
 | []=>some []
 | .lit (.int .i64 a)::r=>match Bo r with|some l=>some (a::l)|none=>none
 |_=>none
def Rx(P:Program)(t n:Nat):Prop:= ∀(xs ys:List Int) (X Y:Operand) (w:World),xs.length=n→ys.length=n→
 (do eqGuard .neq t X Y (.agg (xs.map (Value.int .i64)).toArray) (.agg (ys.map (Value.int .i64)).toArray);binOp .neq t (.agg (xs.map (Value.int .i64)).toArray) (.agg (ys.map (Value.int .i64)).toArray):Sem Value).run P w= .ok (.bool (xs !=ys)) w
theorem yS{w:World}{hp:Hp}{env:Env}: ∀{l:List V} {xs:List Int} {cs:List Value},Bo l=some xs→bg (RA w hp env) l cs→cs=xs.map (Value.int .i64)
 | [],xs,[],h,_=>by simp only[Bo,oI]at h;subst h;rfl
 | [],_,_::_,_,h=>h.elim
 |v::r,xs,[],_,h=>h.elim
 |v::r,xs,c::cs,h,⟨h1,h2⟩=>by
  unfold Bo at h
  split at h
  ·rename_i e;cases e
  ·rename_i a r' e
   simp only[List.cons.injEq]at e
   obtain⟨rfl,rfl⟩:=e
   split at h
   ·rename_i l' hl
    simp only[oI]at h
    subst h
    rw[yS hl h2,List.map_cons,h1.1]
   ·cases h
  ·cases h
def F0(P:Program)(Γ:Nat→TK)(st:St):Op→Option (List Prop×St×SV)
 | .field t x f=>match ew st [] x,Γ t with
   |some (.agg c), .st _ _ fo=>match kJ fo f with
    |some k=>match sr c k with
     |some v=>some ([Ph P t f k],st, .one (.a v))
     |none=>none
    |none=>none
   |_,_=>none
 | .binOp .neq t x y _=>match ew st [] x,ew st [] y with
   |some (.agg l),some (.agg l')=>match Bo l,Bo l' with
    |some xs,some ys=>match Nat.beq xs.length ys.length with
     |true=>some ([Rx P t xs.length],st, .one (.a (.lit (.bool (xs !=ys)))))
     |false=>none
    |_,_=>none
   |_,_=>none
 |_=>none
theorem F1{P:Program}{t:TypeId}{d:TypeDesc}(h:P.underlying t=some d)(hd:Rw d=true)(w:World):(isAgg t).run P w= .ok false w:=by
 cases d<;>first| (cases hd;done)|simp[isAgg,run_underlying h]
section
variable{P:Program}{zb:bP}{st st':St}{a:Act}{w:World}{env:Env}{Q:Exit→Act→World→Prop}{o:Oper}
theorem Pj{Γ:Nat→TK}{vc:List Prop}{v:SV}(h:F0 P Γ st o.op=some (vc,st',v))(g:Good ty zb st a.tmps w env)(hv: ∀q,q∈vc→q):
  o.wp P a w (fun a' w'=> ∃u env',a'=a.put o.dst u∧Kept zb w w'∧Good ty zb st' a.tmps w' env'∧st'.n=st.n∧lT w' st'.hp env' a.tmps v u) Q:=by
 generalize dL:o.op=op at h
 cases op with
 |field t x f=>
  simp only[F0]at h
  split at h
  case h_2=>cases h
  rename_i c z tg fo hx hk
  split at h
  case h_2=>cases h
  rename_i k hf
  split at h
  case h_2=>cases h
  rename_i v' hel
  simp only[oI,pI]at h
  obtain⟨rfl,rfl,rfl⟩:=h
  obtain⟨fs,fd,d,h1,h2,h3,h4,h5⟩:=hv _ (List.mem_singleton.2 rfl)
  obtain⟨us,hu,hA⟩:=dh g (fun e he=>by simp at he) hx
  obtain⟨u,k1,k2⟩:=hA.at (Cd hel)
  have hr:(execOp a.eval o).run P w= .ok (.value u) w:=by
   unfold execOp
   simp[dL,hu,Instr.field,part,run_underlying h1,h2,h3,F1 h4 h5,asAgg,k1]
  unfold Oper.wp
  rw[hr]
  exact⟨u,env,rfl,Kept.refl _ _,g,rfl,k2⟩
 |binOp b t x y t'=>
  cases b with
  |neq=>
   simp only[F0]at h
   split at h
   case h_2=>cases h
   rename_i l l' hx hy
   split at h
   case h_2=>cases h
   rename_i xs ys h1 h2
   split at h
   case h_2=>cases h
   rename_i hn
   have hn:=Nat.eq_of_beq_eq_true hn
   simp only[oI,pI]at h
   obtain⟨rfl,rfl,rfl⟩:=h
   have hS:Rx P t xs.length:=hv _ (List.mem_singleton.2 rfl)
   obtain⟨us,hu,hA⟩:=dh g (fun e he=>by simp at he) hx
   obtain⟨us',Uz,hA'⟩:=dh g (fun e he=>by simp at he) hy
   rw[yS h1 hA]at hu
   rw[yS h2 hA']at Uz
   have hr:(execOp a.eval o).run P w= .ok (.value (.bool (xs !=ys))) w:=by
    unfold execOp
    simp only[dL,hu,Uz]
    rw[Sem.run_bind,hS xs ys x y w rfl hn.symm]
    rfl
   unfold Oper.wp
   rw[hr]
   exact⟨_,env,rfl,Kept.refl _ _,g,rfl,rfl,rfl⟩
  |_=>simp[F0]at h
 |_=>simp[F0]at h
end
def LD(P:Program)(ty:Tag→Nat)(Γ:Nat→TK)(cr:List (Nat×CR))(st:St)(m:Nat)(d:Option Nat)(op:Op):Option (List Prop×St×SV):=
 match FM P ty Γ st m op with
 |some r=>some r
 |none=>match yF P ty Γ st m op with
  |some r=>some r
  |none=>match WK P ty Γ cr st d op with
   |some r=>some r
   |none=>match WL P ty cr st d op with
    |some r=>some r
    |none=>match Ln P ty Γ cr st d op with
     |some r=>some r
     |none=>match Vb P ty Γ st op with
      |some r=>some r
      |none=>match F0 P Γ st op with
       |some r=>some r
       |none=>match FY P ty Γ st m op with
        |some r=>some r
        |none=>match O7 P ty Γ st m op with
         |some r=>some r
         |none=>match O9 Γ cr st m d op with
          |some r=>some r
          |none=>Pd P ty Γ st m op
def LF(Γ:Nat→TK)(st:St)(op:Op):Option (List Prop×St):=
 match OV Γ st op with
 |some r=>some r
 |none=>match WO Γ st op with
  |some r=>some r
  |none=>SU Γ st op
def step(P:Program)(ty:Tag→Nat)(Γ:Nat→TK)(cK:List (Nat×Nat))(cr:List (Nat×CR))(ops:List Oper)(st:St)(o:Oper):Option (List Prop×St):=
 match KE Γ (A5 P ty) (Sound ty P) cK cr ops st o with
 |some r=>some r
 |none=>match o.guard,qS st o.dst,UR cK o.dst with
  |none,true,some m=>match yC Γ st o.op with
   |some st'=>match o.dst with|none=>some ([],st')|some _=>none
   |none=>match LF Γ st o.op with
    |some (vc,st')=>match o.dst,Hv st' with|none,some st'=>some (vc,st')|_,_=>none
    |none=>match LD P ty Γ cr st m o.dst o.op with
     |some (vc,st',v)=>match Hv st' with|some st'=>some (vc,st'.put o.dst v)|none=>none
     |none=>none
  |_,_,_=>none
def run(P:Program)(ty:Tag→Nat)(Γ:Nat→TK)(cK:List (Nat×Nat))(cr:List (Nat×CR))(ops:List Oper):List Oper→St→List Prop→Option (List Prop×St)
 | [],st,acc=>some (acc,st)
 |o::r,st,acc=>match step P ty Γ cK cr ops st o with
  |some ([],⟨n,sl,hp⟩)=>run P ty Γ cK cr ops r ⟨n,sl,hp⟩ acc
  |some ([p],⟨n,sl,hp⟩)=>run P ty Γ cK cr ops r ⟨n,sl,hp⟩ (p::acc)
  |some ([p,q],⟨n,sl,hp⟩)=>run P ty Γ cK cr ops r ⟨n,sl,hp⟩ (p::q::acc)
  |some (l,⟨n,sl,hp⟩)=>run P ty Γ cK cr ops r ⟨n,sl,hp⟩ (l++acc)
  |none=>none
@[reducible] def gw:List Prop→Prop
  | []=>True
  |p::r=>p∧gw r
theorem gw.out: ∀{l:List Prop},gw l→ ∀q,q∈l→q
 |p::r,h,q,hq=>by
  rcases List.mem_cons.1 hq with rfl|hq
  ·exact h.1
  ·exact gw.out h.2 q hq
section
variable{P:Program}{zb:bP}{st st':St}{a:Act}{w:World}{Q:Exit→Act→World→Prop}{o:Oper}
theorem v8{v:SV}{d:Nat}(h: ∃x,v= .one x):v.mentions d=false:=by
 obtain⟨x,rfl⟩:=h;rfl
theorem kK.mono{ops:Array Oper}{K K':Act→World→Prop}(h: ∀a w,K a w→K' a w)(hr:kK P ops o a w K Q):kK P ops o a w K' Q:=by
 unfold kK at*
 split
 ·rename_i hw;rw[if_pos hw]at hr;exact hr.imp (Oper.wp_mono h) id
 ·rename_i hw;rw[if_neg hw]at hr;exact h _ _ hr
theorem LG{Γ:Nat→TK}(C: ∀t,b7 P t (Γ t)){cr:List (Nat×CR)}{m:Nat}{vc:List Prop}{v:SV}{env:Env}{d:Option Nat}(h:LD P ty Γ cr st m d o.op=some (vc,st',v))(g:Good ty zb st a.tmps w env)(hB:zb.w.heap.size≤w.heap.size)(hA:B9 zb)(hN:A3 w)(hv: ∀q,q∈vc→q):
  (∀k,v.mentions k=false)∧o.wp P a w (fun a' w'=> ∃u env',a'=a.put o.dst u∧Kept zb w w'∧Good ty zb st' a.tmps w' env'∧st'.n=st.n∧lT w' st'.hp env' a.tmps v u) Q:=by
 have one:(∃x,v= .one x)→ ∀k,v.mentions k=false:=fun hx k=>v8 hx
 unfold LD at h
 split at h
 ·rename_i r he
  simp only[oI]at h
  subst h
  refine⟨one ?_,OU C he g hB hv⟩
  unfold FM at he
  repeat' split at he
  all_goals first
   | (cases he;done)
   | (simp only[oI,pI]at he;exact⟨_,he.2.2.symm⟩)
 ·split at h
  ·rename_i r he
   simp only[oI]at h
   subst h
   refine⟨one ?_,IS C he g hB hv⟩
   unfold yF at he
   repeat' split at he
   all_goals first
    | (cases he;done)
    | (simp only[oI,pI]at he;exact⟨_,he.2.2.symm⟩)
  ·split at h
   ·rename_i r he
    simp only[oI]at h
    subst h
    refine⟨one ?_,SG he g hB hA hN hv⟩
    unfold WK at he
    repeat' split at he
    all_goals first
     | (cases he;done)
     | (simp only[oI,pI]at he;exact⟨_,he.2.2.symm⟩)
   ·split at h
    ·rename_i r he
     simp only[oI]at h
     subst h
     refine⟨one ?_,SJ (Γ:=Γ) he g hB hA hN hv⟩
     unfold WL at he
     repeat' split at he
     all_goals first
      | (cases he;done)
      | (simp only[oI,pI]at he;exact⟨_,he.2.2.symm⟩)
    ·split at h
     ·rename_i r he
      simp only[oI]at h
      subst h
      exact O3 he g hB hA hN hv
     ·split at h
      ·rename_i r he
       simp only[oI]at h
       subst h
       refine⟨one ?_,SL C he g hB hv⟩
       unfold Vb at he
       repeat' split at he
       all_goals first
        | (cases he;done)
        | (simp only[oI,pI]at he;exact⟨_,he.2.2.symm⟩)
      ·split at h
       ·rename_i r he
        simp only[oI]at h
        subst h
        refine⟨one ?_,Pj he g hv⟩
        unfold F0 at he
        repeat' split at he
        all_goals first
         | (cases he;done)
         | (simp only[oI,pI]at he;exact⟨_,he.2.2.symm⟩)
       ·split at h
        ·rename_i r he
         simp only[oI]at h
         subst h
         refine⟨one ?_,O5 C he g hB hv⟩
         unfold FY at he
         repeat' split at he
         all_goals first
          | (cases he;done)
          | (simp only[oI,pI]at he;exact⟨_,he.2.2.symm⟩)
        ·split at h
         ·rename_i r he
          simp only[oI]at h
          subst h
          refine⟨one ?_,O8 C he g hB hv⟩
          unfold O7 at he
          repeat' split at he
          all_goals first
           | (cases he;done)
           | (simp only[oI,pI]at he;exact⟨_,he.2.2.symm⟩)
         ·split at h
          ·rename_i r he
           simp only[oI]at h
           subst h
           refine⟨one ?_,Pa C he g hB hv⟩
           unfold O9 at he
           repeat' split at he
           all_goals first
            | (cases he;done)
            | (simp only[oI,pI]at he;exact⟨_,he.2.2.symm⟩)
          ·refine⟨one ?_,Pe C h g hB hv⟩
           unfold Pd at h
           repeat' split at h
           all_goals first
            | (cases h;done)
            | (simp only[oI,pI]at h;exact⟨_,h.2.2.symm⟩)
theorem LH{Γ:Nat→TK}(C: ∀t,b7 P t (Γ t))(Z: ∀t,(∀z tg fo,Γ t≠ .st z tg fo)→Γ t≠ .other→(P.info? t).map (·.size)=some 1){vc:List Prop}{env:Env}(h:LF Γ st o.op=some (vc,st'))(g:Good ty zb st a.tmps w env)(hB:zb.w.heap.size≤w.heap.size)(hv: ∀q,q∈vc→q):
  o.wp P a w (fun a' w'=> ∃env',a'=a.put o.dst undef∧Kept zb w w'∧Good ty zb st' a.tmps w' env'∧st'.n=st.n) Q:=by
 unfold LF at h
 split at h
 ·rename_i r hr
  simp only[oI]at h
  subst h
  exact OW C Z hr g hv
 ·split at h
  ·rename_i r hr
   simp only[oI]at h
   subst h
   exact SK C Z hr g hB hv
  ·exact Pg Z h g hv
theorem xq{Γ:Nat→TK}(C: ∀t,b7 P t (Γ t))(Z: ∀t,(∀z tg fo,Γ t≠ .st z tg fo)→Γ t≠ .other→(P.info? t).map (·.size)=some 1){cK:List (Nat×Nat)}{cr:List (Nat×CR)}{ops:List Oper}{vc:List Prop}(h:step P ty Γ cK cr ops st o=some (vc,st'))(iv:Inv ty zb st a w)(hv: ∀q,q∈vc→q):
  kK P ops.toArray o a w (fun a' w'=>Inv ty zb st' a' w') Q:=by
 simp only[step]at h
 split at h
 ·rename_i r hq
  simp only[oI]at h
  subst h
  exact K3 C hq iv hv
 ·split at h
  ·rename_i m hg hd _
   have Ch:=FJ iv hd
   obtain⟨env,g⟩:=iv.good
   have Sv:=iv.kept.size
   split at h
   ·rename_i s1 hs
    split at h
    ·rename_i SX
     simp only[oI,pI]at h
     obtain⟨rfl,rfl⟩:=h
     refine jT hg (Oper.wp_mono ?_ (IQ (Q:=Q) C Z hs g))
     rintro a' w' ⟨rfl,hb,hg',hn,Bp⟩
     rw[SX]
     exact⟨by rw[iU,hn];exact iv.size,by rw[put_defers];exact iv.defers,iv.kept.trans hb,iv.wN,env,hg'⟩
    ·cases h
   ·split at h
    ·rename_i nL s1 hs
     split at h
     ·rename_i s2 SX hfs
      have hfs:=jg hfs
      subst hfs
      simp only[oI,pI]at h
      obtain⟨rfl,rfl⟩:=h
      refine jT hg (Oper.wp_mono ?_ (LH (Q:=Q) C Z hs g Sv hv))
      rintro a' w' ⟨env',rfl,hb,hg',hn⟩
      rw[SX]
      exact⟨by rw[iU,hn];exact iv.size,by rw[put_defers];exact iv.defers,iv.kept.trans hb,iv.wN,env',hg'⟩
     ·cases h
    ·split at h
     ·rename_i nL s1 v he
      split at h
      case h_2=>cases h
      rename_i s2 hfs
      have hfs:=jg hfs
      subst hfs
      simp only[oI,pI]at h
      obtain⟨rfl,rfl⟩:=h
      obtain⟨uC,hwp⟩:=LG (Q:=Q) C he g Sv iv.wN (iv.wN.now iv.kept) hv
      refine jT hg (Oper.wp_mono ?_ hwp)
      rintro a' w' ⟨u,env',rfl,hb,hg',hn,hr⟩
      refine⟨by rw[iU,yA,hn];exact iv.size,by rw[put_defers];exact iv.defers,iv.kept.trans hb,iv.wN,env',sO hg' Ch hr fun d _=>uC d⟩
     ·cases h
  ·cases h
theorem p8{Γ:Nat→TK}{cK:List (Nat×Nat)}{cr:List (Nat×CR)}{ops:List Oper}{r:List Oper}{acc vcs:List Prop}{rA:St}(h:run P ty Γ cK cr ops (o::r) st acc=some (vcs,rA)):
  ∃vc Au,step P ty Γ cK cr ops st o=some (vc,Au)∧run P ty Γ cK cr ops r Au (vc++acc)=some (vcs,rA):=by
 simp only[run]at h
 split at h
 ·rename_i n sl hp hs;exact⟨[],⟨n,sl,hp⟩,hs,h⟩
 ·rename_i p n sl hp hs;exact⟨[p],⟨n,sl,hp⟩,hs,h⟩
 ·rename_i p q n sl hp hs;exact⟨[p,q],⟨n,sl,hp⟩,hs,h⟩
 ·rename_i l n sl hp _ _ _ hs;exact⟨_,⟨n,sl,hp⟩,hs,h⟩
 ·cases h
theorem td{Γ:Nat→TK}{cK:List (Nat×Nat)}{cr:List (Nat×CR)}{ops:List Oper}: ∀{l:List Oper} {st rA:St} {acc vcs:List Prop},run P ty Γ cK cr ops l st acc=some (vcs,rA)→ ∀q,q∈acc→q∈vcs
 | [],st,rA,acc,vcs,h,q,hq=>by
   simp only[run,oI,pI]at h
   rw[←h.1];exact hq
 |o::r,st,rA,acc,vcs,h,q,hq=>by
  obtain⟨vc,Au,_,h2⟩:=p8 h
  exact td h2 q (List.mem_append_right _ hq)
theorem LI{Γ:Nat→TK}(C: ∀t,b7 P t (Γ t))(Z: ∀t,(∀z tg fo,Γ t≠ .st z tg fo)→Γ t≠ .other→(P.info? t).map (·.size)=some 1){cK:List (Nat×Nat)}{cr:List (Nat×CR)}{ops:List Oper}{rA:St}{vcs:List Prop}
  (hQ: ∀a w,Inv ty zb rA a w→Q .normal a w): ∀{l:List Oper} {st:St} {acc:List Prop} {a:Act} {w:World},run P ty Γ cK cr ops l st acc=some (vcs,rA)→(∀q,q∈vcs→q)→Inv ty zb st a w→wpList P ops.toArray Q l a w
 | [],st,acc,a,w,h,hv,iv=>by
   simp only[run,oI,pI]at h
   obtain⟨_,rfl⟩:=h
   exact hQ a w iv
 |o::r,st,acc,a,w,h,hv,iv=>by
  obtain⟨vc,Au,h1,h2⟩:=p8 h
  have:=xq (Q:=Q) C Z h1 iv (fun q hq=>hv q (td h2 q (List.mem_append_left _ hq)))
  exact this.mono fun a' w' jA=>LI C Z hQ h2 hv jA
end
abbrev Post:=Exit→St→Prop
def Cu(ty:Tag→Nat)(zb:bP)(Q:Post):Exit→Act→World→Prop:=fun e a w=> ∃st,Inv ty zb st a w∧Q e st
def W(P:Program)(ty:Tag→Nat)(zb:bP)(c:Code)(Q:Post)(st:St):Prop:= ∀a w,Inv ty zb st a w→c.wp P (Cu ty zb Q) a w
def Post.then(next:St→Prop)(Q:Post):Post
 | .normal,st=>next st
 |e,st=>Q e st
def Post.inBlock(id:Nat)(Q:Post):Post
 | .exit i,st=>if i=id then Q .normal st else Q (.exit i) st
 |e,st=>Q e st
def we(sl:List (Nat×SV)):List Nat→Option (List (Nat×SV))
 | []=>some []
 |s::r=>match look sl s with
  |some x=>match fS x,we sl r with
   |some x,some l=>some ((s,x)::l)
   |_,_=>none
  |none=>none
def wg(hp:Hp):List Nat→Option Hp
 | []=>some []
 |s::r=>match look hp s with
  |some x=>match fO x,wg hp r with
   |some x,some l=>some ((s,x)::l)
   |_,_=>none
  |none=>none
def jh(hp:Hp)(v:V):Bool:=match v.name with|some n=>(match look hp n with|some _=>true|none=>false)|none=>true
def mV(hp:Hp):S1→Bool
 | .a v=>jh hp v
 | .agg l=>l.all (jh hp)
def Hw(hp:Hp):SV→Bool
 | .one x=>mV hp x
 | .qR l=>l.all (mV hp)
 | .cond _ x=>mV hp x
def th(hp:Hp):Obj→Bool
 | .box c=>c.all (jh hp)
 | .arr _ _=>true
 | .dY _ _ s=>match s.name with|some n=>(match look hp n with|some _=>true|none=>false)|none=>true
def mW(sl:List (Nat×SV))(hp:Hp):Bool:=(sl.all fun e=>Hw hp e.2)&&hp.all fun e=>th hp e.2
def V.Pk(v:V):List Nat:=match v.name with|some n=> [n]|none=> []
def SV.Pk:SV→List Nat
 | .one (.a v)=>v.Pk
 | .one (.agg l)=>l.flatMap V.Pk
 | .qR l=>l.flatMap fun x=>(match x with| .a v=>v.Pk| .agg l=>l.flatMap V.Pk)
 | .cond _ (.a v)=>v.Pk
 | .cond _ (.agg l)=>l.flatMap V.Pk
def F2:Nat→Hp→List Nat→List Nat→List Nat
 |0,_,_,acc=>acc
 |_,_,[],acc=>acc
 |f+1,hp,n::r,acc=>match acc.any (Nat.beq n)with
  |true=>F2 f hp r acc
  |false=>F2 f hp (match look hp n with|some (.box c)=>c.flatMap V.Pk++r|some (.dY _ _ (.of m))=>m::r|_=>r) (acc++ [n])
def Cv(sl:List (Nat×SV)):List Nat→List Nat
 | []=> []
 |s::r=>match look sl s with|some x=>x.Pk++Cv sl r|none=>Cv sl r
def Hx(sl:List (Nat×SV))(hp:Hp)(ks:List Nat):List Nat→List Nat
 | []=>F2 300 hp (Cv sl ks++(hp.map Prod.fst).filter fu) []
 |hs=>hs
def Og(P:Program)(ty:Tag→Nat)(Γ:Nat→TK)(cK:List (Nat×Nat))(cr:List (Nat×CR))(ks hs:List Nat)(ops:List Oper):St→Option (List Prop×St)
 | ⟨n,Pm,fk⟩=>match run P ty Γ cK cr ops ops ⟨n,Pm,fk⟩ []with
 |some (vc,st')=>match we st'.sl ks,wg st'.hp (Hx st'.sl st'.hp ks hs)with
  |some sl,some hp=>match mW sl hp,Nat.beq st'.n n with
   |true,true=>some (vc,⟨n,sl,hp⟩)
   |_,_=>none
  |_,_=>none
 |none=>none
theorem jW{sl:List (Nat×SV)}: ∀{ks:List Nat} {l:List (Nat×SV)},we sl ks=some l→ ∀s v,look l s=some v→look sl s=some v
 | [],l,h,s,v,hl=>by
   simp only[we,oI]at h
   subst h;cases hl
 |k::r,l,h,s,v,hl=>by
  simp only[we]at h
  split at h
  ·rename_i x0 h1
   split at h
   ·rename_i x l' hf h2
    simp only[oI]at h
    subst h
    by_cases hs:s=k
    ·subst hs;rw[look_eq]at hl;rw[←hl,LB hf];exact h1
    ·rw[aK hs]at hl;exact jW h2 s v hl
   ·cases h
  ·cases h
theorem jX{hp:Hp}: ∀{ks:List Nat} {l:Hp},wg hp ks=some l→ ∀s v,look l s=some v→look hp s=some v
 | [],l,h,s,v,hl=>by
   simp only[wg,oI]at h
   subst h;cases hl
 |k::r,l,h,s,v,hl=>by
  simp only[wg]at h
  split at h
  ·rename_i x0 h1
   split at h
   ·rename_i x l' hf h2
    simp only[oI]at h
    subst h
    by_cases hs:s=k
    ·subst hs;rw[look_eq]at hl;rw[←hl,Rv hf];exact h1
    ·rw[aK hs]at hl;exact jX h2 s v hl
   ·cases h
  ·cases h
theorem p9{hp:Hp}{v:V}(h:jh hp v=true): ∀n,v.name=some n→look hp n≠none:=by
 intro n hn hl
 simp[jh,hn,hl]at h
theorem rB{hp:Hp}{x:S1}(h:mV hp x=true): ∀v,v∈x.vs→jh hp v=true:=by
 intro v hv
 cases x with
 |a y=>simp only[S1.vs,List.mem_singleton]at hv;subst hv;exact h
 |agg l=>exact List.all_eq_true.1 h v hv
theorem F3{hp:Hp}{x:SV}(h:Hw hp x=true): ∀v,v∈x.vs→jh hp v=true:=by
 intro v hv
 cases x with
 |one x=>exact rB h v hv
 |qR l=>
  simp only[SV.vs,List.mem_flatMap]at hv
  obtain⟨y,hy,hv⟩:=hv
  exact rB (List.all_eq_true.1 h y hy) v hv
 |cond p x=>exact rB h v hv
theorem Good.weaken{zb:bP}{st st':St}{tmps:Array Value}{w:World}{env:Env}(g:Good ty zb st tmps w env)(hs: ∀s v,look st'.sl s=some v→look st.sl s=some v)(hh: ∀n o,look st'.hp n=some o→look st.hp n=some o)
  (wS: ∀s v,look st'.sl s=some v→ ∀x,x∈v.vs→jh st'.hp x=true)(Bg: ∀m o,look st'.hp m=some o→th st'.hp o=true):Good ty zb st' tmps w env:=by
 have s:Step (fun n=>look st'.hp n≠none) (fun n=>look st'.hp n≠none) w st.hp env w st'.hp env:=by
  refine⟨fun _ _ _=>rfl,?_,?_,?_⟩
  ·rintro b _ ⟨n,o,h1,h2⟩;exact⟨n,o,hh n o h1,h2⟩
  ·intro n o hK h1
   cases hq:look st'.hp n with
   |none=>exact absurd hq hK
   |some o'=>
    have:=hh n o' hq
    rw[h1]at this
    simp only[oI]at this
    subst this
    exact⟨o,rfl,by cases o<;>simp[Obj.like],rfl⟩
  ·intro n t l hK h1
   cases hq:look st'.hp n with
   |none=>exact absurd hq hK
   |some o'=>
    have:=hh n o' hq
    rw[h1]at this
    simp only[oI]at this
    subst this
    exact⟨rfl,rfl,fun _ _=>rfl⟩
 have VB: ∀v,jh st'.hp v=true→v.ox (fun n=>look st'.hp n≠none) (fun n=>look st'.hp n≠none):=fun v h=>⟨fun n hn=>p9 h n hn,fun n hn=>p9 h n (V.lW hn)⟩
 refine⟨fun n o hl=> ?_,fun n m o o' hne h1 h2=>g.fU n m o o' hne (hh n o h1) (hh m o' h2),fun t v hl=>lT.step s (fun x hx=>VB x (wS t v hl x hx)) (g.slot t v (hs t v hl)),fun n o hl=>g.dom n o (hh n o hl),g.pins⟩
 refine(g.obj n o (hh n o hl)).step s ?_ (fun _ _=>rfl)
 have hO:=Bg n o hl
 cases o with
 |box c=>exact fun v hv=>VB v (List.all_eq_true.1 hO v hv)
 |arr t l=>trivial
 |dY t l r=>
  intro m hm
  simp only[th,hm]at hO
  intro he
  rw[he]at hO
  cases hO
theorem F4{sl:List (Nat×SV)}{hp:Hp}(h:mW sl hp=true):(∀s v,look sl s=some v→ ∀x,x∈v.vs→jh hp x=true)∧(∀m o,look hp m=some o→th hp o=true):=by
 simp only[mW,Bool.and_eq_true,List.all_eq_true]at h
 exact⟨fun s v hl=>F3 (h.1 _ (dg hl)),fun m o hl=>h.2 _ (dg hl)⟩
theorem Inv.weaken{zb:bP}{st st':St}{a:Act}{w:World}(iv:Inv ty zb st a w)(hn:st'.n=st.n)(hs: ∀s v,look st'.sl s=some v→look st.sl s=some v)(hh: ∀n o,look st'.hp n=some o→look st.hp n=some o)(hc:mW st'.sl st'.hp=true):Inv ty zb st' a w:=by
 obtain⟨env,g⟩:=iv.good
 obtain⟨c1,c2⟩:=F4 hc
 exact⟨by rw[iv.size,hn],iv.defers,iv.kept,iv.wN,env,g.weaken hs hh c1 c2⟩
structure Ctx(P:Program)(ty:Tag→Nat)(Γ:Nat→TK):Prop where
 kind: ∀t,b7 P t (Γ t)
 one: ∀t,(∀z tg fo,Γ t≠ .st z tg fo)→Γ t≠ .other→(P.info? t).map (·.size)=some 1
section
variable{P:Program}{Γ:Nat→TK}{zb:bP}{Q:Post}{st:St}
theorem I3{cK:List (Nat×Nat)}{cr:List (Nat×CR)}{ks hs:List Nat}{ops:List Oper}{vc:List Prop}{st':St}(h:Og P ty Γ cK cr ks hs ops st=some (vc,st')): ∃s1,run P ty Γ cK cr ops ops st []=some (vc,s1)∧
  ∀a w,Inv ty zb s1 a w→Inv ty zb st' a w:=by
 obtain⟨n,Pm,fk⟩:=st
 simp only[Og]at h
 split at h
 ·rename_i nL s1 hr
  split at h
  ·rename_i sl hp h1 h2
   split at h
   ·rename_i hc hn
    simp only[oI,pI]at h
    obtain⟨rfl,rfl⟩:=h
    exact⟨s1,hr,fun a w iv=>iv.weaken (Nat.eq_of_beq_eq_true hn).symm (jW h1) (jX h2) hc⟩
   ·cases h
  ·cases h
 ·cases h
theorem aP(X:Ctx P ty Γ)(cK:List (Nat×Nat))(cr:List (Nat×CR))(ks hs:List Nat){id:Nat}{ops:List Oper}{vc:List Prop}{st':St}(h:Og P ty Γ cK cr ks hs ops st=some (vc,st'))(hv:gw vc)(k:Q .normal st'):W P ty zb (.region id ops.toArray false) Q st:=by
 intro a w iv
 obtain⟨s1,h1,h2⟩:=I3 (zb:=zb) h
 exact wp_region_lit (LI X.kind X.one (fun a w jA=>⟨st',h2 a w jA,k⟩) h1 hv.out iv)
theorem l7(X:Ctx P ty Γ)(ks:List Nat){id:Nat}{ops:List Oper}{vc:List Prop}{st':St}(h:G.Og P ty Γ [] [] ks [] ops st=some (vc,st'))(hv:gw vc)(k:Q .normal st'):W P ty zb (.region id ops.toArray false) Q st:=aP X [] [] ks [] h hv k
theorem bF(X:Ctx P ty Γ)(ks:List Nat){id:Nat}{ops:List Oper}{st':St}(h:G.Og P ty Γ [] [] ks [] ops st=some ([],st'))(k:Q .normal st'):W P ty zb (.region id ops.toArray false) Q st:=l7 X ks h ⟨⟩ k
theorem af{x y:Code}(h:W P ty zb x (Post.then (W P ty zb y Q) Q) st):W P ty zb (.seq x y) Q st:=by
 intro a w iv
 refine wp_seq (wp_mono (h a w iv) ?_)
 rintro e a' w' ⟨st',jA,hq⟩
 cases e with
 |normal=>exact hq a' w' jA
 |_=>exact⟨st',jA,hq⟩
theorem aD(X:Ctx P ty Γ)(cK:List (Nat×Nat))(cr:List (Nat×CR))(ks hs:List Nat){y:Code}{id:Nat}{ops:List Oper}{vc:List Prop}{st':St}(h:G.Og P ty Γ cK cr ks hs ops st=some (vc,st'))(hv:gw vc)(k:W P ty zb y Q st'):W P ty zb (.seq (.region id ops.toArray false) y) Q st:=af (aP X cK cr ks hs h hv k)
theorem aH(X:Ctx P ty Γ)(ks:List Nat){y:Code}{id:Nat}{ops:List Oper}{vc:List Prop}{st':St}(h:G.Og P ty Γ [] [] ks [] ops st=some (vc,st'))(hv:gw vc)(k:W P ty zb y Q st'):W P ty zb (.seq (.region id ops.toArray false) y) Q st:=aD X [] [] ks [] h hv k
theorem au(X:Ctx P ty Γ)(ks:List Nat){y:Code}{id:Nat}{ops:List Oper}{st':St}(h:G.Og P ty Γ [] [] ks [] ops st=some ([],st'))(k:W P ty zb y Q st'):W P ty zb (.seq (.region id ops.toArray false) y) Q st:=aH X ks h ⟨⟩ k
theorem aq(h:Q .normal st):W P ty zb .skip Q st:=fun _ _ iv=>wp_skip ⟨st,iv,h⟩
theorem aI{id:Nat}(h:Q (.exit id) st):W P ty zb (.exit id) Q st:=fun _ _ iv=>wp_exit ⟨st,iv,h⟩
theorem ak(h:Q .ret st):W P ty zb .ret Q st:=fun _ _ iv=>wp_ret ⟨st,iv,h⟩
theorem ay{id:Nat}{c:Code}(h:W P ty zb c (Post.inBlock id Q) st):W P ty zb (.block id c) Q st:=by
 intro a w iv
 refine wp_block (wp_mono (h a w iv) ?_)
 rintro e a' w' ⟨st',jA,hq⟩
 cases e with
 |exit i=>
  simp only[Post.inBlock]at hq
  simp only[Exit.inBlock]
  split
  ·rename_i hi;rw[if_pos hi]at hq;exact⟨st',jA,hq⟩
  ·rename_i hi;rw[if_neg hi]at hq;exact⟨st',jA,hq⟩
 |_=>exact⟨st',jA,hq⟩
theorem an{c:Operand}{x y:Code}{b:Bool}(hc:ew st [] c=some (.a (.lit (.bool b))))(h1:b=true→W P ty zb x Q st)(h2:b=false→W P ty zb y Q st):W P ty zb (.cond c x y) Q st:=by
 intro a w iv
 obtain⟨env,g⟩:=iv.good
 have:=(dh g (fun e he=>by simp at he) hc).lit
 exact wp_cond_split this (fun hb=>h1 hb a w iv) (fun hb=>h2 hb a w iv)
theorem Pn{ι:Type}(p:ι→Prop)(I:ι→St)(μ:ι→Nat)(i:ι){c:Code}(hp:p i)(h0: ∀a w,Inv ty zb st a w→Inv ty zb (I i) a w)
  (round: ∀i,p i→W P ty zb c (Post.then (fun st'=> ∃j,p j∧μ j<μ i∧ ∀a w,Inv ty zb st' a w→Inv ty zb (I j) a w) Q) (I i)):W P ty zb (.loop c) Q st:=by
 intro a w iv b k cs
 have key: ∀n i a w,μ i=n→p i→Inv ty zb (I i) a w→ ∃e a' w',Cu ty zb Q e a' w'∧Arrives P (lone (b.at a (.code c:: .inLoop c::k)) cs w) b k cs e a' w':=by
  intro n
  induction n using Nat.strongRecOn with
  |_ n ih=>
   intro i a w hn hpi iv
   obtain⟨e,a₁,w₁,⟨st',jA,hq⟩,D8⟩:=round i hpi a w iv b (.inLoop c::k) cs
   cases e with
   |normal=>
    obtain⟨j,VC,hlt,hj⟩:=hq
    obtain⟨e₂,a₂,w₂,hq₂,VD⟩:=ih (μ j) (hn▸hlt) j a₁ w₁ rfl VC (hj _ _ jA)
    exact⟨e₂,a₂,w₂,hq₂, .of_steps (Steps.trans D8 (.one step_inLoop)) VD⟩
   |exit id=>exact⟨_,a₁,w₁,⟨st',jA,hq⟩, .pass (x:= .inLoop c) rfl (fun _ _=> .inl (by simp)) D8⟩
   |goto l=>exact⟨_,a₁,w₁,⟨st',jA,hq⟩, .pass (x:= .inLoop c) rfl (fun _ _=> .inl (by simp)) D8⟩
   |ret=>exact⟨_,a₁,w₁,⟨st',jA,hq⟩, .pass (x:= .inLoop c) rfl (fun _ _=> .inl (by simp)) D8⟩
   |panic ch=>exact⟨_,a₁,w₁,⟨st',jA,hq⟩, .pass (x:= .inLoop c) rfl (fun _ _=> .inl (by simp)) D8⟩
   |outgrown=>exact⟨_,a₁,w₁,⟨st',jA,hq⟩, .pass (x:= .inLoop c) rfl (fun _ _=> .inl (by simp)) D8⟩
 obtain⟨e,a',w',hq,D8⟩:=key _ i a w rfl hp (h0 a w iv)
 exact⟨e,a',w',hq, .of_steps (.one step_loop) D8⟩
def Ry:List (Nat×SV)→List (Nat×SV)→Option (List (Nat×SV))
 | [],_=>some []
 | (s,x)::r,ov=>match fS (match look ov s with|some y=>y|none=>x),Ry r ov with
   |some x,some l=>some ((s,x)::l)
   |_,_=>none
def Rz:Hp→Hp→Option Hp
 | [],_=>some []
 | (s,x)::r,ov=>match fO (match look ov s with|some y=>y|none=>x),Rz r ov with
   |some x,some l=>some ((s,x)::l)
   |_,_=>none
def over:St→List (Nat×SV)→Hp→Option St
 | ⟨n,sl,hp⟩,ov,oh=>match Ry sl ov,Rz hp oh with
   |some sl,some hp=>some ⟨n,sl,hp⟩
   |_,_=>none
theorem aG{ι:Type}(p:ι→Prop)(ov:ι→List (Nat×SV))(oh:ι→Hp)(μ:ι→Nat)(i:ι){c:Code}{I:ι→St}(_hI: ∀k,over st (ov k) (oh k)=some (I k))(hp:p i)(h0:I i=st)
  (round: ∀i,p i→W P ty zb c (Post.then (fun st'=> ∃j,p j∧μ j<μ i∧st'=I j) Q) (I i)):W P ty zb (.loop c) Q st:=by
 refine Pn p I μ i hp (fun a w iv=>by rw[h0];exact iv) fun i hi=> ?_
 intro a w iv
 refine wp_mono (round i hi a w iv) ?_
 rintro e a' w' ⟨st',jA,hq⟩
 cases e with
 |normal=>
  obtain⟨j,h1,h2,rfl⟩:=hq
  exact⟨_,jA,j,h1,h2,fun a w h=>h⟩
 |_=>exact⟨st',jA,hq⟩
end
end
section
variable{ty:Tag→Nat}
def enter:Nat→List S1→List (Nat×SV)
 |_,[]=> []
 |i,x::r=>(i, .one x)::enter (i+1) r
def I4(Γ:Nat→TK)(st:St):ResultVar→Option S1
 | .tmp t=>match look st.sl t with|some (.one x)=>some x|_=>none
 | .cell p t=>match look st.sl p with
   |some (.one (.a (.ptr n 0)))=>match look st.hp n,Γ t with
    |some (.box c), .st z _ _=>match Nat.beq c.length z.length with|true=>some (.agg c)|false=>none
    |_,_=>none
   |_=>none
def oG(Γ:Nat→TK)(st:St):List ResultVar→Option (List S1)
 | []=>some []
 |r::rs=>match I4 Γ st r,oG Γ st rs with|some x,some xs=>some (x::xs)|_,_=>none
def LJ(st:St):V→V→Option (List Prop×List Nat)
 | .lit v, .lit u=>some ([v=u],[])
 | .lit (.slice none 0 0), .sl _ l=>some ([l= []],[])
 | .own n, .sl t l=>match look st.hp n,soft n with
   |some (.arr t' l'),false=>match eL t t' l' with
    |some l2=>some ([l2=l],[n])
    |none=>none
   |_,_=>none
 | .lit (.slice none 0 0), .vw _ _ _ l=>some ([l= []],[])
 | .own n, .vw _ _ t l=>match look st.hp n with
   |some (.arr t' l')=>match eL t t' l' with
    |some l2=>some ([l2=l],[n])
    |none=>none
   |_=>none
 | .vw n _ t' l', .vw _ _ t l=>match eL t t' l' with
   |some l2=>some ([l2=l],[n])
   |none=>none
 |_,_=>none
def meet(st:St):List V→List V→Option (List Prop×List Nat)
 | [],[]=>some ([],[])
 |x::r,y::s=>match LJ st x y,meet st r s with
  |some (vc,k),some (vcs,ks)=>some (je vc vcs,je k ks)
  |_,_=>none
 |_,_=>none
def Hy(st:St):S1→S1→Option (List Prop×List Nat)
 | .a v, .a u=>meet st [v] [u]
 | .agg l, .agg m=>meet st l m
 |_,_=>none
def meets(st:St):List S1→List S1→Option (List Prop×List Nat)
 | [],[]=>some ([],[])
 |x::r,y::s=>match Hy st x y,meets st r s with
  |some (vc,k),some (vcs,ks)=>some (je vc vcs,je k ks)
  |_,_=>none
 |_,_=>none
def ends(Γ:Nat→TK)(st:St)(nM:List ResultVar)(rs:List S1):Option (List Prop):=
 match oG Γ st nM with
 |some xs=>match meets st xs rs with
  |some (vc,k)=>match mS k with|true=>some vc|false=>none
  |none=>none
 |none=>none
def Fin(Γ:Nat→TK)(nM:List ResultVar)(rs:List S1):Post:=fun e st=>(e= .ret∨e= .normal)∧ ∃vc,ends Γ st nM rs=some vc∧gw vc
theorem ah{Γ:Nat→TK}{nM:List ResultVar}{rs:List S1}{st:St}{vc:List Prop}(h:ends Γ st nM rs=some vc)(hv:gw vc):Fin Γ nM rs .ret st:=⟨.inl rfl,vc,h,hv⟩
theorem RC{Γ:Nat→TK}{nM:List ResultVar}{rs:List S1}{st:St}{vc:List Prop}(h:ends Γ st nM rs=some vc)(hv:gw vc):Fin Γ nM rs .normal st:=⟨.inr rfl,vc,h,hv⟩
theorem fZ.lift{α:Type}{k:Nat}{E:ER α}{lo e:Nat}{w:World}{v:Value}{l:List α}{fp:List Nat}(h:fZ k E 0 e w v l fp)(hl: ∀b,b∈fp→lo≤b):fZ k E lo e w v l fp:=by
 obtain⟨xs,aO,hown,hf,he,rfl,ho⟩:=h
 refine⟨xs,aO,⟨hown.1,?_⟩,hf,he,rfl,⟨ho.nodup,hl,ho.kind⟩⟩
 rcases hown.2 with h| ⟨g,o,cap,cur,rfl,N8,r⟩
 ·exact Or.inl h
 ·exact Or.inr ⟨g,o,cap,cur,rfl,hl g (by simp[Value.ownBlock]),r⟩
section
variable{P:Program}{zb:bP}{st:St}{a:Act}{w:World}{env:Env}
theorem qU{Γ:Nat→TK}(C: ∀t,b7 P t (Γ t))(g:Good ty zb st a.tmps w env){r:ResultVar}{x:S1}(h:I4 Γ st r=some x):
  ∃u,eC w st.hp env x u∧(match r with| .tmp t=>a.tmps.getD t undef=u| .cell p t=> ∃ad,a.tmps.getD p undef= .pointer (some ad)∧(loadVar t ad).run P w= .ok u w):=by
 cases r with
 |tmp t=>
  simp only[I4]at h
  split at h
  ·rename_i y hl
   simp only[oI]at h
   subst h
   exact⟨_,g.slot t _ hl,rfl⟩
  ·cases h
 |cell p t=>
  simp only[I4]at h
  split at h
  ·rename_i n hl
   split at h
   ·rename_i c z tg fo hb hk
    split at h
    ·rename_i hlen
     have hlen:=Nat.eq_of_beq_eq_true hlen
     simp only[oI]at h
     subst h
     obtain⟨_,b,hv,hu⟩:=g.slot p _ hl
     obtain⟨b',cs,e,vX,hh,hc⟩:=g.obj n _ hb
     have Su:b=b':=by rw[vX]at hv;simpa using hv.symm
     subst Su
     have hC:=C t
     rw[hk]at hC
     obtain⟨fs,K0,hi,_⟩:=hC
     have hi':(P.info? t).map (·.size)=some cs.length:=by
      rw[hc.len,hlen]
      cases hq:P.info? t with
      |none=>simp[hq]at hi
      |some i=>simp[hq]at hi;simp[hi.1]
     refine⟨.agg cs.toArray,⟨cs,rfl,hc⟩,?_⟩
     have sN:w.rangeAt b 0 cs:=by simpa using Kv hh
     exact⟨_,hu,run_loadVar_mid w b 0 t cs _ sN K0 rfl hi'⟩
    ·cases h
   ·cases h
  ·cases h
theorem Hz(g:Good ty zb st a.tmps w env){k1 k2:List Nat}{f1 f2:List Nat}(hnd:(k1++k2).Nodup)(p2:Own zb.w.heap.size w f1)(p3: ∀b,b∈f1→ ∃i o,i∈k1∧look st.hp i=some o∧b∈(env i).fp)(q2:Own zb.w.heap.size w f2)(q3: ∀b,b∈f2→ ∃i o,i∈k2∧look st.hp i=some o∧b∈(env i).fp):
  Own zb.w.heap.size w (f1++f2)∧ ∀b,b∈f1++f2→ ∃i o,i∈k1++k2∧look st.hp i=some o∧b∈(env i).fp:=by
 obtain⟨n1,n2,n3⟩:=List.nodup_append.1 hnd
 refine⟨⟨List.nodup_append.2 ⟨p2.nodup,q2.nodup,?_⟩,fun b hb=> ?_,fun b hb=> ?_⟩,fun b hb=> ?_⟩
 ·rintro b hb z hz rfl
  obtain⟨n,o1,h1,h2,h3⟩:=p3 b hb
  obtain⟨m,o2,h4,h5,h6⟩:=q3 b hz
  exact g.fU n m _ _ (fun e=>n3 n h1 m h4 e) h2 h5 b h3 h6
 ·rcases List.mem_append.1 hb with hb|hb
  ·exact p2.ge b hb
  ·exact q2.ge b hb
 ·rcases List.mem_append.1 hb with hb|hb
  ·exact p2.kind b hb
  ·exact q2.kind b hb
 ·rcases List.mem_append.1 hb with hb|hb
  ·obtain⟨n,o1,h1,h2,h3⟩:=p3 b hb;exact⟨n,o1,List.mem_append_left _ h1,h2,h3⟩
  ·obtain⟨n,o1,h1,h2,h3⟩:=q3 b hb;exact⟨n,o1,List.mem_append_right _ h1,h2,h3⟩
theorem LK(hL:zb.L= [])(g:Good ty zb st a.tmps w env){x y:V}{u:Value}{vc:List Prop}{k:List Nat}(hr:RA w st.hp env x u)(h:LJ st x y=some (vc,k))(hv: ∀q,q∈vc→q):
  ∃fp,RB ty w zb.w.heap.size y u fp∧Own zb.w.heap.size w fp∧ ∀b,b∈fp→ ∃i o,i∈k∧look st.hp i=some o∧b∈(env i).fp:=by
 unfold LJ at h
 split at h
 ·simp only[oI,pI]at h
  obtain⟨rfl,rfl⟩:=h
  have hl:=hv _ (List.mem_singleton.2 rfl)
  obtain⟨rfl,ho⟩:=hr
  exact⟨[],⟨hl,hl▸ho,rfl⟩,Own.nil _ _,by simp⟩
 ·simp only[oI,pI]at h
  obtain⟨rfl,rfl⟩:=h
  have hl:=hv _ (List.mem_singleton.2 rfl)
  subst hl
  obtain⟨rfl,ho⟩:=hr
  exact⟨[],fZ.nil _ _ _ _ _,Own.nil _ _,by simp⟩
 ·rename_i n t l
  split at h
  ·rename_i t' l' hl AE
   split at h
   ·rename_i l2 hc
    simp only[oI,pI]at h
    obtain⟨rfl,rfl⟩:=h
    have l5:=hv _ (List.mem_singleton.2 rfl)
    subst l5
    obtain⟨e,rfl⟩:=ct hc
    subst e
    obtain⟨_,rfl⟩:=hr
    have hb:=fZ.lift (RO.N9 AE (g.obj n _ hl)) (lo:=zb.w.heap.size) (fun b hb=>by
     rcases g.dom n _ hl b hb with h|h
     ·rw[hL]at h;cases h
     ·exact h)
    exact⟨(env n).fp,hb,hb.own,fun b hb=>⟨n,_,by simp,hl,hb⟩⟩
   ·cases h
  ·cases h
 ·simp only[oI,pI]at h
  obtain⟨rfl,rfl⟩:=h
  have hl:=hv _ (List.mem_singleton.2 rfl)
  subst hl
  obtain⟨rfl,ho⟩:=hr
  exact⟨[],⟨fZ.sl (fZ.nil _ _ 0 0 _),Own.nil _ _⟩,Own.nil _ _,by simp⟩
 ·rename_i n _ _ t l
  split at h
  ·rename_i t' l' hl
   split at h
   ·rename_i l2 hc
    simp only[oI,pI]at h
    obtain⟨rfl,rfl⟩:=h
    have l5:=hv _ (List.mem_singleton.2 rfl)
    subst l5
    obtain⟨e,rfl⟩:=ct hc
    subst e
    obtain⟨_,rfl⟩:=hr
    have hs:=RO.sl (g.obj n _ hl)
    have WZ:=RO.own (g.obj n _ hl)
    have ho:Own zb.w.heap.size w (env n).fp:=⟨WZ.nodup,fun b hb=>by
     rcases g.dom n _ hl b hb with h|h
     ·rw[hL]at h;cases h
     ·exact h,WZ.kind⟩
    exact⟨(env n).fp,⟨hs,ho⟩,ho,fun b hb=>⟨n,_,by simp,hl,hb⟩⟩
   ·cases h
  ·cases h
 ·rename_i n _ t' l' _ _ t l
  split at h
  ·rename_i l2 hc
   simp only[oI,pI]at h
   obtain⟨rfl,rfl⟩:=h
   have l5:=hv _ (List.mem_singleton.2 rfl)
   subst l5
   obtain⟨e,rfl⟩:=ct hc
   subst e
   obtain⟨⟨t0,l0,hl⟩,⟨fp,hs,hnd,hsub⟩,_⟩:=hr
   have WZ:=RO.own (g.obj n _ hl)
   have ho:Own zb.w.heap.size w fp:=⟨hnd,fun b hb=>by
    rcases g.dom n _ hl b (hsub b hb)with h|h
    ·rw[hL]at h;cases h
    ·exact h,fun b hb=>WZ.kind b (hsub b hb)⟩
   exact⟨fp,⟨hs,ho⟩,ho,fun b hb=>⟨n,_,by simp,hl,hsub b hb⟩⟩
  ·cases h
 ·cases h
theorem Cw(hL:zb.L= [])(g:Good ty zb st a.tmps w env): ∀{xs ys:List V} {us:List Value} {vc:List Prop} {k:List Nat},bg (RA w st.hp env) xs us→meet st xs ys=some (vc,k)→k.Nodup→(∀q,q∈vc→q)→
  ∃fp,KL ty w zb.w.heap.size ys us fp∧Own zb.w.heap.size w fp∧ ∀b,b∈fp→ ∃i o,i∈k∧look st.hp i=some o∧b∈(env i).fp
 | [],ys,us,vc,k,hr,h,hnd,hv=>by
   cases ys with
   |nil=>
    simp only[meet,oI,pI]at h
    obtain⟨rfl,rfl⟩:=h
    cases us with
    |nil=>exact⟨[],rfl,Own.nil _ _,by simp⟩
    |cons _ _=>exact hr.elim
   |cons y ys=>simp[meet]at h
 |x::r,ys,us,vc,k,hr,h,hnd,hv=>by
  cases us with
  |nil=>exact hr.elim
  |cons u us=>
   cases ys with
   |nil=>simp[meet]at h
   |cons y s=>
    simp only[meet]at h
    split at h
    ·rename_i nL k1 Rn k2 h1 h2
     simp only[oI,pI,cO]at h
     obtain⟨rfl,rfl⟩:=h
     obtain⟨n1,n2,n3⟩:=List.nodup_append.1 hnd
     obtain⟨f1,p1,p2,p3⟩:=LK hL g hr.1 h1 (fun q hq=>hv q (List.mem_append_left _ hq))
     obtain⟨f2,q1,q2,q3⟩:=Cw hL g hr.2 h2 n2 (fun q hq=>hv q (List.mem_append_right _ hq))
     obtain⟨r1,r2⟩:=Hz g hnd p2 p3 q2 q3
     exact⟨f1++f2,⟨_,_,p1,q1,rfl⟩,r1,r2⟩
    ·cases h
theorem LL(hL:zb.L= [])(g:Good ty zb st a.tmps w env){x y:S1}{u:Value}{vc:List Prop}{k:List Nat}(hr:eC w st.hp env x u)(h:Hy st x y=some (vc,k))(hnd:k.Nodup)(hv: ∀q,q∈vc→q):
  ∃fp,Rj ty w zb.w.heap.size y u fp∧Own zb.w.heap.size w fp∧ ∀b,b∈fp→ ∃i o,i∈k∧look st.hp i=some o∧b∈(env i).fp:=by
 cases x with
 |a v=>
  cases y with
  |a v'=>exact Cw hL g (xs:= [v]) (us:= [u]) ⟨hr,trivial⟩ h hnd hv
  |agg _=>simp[Hy]at h
 |agg l=>
  cases y with
  |a v'=>simp[Hy]at h
  |agg m=>
   obtain⟨cs,rfl,hl⟩:=hr
   obtain⟨fp,h1,h2,h3⟩:=Cw hL g hl h hnd hv
   exact⟨fp,⟨cs,rfl,h1⟩,h2,h3⟩
theorem D9(hL:zb.L= [])(g:Good ty zb st a.tmps w env): ∀{xs ys:List S1} {us:List Value} {vc:List Prop} {k:List Nat},bg (eC w st.hp env) xs us→meets st xs ys=some (vc,k)→k.Nodup→(∀q,q∈vc→q)→
  ∃fp,Oa ty w zb.w.heap.size ys us fp∧Own zb.w.heap.size w fp∧ ∀b,b∈fp→ ∃i o,i∈k∧look st.hp i=some o∧b∈(env i).fp
 | [],ys,us,vc,k,hr,h,hnd,hv=>by
   cases ys with
   |nil=>
    simp only[meets,oI,pI]at h
    obtain⟨rfl,rfl⟩:=h
    cases us with
    |nil=>exact⟨[],rfl,Own.nil _ _,by simp⟩
    |cons _ _=>exact hr.elim
   |cons y ys=>simp[meets]at h
 |x::r,ys,us,vc,k,hr,h,hnd,hv=>by
  cases us with
  |nil=>exact hr.elim
  |cons u us=>
   cases ys with
   |nil=>simp[meets]at h
   |cons y s=>
    simp only[meets]at h
    split at h
    ·rename_i nL k1 Rn k2 h1 h2
     simp only[oI,pI,cO]at h
     obtain⟨rfl,rfl⟩:=h
     obtain⟨n1,n2,n3⟩:=List.nodup_append.1 hnd
     obtain⟨f1,p1,p2,p3⟩:=LL hL g hr.1 h1 n1 (fun q hq=>hv q (List.mem_append_left _ hq))
     obtain⟨f2,q1,q2,q3⟩:=D9 hL g hr.2 h2 n2 (fun q hq=>hv q (List.mem_append_right _ hq))
     obtain⟨r1,r2⟩:=Hz g hnd p2 p3 q2 q3
     exact⟨f1++f2,⟨_,_,p1,q1,rfl⟩,r1,r2⟩
    ·cases h
theorem yT{Γ:Nat→TK}(C: ∀t,b7 P t (Γ t))(g:Good ty zb st a.tmps w env){fn:Func}{nM:List ResultVar}(hf:fn.results=nM.toArray){xs:List S1}(h:oG Γ st nM=some xs)(hl:nM.length≤4):
  ∃us,bg (eC w st.hp env) xs us∧us.length=nM.length∧(results fn a.tmps).run P w= .ok (match us with| [u]=>u|us=> .tuple us.toArray) w:=by
 have one: ∀{r:ResultVar} {rs:List ResultVar} {xs:List S1},oG Γ st (r::rs)=some xs→ ∃y ys,xs=y::ys∧I4 Γ st r=some y∧oG Γ st rs=some ys:=by
  intro r rs xs h
  simp only[oG]at h
  split at h
  ·rename_i y ys h1 h2
   simp only[oI]at h
   exact⟨y,ys,h.symm,h1,h2⟩
  ·cases h
 have nil: ∀{xs:List S1},oG Γ st []=some xs→xs= []:=by
  intro xs h
  simp only[oG,oI]at h
  exact h.symm
 match nM,hf,h,hl with
 | [],hf,h,_=>
   rw[nil h]
   exact⟨[],trivial,rfl,by simp[results,hf]⟩
 | [r1],hf,h,_=>
   obtain⟨y1,ys,rfl,h1,h⟩:=one h
   rw[nil h]
   obtain⟨u1,k1,e1⟩:=qU C g h1
   refine⟨[u1],⟨k1,trivial⟩,rfl,?_⟩
   cases r1
   ·have e1:a.tmps.getD _ undef=u1:=e1
    rw[Array.getD_eq_getD_getElem?]at e1
    simp[results,hf,asAddr,e1]
   ·obtain⟨_,p1,e1⟩:=e1
    rw[Array.getD_eq_getD_getElem?]at p1
    simp[results,hf,asAddr,e1,p1]
 | [r1,r2],hf,h,_=>
   obtain⟨y1,ys,rfl,h1,h⟩:=one h
   obtain⟨y2,ys,rfl,h2,h⟩:=one h
   rw[nil h]
   obtain⟨u1,k1,e1⟩:=qU C g h1
   obtain⟨u2,k2,e2⟩:=qU C g h2
   refine⟨[u1,u2],⟨k1,k2,trivial⟩,rfl,?_⟩
   cases r1<;>cases r2
   ·have e1:a.tmps.getD _ undef=u1:=e1
    rw[Array.getD_eq_getD_getElem?]at e1
    have e2:a.tmps.getD _ undef=u2:=e2
    rw[Array.getD_eq_getD_getElem?]at e2
    simp[results,hf,asAddr,e1,e2]
   ·have e1:a.tmps.getD _ undef=u1:=e1
    rw[Array.getD_eq_getD_getElem?]at e1
    obtain⟨_,p2,e2⟩:=e2
    rw[Array.getD_eq_getD_getElem?]at p2
    simp[results,hf,asAddr,e1,e2,p2]
   ·obtain⟨_,p1,e1⟩:=e1
    rw[Array.getD_eq_getD_getElem?]at p1
    have e2:a.tmps.getD _ undef=u2:=e2
    rw[Array.getD_eq_getD_getElem?]at e2
    simp[results,hf,asAddr,e1,e2,p1]
   ·obtain⟨_,p1,e1⟩:=e1
    rw[Array.getD_eq_getD_getElem?]at p1
    obtain⟨_,p2,e2⟩:=e2
    rw[Array.getD_eq_getD_getElem?]at p2
    simp[results,hf,asAddr,e1,e2,p1,p2]
 | [r1,r2,r3],hf,h,_=>
   obtain⟨y1,ys,rfl,h1,h⟩:=one h
   obtain⟨y2,ys,rfl,h2,h⟩:=one h
   obtain⟨y3,ys,rfl,h3,h⟩:=one h
   rw[nil h]
   obtain⟨u1,k1,e1⟩:=qU C g h1
   obtain⟨u2,k2,e2⟩:=qU C g h2
   obtain⟨u3,k3,e3⟩:=qU C g h3
   refine⟨[u1,u2,u3],⟨k1,k2,k3,trivial⟩,rfl,?_⟩
   cases r1<;>cases r2<;>cases r3
   ·have e1:a.tmps.getD _ undef=u1:=e1
    rw[Array.getD_eq_getD_getElem?]at e1
    have e2:a.tmps.getD _ undef=u2:=e2
    rw[Array.getD_eq_getD_getElem?]at e2
    have e3:a.tmps.getD _ undef=u3:=e3
    rw[Array.getD_eq_getD_getElem?]at e3
    simp[results,hf,asAddr,e1,e2,e3]
   ·have e1:a.tmps.getD _ undef=u1:=e1
    rw[Array.getD_eq_getD_getElem?]at e1
    have e2:a.tmps.getD _ undef=u2:=e2
    rw[Array.getD_eq_getD_getElem?]at e2
    obtain⟨_,p3,e3⟩:=e3
    rw[Array.getD_eq_getD_getElem?]at p3
    simp[results,hf,asAddr,e1,e2,e3,p3]
   ·have e1:a.tmps.getD _ undef=u1:=e1
    rw[Array.getD_eq_getD_getElem?]at e1
    obtain⟨_,p2,e2⟩:=e2
    rw[Array.getD_eq_getD_getElem?]at p2
    have e3:a.tmps.getD _ undef=u3:=e3
    rw[Array.getD_eq_getD_getElem?]at e3
    simp[results,hf,asAddr,e1,e2,e3,p2]
   ·have e1:a.tmps.getD _ undef=u1:=e1
    rw[Array.getD_eq_getD_getElem?]at e1
    obtain⟨_,p2,e2⟩:=e2
    rw[Array.getD_eq_getD_getElem?]at p2
    obtain⟨_,p3,e3⟩:=e3
    rw[Array.getD_eq_getD_getElem?]at p3
    simp[results,hf,asAddr,e1,e2,e3,p2,p3]
   ·obtain⟨_,p1,e1⟩:=e1
    rw[Array.getD_eq_getD_getElem?]at p1
    have e2:a.tmps.getD _ undef=u2:=e2
    rw[Array.getD_eq_getD_getElem?]at e2
    have e3:a.tmps.getD _ undef=u3:=e3
    rw[Array.getD_eq_getD_getElem?]at e3
    simp[results,hf,asAddr,e1,e2,e3,p1]
   ·obtain⟨_,p1,e1⟩:=e1
    rw[Array.getD_eq_getD_getElem?]at p1
    have e2:a.tmps.getD _ undef=u2:=e2
    rw[Array.getD_eq_getD_getElem?]at e2
    obtain⟨_,p3,e3⟩:=e3
    rw[Array.getD_eq_getD_getElem?]at p3
    simp[results,hf,asAddr,e1,e2,e3,p1,p3]
   ·obtain⟨_,p1,e1⟩:=e1
    rw[Array.getD_eq_getD_getElem?]at p1
    obtain⟨_,p2,e2⟩:=e2
    rw[Array.getD_eq_getD_getElem?]at p2
    have e3:a.tmps.getD _ undef=u3:=e3
    rw[Array.getD_eq_getD_getElem?]at e3
    simp[results,hf,asAddr,e1,e2,e3,p1,p2]
   ·obtain⟨_,p1,e1⟩:=e1
    rw[Array.getD_eq_getD_getElem?]at p1
    obtain⟨_,p2,e2⟩:=e2
    rw[Array.getD_eq_getD_getElem?]at p2
    obtain⟨_,p3,e3⟩:=e3
    rw[Array.getD_eq_getD_getElem?]at p3
    simp[results,hf,asAddr,e1,e2,e3,p1,p2,p3]
 | [r1,r2,r3,r4],hf,h,_=>
   obtain⟨y1,ys,rfl,h1,h⟩:=one h
   obtain⟨y2,ys,rfl,h2,h⟩:=one h
   obtain⟨y3,ys,rfl,h3,h⟩:=one h
   obtain⟨y4,ys,rfl,h4,h⟩:=one h
   rw[nil h]
   obtain⟨u1,k1,e1⟩:=qU C g h1
   obtain⟨u2,k2,e2⟩:=qU C g h2
   obtain⟨u3,k3,e3⟩:=qU C g h3
   obtain⟨u4,k4,e4⟩:=qU C g h4
   refine⟨[u1,u2,u3,u4],⟨k1,k2,k3,k4,trivial⟩,rfl,?_⟩
   cases r1<;>cases r2<;>cases r3<;>cases r4
   ·have e1:a.tmps.getD _ undef=u1:=e1
    rw[Array.getD_eq_getD_getElem?]at e1
    have e2:a.tmps.getD _ undef=u2:=e2
    rw[Array.getD_eq_getD_getElem?]at e2
    have e3:a.tmps.getD _ undef=u3:=e3
    rw[Array.getD_eq_getD_getElem?]at e3
    have e4:a.tmps.getD _ undef=u4:=e4
    rw[Array.getD_eq_getD_getElem?]at e4
    simp[results,hf,asAddr,e1,e2,e3,e4]
   ·have e1:a.tmps.getD _ undef=u1:=e1
    rw[Array.getD_eq_getD_getElem?]at e1
    have e2:a.tmps.getD _ undef=u2:=e2
    rw[Array.getD_eq_getD_getElem?]at e2
    have e3:a.tmps.getD _ undef=u3:=e3
    rw[Array.getD_eq_getD_getElem?]at e3
    obtain⟨_,p4,e4⟩:=e4
    rw[Array.getD_eq_getD_getElem?]at p4
    simp[results,hf,asAddr,e1,e2,e3,e4,p4]
   ·have e1:a.tmps.getD _ undef=u1:=e1
    rw[Array.getD_eq_getD_getElem?]at e1
    have e2:a.tmps.getD _ undef=u2:=e2
    rw[Array.getD_eq_getD_getElem?]at e2
    obtain⟨_,p3,e3⟩:=e3
    rw[Array.getD_eq_getD_getElem?]at p3
    have e4:a.tmps.getD _ undef=u4:=e4
    rw[Array.getD_eq_getD_getElem?]at e4
    simp[results,hf,asAddr,e1,e2,e3,e4,p3]
   ·have e1:a.tmps.getD _ undef=u1:=e1
    rw[Array.getD_eq_getD_getElem?]at e1
    have e2:a.tmps.getD _ undef=u2:=e2
    rw[Array.getD_eq_getD_getElem?]at e2
    obtain⟨_,p3,e3⟩:=e3
    rw[Array.getD_eq_getD_getElem?]at p3
    obtain⟨_,p4,e4⟩:=e4
    rw[Array.getD_eq_getD_getElem?]at p4
    simp[results,hf,asAddr,e1,e2,e3,e4,p3,p4]
   ·have e1:a.tmps.getD _ undef=u1:=e1
    rw[Array.getD_eq_getD_getElem?]at e1
    obtain⟨_,p2,e2⟩:=e2
    rw[Array.getD_eq_getD_getElem?]at p2
    have e3:a.tmps.getD _ undef=u3:=e3
    rw[Array.getD_eq_getD_getElem?]at e3
    have e4:a.tmps.getD _ undef=u4:=e4
    rw[Array.getD_eq_getD_getElem?]at e4
    simp[results,hf,asAddr,e1,e2,e3,e4,p2]
   ·have e1:a.tmps.getD _ undef=u1:=e1
    rw[Array.getD_eq_getD_getElem?]at e1
    obtain⟨_,p2,e2⟩:=e2
    rw[Array.getD_eq_getD_getElem?]at p2
    have e3:a.tmps.getD _ undef=u3:=e3
    rw[Array.getD_eq_getD_getElem?]at e3
    obtain⟨_,p4,e4⟩:=e4
    rw[Array.getD_eq_getD_getElem?]at p4
    simp[results,hf,asAddr,e1,e2,e3,e4,p2,p4]
   ·have e1:a.tmps.getD _ undef=u1:=e1
    rw[Array.getD_eq_getD_getElem?]at e1
    obtain⟨_,p2,e2⟩:=e2
    rw[Array.getD_eq_getD_getElem?]at p2
    obtain⟨_,p3,e3⟩:=e3
    rw[Array.getD_eq_getD_getElem?]at p3
    have e4:a.tmps.getD _ undef=u4:=e4
    rw[Array.getD_eq_getD_getElem?]at e4
    simp[results,hf,asAddr,e1,e2,e3,e4,p2,p3]
   ·have e1:a.tmps.getD _ undef=u1:=e1
    rw[Array.getD_eq_getD_getElem?]at e1
    obtain⟨_,p2,e2⟩:=e2
    rw[Array.getD_eq_getD_getElem?]at p2
    obtain⟨_,p3,e3⟩:=e3
    rw[Array.getD_eq_getD_getElem?]at p3
    obtain⟨_,p4,e4⟩:=e4
    rw[Array.getD_eq_getD_getElem?]at p4
    simp[results,hf,asAddr,e1,e2,e3,e4,p2,p3,p4]
   ·obtain⟨_,p1,e1⟩:=e1
    rw[Array.getD_eq_getD_getElem?]at p1
    have e2:a.tmps.getD _ undef=u2:=e2
    rw[Array.getD_eq_getD_getElem?]at e2
    have e3:a.tmps.getD _ undef=u3:=e3
    rw[Array.getD_eq_getD_getElem?]at e3
    have e4:a.tmps.getD _ undef=u4:=e4
    rw[Array.getD_eq_getD_getElem?]at e4
    simp[results,hf,asAddr,e1,e2,e3,e4,p1]
   ·obtain⟨_,p1,e1⟩:=e1
    rw[Array.getD_eq_getD_getElem?]at p1
    have e2:a.tmps.getD _ undef=u2:=e2
    rw[Array.getD_eq_getD_getElem?]at e2
    have e3:a.tmps.getD _ undef=u3:=e3
    rw[Array.getD_eq_getD_getElem?]at e3
    obtain⟨_,p4,e4⟩:=e4
    rw[Array.getD_eq_getD_getElem?]at p4
    simp[results,hf,asAddr,e1,e2,e3,e4,p1,p4]
   ·obtain⟨_,p1,e1⟩:=e1
    rw[Array.getD_eq_getD_getElem?]at p1
    have e2:a.tmps.getD _ undef=u2:=e2
    rw[Array.getD_eq_getD_getElem?]at e2
    obtain⟨_,p3,e3⟩:=e3
    rw[Array.getD_eq_getD_getElem?]at p3
    have e4:a.tmps.getD _ undef=u4:=e4
    rw[Array.getD_eq_getD_getElem?]at e4
    simp[results,hf,asAddr,e1,e2,e3,e4,p1,p3]
   ·obtain⟨_,p1,e1⟩:=e1
    rw[Array.getD_eq_getD_getElem?]at p1
    have e2:a.tmps.getD _ undef=u2:=e2
    rw[Array.getD_eq_getD_getElem?]at e2
    obtain⟨_,p3,e3⟩:=e3
    rw[Array.getD_eq_getD_getElem?]at p3
    obtain⟨_,p4,e4⟩:=e4
    rw[Array.getD_eq_getD_getElem?]at p4
    simp[results,hf,asAddr,e1,e2,e3,e4,p1,p3,p4]
   ·obtain⟨_,p1,e1⟩:=e1
    rw[Array.getD_eq_getD_getElem?]at p1
    obtain⟨_,p2,e2⟩:=e2
    rw[Array.getD_eq_getD_getElem?]at p2
    have e3:a.tmps.getD _ undef=u3:=e3
    rw[Array.getD_eq_getD_getElem?]at e3
    have e4:a.tmps.getD _ undef=u4:=e4
    rw[Array.getD_eq_getD_getElem?]at e4
    simp[results,hf,asAddr,e1,e2,e3,e4,p1,p2]
   ·obtain⟨_,p1,e1⟩:=e1
    rw[Array.getD_eq_getD_getElem?]at p1
    obtain⟨_,p2,e2⟩:=e2
    rw[Array.getD_eq_getD_getElem?]at p2
    have e3:a.tmps.getD _ undef=u3:=e3
    rw[Array.getD_eq_getD_getElem?]at e3
    obtain⟨_,p4,e4⟩:=e4
    rw[Array.getD_eq_getD_getElem?]at p4
    simp[results,hf,asAddr,e1,e2,e3,e4,p1,p2,p4]
   ·obtain⟨_,p1,e1⟩:=e1
    rw[Array.getD_eq_getD_getElem?]at p1
    obtain⟨_,p2,e2⟩:=e2
    rw[Array.getD_eq_getD_getElem?]at p2
    obtain⟨_,p3,e3⟩:=e3
    rw[Array.getD_eq_getD_getElem?]at p3
    have e4:a.tmps.getD _ undef=u4:=e4
    rw[Array.getD_eq_getD_getElem?]at e4
    simp[results,hf,asAddr,e1,e2,e3,e4,p1,p2,p3]
   ·obtain⟨_,p1,e1⟩:=e1
    rw[Array.getD_eq_getD_getElem?]at p1
    obtain⟨_,p2,e2⟩:=e2
    rw[Array.getD_eq_getD_getElem?]at p2
    obtain⟨_,p3,e3⟩:=e3
    rw[Array.getD_eq_getD_getElem?]at p3
    obtain⟨_,p4,e4⟩:=e4
    rw[Array.getD_eq_getD_getElem?]at p4
    simp[results,hf,asAddr,e1,e2,e3,e4,p1,p2,p3,p4]
 |_::_::_::_::_::_,_,_,hl=>simp at hl
end
end
section
variable{ty:Tag→Nat}
theorem RI.ra{w:World}{env:Env}{v:V}{u:Value}{fp:List Nat}(h:RI w v u fp):RA w [] env v u:=by
 have hno: ∀b, ¬Ow [] env b:=by rintro b ⟨n,o,hl,_⟩;simp[look]at hl
 cases v with
 |lit x=>exact⟨h.1,h.2.1⟩
 |sl t l=>exact⟨fp,h,fun b _=>hno b⟩
 |_=>exact h.elim
theorem Cb.WJ{w:World}{env:Env}{x:S1}{u:Value}(h:Cb w x u):eC w [] env x u:=by
 cases x with
 |a v=>obtain⟨fp,h⟩:=h;exact h.ra
 |agg l=>
  obtain⟨cs,fp,rfl,h⟩:=h
  exact⟨cs,rfl,h.yl fun b _=>by rintro⟨n,o,hl,_⟩;simp[look]at hl⟩
theorem mX: ∀{as:List S1} {i s:Nat} {v:SV},look (enter i as) s=some v→ ∃x,v= .one x∧i≤s∧as[s-i]? =some x
 |x::r,i,s,v,h=>by
  by_cases hs:s=i
  ·subst hs
   rw[enter,look_eq]at h
   simp only[oI]at h
   exact⟨x,h.symm,Nat.le_refl _,by simp⟩
  ·rw[enter,aK hs]at h
   obtain⟨y,h1,h2,h3⟩:=mX h
   refine⟨y,h1,by omega,?_⟩
   rw[show s-i=(s-(i+1))+1 by omega,List.getElem?_cons_succ];exact h3
theorem entry{as:List S1}{us:List Value}{w:World}{n:Nat}(hA:A3 w)(ha:bg (Cb w) as us)(hn:as.length≤n):
  Inv ty ⟨w,[],fun _=>⟨.tuple #[],[]⟩⟩ ⟨n,enter 0 as,[]⟩ {tmps:=us.toArray++Array.replicate (n-us.toArray.size) undef,defers:= []} w:=by
 have hl:=ha.len
 refine⟨by simp;omega,rfl,Kept.refl _ _,⟨hA,fun _ _ h=>by cases h⟩,fun _=>⟨.tuple #[],[]⟩,⟨fun n o h=>by simp[look]at h,fun n m o o' _ h=>by simp[look]at h,fun s v hv=> ?_,fun n o h=>by simp[look]at h,fun n _=>⟨rfl,fun b hb=>hb⟩⟩⟩
 obtain⟨x,rfl,_,hx⟩:=mX hv
 rw[Nat.sub_zero]at hx
 obtain⟨u,hu,hr⟩:=ha.at hx
 have hs:s<us.length:=(List.getElem?_eq_some_iff.1 hu).1
 have:(us.toArray++Array.replicate (n-us.toArray.size) undef).getD s undef=u:=by
  rw[Array.getD_eq_getD_getElem?,Array.getElem?_append_left (by simpa using hs)]
  simp[hu]
 show eC w [] _ x _
 rw[this]
 exact hr.WJ
theorem jK{P:Program}{Γ:Nat→TK}(X:Ctx P ty Γ){f:FuncId}{fn:Func}{c:Code}{nM:List ResultVar}{n:Nat}{as rs:List S1}
  (yU: ∀(args:Array Value) (w:World),(callFunc f args).run P w= .ok (.enter f args) w)(hf:P.funcs[f]? =some fn)(hb:fn.body=some c)(hr:fn.results=nM.toArray)(hl:nM.length≤4)(hn:fn.ntmps=n)(hlen:as.length≤n)
  (h: ∀zb,W P ty zb c (Fin Γ nM rs) ⟨n,enter 0 as,[]⟩):Sound ty P f as rs:=by
 refine⟨yU,fun w us hA ha=>calls_of_wp hf hb ?_⟩
 rw[hn]
 refine wp_mono (h _ _ w (entry hA ha hlen)) ?_
 rintro e a w' ⟨st,iv,he,vc,fB,hv⟩
 have key:a.defers= []∧ ∃v,(results fn a.tmps).run P w'= .ok v w'∧US ty w rs (.returned v) w':=by
  obtain⟨env,g⟩:=iv.good
  unfold ends at fB
  split at fB
  ·rename_i xs hx
   split at fB
   ·rename_i nL k hm
    split at fB
    ·rename_i hnd
     simp only[oI]at fB
     subst fB
     obtain⟨vs,h1,h2,h3⟩:=yT X.kind g hr hx hl
     obtain⟨fp,q1,q2,_⟩:=D9 rfl g h1 hm (iw hnd) hv.out
     have Sb:Below w.heap.size w w':=⟨iv.kept.os,iv.kept.tape,iv.kept.output,iv.kept.size,fun b hb=>iv.kept.block b hb (by simp)⟩
     refine⟨iv.defers,_,h3,_,fp,rfl,Sb,q2,?_⟩
     match rs,vs,q1 with
     | [],[],q1=>exact⟨[],rfl,q1⟩
     | [r],[u],⟨f1,f2,p1,p2,e⟩=>
       have p2:f2= []:=p2
       rw[p2,List.append_nil]at e
       rw[e];exact p1
     |r1::r2::r,u1::u2::u,q1=>exact⟨_,rfl,q1⟩
     | [],_::_,q1=>exact q1.elim
     |_::_,[],q1=>exact q1.elim
     | [r],u1::u2::u,⟨_,_,_,p,_⟩=>exact p.elim
     |r1::r2::r,[u],⟨_,_,_,p,_⟩=>exact p.elim
    ·cases fB
   ·cases fB
  ·cases fB
 rcases he with rfl|rfl<;>exact key
theorem av{P:Program}{Γ:Nat→TK}(X:Ctx P ty Γ){f:FuncId}{fn:Func}{c:Code}{nM:List ResultVar}{n:Nat}{xs rs:List S1}
  (yU: ∀(args:Array Value) (w:World),(callFunc f args).run P w= .ok (.enter f args) w)(hf:P.funcs[f]? =some fn)(hn:fn.ntmps=n)(hb:fn.body=some c)(hr:fn.results=nM.toArray)
  (h: ∀zb,W P ty zb c (Fin Γ nM rs) ⟨n,enter 0 xs,[]⟩)(hl:nM.length≤4:=by decide)(hlen:xs.length≤n:=by simp):Sound ty P f xs rs:=jK X yU hf hb hr hl hn hlen h
def ga(m:Nat):List V→List V×Hp
 | []=>([],[])
 | .sl t l::r=>match ga (m+1) r with| (vs,os)=>(.own m::vs,(m, .arr t l)::os)
 |v::r=>match ga (m+1) r with| (vs,os)=>(v::vs,os)
def fR(m:Nat):List S1→List S1×Hp
 | []=>([],[])
 | .a v::r=>match ga m [v],fR (m+1) r with
   | ([v'],os),(as,os')=>(.a v'::as,os++os')
   |_,(as,os')=>(.a .any::as,os')
 | .agg l::r=>match ga m l,fR (m+l.length) r with
   | (l',os),(as,os')=>(.agg l'::as,os++os')
def cY(st:St)(m:Nat):List V→List V→Option (List Prop)
 | [],[]=>some []
 | .sl _ _::r, .sl t' l'::s=>match look st.hp m,cY st (m+1) r s with
   |some (.arr t l2),some vc=>match eL t' t l2 with|some l2=>some ((l2=l')::vc)|none=>none
   |_,_=>none
 | .lit v::r, .lit v'::s=>match cY st (m+1) r s with|some vc=>some ((v=v')::vc)|none=>none
 |_,_=>none
def yV(st:St)(m:Nat):List S1→List S1→Option (List Prop)
 | [],[]=>some []
 | .a v::r, .a v'::s=>match cY st m [v] [v'],yV st (m+1) r s with|some x,some y=>some (x++y)|_,_=>none
 | .agg l::r, .agg l'::s=>match cY st m l l',yV st (m+l.length) r s with|some x,some y=>some (x++y)|_,_=>none
 |_,_=>none
def LM(Γ:Nat→TK)(st:St)(rv:ResultVar)(as as':List S1)(v:Value):Option (List Prop):=
 match I4 Γ st rv,yV st 1000 as as' with
 |some (.a (.lit v')),some vc=>some ((v'=v)::vc)
 |_,_=>none
def SY(Γ:Nat→TK)(rv:ResultVar)(as as':List S1)(v:Value):Post:=fun e st=>(e= .ret∨e= .normal)∧ ∃vc,LM Γ st rv as as' v=some vc∧gw vc
theorem SY.ret{Γ:Nat→TK}{rv:ResultVar}{as as':List S1}{v:Value}{st:St}{vc:List Prop}(h:LM Γ st rv as as' v=some vc)(hv:gw vc):SY Γ rv as as' v .ret st:=⟨.inl rfl,vc,h,hv⟩
def Ea(m:Nat):List Value→List (List Nat)→List (Nat×CO)
 |u::us,f::fs=>(m,⟨u,f⟩)::Ea (m+1) us fs
 |_,_=> []
theorem yW: ∀{us:List Value} {fs:List (List Nat)} {m i:Nat} {u:Value} {f:List Nat},us[i]? =some u→fs[i]? =some f→look (Ea m us fs) (m+i)=some ⟨u,f⟩
 |u::us,f::fs,m,0,u',f',h1,h2=>by
  simp at h1 h2
  subst h1;subst h2
  rw[Ea];exact look_eq
 |u::us,f::fs,m,i+1,u',f',h1,h2=>by
  rw[Ea,aK (by omega),show m+(i+1)=(m+1)+i by omega]
  exact yW (by simpa using h1) (by simpa using h2)
 | [],_,_,_,_,_,h1,_=>by simp at h1
 |_::_,[],_,_,_,_,_,h2=>by simp at h2
theorem yX{w:World}: ∀{vs:List V} {us:List Value} {aO:List (List Nat)} (m:Nat),RF w vs us aO→(∀n o,look (ga m vs).2 n=some o→ ∃t l u f,o= .arr t l∧m≤n∧n<m+vs.length∧us[n-m]? =some u∧aO[n-m]? =some f∧vs[n-m]? =some (.sl t l)∧Sl (kk t) (rd t) w u l f)∧
  ∀hp env,(∀n o,look (ga m vs).2 n=some o→look hp n=some o)→(∀i u f,us[i]? =some u→aO[i]? =some f→env (m+i)=⟨u,f⟩)→bg (RA w hp env) (ga m vs).1 us
 | [],[],_,m,h=>⟨fun n o hl=>by simp[ga,look]at hl,fun _ _ _ _=>trivial⟩
 |v::vs,u::us,aO,m,⟨f,fr,h1,h2,e⟩=>by
  subst e
  obtain⟨q1,q2⟩:=yX (m+1) h2
  have up: ∀n o,(∃t l u' f',o=Obj.arr t l∧m+1≤n∧n<m+1+vs.length∧us[n-(m+1)]? =some u'∧fr[n-(m+1)]? =some f'∧vs[n-(m+1)]? =some (.sl t l)∧Sl (kk t) (rd t) w u' l f')→
    ∃t l u' f',o=Obj.arr t l∧m≤n∧n<m+(v::vs).length∧(u::us)[n-m]? =some u'∧(f::fr)[n-m]? =some f'∧(v::vs)[n-m]? =some (.sl t l)∧Sl (kk t) (rd t) w u' l f':=by
   rintro n o ⟨t,l,u',f',k1,k2,k3,k4,k5,k6,k7⟩
   have e:n-m=(n-(m+1))+1:=by omega
   exact⟨t,l,u',f',k1,by omega,by simp;omega,by rw[e];simpa using k4,by rw[e];simpa using k5,by rw[e];simpa using k6,k7⟩
  cases v with
  |sl t l=>
   refine⟨fun n o hl=> ?_,fun hp env hh he=>⟨?_,q2 hp env (fun n o hl=>hh n o ?_) (fun i u' f' hu hf=> ?_)⟩⟩
   ·by_cases hn:n=m
    ·subst hn
     simp only[ga]at hl
     rw[look_eq]at hl
     simp only[oI]at hl
     exact⟨t,l,u,f,hl.symm,Nat.le_refl _,by simp,by simp,by simp,by simp,h1⟩
    ·simp only[ga]at hl
     rw[aK hn]at hl
     exact up n o (q1 n o hl)
   ·refine⟨⟨t,l,hh m _ ?_⟩,?_⟩
    ·simp only[ga];exact look_eq
    ·have:=he 0 u f (by simp) (by simp)
     rw[Nat.add_zero]at this
     rw[this]
   ·have hge:=(q1 n o hl)
    obtain⟨_,_,_,_,_,hge,_⟩:=hge
    simp only[ga]
    rw[aK (by omega)];exact hl
   ·have:=he (i+1) u' f' (by simpa using hu) (by simpa using hf)
    rwa [show m+(i+1)=m+1+i by omega]at this
  |lit x=>
   refine⟨fun n o hl=>up n o (q1 n o hl),fun hp env hh he=>⟨⟨h1.1,h1.2.1⟩,q2 hp env hh (fun i u' f' hu hf=> ?_)⟩⟩
   have:=he (i+1) u' f' (by simpa using hu) (by simpa using hf)
   rwa [show m+(i+1)=m+1+i by omega]at this
  |_=>exact h1.elim
 | [],_::_,_,_,h=>h.elim
 |_::_,[],_,_,h=>h.elim
theorem RF.len{w:World}: ∀{vs:List V} {us:List Value} {aO:List (List Nat)},RF w vs us aO→us.length=vs.length∧aO.length=vs.length
 | [],[],_,h=>by rw[show _=_ from h];exact⟨rfl,rfl⟩
 |_::_,_::_,_,⟨_,_,_,h,e⟩=>by obtain⟨h1,h2⟩:=RF.len h;rw[e];exact⟨by simp[h1],by simp[h2]⟩
 | [],_::_,_,h=>h.elim
 |_::_,[],_,h=>h.elim
theorem uJ: ∀{vs:List V} (m:Nat),(ga m vs).1.length=vs.length
 | [],_=>rfl
 |v::r,m=>by
  have:=uJ (vs:=r) (m+1)
  cases v<;>simp[ga,this]
theorem yY{w:World}: ∀{as:List S1} {us:List Value} {aO:List (List Nat)} (m:Nat),l6 w as us aO→
  (∀n o,look (fR m as).2 n=some o→ ∃t l u f,o= .arr t l∧m≤n∧(us.flatMap fun u=>u.cells.toList)[n-m]? =some u∧aO[n-m]? =some f∧Sl (kk t) (rd t) w u l f)∧
  ∀hp env,(∀n o,look (fR m as).2 n=some o→look hp n=some o)→(∀i u f,(us.flatMap fun u=>u.cells.toList)[i]? =some u→aO[i]? =some f→env (m+i)=⟨u,f⟩)→bg (eC w hp env) (fR m as).1 us
 | [],[],aO,m,h=>⟨fun n o hl=>by simp[fR,look]at hl,fun _ _ _ _=>trivial⟩
 | .a v::as,u::us,aO,m,⟨f,g,h1,h2,e⟩=>by
   subst e
   have hc:u.cells.toList= [u]:=by rw[h1.cells]
   obtain⟨p1,p2⟩:=yX m (show RF w [v] [u] [f]from ⟨f,[],h1,rfl,rfl⟩)
   obtain⟨q1,q2⟩:=yY (m+1) h2
   have hl1:=uJ (vs:= [v]) m
   rw[List.flatMap_cons,hc]
   simp only[fR]
   generalize ga m [v]=x at p1 p2 hl1 ⊢
   obtain⟨xs,os⟩:=x
   match xs,hl1 with
   | [v'],_=>
     have up: ∀n o,look (fR (m+1) as).2 n=some o→look os n=none:=by
      intro n o hl
      cases hq:look os n with
      |none=>rfl
      |some o'=>
       obtain⟨_,_,_,_,_,k1,_⟩:=q1 n o hl
       obtain⟨_,_,_,_,_,_,k2,_⟩:=p1 n o' hq
       simp at k2;omega
     refine⟨fun n o hl=> ?_,fun hp env hh he=>⟨?_,q2 hp env (fun n o hl=>hh n o (by
       show look (os++(fR (m+1) as).2) n=some o
       rw[aN (up n o hl)];exact hl)) fun i u' f' hu hf=> ?_⟩⟩
     ·have hl:look (os++(fR (m+1) as).2) n=some o:=hl
      cases hq:look os n with
      |some o'=>
       rw[bt hq]at hl
       simp only[oI]at hl
       subst hl
       obtain⟨t,l,u',f',k1,k2,k3,k4,k5,k6,k7⟩:=p1 n _ hq
       have h0:n-m=0:=by simp at k3;omega
       rw[h0]at k4 k5 ⊢
       simp at k4 k5
       subst k4;subst k5
       exact⟨t,l,u,f,k1,k2,by simp,by simp,k7⟩
      |none=>
       rw[aN hq]at hl
       obtain⟨t,l,u',f',k1,k2,k3,k4,k5⟩:=q1 n o hl
       have e:n-m=(n-(m+1))+1:=by omega
       exact⟨t,l,u',f',k1,by omega,by rw[e];simpa using k3,by rw[e];simpa using k4,k5⟩
     ·have:=p2 hp env (fun n o hl=>hh n o (bt hl)) (fun i u' f' hu hf=>by
       match i with
       |0=>exact he 0 u' f' (by simpa using hu) (by simpa using hf)
       |i+1=>simp at hu)
      exact this.1
     ·have:=he (i+1) u' f' (by simpa using hu) (by simpa using hf)
      rwa [show m+(i+1)=m+1+i by omega]at this
 | .agg l::as,u::us,aO,m,⟨cs,f,g,e1,h1,h2,e⟩=>by
   subst e;subst e1
   have hc:(Value.agg cs.toArray).cells.toList=cs:=by simp[Value.cells]
   obtain⟨p1,p2⟩:=yX m h1
   obtain⟨q1,q2⟩:=yY (m+l.length) h2
   obtain⟨n1,n2⟩:=RF.len h1
   rw[List.flatMap_cons,hc]
   have up: ∀n o,look (fR (m+l.length) as).2 n=some o→look (ga m l).2 n=none:=by
    intro n o hl
    cases hq:look (ga m l).2 n with
    |none=>rfl
    |some o'=>
     obtain⟨_,_,_,_,_,k1,_⟩:=q1 n o hl
     obtain⟨_,_,_,_,_,_,k2,_⟩:=p1 n o' hq
     omega
   refine⟨fun n o hl=> ?_,fun hp env hh he=>⟨⟨cs,rfl,?_⟩,q2 hp env (fun n o hl=>hh n o (by
     show look ((ga m l).2++(fR (m+l.length) as).2) n=some o
     rw[aN (up n o hl)];exact hl)) fun i u' f' hu hf=> ?_⟩⟩
   ·have hl:look ((ga m l).2++(fR (m+l.length) as).2) n=some o:=hl
    cases hq:look (ga m l).2 n with
    |some o'=>
     rw[bt hq]at hl
     simp only[oI]at hl
     subst hl
     obtain⟨t,l',u',f',k1,k2,k3,k4,k5,k6,k7⟩:=p1 n _ hq
     exact⟨t,l',u',f',k1,k2,by rw[List.getElem?_append_left (by omega)];exact k4,by rw[List.getElem?_append_left (by omega)];exact k5,k7⟩
    |none=>
     rw[aN hq]at hl
     obtain⟨t,l',u',f',k1,k2,k3,k4,k5⟩:=q1 n o hl
     have e:n-m-l.length=n-(m+l.length):=by omega
     exact⟨t,l',u',f',k1,by omega,by rw[List.getElem?_append_right (by omega),n1,e];exact k3,by rw[List.getElem?_append_right (by omega),n2,e];exact k4,k5⟩
   ·exact p2 hp env (fun n o hl=>hh n o (bt hl)) (fun i u' f' hu hf=>he i u' f'
     (by rw[List.getElem?_append_left (List.getElem?_eq_some_iff.1 hu).1];exact hu)
     (by rw[List.getElem?_append_left (List.getElem?_eq_some_iff.1 hf).1];exact hf))
   ·have:=he (l.length+i) u' f' (by rw[List.getElem?_append_right (by omega),n1,show l.length+i-l.length=i by omega];exact hu)
     (by rw[List.getElem?_append_right (by omega),n2,show l.length+i-l.length=i by omega];exact hf)
    rwa [show m+(l.length+i)=m+l.length+i by omega]at this
 | [],_::_,_,_,h=>h.elim
 | .a _::_,[],_,_,h=>h.elim
 | .agg _::_,[],_,_,h=>h.elim
theorem qD.nodup: ∀{fs gs:List (List Nat)},qD fs gs→gs.flatten.Nodup→(∀f,f∈fs→f.Nodup)→fs.flatten.Nodup∧ ∀b,b∈fs.flatten→b∈gs.flatten
 | [],[],_,_,_=>⟨by simp,by simp⟩
 |f::fs,g::gs,⟨h1,h2⟩,hn,hf=>by
  rw[List.flatten_cons]at hn
  obtain⟨_,n2,n3⟩:=List.nodup_append.1 hn
  obtain⟨q1,q2⟩:=qD.nodup h2 n2 (fun f hm=>hf f (List.mem_cons_of_mem _ hm))
  refine⟨?_,fun b hb=> ?_⟩
  ·rw[List.flatten_cons]
   exact List.nodup_append.2 ⟨hf f (by simp),q1,fun b hb c hc e=>n3 b (h1 b hb) c (q2 c hc) e⟩
  ·rw[List.flatten_cons]at hb ⊢
   rcases List.mem_append.1 hb with hb|hb
   ·exact List.mem_append_left _ (h1 b hb)
   ·exact List.mem_append_right _ (q2 b hb)
 | [],_::_,h,_,_=>h.elim
 |_::_,[],h,_,_=>h.elim
theorem qD.app: ∀{a b c d:List (List Nat)},qD a b→qD c d→qD (a++c) (b++d)
 | [],[],_,_,_,h=>h
 |_::_,_::_,_,_,⟨h1,h2⟩,h=>⟨h1,qD.app h2 h⟩
 | [],_::_,_,_,h,_=>h.elim
 |_::_,[],_,_,h,_=>h.elim
section
variable{zb:bP}{st:St}{tmps:Array Value}{w0 w:World}{env:Env}
theorem xu(g:Good ty zb st tmps w env): ∀{vs vs':List V} {us:List Value} {aO:List (List Nat)} {vc:List Prop} (m:Nat),fu m=true→cY st m vs vs'=some vc→(∀q,q∈vc→q)→RF w0 vs us aO→
  (∀i u f,us[i]? =some u→aO[i]? =some f→zb.pv (m+i)=⟨u,f⟩)→ ∃gO,RF w vs' us gO∧qD gO aO∧ ∀f,f∈gO→Own 0 w f
 | [],[],[],aO,vc,m,_,_,_,h,_=>⟨[],rfl,by rw[show aO= []from h];trivial,by simp⟩
 | .sl t l::r, .sl t' l'::s,u::us,aO,vc,m,hm,hh,hv,⟨f,fr,h1,h2,e⟩,hz=>by
   subst e
   simp only[cY]at hh
   split at hh
   ·rename_i t2 l2 vcs hl hr
    split at hh
    ·rename_i l3 hc
     simp only[oI]at hh
     subst hh
     obtain⟨e,rfl⟩:=ct hc
     subst e
     have e2:l2=l':=hv _ (by simp)
     subst e2
     obtain⟨gO,q1,q2,q3⟩:=xu g (m+1) (by unfold fu at hm ⊢;exact Nat.ble_eq_true_of_le (Nat.le_succ_of_le (Nat.le_of_ble_eq_true hm))) hr (fun q hq=>hv q (List.mem_cons_of_mem _ hq)) h2 (fun i u' f' hu hf=>by
      have:=hz (i+1) u' f' (by simpa using hu) (by simpa using hf)
      rwa [show m+(i+1)=m+1+i by omega]at this)
     have hp:=hz 0 u f (by simp) (by simp)
     rw[Nat.add_zero]at hp
     obtain⟨k1,k2⟩:=g.pins m hm
     rw[hp]at k1 k2
     have hro:=g.obj m _ hl
     refine⟨(env m).fp::gO,⟨_,_,?_,q1,rfl⟩,⟨k2,q2⟩,?_⟩
     ·have:=RO.sl hro
      rw[k1]at this
      exact this
     ·intro f' hf'
      rcases List.mem_cons.1 hf' with rfl|hf'
      ·exact RO.own hro
      ·exact q3 f' hf'
    ·cases hh
   ·cases hh
 | .lit x::r, .lit x'::s,u::us,aO,vc,m,hm,hh,hv,⟨f,fr,h1,h2,e⟩,hz=>by
   subst e
   simp only[cY]at hh
   split at hh
   ·rename_i vcs hr
    simp only[oI]at hh
    subst hh
    have e2:x=x':=hv _ (by simp)
    subst e2
    obtain⟨gO,q1,q2,q3⟩:=xu g (m+1) (by unfold fu at hm ⊢;exact Nat.ble_eq_true_of_le (Nat.le_succ_of_le (Nat.le_of_ble_eq_true hm))) hr (fun q hq=>hv q (List.mem_cons_of_mem _ hq)) h2 (fun i u' f' hu hf=>by
     have:=hz (i+1) u' f' (by simpa using hu) (by simpa using hf)
     rwa [show m+(i+1)=m+1+i by omega]at this)
    refine⟨[]::gO,⟨_,_,⟨h1.1,h1.2.1,rfl⟩,q1,rfl⟩,⟨by simp,q2⟩,?_⟩
    intro f' hf'
    rcases List.mem_cons.1 hf' with rfl|hf'
    ·exact Own.nil _ _
    ·exact q3 f' hf'
   ·cases hh
 | [],_::_,_,_,_,_,_,hh,_,_,_=>by simp[cY]at hh
 | .sl _ _::_,[],_,_,_,_,_,hh,_,_,_=>by simp[cY]at hh
 | .sl _ _::_, .lit _::_,_,_,_,_,_,hh,_,_,_=>by simp[cY]at hh
 | .sl _ _::_, .any::_,_,_,_,_,_,hh,_,_,_=>by simp[cY]at hh
 | .sl _ _::_, .own _::_,_,_,_,_,_,hh,_,_,_=>by simp[cY]at hh
 | .sl _ _::_, .ptr _ _::_,_,_,_,_,_,hh,_,_,_=>by simp[cY]at hh
 | .sl _ _::_, .iQ _ _ _::_,_,_,_,_,_,hh,_,_,_=>by simp[cY]at hh
 | .sl _ _::_, .ip _ _ _::_,_,_,_,_,_,hh,_,_,_=>by simp[cY]at hh
 | .sl _ _::_, .vw _ _ _ _::_,_,_,_,_,_,hh,_,_,_=>by simp[cY]at hh
 | .sl _ _::_, .wK _ _ _ _ _::_,_,_,_,_,_,hh,_,_,_=>by simp[cY]at hh
 | .sl _ _::_, .wL _ _ _::_,_,_,_,_,_,hh,_,_,_=>by simp[cY]at hh
 | .sl _ _::_, .mix _ _ _ _::_,_,_,_,_,_,hh,_,_,_=>by simp[cY]at hh
 | .sl _ _::_, .nK _::_,_,_,_,_,_,hh,_,_,_=>by simp[cY]at hh
 | .sl _ _::_, .vV _ _::_,_,_,_,_,_,hh,_,_,_=>by simp[cY]at hh
 | .sl _ _::_, .mJ _::_,_,_,_,_,_,hh,_,_,_=>by simp[cY]at hh
 | .sl _ _::_, .raw _::_,_,_,_,_,_,hh,_,_,_=>by simp[cY]at hh
 | .sl _ _::_, .gL _ _ _::_,_,_,_,_,_,hh,_,_,_=>by simp[cY]at hh
 | .lit _::_,[],_,_,_,_,_,hh,_,_,_=>by simp[cY]at hh
 | .lit _::_, .sl _ _::_,_,_,_,_,_,hh,_,_,_=>by simp[cY]at hh
 | .lit _::_, .any::_,_,_,_,_,_,hh,_,_,_=>by simp[cY]at hh
 | .lit _::_, .own _::_,_,_,_,_,_,hh,_,_,_=>by simp[cY]at hh
 | .lit _::_, .ptr _ _::_,_,_,_,_,_,hh,_,_,_=>by simp[cY]at hh
 | .lit _::_, .iQ _ _ _::_,_,_,_,_,_,hh,_,_,_=>by simp[cY]at hh
 | .lit _::_, .ip _ _ _::_,_,_,_,_,_,hh,_,_,_=>by simp[cY]at hh
 | .lit _::_, .vw _ _ _ _::_,_,_,_,_,_,hh,_,_,_=>by simp[cY]at hh
 | .lit _::_, .wK _ _ _ _ _::_,_,_,_,_,_,hh,_,_,_=>by simp[cY]at hh
 | .lit _::_, .wL _ _ _::_,_,_,_,_,_,hh,_,_,_=>by simp[cY]at hh
 | .lit _::_, .mix _ _ _ _::_,_,_,_,_,_,hh,_,_,_=>by simp[cY]at hh
 | .lit _::_, .nK _::_,_,_,_,_,_,hh,_,_,_=>by simp[cY]at hh
 | .lit _::_, .vV _ _::_,_,_,_,_,_,hh,_,_,_=>by simp[cY]at hh
 | .lit _::_, .mJ _::_,_,_,_,_,_,hh,_,_,_=>by simp[cY]at hh
 | .lit _::_, .raw _::_,_,_,_,_,_,hh,_,_,_=>by simp[cY]at hh
 | .lit _::_, .gL _ _ _::_,_,_,_,_,_,hh,_,_,_=>by simp[cY]at hh
 | .any::_,_,_,_,_,_,_,hh,_,_,_=>by simp[cY]at hh
 | .own _::_,_,_,_,_,_,_,hh,_,_,_=>by simp[cY]at hh
 | .ptr _ _::_,_,_,_,_,_,_,hh,_,_,_=>by simp[cY]at hh
 | .iQ _ _ _::_,_,_,_,_,_,_,hh,_,_,_=>by simp[cY]at hh
 | .ip _ _ _::_,_,_,_,_,_,_,hh,_,_,_=>by simp[cY]at hh
 | .vw _ _ _ _::_,_,_,_,_,_,_,hh,_,_,_=>by simp[cY]at hh
 | .wK _ _ _ _ _::_,_,_,_,_,_,_,hh,_,_,_=>by simp[cY]at hh
 | .wL _ _ _::_,_,_,_,_,_,_,hh,_,_,_=>by simp[cY]at hh
 | .mix _ _ _ _::_,_,_,_,_,_,_,hh,_,_,_=>by simp[cY]at hh
 | .nK _::_,_,_,_,_,_,_,hh,_,_,_=>by simp[cY]at hh
 | .vV _ _::_,_,_,_,_,_,_,hh,_,_,_=>by simp[cY]at hh
 | .mJ _::_,_,_,_,_,_,_,hh,_,_,_=>by simp[cY]at hh
 | .raw _::_,_,_,_,_,_,_,hh,_,_,_=>by simp[cY]at hh
 | .gL _ _ _::_,_,_,_,_,_,_,hh,_,_,_=>by simp[cY]at hh
 |_::_,_,[],_,_,_,_,_,_,h,_=>h.elim
 | [],[],_::_,_,_,_,_,_,_,h,_=>h.elim
theorem RF.one{w:World}{v:V}{u:Value}{aO:List (List Nat)}(h:RF w [v] [u] aO): ∃f,RI w v u f∧aO= [f]:=by
 obtain⟨f,g,h1,h2,h3⟩:=h
 exact⟨f,h1,by rw[h3,show g= []from h2]⟩
theorem Cx(g:Good ty zb st tmps w env): ∀{as as':List S1} {us:List Value} {aO:List (List Nat)} {vc:List Prop} (m:Nat),fu m=true→yV st m as as'=some vc→(∀q,q∈vc→q)→l6 w0 as us aO→
  (∀i u f,(us.flatMap fun u=>u.cells.toList)[i]? =some u→aO[i]? =some f→zb.pv (m+i)=⟨u,f⟩)→ ∃gO,l6 w as' us gO∧qD gO aO∧ ∀f,f∈gO→Own 0 w f
 | [],[],[],aO,vc,m,_,_,_,h,_=>⟨[],rfl,by rw[show aO= []from h];trivial,by simp⟩
 | .a v::r, .a v'::s,u::us,aO,vc,m,hm,hh,hv,⟨f,fr,h1,h2,e⟩,hz=>by
   subst e
   have hc:u.cells.toList= [u]:=by rw[h1.cells]
   rw[List.flatMap_cons,hc]at hz
   simp only[yV]at hh
   split at hh
   ·rename_i x y hx hy
    simp only[oI]at hh
    subst hh
    obtain⟨f1,p1,p2,p3⟩:=xu g m hm hx (fun q hq=>hv q (List.mem_append_left _ hq)) (show RF w0 [v] [u] [f]from ⟨f,[],h1,rfl,rfl⟩) (fun i u' f' hu hf=>by
     match i with
     |0=>exact hz 0 u' f' (by simpa using hu) (by simpa using hf)
     |i+1=>simp at hu)
    obtain⟨f2,rfl⟩: ∃f2,f1= [f2]:=by obtain⟨f2,_,h⟩:=RF.one p1;exact⟨f2,h⟩
    obtain⟨f3,p4,p5⟩:=RF.one p1
    simp only[List.cons.injEq,and_true]at p5
    subst p5
    obtain⟨gO,q1,q2,q3⟩:=Cx g (m+1) (by unfold fu at hm ⊢;exact Nat.ble_eq_true_of_le (Nat.le_succ_of_le (Nat.le_of_ble_eq_true hm))) hy (fun q hq=>hv q (List.mem_append_right _ hq)) h2 (fun i u' f' hu hf=>by
     have:=hz (i+1) u' f' (by simpa using hu) (by simpa using hf)
     rwa [show m+(i+1)=m+1+i by omega]at this)
    refine⟨f2::gO,⟨_,_,p4,q1,rfl⟩,⟨p2.1,q2⟩,?_⟩
    intro f' hf'
    rcases List.mem_cons.1 hf' with rfl|hf'
    ·exact p3 _ (by simp)
    ·exact q3 f' hf'
   ·cases hh
 | .agg l::r, .agg l'::s,u::us,aO,vc,m,hm,hh,hv,⟨cs,f,fr,e1,h1,h2,e⟩,hz=>by
   subst e;subst e1
   have hc:(Value.agg cs.toArray).cells.toList=cs:=by simp[Value.cells]
   obtain⟨n1,n2⟩:=RF.len h1
   rw[List.flatMap_cons,hc]at hz
   simp only[yV]at hh
   split at hh
   ·rename_i x y hx hy
    simp only[oI]at hh
    subst hh
    obtain⟨f1,p1,p2,p3⟩:=xu g m hm hx (fun q hq=>hv q (List.mem_append_left _ hq)) h1 (fun i u' f' hu hf=>hz i u' f'
     (by rw[List.getElem?_append_left (List.getElem?_eq_some_iff.1 hu).1];exact hu)
     (by rw[List.getElem?_append_left (List.getElem?_eq_some_iff.1 hf).1];exact hf))
    obtain⟨gO,q1,q2,q3⟩:=Cx g (m+l.length) (by unfold fu at hm ⊢;exact Nat.ble_eq_true_of_le (Nat.le_trans (Nat.le_of_ble_eq_true hm) (Nat.le_add_right _ _))) hy (fun q hq=>hv q (List.mem_append_right _ hq)) h2 (fun i u' f' hu hf=>by
     have:=hz (l.length+i) u' f' (by rw[List.getElem?_append_right (by omega),n1,show l.length+i-l.length=i by omega];exact hu)
      (by rw[List.getElem?_append_right (by omega),n2,show l.length+i-l.length=i by omega];exact hf)
     rwa [show m+(l.length+i)=m+l.length+i by omega]at this)
    refine⟨f1++gO,⟨cs,f1,gO,rfl,p1,q1,rfl⟩,qD.app p2 q2,?_⟩
    intro f' hf'
    rcases List.mem_append.1 hf' with hf'|hf'
    ·exact p3 _ hf'
    ·exact q3 f' hf'
   ·cases hh
 | [],_::_,_,_,_,_,_,hh,_,_,_=>by simp[yV]at hh
 | .a _::_,[],_,_,_,_,_,hh,_,_,_=>by simp[yV]at hh
 | .agg _::_,[],_,_,_,_,_,hh,_,_,_=>by simp[yV]at hh
 | .a _::_, .agg _::_,_,_,_,_,_,hh,_,_,_=>by simp[yV]at hh
 | .agg _::_, .a _::_,_,_,_,_,_,hh,_,_,_=>by simp[yV]at hh
 | .a _::_,_,[],_,_,_,_,_,_,h,_=>h.elim
 | .agg _::_,_,[],_,_,_,_,_,_,h,_=>h.elim
 | [],[],_::_,_,_,_,_,_,_,h,_=>h.elim
end
theorem uK: ∀{as:List S1} (m:Nat),(fR m as).1.length=as.length
 | [],_=>rfl
 | .a v::r,m=>by
   have:=uK (as:=r) (m+1)
   have h2:=uJ (vs:= [v]) m
   simp only[fR]
   generalize ga m [v]=x at h2 ⊢
   obtain⟨xs,os⟩:=x
   match xs,h2 with
   | [v'],_=>simp[this]
 | .agg l::r,m=>by
   have:=uK (as:=r) (m+l.length)
   simp[fR,this]
theorem SZ{aO:List (List Nat)}(h:aO.flatten.Nodup){i j:Nat}{f f':List Nat}(hi:aO[i]? =some f)(hj:aO[j]? =some f')(hne:i≠j): ∀b,b∈f→b∉f':=by
 induction aO generalizing i j with
 |nil=>simp at hi
 |cons g r ih=>
  rw[List.flatten_cons]at h
  obtain⟨_,n2,n3⟩:=List.nodup_append.1 h
  intro b hb hb'
  cases i with
  |zero=>
   cases j with
   |zero=>exact hne rfl
   |succ j=>
    simp at hi hj
    subst hi
    exact n3 b hb b (List.mem_flatten.2 ⟨f',List.mem_of_getElem? hj,hb'⟩) rfl
  |succ i=>
   cases j with
   |zero=>
    simp at hi hj
    subst hj
    exact n3 b hb' b (List.mem_flatten.2 ⟨f,List.mem_of_getElem? hi,hb⟩) rfl
   |succ j=>exact ih n2 (by simpa using hi) (by simpa using hj) (by omega) b hb hb'
def Cy(us:List Value)(aO:List (List Nat)):Nat→CO:=fun n=>match look (Ea 1000 (us.flatMap fun u=>u.cells.toList) aO) n with|some c=>c|none=>⟨.tuple #[],[]⟩
theorem S0{as:List S1}{us:List Value}{aO:List (List Nat)}{w:World}{n:Nat}(hA:A3 w)(hL: ∀b,Dx b→b∉aO.flatten)(ha:l6 w as us aO)(ho:Own 0 w aO.flatten)(hn:as.length≤n):
  Inv ty ⟨w,aO.flatten,Cy us aO⟩ ⟨n,enter 0 (fR 1000 as).1,(fR 1000 as).2⟩ {tmps:=us.toArray++Array.replicate (n-us.toArray.size) undef,defers:= []} w:=by
 obtain⟨q1,q2⟩:=yY 1000 ha
 have WQ: ∀i u f,(us.flatMap fun u=>u.cells.toList)[i]? =some u→aO[i]? =some f→Cy us aO (1000+i)=⟨u,f⟩:=by
  intro i u f hu hf
  unfold Cy
  rw[yW hu hf]
 have hall:=q2 (fR 1000 as).2 (Cy us aO) (fun _ _ h=>h) WQ
 have hl:=hall.len
 rw[uK]at hl
 have I5: ∀m o,look (fR 1000 as).2 m=some o→ ∃t l f,o= .arr t l∧1000≤m∧aO[m-1000]? =some f∧(Cy us aO m).fp=f∧Sl (kk t) (rd t) w (Cy us aO m).v l f:=by
  intro m o hm
  obtain⟨t,l,u,f,k1,k2,k3,k4,k5⟩:=q1 m o hm
  have h:=WQ _ _ _ k3 k4
  rw[show 1000+(m-1000)=m by omega]at h
  refine⟨t,l,f,k1,k2,k4,by rw[h],by rw[h];exact k5⟩
 refine⟨by simp;omega,rfl,Kept.refl _ _,⟨hA,hL⟩,Cy us aO,⟨?_,?_,?_,?_,fun n _=>⟨rfl,fun b hb=>hb⟩⟩⟩
 ·intro m o hm
  obtain⟨t,l,f,rfl,k2,k3,k4,k5⟩:=I5 m o hm
  have hp:fu m=true:=by unfold fu;exact Nat.ble_eq_true_of_le k2
  show hJ ty w m t l _
  unfold hJ
  rw[DI hp]
  refine⟨by rw[k4];exact k5,?_⟩
  rw[k4]
  have hmem:=List.mem_of_getElem? k3
  exact⟨(List.pairwise_flatten.1 ho.nodup).1 f hmem,fun _ _=>Nat.zero_le _,fun b hb=>ho.kind b (List.mem_flatten.2 ⟨f,hmem,hb⟩)⟩
 ·intro m m' o o' hne hm hm' b hb hb'
  obtain⟨t,l,f,_,k2,k3,k4,_⟩:=I5 m o hm
  obtain⟨t',l',f',_,WT,Y7,k4',_⟩:=I5 m' o' hm'
  rw[k4]at hb
  rw[k4']at hb'
  exact SZ ho.nodup k3 Y7 (by omega) b hb hb'
 ·intro s v hv
  obtain⟨x,rfl,_,hx⟩:=mX hv
  rw[Nat.sub_zero]at hx
  obtain⟨u,hu,hr⟩:=hall.at hx
  have hs:s<us.length:=(List.getElem?_eq_some_iff.1 hu).1
  have:(us.toArray++Array.replicate (n-us.toArray.size) undef).getD s undef=u:=by
   rw[Array.getD_eq_getD_getElem?,Array.getElem?_append_left (by simpa using hs)]
   simp[hu]
  show eC w _ _ x _
  rw[this]
  exact hr
 ·intro m o hm b hb
  obtain⟨t,l,f,_,k2,k3,k4,_⟩:=I5 m o hm
  rw[k4]at hb
  exact Or.inl (List.mem_flatten.2 ⟨f,List.mem_of_getElem? k3,hb⟩)
theorem uG.of{P:Program}{Γ:Nat→TK}(X:Ctx P ty Γ){f:FuncId}{fn:Func}{c:Code}{rv:ResultVar}{n:Nat}{as as':List S1}{v:Value}
  (yU: ∀(args:Array Value) (w:World),(callFunc f args).run P w= .ok (.enter f args) w)(hf:P.funcs[f]? =some fn)(hb:fn.body=some c)(hr:fn.results= [rv].toArray)(hn:fn.ntmps=n)(hlen:as.length≤n)
  (h: ∀zb,W P ty zb c (SY Γ rv as as' v) ⟨n,enter 0 (fR 1000 as).1,(fR 1000 as).2⟩):uG P f as as' v:=by
 refine⟨yU,fun w us aO hA hL ha ho=>calls_of_wp hf hb ?_⟩
 rw[hn]
 refine wp_mono (h _ _ w (S0 (ty:=ty) hA hL ha ho hlen)) ?_
 rintro e a w' ⟨st,iv,he,vc,fB,hv⟩
 have key:a.defers= []∧ ∃v',(results fn a.tmps).run P w'= .ok v' w'∧ ∃gO,(Ending.returned v'= .returned v)∧Kept ⟨w,aO.flatten,fun _=>⟨v,[]⟩⟩ w w'∧l6 w' as' us gO∧Own 0 w' gO.flatten∧qD gO aO:=by
  obtain⟨env,g⟩:=iv.good
  unfold LM at fB
  split at fB
  ·rename_i v1 nL h1 h2
   simp only[oI]at fB
   subst fB
   have hx:oG Γ st [rv]=some [.a (.lit v1)]:=by simp[oG,h1]
   obtain⟨vs,k1,k2,k3⟩:=yT X.kind g hr hx (by simp)
   match vs,k1 with
   | [u],⟨k4,_⟩=>
     have hu:u=v1:=k4.1
     have uC:v1=v:=hv.out _ (by simp)
     obtain⟨gO,q1,q2,q3⟩:=Cx g 1000 rfl h2 (fun q hq=>hv.out q (List.mem_cons_of_mem _ hq)) ha (fun i u f hu hf=>by
      show Cy us aO (1000+i)=_
      unfold Cy
      rw[yW hu hf])
     obtain⟨r1,r2⟩:=qD.nodup q2 ho.nodup (fun f hf=>(q3 f hf).nodup)
     refine⟨iv.defers,_,k3,gO,by rw[hu,uC],⟨iv.kept.os,iv.kept.tape,iv.kept.output,iv.kept.size,iv.kept.block,iv.kept.shape⟩,q1,⟨r1,fun _ _=>Nat.zero_le _,fun b hb=> ?_⟩,q2⟩
     obtain⟨f,hf,hb⟩:=List.mem_flatten.1 hb
     exact(q3 f hf).kind b hb
  ·cases fB
 rcases he with rfl|rfl<;>exact key
end
section
variable{ty:Tag→Nat}
def MA:V→V→Option (List Prop)
 |_, .any=>some []
 | .lit v, .lit u=>some [v=u]
 | .gL v t l, .gL u t' l'=>match eL t' t l with|some l2=>some [v=u,l2=l']|none=>none
 | .own n, .own m=>match Nat.beq n m with|true=>some []|false=>none
 | .ptr n o, .ptr m q=>match Nat.beq n m&&Nat.beq o q with|true=>some []|false=>none
 |_,_=>none
def o9:List V→List V→Option (List Prop)
 | [],[]=>some []
 |x::r,y::s=>match MA x y,o9 r s with|some vc,some vcs=>some (je vc vcs)|_,_=>none
 |_,_=>none
def ko:Obj→Obj→Option (List Prop)
 | .arr t l, .arr t' l'=>match eL t' t l with|some l2=>some [l2=l']|none=>none
 | .box c, .box d=>o9 c d
 |_,_=>none
def CY(hp:Hp):Hp→Option (List Prop)
 | []=>some []
 | (n,o)::r=>match look hp n with
   |some x=>match ko x o,CY hp r with|some vc,some vcs=>some (je vc vcs)|_,_=>none
   |none=>none
def CZ:S1→S1→Option (List Prop)
 | .a v, .a u=>o9 [v] [u]
 | .agg l, .agg m=>o9 l m
 |_,_=>none
def vn:List S1→List S1→Option (List Prop)
 | [],[]=>some []
 |x::r,y::s=>match CZ x y,vn r s with|some vc,some vcs=>some (je vc vcs)|_,_=>none
 |_,_=>none
def HT(Γ:Nat→TK)(st:St)(nM:List ResultVar)(dM:Hp)(rs:List S1):Option (List Prop):=
 match oG Γ st nM with
 |some xs=>match vn xs rs,CY st.hp dM with
  |some vc,some vcs=>some (je vc vcs)
  |_,_=>none
 |none=>none
def TB(Γ:Nat→TK)(nM:List ResultVar)(dM:Hp)(rs:List S1):Post:=fun e st=>(e= .ret∨e= .normal)∧ ∃vc,HT Γ st nM dM rs=some vc∧gw vc
theorem eJ{Γ:Nat→TK}{nM:List ResultVar}{dM:Hp}{rs:List S1}{st:St}{vc:List Prop}(h:HT Γ st nM dM rs=some vc)(hv:gw vc):TB Γ nM dM rs .ret st:=⟨.inl rfl,vc,h,hv⟩
theorem C0{Γ:Nat→TK}{nM:List ResultVar}{dM:Hp}{rs:List S1}{st:St}{vc:List Prop}(h:HT Γ st nM dM rs=some vc)(hv:gw vc):TB Γ nM dM rs .normal st:=⟨.inr rfl,vc,h,hv⟩
def Zp(dM:Hp)(rs:List S1):Bool:=(rs.all (mV dM))&&(dM.all fun e=>th dM e.2)&&eW dM
section
variable{P:Program}{zb:bP}{st:St}{a:Act}{w:World}{env:Env}
theorem zM{x o:Obj}{vc:List Prop}(h:ko x o=some vc):(∀t l,x= .arr t l→ ∃t' l',o= .arr t' l')∧ ∀c,x= .box c→ ∃d,o= .box d:=by
 cases x<;>cases o<;>simp[ko]at h ⊢
theorem zN{hp:Hp}: ∀{dM:Hp} {vc:List Prop},CY hp dM=some vc→(∀q,q∈vc→q)→ ∀n o,(n,o)∈dM→ ∃x v1,look hp n=some x∧ko x o=some v1∧ ∀q,q∈v1→q
 | (k,y)::r,vc,h,hv,n,o,hm=>by
   simp only[CY]at h
   split at h
   ·rename_i x hx
    split at h
    ·rename_i v1 v2 h1 h2
     simp only[oI,cO]at h
     subst h
     rcases List.mem_cons.1 hm with h'|h'
     ·simp only[pI]at h'
      obtain⟨rfl,rfl⟩:=h'
      exact⟨x,v1,hx,h1,fun q hq=>hv q (List.mem_append_left _ hq)⟩
     ·exact zN h2 (fun q hq=>hv q (List.mem_append_right _ hq)) n o h'
    ·cases h
   ·cases h
theorem MB{hp dM:Hp}(hT: ∀n o,look dM n=some o→ ∃x v1,look hp n=some x∧ko x o=some v1){x y:V}{u:Value}{vc:List Prop}(hr:RA w hp env x u)(h:MA x y=some vc)(hv: ∀q,q∈vc→q)(hn:jh dM y=true):RA w dM env y u:=by
 unfold MA at h
 split at h
 ·trivial
 ·simp only[oI]at h
  subst h
  have e:=hv _ (List.mem_singleton.2 rfl)
  subst e
  exact hr
 ·split at h
  ·rename_i l2 hc
   simp only[oI]at h
   subst h
   have e1:=hv _ (List.mem_cons_self ..)
   have e2:=hv _ (List.mem_cons_of_mem _ (List.mem_singleton.2 rfl))
   obtain⟨et,rfl⟩:=ct hc
   subst et
   subst e1;subst e2
   obtain⟨hu,fp,h1,h2⟩:=hr
   refine⟨hu,fp,h1,fun b hb ho=>h2 b hb ?_⟩
   obtain⟨n,o,q1,q2⟩:=ho
   obtain⟨x,_,p1,_⟩:=hT n o q1
   exact⟨n,x,p1,q2⟩
  ·cases h
 ·rename_i n m
  split at h
  ·rename_i hb
   have hb:=Nat.eq_of_beq_eq_true hb
   subst hb
   obtain⟨⟨t,l,hl⟩,hu⟩:=hr
   have hno:=p9 hn n rfl
   cases hq:look dM n with
   |none=>exact absurd hq hno
   |some o=>
    obtain⟨x,v1,h1,h2⟩:=hT n o hq
    rw[hl]at h1
    simp only[oI]at h1
    subst h1
    obtain⟨t',l',rfl⟩:=(zM h2).1 t l rfl
    exact⟨⟨t',l',hq⟩,hu⟩
  ·cases h
 ·rename_i n o m q
  split at h
  ·rename_i hb
   simp only[Bool.and_eq_true]at hb
   have bz:=Nat.eq_of_beq_eq_true hb.1
   have bW:=Nat.eq_of_beq_eq_true hb.2
   subst bz;subst bW
   obtain⟨⟨c,hl⟩,hu⟩:=hr
   have hno:=p9 hn n rfl
   cases hq:look dM n with
   |none=>exact absurd hq hno
   |some z=>
    obtain⟨x,v1,h1,h2⟩:=hT n z hq
    rw[hl]at h1
    simp only[oI]at h1
    subst h1
    obtain⟨d,rfl⟩:=(zM h2).2 c rfl
    exact⟨⟨d,hq⟩,hu⟩
  ·cases h
 ·cases h
theorem qw{hp dM:Hp}(hT: ∀n o,look dM n=some o→ ∃x v1,look hp n=some x∧ko x o=some v1): ∀{xs ys:List V} {us:List Value} {vc:List Prop},bg (RA w hp env) xs us→o9 xs ys=some vc→(∀q,q∈vc→q)→(∀y,y∈ys→jh dM y=true)→bg (RA w dM env) ys us
 | [],ys,us,vc,hr,h,_,_=>by
   cases ys with
   |nil=>
    cases us with
    |nil=>trivial
    |cons _ _=>exact hr.elim
   |cons _ _=>simp[o9]at h
 |x::r,ys,us,vc,hr,h,hv,hn=>by
  cases us with
  |nil=>exact hr.elim
  |cons u us=>
   cases ys with
   |nil=>simp[o9]at h
   |cons y s=>
    simp only[o9]at h
    split at h
    ·rename_i v1 v2 h1 h2
     simp only[oI,cO]at h
     subst h
     exact⟨MB hT hr.1 h1 (fun q hq=>hv q (List.mem_append_left _ hq)) (hn y (by simp)),qw hT hr.2 h2 (fun q hq=>hv q (List.mem_append_right _ hq)) (fun z hz=>hn z (List.mem_cons_of_mem _ hz))⟩
    ·cases h
theorem Jx{hp dM:Hp}(hT: ∀n o,look dM n=some o→ ∃x v1,look hp n=some x∧ko x o=some v1){x y:S1}{u:Value}{vc:List Prop}(hr:eC w hp env x u)(h:CZ x y=some vc)(hv: ∀q,q∈vc→q)(hn:mV dM y=true):eC w dM env y u:=by
 cases x with
 |a v=>
  cases y with
  |a v'=>
   have:=qw hT (xs:= [v]) (us:= [u]) ⟨hr,trivial⟩ h hv (fun z hz=>by rw[List.mem_singleton.1 hz];exact hn)
   exact this.1
  |agg _=>simp[CZ]at h
 |agg l=>
  cases y with
  |a v'=>simp[CZ]at h
  |agg m=>
   obtain⟨cs,rfl,hl⟩:=hr
   exact⟨cs,rfl,qw hT hl h hv (fun z hz=>List.all_eq_true.1 hn z hz)⟩
theorem BH{hp dM:Hp}(hT: ∀n o,look dM n=some o→ ∃x v1,look hp n=some x∧ko x o=some v1): ∀{xs ys:List S1} {us:List Value} {vc:List Prop},bg (eC w hp env) xs us→vn xs ys=some vc→(∀q,q∈vc→q)→(∀y,y∈ys→mV dM y=true)→bg (eC w dM env) ys us
 | [],ys,us,vc,hr,h,_,_=>by
   cases ys with
   |nil=>
    cases us with
    |nil=>trivial
    |cons _ _=>exact hr.elim
   |cons _ _=>simp[vn]at h
 |x::r,ys,us,vc,hr,h,hv,hn=>by
  cases us with
  |nil=>exact hr.elim
  |cons u us=>
   cases ys with
   |nil=>simp[vn]at h
   |cons y s=>
    simp only[vn]at h
    split at h
    ·rename_i v1 v2 h1 h2
     simp only[oI,cO]at h
     subst h
     exact⟨Jx hT hr.1 h1 (fun q hq=>hv q (List.mem_append_left _ hq)) (hn y (by simp)),BH hT hr.2 h2 (fun q hq=>hv q (List.mem_append_right _ hq)) (fun z hz=>hn z (List.mem_cons_of_mem _ hz))⟩
    ·cases h
end
theorem TC{as:List S1}{us:List Value}{w:World}{env:Env}{fk:Hp}{n:Nat}(hA:A3 w)(hL: ∀b,Dx b→b∉s7 fk env)(hG:D0 ty w fk env)(ha:bg (eC w fk env) as us)(hn:as.length≤n):
  Inv ty ⟨w,s7 fk env,env⟩ ⟨n,enter 0 as,fk⟩ {tmps:=us.toArray++Array.replicate (n-us.toArray.size) undef,defers:= []} w:=by
 have hl:=ha.len
 refine⟨by simp;omega,rfl,Kept.refl _ _,⟨hA,hL⟩,env,⟨hG.1,hG.2,fun s v hv=> ?_,fun n o h b hb=>Or.inl (List.mem_flatMap.2 ⟨_,dg h,hb⟩),fun n _=>⟨rfl,fun b hb=>hb⟩⟩⟩
 obtain⟨x,rfl,_,hx⟩:=mX hv
 rw[Nat.sub_zero]at hx
 obtain⟨u,hu,hr⟩:=ha.at hx
 have hs:s<us.length:=(List.getElem?_eq_some_iff.1 hu).1
 have:(us.toArray++Array.replicate (n-us.toArray.size) undef).getD s undef=u:=by
  rw[Array.getD_eq_getD_getElem?,Array.getElem?_append_left (by simpa using hs)]
  simp[hu]
 show eC w fk env x _
 rw[this]
 exact hr
theorem fH{P:Program}{Γ:Nat→TK}(X:Ctx P ty Γ){f:FuncId}{fn:Func}{c:Code}{nM:List ResultVar}{n:Nat}{fk dM:Hp}{as rs:List S1}
  (yU: ∀(args:Array Value) (w:World),(callFunc f args).run P w= .ok (.enter f args) w)(hf:P.funcs[f]? =some fn)(hb:fn.body=some c)(hr:fn.results=nM.toArray)(hl:nM.length≤4)(hn:fn.ntmps=n)(hlen:as.length≤n)(hT:Zp dM rs=true)
  (h: ∀zb,W P ty zb c (TB Γ nM dM rs) ⟨n,enter 0 as,fk⟩):iz ty P f fk as dM rs:=by
 refine⟨yU,fun w env us hA hL hG ha=>calls_of_wp hf hb ?_⟩
 rw[hn]
 refine wp_mono (h _ _ w (TC hA hL hG ha hlen)) ?_
 simp only[Zp,Bool.and_eq_true,List.all_eq_true]at hT
 obtain⟨⟨t1,t2⟩,t3⟩:=hT
 rintro e a w' ⟨st,iv,he,vc,fB,hv⟩
 have key:a.defers= []∧ ∃v,(results fn a.tmps).run P w'= .ok v w'∧ ∃env' u,Ending.returned v= .returned u∧Kept ⟨w,s7 fk env,env⟩ w w'∧D0 ty w' dM env'∧
   (∀n o,look dM n=some o→ ∀b,b∈(env' n).fp→b∈s7 fk env∨w.heap.size≤b)∧(∀n,fu n=true→(env' n).v=(env n).v∧ ∀b,b∈(env' n).fp→b∈(env n).fp)∧Vg w' dM env' rs u:=by
  obtain⟨env',g⟩:=iv.good
  unfold HT at fB
  split at fB
  ·rename_i xs hx
   split at fB
   ·rename_i v1 v2 hm1 hm2
    simp only[oI,cO]at fB
    subst fB
    have uC: ∀q,q∈v1→q:=fun q hq=>hv.out q (List.mem_append_left _ hq)
    have IP: ∀q,q∈v2→q:=fun q hq=>hv.out q (List.mem_append_right _ hq)
    obtain⟨vs,h1,h2,h3⟩:=yT X.kind g hr hx hl
    have hmem:=zN hm2 IP
    have hT: ∀n o,look dM n=some o→ ∃x v1,look st.hp n=some x∧ko x o=some v1:=fun n o hl=>by
     obtain⟨x,v1,p1,p2,_⟩:=hmem n o (dg hl)
     exact⟨x,v1,p1,p2⟩
    have hres:=BH hT h1 hm1 uC t1
    refine⟨iv.defers,_,h3,env',_,rfl,iv.kept,⟨fun n o hl=> ?_,fun n m o o' hne hl1 lH=> ?_⟩,fun n o hl b hb=> ?_,fun n hp=>g.pins n hp,?_⟩
    ·obtain⟨x,v1,p1,p2,p3⟩:=hmem n o (dg hl)
     have hro:=g.obj n x p1
     cases x with
     |arr t l=>
      cases o with
      |box d=>simp[ko]at p2
      |dY t' l' s'=>simp[ko]at p2
      |arr t' l'=>
       simp only[ko]at p2
       split at p2
       ·rename_i l2 hc
        simp only[oI]at p2
        subst p2
        have e2:=p3 _ (List.mem_singleton.2 rfl)
        subst e2
        obtain⟨e,rfl⟩:=ct hc
        subst e
        exact Hq (fun h=>h) hro
       ·cases p2
     |dY t l s=>cases o<;>simp[ko]at p2
     |box c=>
      cases o with
      |arr t' l'=>simp[ko]at p2
      |dY t' l' s'=>simp[ko]at p2
      |box d=>
       obtain⟨b,cs,e,q1,q2,q3⟩:=hro
       exact⟨b,cs,e,q1,q2,qw hT q3 p2 p3 (fun y hy=>List.all_eq_true.1 (t2 _ (dg hl)) y hy)⟩
    ·obtain⟨x,_,p1,_⟩:=hT n o hl1
     obtain⟨y,_,p2,_⟩:=hT m o' lH
     exact g.fU n m x y hne p1 p2
    ·obtain⟨x,_,p1,_⟩:=hT n o hl
     exact g.dom n x p1 b hb
    ·match rs,vs,hres with
     | [r],[u],hres=>exact hres.1
     | [],[],hres=>exact⟨[],rfl,trivial⟩
     |r1::r2::r,u1::u2::u,hres=>exact⟨_,rfl,hres⟩
     | [],_::_,hres=>exact hres.elim
     |_::_,[],hres=>exact hres.elim
     | [_],_::_::_,hres=>exact hres.2.elim
     |_::_::_,[_],hres=>exact hres.2.elim
   ·cases fB
  ·cases fB
 rcases he with rfl|rfl<;>exact key
end
end Go.Proofs.YtcnomgcfijjkmaaGreat.G
