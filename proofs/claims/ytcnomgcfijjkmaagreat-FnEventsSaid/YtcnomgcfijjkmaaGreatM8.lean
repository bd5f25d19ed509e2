/-
  Contracts of functions that are lent memory: from the walk through their bodies.
-/
import Derived.Test.YtcnomgcfijjkmaaGreatM7
namespace Go.Proofs.YtcnomgcfijjkmaaGreat.G
set_option linter.all false
open Go.RowKit L D
section
variable{ty:Tag→Nat}
def ab5(hp:Hp)(n m:Nat)(t:Tag)(l:List (T t))(r:vE:= .nJ):Hp:=(m, .gq t l r)::cF [n] [] hp
def apx:S1→Option ((t:Tag)×List (T t)×vE)
 | .a (.sl t l)=>some ⟨t,l, .nJ⟩
 | .a (.Ca q t l)=>some ⟨t,l, .of q⟩
 |_=>none
def RY:vE→vE→Nat→Bool
 | .nJ, .nJ,_=>true
 | .of q, .of q',n=>match Nat.beq q q',Nat.beq q n with|true,false=>true|_,_=>false
 |_,_,_=>false
theorem RZ{r r':vE}{n:Nat}(h:RY r r' n=true):r=r'∧r.bQ [n] []=r∧r.br:=by
 cases r with
 |gone=>cases r'<;>cases h
 |mp=>cases r'<;>cases h
 |FG u=>cases r'<;>cases h
 |nJ=>cases r' with
  |nJ=>exact⟨rfl,rfl,trivial⟩
  |_=>cases h
 |of q=>cases r' with
  |of q'=>
   simp only[RY]at h
   split at h
   ·rename_i h1 h2
    refine⟨by rw[Nat.eq_of_beq_eq_true h1],?_,trivial⟩
    simp[vE.bQ,h2]
   ·cases h
  |_=>cases h
def L1(P:Program)(ty:Tag→Nat)(Γ:Nat→TK)(st:St)(m0:Nat):Op→Option (List Prop×St×SV)
 | .call ⟨.builtin .append,xs,ts⟩=>match xs.toList,ts.toList with
   | [s,x],[t1,t2]=>match Γ t1,Nat.beq t1 t2 with
     | .sl t e,true=>match Nat.beq e (ty t),Nat.beq (kk t) 1,gr st [] s,(gr st [] x).bind apx with
       |true,true,some (.a (.we n)),some ⟨t2',lx,r⟩=>match look st.hp n,gL t t2' lx with
        |some (.gq t' l r'),some lx=>match gL t t' l,pinned [n],iA m0,look (cF [n] [] st.hp) m0,RY r r' n with
         |some l,false,false,none,true=>some ([El P ty t,(l.length+lx.length)*dO t≤140737488355328∧l.length+lx.length≤maxLen],
           ⟨st.n,st.sl.map fun e=>(e.1,e.2.bQ [n] []),ab5 st.hp n m0 t (l++lx) r⟩, .one (.a (.we m0)))
         |_,_,_,_,_=>none
        |_,_=>none
       |_,_,_,_=>none
     |_,_=>none
   |_,_=>none
 |_=>none
section
variable{P:Program}{zb:cK}{st st':St}{a:Act}{w:World}{env:Env}{Q:Exit→Act→World→Prop}{o:Oper}
theorem BR{α β:Type}(l:List α):(l.map fun _=>([]:List β)).flatten= []:=by
 induction l with
 |nil=>rfl
 |cons _ _ ih=>simpa using ih
theorem Wb{Γ:Nat→TK}(C: ∀t,c8 P t (Γ t)){m0:Nat}{vc:List Prop}{v:SV}(h:L1 P ty Γ st m0 o.op=some (vc,st',v))(g:Good ty zb st a.tmps w env)(hB:zb.w.heap.size≤w.heap.size)(hv: ∀q,q∈vc→q):
  o.wp P a w (fun a' w'=> ∃u env',a'=a.put o.dst u∧Kept zb w w'∧Good ty zb st' a.tmps w' env'∧st'.n=st.n∧oR w' st'.hp env' a.tmps v u) Q:=by
 have hop: ∀{x v},gr st [] x=some v→fG w st.hp env v (a.eval x):=fun hx=>eI g (fun e he=>by simp at he) hx
 generalize e9:o.op=op at h
 cases op with
 |call c=>
  obtain⟨callee,xs,ts⟩:=c
  cases callee with
  |builtin b=>
   cases b with
   |append=>
    simp only[L1]at h
    split at h
    case h_2=>cases h
    rename_i s x t1 t2 hxl htl
    obtain rfl:xs= #[s,x]:=by cases xs;simp_all
    obtain rfl:ts= #[t1,t2]:=by cases ts;simp_all
    split at h
    case h_2=>cases h
    rename_i t e hk DZ
    have DZ:=Nat.eq_of_beq_eq_true DZ
    subst DZ
    split at h
    case h_2=>cases h
    rename_i n t2' Vl r he hk1 hs hx
    have he:=Nat.eq_of_beq_eq_true he
    have hk1:=Nat.eq_of_beq_eq_true hk1
    split at h
    case h_2=>cases h
    rename_i t' l0 r' lx hl hcx
    split at h
    case h_2=>cases h
    rename_i l yx hpk FO hlk hbk
    obtain⟨rfl,hkr,hmp⟩:=RZ hbk
    obtain⟨sx,hox,hx⟩:=Option.bind_eq_some_iff.1 hx
    simp only[oI,pI]at h
    obtain⟨rfl,rfl,rfl⟩:=h
    obtain⟨e1,rfl⟩:=dH hcx
    subst e1
    obtain⟨e2,rfl⟩:=dH yx
    subst e2
    have rA:El P ty t':=hv _ (by simp)
    obtain⟨aW,bz⟩:(l0.length+Vl.length)*dO t'≤140737488355328∧l0.length+Vl.length≤maxLen:=hv _ (by simp)
    obtain⟨_,hu⟩:=hop hs
    obtain⟨fpx,hsx,hnx⟩: ∃fp,Sl (kk t') (rd t') w (a.eval x) Vl fp∧ ∀(t:Tag) (y:T t) (u:Value) (f:List Nat),(∀b,b∈f→b∈fp)→rd t w [u] y f→BE w st.hp env r t y u:=by
     have hr:=hop hox
     unfold apx at hx
     split at hx
     ·simp only[oI,Sigma.mk.injEq]at hx
      obtain⟨rfl,hx⟩:=hx
      obtain⟨rfl,rfl⟩:=Prod.mk.inj (eq_of_heq hx)
      obtain⟨fp,h1,h2⟩:=hr
      exact⟨fp,h1,fun t y u f hf hr=>⟨f,hr,fun b hb=>h2 b (hf b hb)⟩⟩
     ·simp only[oI,Sigma.mk.injEq]at hx
      obtain⟨rfl,hx⟩:=hx
      obtain⟨rfl,rfl⟩:=Prod.mk.inj (eq_of_heq hx)
      obtain⟨h0,b0,fp,h1,h2,_,h3⟩:=hr
      refine⟨_,h1,fun t y u f hf hr=>⟨h0,f,hr,fun b hb=> ?_⟩⟩
      rcases List.mem_cons.1 (hf b hb)with rfl|h
      ·exact Or.inr h2
      ·exact Or.inl (h3 b h)
     ·cases hx
    obtain⟨_,us,hBl,LN,NH⟩:Re ty w st.hp env t' l0 r (env n):=by
     rcases RO.DF (g.obj n _ hl)with⟨rfl,_⟩| ⟨u,rfl,_⟩| ⟨_,h⟩
     ·exact hmp.elim
     ·exact hmp.elim
     ·exact h
    obtain⟨news,fx,n1,n2,n3,n4,n5⟩:=yN (eA t') (fY t') hsx
    rw[hk1]at n3 n4
    have hC:=C t1
    rw[hk]at hC
    have hone: ∀(i:Nat) (y:Value),news[i]? =some y→y.oneCell'=true∧ ∀x,Vl[i]? =some x→BE w st.hp env r t' x y:=by
     intro i y hy
     have hi:i<news.length:=(List.getElem?_eq_some_iff.1 hy).1
     have hx':Vl[i]? =some (Vl[i]'(by omega)):=List.getElem?_eq_getElem (by omega)
     have hf':fx[i]? =some (fx[i]'(by omega)):=List.getElem?_eq_getElem (by omega)
     have hr:=n4 i _ _ hx' hf'
     have hch:(news.drop (i*1)).take 1= [y]:=by
      rw[Nat.mul_one,List.drop_eq_getElem_cons hi]
      have:news[i]=y:=(List.getElem?_eq_some_iff.1 hy).2
      rw[this];rfl
     rw[hch]at hr
     refine⟨(eA t').one hr y (by simp),fun x hx=> ?_⟩
     rw[hx']at hx
     simp only[oI]at hx
     subst hx
     exact hnx _ _ _ _ (fun b hb=>n5.subset (List.mem_flatten.2 ⟨_,List.getElem_mem _,hb⟩)) hr
    have hB0:jm 1 Rd 0 (ty t') w (a.eval s) us (env n).fp:=by rw[hu];exact hBl
    have QL:(P.info? (ty t')).map (fun i=>(i.zero,i.size,i.bytes))=some (some (eZ t'),1,dO t'):=by rw[←hk1];exact rA
    refine CE s x t1 e9 yH (by decide) 0 (ty t') (eZ t') (dO t') (by rw[←he];exact hC.1) QL (by rw[←hk1];exact lK t') _ us (env n).fp rfl hB0 _ rfl news news (news.map fun _=> [])
     (by rw[show news.length=Vl.length by omega];exact n1) (by simp) (by omega) (fun i y f hy hf=> ?_) (by rw[BR,List.append_nil];exact hBl.own) (by rw[LN,show news.length=Vl.length by omega];exact bz) (by rw[LN,show news.length=Vl.length by omega];exact aW) (Nat.zero_le _) ?_
    ·have hi:i<news.length:=(List.getElem?_eq_some_iff.1 hy).1
     have hf0:f= []:=by
      rw[List.getElem?_map,hy]at hf
      simpa using hf.symm
     subst hf0
     refine⟨?_,rfl,(hone i y hy).1⟩
     rw[Nat.mul_one,List.drop_eq_getElem_cons hi]
     have:news[i]=y:=(List.getElem?_eq_some_iff.1 hy).2
     rw[this];rfl
    ·intro v' w' fI k1 k2 k3 k4 k5 _
     have CQ: ∀b,(a.eval s).ownBlock=some b→b∈(env n).fp:=by
      intro b hb
      obtain⟨xs,bA,_,_,_,gC,_⟩:=hB0
      rw[gC,hb];simp
     obtain⟨env',hg',Gp,_,_⟩:=Az (ty:=ty) g hB (ks:= [n]) hpk FO hlk (v:=a.eval s) (v':=v') (ob:= .gq t' (l0++Vl) r) (fp:=(env n).fp) (fx:= []) (fI:=fI)
      (by
       intro b hb
       rw[List.append_nil]at hb
       exact⟨n,_,by simp,hl,hb⟩)
      CQ
      (by
       intro aeX hd s2
       refine RO.Po hmp ⟨hk1,us++news,k1,by rw[List.length_append,List.length_append,LN];omega,fun i x u hx Qy=> ?_⟩
       by_cases hi:i<l0.length
       ·rw[List.getElem?_append_left hi]at hx
        rw[List.getElem?_append_left (by omega)]at Qy
        have Wc:=BE.iU s2 (r:=r) (NH i x u hx Qy);rw[hkr]at Wc;exact Wc
       ·rw[List.getElem?_append_right (by omega)]at hx
        rw[List.getElem?_append_right (by omega),LN]at Qy
        have Wc:=BE.iU s2 (r:=r) ((hone _ u Qy).2 x hx);rw[hkr]at Wc;exact Wc)
      k2 (by intro b hb;rcases k4 b hb with h|h|h
             ·exact Or.inl h
             ·rw[BR]at h;cases h
             ·exact Or.inr (Or.inr h))
     refine⟨v',env',rfl,⟨k2.os,k2.tape,k2.output,k2.size,fun b hb hn=>k2.block b (by omega) fun e=> ?_,k5⟩,hg',rfl,⟨t',_,_,look_eq⟩,Gp.symm⟩
     rcases g.dom n _ hl b (CQ b e.symm)with h|h
     ·exact hn h
     ·omega
   |_=>simp[L1]at h
  |_=>simp[L1]at h
 |_=>simp[L1]at h
end
def XW:Hp→Option (Nat×(t:Tag)×List (T t)×Value)
 | []=>none
 | (n, .gq t l (.FG u))::_=>some (n,⟨t,l,u⟩)
 |_::r=>XW r
def R1(hp:Hp)(n:Nat)(t:Tag):Option (List (T t)×Value):=match look hp n with
 |some (.gq t' l (.FG u))=>match gL t t' l with|some l=>some (l,u)|none=>none
 |_=>none
def aeY(hp:Hp):Option Nat:=match XW hp with|some (n,_)=>some n|none=>none
def Wd(P:Program)(ty:Tag→Nat)(Γ:Nat→TK)(st:St)(m0:Nat):Op→Option (List Prop×St×SV)
 | .call ⟨.builtin .append,xs,ts⟩=>match xs.toList,ts.toList with
   | [s,x],[t1,t2]=>match Γ t1,Nat.beq t1 t2 with
     | .sl t e,true=>match Nat.beq e (ty t),gr st [] s,gr st [] x,aeY st.hp with
       |true,some vs,some (.a (.raw u)),some n=>match DW st t vs,R1 st.hp n t with
        |some (l,k),some (lx,u')=>match DX k [n]&& !pinned (lz k [n])&& !iA m0,look (cF (lz k [n]) [] st.hp) m0 with
         |true,none=>some ([u=u',El P ty t,(l.length+lx.length)*dO t≤140737488355328∧l.length+lx.length≤maxLen],
           st.gone (lz k [n]) m0 t (l++lx), .one (.a (.own m0)))
         |_,_=>none
        |_,_=>none
       |_,_,_,_=>none
     |_,_=>none
   |_,_=>none
 |_=>none
theorem R2{zb:cK}{st:St}{tmps:Array Value}{w:World}{env:Env}(g:Good ty zb st tmps w env){t:Tag}{n:Nat}{l:List (T t)}{u:Value}(h:R1 st.hp n t=some (l,u)):
  ∃(news:List Value) (fx:List (List Nat)),Src w u l.length news∧fx.length=l.length∧news.length=l.length*kk t∧(∀i x f,l[i]? =some x→fx[i]? =some f→rd t w ((news.drop (i*kk t)).take (kk t)) x f)∧
   (∀b,b∈fx.flatten→ ∃i o,i∈ [n]∧look st.hp i=some o∧b∈(env i).fp)∧Own 0 w fx.flatten:=by
 unfold R1 at h
 split at h
 case h_2=>cases h
 rename_i t' l' u' hl
 split at h
 case h_2=>cases h
 rename_i l2 hc
 simp only[oI,pI]at h
 obtain⟨rfl,rfl⟩:=h
 obtain⟨e,rfl⟩:=dH hc
 subst e
 obtain⟨_,ho,fp,hs,h2⟩:Hz w st.hp env t' l' u' (env n):=by
  rcases RO.DF (g.obj n _ hl)with⟨h,_⟩| ⟨u,h,hh⟩| ⟨h,_⟩
  ·cases h
  ·cases h;exact hh
  ·exact h.elim
 obtain⟨news,fx,h1,h3,h4,h5,h6,h7⟩:=uk (eA t') (fY t') hs
 have Hl:fx.flatten=(env n).fp:=by
  rcases h2 with⟨rfl,h2⟩| ⟨b,rfl,_⟩
  ·rw[h2];exact List.sublist_nil.1 h6
  ·exact h7 b _ rfl
 exact⟨news,fx,h1,h3,h4,h5,fun b hb=>⟨n,_,by simp,hl,by rw[←Hl];exact hb⟩,by rw[Hl];exact ho⟩
section
variable{P:Program}{zb:cK}{st:St}{a:Act}{w:World}{env:Env}{Q:Exit→Act→World→Prop}{o:Oper}
theorem We{Γ:Nat→TK}(C: ∀t,c8 P t (Γ t)){m0:Nat}{vc:List Prop}{st':St}{v:SV}(h:Wd P ty Γ st m0 o.op=some (vc,st',v))(g:Good ty zb st a.tmps w env)(hB:zb.w.heap.size≤w.heap.size)(hv: ∀q,q∈vc→q):
  o.wp P a w (fun a' w'=> ∃u env',a'=a.put o.dst u∧Kept zb w w'∧Good ty zb st' a.tmps w' env'∧st'.n=st.n∧oR w' st'.hp env' a.tmps v u) Q:=by
 have hop: ∀{x v},gr st [] x=some v→fG w st.hp env v (a.eval x):=fun hx=>eI g (fun e he=>by simp at he) hx
 generalize e9:o.op=op at h
 unfold Wd at h
 split at h
 case h_2=>cases h
 rename_i xs ts
 split at h
 case h_2=>cases h
 rename_i s x t1 t2 hxl htl
 obtain rfl:xs= #[s,x]:=by cases xs;simp_all
 obtain rfl:ts= #[t1,t2]:=by cases ts;simp_all
 split at h
 case h_2=>cases h
 rename_i t e hk DZ
 have DZ:=Nat.eq_of_beq_eq_true DZ
 subst DZ
 split at h
 case h_2=>cases h
 rename_i vs ux n he hs hx hbn
 have he:=Nat.eq_of_beq_eq_true he
 split at h
 case h_2=>cases h
 rename_i l k lx u' hds hsr
 split at h
 case h_2=>cases h
 rename_i hno hlk
 simp only[Bool.and_eq_true,Bool.not_eq_true']at hno
 obtain⟨⟨hno,hpk⟩,FO⟩:=hno
 rw[dM]at hpk
 have Zb:pinned k=false:=by
  unfold pinned at hpk ⊢
  rw[List.any_append,Bool.or_eq_false_iff]at hpk
  exact hpk.1
 simp only[oI,pI,dM]at h
 rw[dM]at hlk
 obtain⟨rfl,h2,rfl⟩:=h
 rw[St.gone_eq]at h2
 subst h2
 have huu:ux=u':=hv _ (by simp)
 subst huu
 have rA:El P ty t:=hv _ (by simp)
 obtain⟨aW,bz⟩:(l.length+lx.length)*dO t≤140737488355328∧l.length+lx.length≤maxLen:=hv _ (by simp)
 obtain⟨fp,hD,lD⟩:=AB g (hop hs) hds Zb
 obtain⟨news,fx,n1,n2,n3,n4,n5,n6⟩:=R2 g hsr
 obtain⟨hue,_⟩:=hop hx
 rw[←hue]at n1
 have hC:=C t1
 rw[hk]at hC
 have O7:Own 0 w (fp++fx.flatten):=by
  have ho:=hD.own
  refine⟨List.nodup_append.2 ⟨ho.nodup,n6.nodup,?_⟩,fun b hb=> ?_,fun b hb=> ?_⟩
  ·rintro b hb c hc rfl
   obtain⟨i,oi,hi,h1,h2⟩:=lD b hb
   obtain⟨j,oj,hj,h3,h4⟩:=n5 b hc
   have hij:i≠j:=by
    rintro rfl
    simp only[DX,List.all_eq_true,Bool.not_eq_true',List.any_eq_false]at hno
    exact hno i hi i hj (by simp)
   exact g.iB i j _ _ hij h1 h3 b h2 h4
  ·rcases List.mem_append.1 hb with hb|hb
   ·exact ho.ge b hb
   ·exact n6.ge b hb
  ·rcases List.mem_append.1 hb with hb|hb
   ·exact ho.kind b hb
   ·exact n6.kind b hb
 refine CE s x t1 e9 (eA t) (fY t) 0 (ty t) (eZ t) (dO t) (by rw[←he];exact hC.1) rA (lK t) _ l fp rfl hD _ rfl lx news fx n1 n2 n3 n4 O7 bz aW (Nat.zero_le _) ?_
 intro v' w' fI k1 k2 k3 k4 k5 _
 obtain⟨env',hg',Gp⟩:=yO (ty:=ty) g hB (ks:=k++ [n]) hpk FO hlk (v:=a.eval s) (fp:=fp) (fx:=fx.flatten)
  (by
   intro b hb
   rcases List.mem_append.1 hb with hb|hb
   ·obtain⟨i,oi,hi,h1⟩:=lD b hb;exact⟨i,oi,List.mem_append_left _ hi,h1⟩
   ·obtain⟨i,oi,hi,h1⟩:=n5 b hb;exact⟨i,oi,List.mem_append_right _ hi,h1⟩)
  (by
   intro b hb
   obtain⟨xs,bA,_,_,_,gC,_⟩:=hD
   rw[gC,hb];simp)
  k1 k2 k4
 refine⟨v',env',rfl,⟨k2.os,k2.tape,k2.output,k2.size,fun b hb hn=>k2.block b (by omega) fun e=> ?_,k5⟩,hg',rfl,⟨t,_,look_eq⟩,Gp.symm⟩
 have LS:b∈fp:=by
  obtain⟨xs,bA,_,_,_,gC,_⟩:=hD
  rw[gC, ←e];simp
 obtain⟨i,oi,hi,h1,h2⟩:=lD b LS
 rcases g.dom i oi h1 b h2 with h|h
 ·exact hn h
 ·omega
end
theorem R3{t:Tag}{w:World}{e:Nat}{v:Value}{l:List (T t)}{fp:List Nat}(h:jm (kk t) (rd t) 0 e w v l fp){j:Nat}(hj:j≤l.length):
  ∃oa cap,v= .slice oa l.length cap∧l.length≤cap∧ ∃fI,jm (kk t) (rd t) 0 e w (CK oa cap (kk t) j l.length) (l.drop j) fI∧ ∀b,b∈fI→b∈fp:=by
 have ho:=h.own
 obtain⟨oa,cap,hv,hc,hm,h3⟩:=h.sl
 refine⟨oa,cap,hv,hc,?_⟩
 rcases h.parts with⟨rfl,rfl,rfl⟩| ⟨g,o,n,c,aeG,Pu,hn,hnm,q1,q2,ab8⟩
 ·simp only[Value.slice.injEq]at hv
  obtain⟨rfl,_,rfl⟩:=hv
  obtain rfl:j=0:=by simpa using hj
  exact⟨[],jm.nil _ _ _ _ _,by simp⟩
 ·rw[Pu]at hv
  simp only[Value.slice.injEq,true_and]at hv
  obtain⟨rfl,rfl⟩:=hv
  have hnil:n=j→ ∃fI,jm (kk t) (rd t) 0 e w (CK (some ⟨g,o,none⟩) n (kk t) j l.length) (l.drop j) fI∧ ∀b,b∈fI→b∈fp:=by
   rintro rfl
   have e0:l.drop n= []:=List.drop_eq_nil_of_le hn
   have e1:l.length=n:=by omega
   refine⟨[g],?_,fun b hb=>by rw[ab8];rw[List.mem_singleton.1 hb];simp⟩
   rw[e0]
   have:CK (some ⟨g,o,none⟩) n (kk t) n l.length= .slice (some ⟨g,o,none⟩) ([]:List (T t)).length 0:=by
    unfold CK;rw[if_pos rfl,e1,Nat.sub_self];rfl
   rw[this]
   refine lN (eA t) (bA:= []) q1 (by omega) (Nat.zero_le _) (Nat.zero_le _) ⟨rfl,by simp⟩ ⟨by simp,by simp,fun b hb=> ?_⟩
   simp only[List.flatten_nil,List.mem_singleton]at hb
   exact⟨_,_,by rw[hb];exact q1⟩
  by_cases XN:n=j
  ·exact hnil XN
  ·rcases h3 with⟨rfl,_,_⟩| ⟨b,off,bA,hb,aeC,gC,hE⟩
   ·refine⟨[g],?_,fun b hb=>by rw[ab8];rw[List.mem_singleton.1 hb];simp⟩
    obtain rfl:j=0:=by simpa using hj
    have:CK (some ⟨g,o,none⟩) n (kk t) 0 ([]:List (T t)).length= .slice (some ⟨g,o,none⟩) ([]:List (T t)).length n:=by
     unfold CK;rw[if_neg XN];simp[Addr.add_mid]
    rw[this]
    refine lN (eA t) (bA:= []) q1 q2 (Nat.zero_le _) hm ⟨rfl,by simp⟩ ⟨by simp,by simp,fun b hb=> ?_⟩
    simp only[List.flatten_nil,List.mem_singleton]at hb
    exact⟨_,_,by rw[hb];exact q1⟩
   ·simp only[oI,Addr.mk.injEq,and_true]at hb
    obtain⟨rfl,rfl⟩:=hb
    have hsub: ∀b,b∈g::(bA.drop j).flatten→b∈fp:=by
     intro b hb
     rw[gC]
     rcases List.mem_cons.1 hb with rfl|hb
     ·simp
     ·exact List.mem_cons_of_mem _ ((oZ (List.drop_sublist j bA)).subset hb)
    have mo:l.length-j=(l.drop j).length:=by simp
    refine⟨g::(bA.drop j).flatten,?_,hsub⟩
    have:CK (some ⟨g,o,none⟩) n (kk t) j l.length= .slice (some ⟨g,o+j*kk t,none⟩) (l.drop j).length (n-j):=by
     unfold CK;rw[if_neg XN,mo];simp[Addr.add_mid]
    rw[this]
    refine lN (eA t) q1 ?_ (by rw[←mo];omega) (by omega) ⟨by simp[hE.1],fun i x f hx hf=> ?_⟩ ?_
    ·have h5:j*kk t≤n*kk t:=Nat.mul_le_mul_right _ (by omega)
     rw[Nat.sub_mul];omega
    ·rw[List.getElem?_drop]at hx hf
     obtain⟨cs,k1,k2⟩:=hE.2 _ x f hx hf
     exact⟨cs,by rw[Nat.add_assoc, ←Nat.add_mul];exact k1,k2⟩
    ·rw[gC]at ho
     have hss:(g::(bA.drop j).flatten).Sublist (g::bA.flatten):=List.Sublist.cons_cons _ (oZ (List.drop_sublist j bA))
     exact⟨hss.nodup ho.nodup,fun b hb=>ho.ge b (hss.subset hb),fun b hb=>ho.kind b (hss.subset hb)⟩
def Wf(Γ:Nat→TK)(cr:List (Nat×CR))(st:St)(m0:Nat)(d:Option Nat):Op→Option (List Prop×St×SV)
 | .slice t x (some lo) none none=>match d,Γ t with
   |some dd, .sl g _=>match(look cr (dd+600000)).isSome,gr st [] x,Pm st [] lo with
    |true,some (.a (.own n)),some (_,lo)=>match look st.hp n with
     |some (.arr t' l)=>match Nat.beq (kk g) (kk t'),pinned [n],iA m0,look (cF [n] [] st.hp) m0 with
      |true,false,false,none=>some ([0≤lo∧lo≤(l.length:Int)],st.gone [n] m0 t' (l.drop lo.toNat), .one (.a (.own m0)))
      |_,_,_,_=>none
     |_=>none
    |_,_,_=>none
   |_,_=>none
 |_=>none
section
variable{P:Program}{zb:cK}{st:St}{a:Act}{w:World}{env:Env}{Q:Exit→Act→World→Prop}{o:Oper}
theorem Wg{Γ:Nat→TK}(C: ∀t,c8 P t (Γ t)){cr:List (Nat×CR)}{m0:Nat}{d:Option Nat}{vc:List Prop}{st':St}{v:SV}(h:Wf Γ cr st m0 d o.op=some (vc,st',v))(g:Good ty zb st a.tmps w env)(hB:zb.w.heap.size≤w.heap.size)(hv: ∀q,q∈vc→q):
  o.wp P a w (fun a' w'=> ∃u env',a'=a.put o.dst u∧Kept zb w w'∧Good ty zb st' a.tmps w' env'∧st'.n=st.n∧oR w' st'.hp env' a.tmps v u) Q:=by
 have hop: ∀{x v},gr st [] x=some v→fG w st.hp env v (a.eval x):=fun hx=>eI g (fun e he=>by simp at he) hx
 generalize e9:o.op=op at h
 unfold Wf at h
 split at h
 case h_2=>cases h
 rename_i t x lo
 split at h
 case h_2=>cases h
 rename_i dd gt e hk
 split at h
 case h_2=>cases h
 rename_i n kk0 j hkey hx hlo
 split at h
 case h_2=>cases h
 rename_i t' l hl
 split at h
 case h_2=>cases h
 rename_i hkk hpk FO hlk
 have hkk:=Nat.eq_of_beq_eq_true hkk
 simp only[oI,pI]at h
 obtain⟨rfl,h2,rfl⟩:=h
 rw[St.gone_eq]at h2
 subst h2
 obtain⟨q0,q1⟩:=hv _ (List.mem_singleton.2 rfl)
 have hC:=C t
 rw[hk]at hC
 obtain⟨_,hu⟩:=hop hx
 have hBl:=RO.VL (nO hpk (by simp)) (g.obj n _ hl)
 obtain⟨oa,cap,FN,hcap,fI,Za,hsub⟩:=R3 hBl (j:=j.toNat) (by omega)
 have hex:a.eval x= .slice oa l.length cap:=by rw[←FN];exact hu
 have aeZ:a.eval lo= .int kk0 j:=by
  unfold Pm at hlo
  split at hlo
  ·rename_i k i hq
   simp only[oI,pI]at hlo
   obtain⟨rfl,rfl⟩:=hlo
   exact(hop hq).lit
  ·cases hlo
 have hrun:=Ny (P:=P) (w:=w) e9 hC hex (n1:=j) (n2:=(l.length:Int)) (Or.inr ⟨lo,kk0,rfl,aeZ⟩) (Or.inl ⟨rfl,rfl⟩) q0 q1 (Int.le_refl _) hcap
 have CQ: ∀b,(env n).v.ownBlock=some b→b∈(env n).fp:=by
  intro b hb
  obtain⟨xs,bA,_,_,_,gC,_⟩:=hBl
  rw[gC,hb];simp
 obtain⟨env',hg',Gp,_,_⟩:=AA (ty:=ty) g hB (ks:= [n]) hpk FO hlk (v:=(env n).v) (w':=w) (fp:=(env n).fp) (fx:= [])
  (by
   intro b hb
   rw[List.append_nil]at hb
   exact⟨n,_,by simp,hl,hb⟩) CQ Za ⟨rfl,rfl,rfl,Nat.le_refl _,fun _ _ _=>rfl⟩ (fun b hb=>Or.inl (hsub b hb))
 unfold Oper.wp
 rw[hrun]
 refine⟨_,env',rfl,Kept.refl _ _,hg',rfl,⟨t',_,look_eq⟩,?_⟩
 rw[Gp,hkk]
 rfl
end
end
section
variable{ty:Tag→Nat}
def fV:V→Option V
 | .any=>some .any
 | .lit (.int k n)=>some (.lit (.int k n))
 | .lit (.bool b)=>some (.lit (.bool b))
 | .lit (.string s)=>some (.lit (.string s))
 | .lit v=>some (.lit v)
 | .sl t l=>some (.sl t l)
 | .own n=>some (.own n)
 | .ptr n o=>some (.ptr n o)
 | .mL n i o=>some (.mL n i o)
 | .ip t x o=>some (.ip t x o)
 | .vw n p t l=>some (.vw n p t l)
 | .B9 n p t x o=>some (.B9 n p t x o)
 | .Ca n t l=>some (.Ca n t l)
 | .mix n c t l=>some (.mix n c t l)
 | .we n=>some (.we n)
 | .As f n=>some (.As f n)
 | .rF k=>some (.rF k)
 | .raw v=>some (.raw v)
 | .eX v t l=>some (.eX v t l)
theorem XX(v:V):fV v=some v:=by
 unfold fV;split<;>rfl
def fVs:List V→Option (List V)
 | []=>some []
 |v::r=>match fV v,fVs r with
  |some x,some y=>some (x::y)
  |_,_=>none
theorem L2: ∀l:List V,fVs l=some l
 | []=>rfl
 |v::r=>by simp[fVs,XX,L2 r]
def fS:SV→Option SV
 | .one (.a v)=>match fV v with|some v=>some (.one (.a v))|none=>none
 | .one (.agg l)=>match fVs l with|some l=>some (.one (.agg l))|none=>none
 | .tZ l=>some (.tZ l)
 | .cond p (.a v)=>match fV v with|some v=>some (.cond p (.a v))|none=>none
 | .cond p (.agg l)=>match fVs l with|some l=>some (.cond p (.agg l))|none=>none
theorem R4{x y:SV}(h:fS x=some y):y=x:=by
 unfold fS at h
 split at h<;>simp_all [XX,L2]
def fO:Obj→Option Obj
 | .box c=>match fVs c with|some c=>some (.box c)|none=>none
 | .arr t l=>some (.arr t l)
 | .gq t l .gone=>some (.gq t l .gone)
 | .gq t l .nJ=>some (.gq t l .nJ)
 | .gq t l .mp=>some (.gq t l .mp)
 | .gq t l (.FG u)=>some (.gq t l (.FG u))
 | .gq t l (.of n)=>some (.gq t l (.of n))
theorem XY{x y:Obj}(h:fO x=some y):y=x:=by
 unfold fO at h
 split at h<;>simp_all [L2]
def fSl:List (Nat×SV)→Option (List (Nat×SV))
 | []=>some []
 | (n,x)::r=>match fS x,fSl r with
   |some x,some r=>some ((n,x)::r)
   |_,_=>none
theorem R5: ∀{l m:List (Nat×SV)},fSl l=some m→m=l
 | [],m,h=>by simp only[fSl,oI]at h;exact h.symm
 | (n,x)::r,m,h=>by
   simp only[fSl]at h
   split at h
   ·rename_i y r' h1 h2
    simp only[oI]at h
    rw[←h,R4 h1,R5 h2]
   ·cases h
def Zw:Hp→Option Hp
 | []=>some []
 | (n,x)::r=>match fO x,Zw r with
   |some x,some r=>some ((n,x)::r)
   |_,_=>none
theorem HQ: ∀{l m:Hp},Zw l=some m→m=l
 | [],m,h=>by simp only[Zw,oI]at h;exact h.symm
 | (n,x)::r,m,h=>by
   simp only[Zw]at h
   split at h
   ·rename_i y r' h1 h2
    simp only[oI]at h
    rw[←h,XY h1,HQ h2]
   ·cases h
def L3:St→Option St
 | ⟨n,sl,hp⟩=>match fSl sl,Zw hp with
   |some sl,some hp=>some ⟨n,sl,hp⟩
   |_,_=>none
theorem lP{s s':St}(h:L3 s=some s'):s'=s:=by
 obtain⟨n,sl,hp⟩:=s
 simp only[L3]at h
 split at h
 ·rename_i a b h1 h2
  simp only[oI]at h
  rw[←h,R5 h1,HQ h2]
 ·cases h
def XZ:TypeDesc→Bool
 | .struct _=>false
 | .array _ _=>false
 |_=>true
def Wh(P:Program)(t f k:Nat):Prop:= ∃fs fd d,P.underlying t=some (.struct fs)∧fs[f]? =some fd∧fd.offset=k∧P.underlying fd.type=some d∧XZ d=true
def Gy:List V→Option (List Int)
 | []=>some []
 | .lit (.int .i64 a)::r=>match Gy r with|some l=>some (a::l)|none=>none
 |_=>none
def R6(P:Program)(t n:Nat):Prop:= ∀(xs ys:List Int) (X Y:Operand) (w:World),xs.length=n→ys.length=n→
 (do eqGuard .neq t X Y (.agg (xs.map (Value.int .i64)).toArray) (.agg (ys.map (Value.int .i64)).toArray);binOp .neq t (.agg (xs.map (Value.int .i64)).toArray) (.agg (ys.map (Value.int .i64)).toArray):Sem Value).run P w= .ok (.bool (xs !=ys)) w
theorem Ec{w:World}{hp:Hp}{env:Env}: ∀{l:List V} {xs:List Int} {cs:List Value},Gy l=some xs→bN (RA w hp env) l cs→cs=xs.map (Value.int .i64)
 | [],xs,[],h,_=>by simp only[Gy,oI]at h;subst h;rfl
 | [],_,_::_,_,h=>h.elim
 |v::r,xs,[],_,h=>h.elim
 |v::r,xs,c::cs,h,⟨h1,h2⟩=>by
  unfold Gy at h
  split at h
  ·rename_i e;cases e
  ·rename_i a r' e
   simp only[List.cons.injEq]at e
   obtain⟨rfl,rfl⟩:=e
   split at h
   ·rename_i l' hl
    simp only[oI]at h
    subst h
    rw[Ec hl h2,List.map_cons,h1.1]
   ·cases h
  ·cases h
def L4(P:Program)(Γ:Nat→TK)(st:St):Op→Option (List Prop×St×SV)
 | .field t x f=>match gr st [] x,Γ t with
   |some (.agg c), .st _ _ fo=>match oQ fo f with
    |some k=>match yw c k with
     |some v=>some ([Wh P t f k],st, .one (.a v))
     |none=>none
    |none=>none
   |_,_=>none
 | .binOp .neq t x y _=>match gr st [] x,gr st [] y with
   |some (.agg l),some (.agg l')=>match Gy l,Gy l' with
    |some xs,some ys=>match Nat.beq xs.length ys.length with
     |true=>some ([R6 P t xs.length],st, .one (.a (.lit (.bool (xs !=ys)))))
     |false=>none
    |_,_=>none
   |_,_=>none
 |_=>none
theorem Ed{P:Program}{t:TypeId}{d:TypeDesc}(h:P.underlying t=some d)(hd:XZ d=true)(w:World):(isAgg t).run P w= .ok false w:=by
 cases d<;>first| (cases hd;done)|simp[isAgg,run_underlying h]
section
variable{P:Program}{zb:cK}{st st':St}{a:Act}{w:World}{env:Env}{Q:Exit→Act→World→Prop}{o:Oper}
theorem Wi{Γ:Nat→TK}{vc:List Prop}{v:SV}(h:L4 P Γ st o.op=some (vc,st',v))(g:Good ty zb st a.tmps w env)(hv: ∀q,q∈vc→q):
  o.wp P a w (fun a' w'=> ∃u env',a'=a.put o.dst u∧Kept zb w w'∧Good ty zb st' a.tmps w' env'∧st'.n=st.n∧oR w' st'.hp env' a.tmps v u) Q:=by
 generalize e9:o.op=op at h
 cases op with
 |field t x f=>
  simp only[L4]at h
  split at h
  case h_2=>cases h
  rename_i c z tg fo hx hk
  split at h
  case h_2=>cases h
  rename_i k hf
  split at h
  case h_2=>cases h
  rename_i v' hel
  simp only[oI,pI]at h
  obtain⟨rfl,rfl,rfl⟩:=h
  obtain⟨fs,fd,d,h1,h2,h3,h4,h5⟩:=hv _ (List.mem_singleton.2 rfl)
  obtain⟨us,hu,hA⟩:=eI g (fun e he=>by simp at he) hx
  obtain⟨u,k1,k2⟩:=hA.at (HD hel)
  have hr:(execOp a.eval o).run P w= .ok (.value u) w:=by
   unfold execOp
   simp[e9,hu,Instr.field,part,run_underlying h1,h2,h3,Ed h4 h5,asAgg,k1]
  unfold Oper.wp
  rw[hr]
  exact⟨u,env,rfl,Kept.refl _ _,g,rfl,k2⟩
 |binOp b t x y t'=>
  cases b with
  |neq=>
   simp only[L4]at h
   split at h
   case h_2=>cases h
   rename_i l l' hx hy
   split at h
   case h_2=>cases h
   rename_i xs ys h1 h2
   split at h
   case h_2=>cases h
   rename_i hn
   have hn:=Nat.eq_of_beq_eq_true hn
   simp only[oI,pI]at h
   obtain⟨rfl,rfl,rfl⟩:=h
   have hS:R6 P t xs.length:=hv _ (List.mem_singleton.2 rfl)
   obtain⟨us,hu,hA⟩:=eI g (fun e he=>by simp at he) hx
   obtain⟨us',hu',hA'⟩:=eI g (fun e he=>by simp at he) hy
   rw[Ec h1 hA]at hu
   rw[Ec h2 hA']at hu'
   have hr:(execOp a.eval o).run P w= .ok (.value (.bool (xs !=ys))) w:=by
    unfold execOp
    simp only[e9,hu,hu']
    rw[Sem.run_bind,hS xs ys x y w rfl hn.symm]
    rfl
   unfold Oper.wp
   rw[hr]
   exact⟨_,env,rfl,Kept.refl _ _,g,rfl,rfl,rfl⟩
  |_=>simp[L4]at h
 |_=>simp[L4]at h
end
def R7(P:Program)(ty:Tag→Nat)(Γ:Nat→TK)(cr:List (Nat×CR))(st:St)(m:Nat)(d:Option Nat)(op:Op):Option (List Prop×St×SV):=
 match LR P ty Γ st m op with
 |some r=>some r
 |none=>match D1 P ty Γ st m op with
  |some r=>some r
  |none=>match eio P ty Γ cr st d op with
   |some r=>some r
   |none=>match eiv P ty cr st d op with
    |some r=>some r
    |none=>match RS P ty Γ cr st d op with
     |some r=>some r
     |none=>match efz P ty Γ st op with
      |some r=>some r
      |none=>match L4 P Γ st op with
       |some r=>some r
       |none=>match L1 P ty Γ st m op with
        |some r=>some r
        |none=>match Wd P ty Γ st m op with
         |some r=>some r
         |none=>Wf Γ cr st m d op
def R8(Γ:Nat→TK)(st:St)(op:Op):Option (List Prop×St):=
 match V1 Γ st op with
 |some r=>some r
 |none=>evs Γ st op
def step(P:Program)(ty:Tag→Nat)(Γ:Nat→TK)(cH:List (Nat×Nat))(cr:List (Nat×CR))(ops:List Oper)(st:St)(o:Oper):Option (List Prop×St):=
 match Rc Γ (I6 P ty) (Sound ty P) cH cr ops st o with
 |some r=>some r
 |none=>match o.guard,ue st o.dst,abx cH o.dst with
  |none,true,some m=>match DT Γ st o.op with
   |some st'=>match o.dst with|none=>some ([],st')|some _=>none
   |none=>match R8 Γ st o.op with
    |some (vc,st')=>match o.dst,L3 st' with|none,some st'=>some (vc,st')|_,_=>none
    |none=>match R7 P ty Γ cr st m o.dst o.op with
     |some (vc,st',v)=>match L3 st' with|some st'=>some (vc,st'.put o.dst v)|none=>none
     |none=>none
  |_,_,_=>none
def run(P:Program)(ty:Tag→Nat)(Γ:Nat→TK)(cH:List (Nat×Nat))(cr:List (Nat×CR))(ops:List Oper):List Oper→St→List Prop→Option (List Prop×St)
 | [],st,acc=>some (acc,st)
 |o::r,st,acc=>match step P ty Γ cH cr ops st o with
  |some ([],⟨n,sl,hp⟩)=>run P ty Γ cH cr ops r ⟨n,sl,hp⟩ acc
  |some ([p],⟨n,sl,hp⟩)=>run P ty Γ cH cr ops r ⟨n,sl,hp⟩ (p::acc)
  |some ([p,q],⟨n,sl,hp⟩)=>run P ty Γ cH cr ops r ⟨n,sl,hp⟩ (p::q::acc)
  |some (l,⟨n,sl,hp⟩)=>run P ty Γ cH cr ops r ⟨n,sl,hp⟩ (l++acc)
  |none=>none
@[reducible] def lB:List Prop→Prop
  | []=>True
  |p::r=>p∧lB r
theorem lB.out: ∀{l:List Prop},lB l→ ∀q,q∈l→q
 |p::r,h,q,hq=>by
  rcases List.mem_cons.1 hq with rfl|hq
  ·exact h.1
  ·exact lB.out h.2 q hq
section
variable{P:Program}{zb:cK}{st st':St}{a:Act}{w:World}{Q:Exit→Act→World→Prop}{o:Oper}
theorem o8{v:SV}{d:Nat}(h: ∃x,v= .one x):v.mentions d=false:=by
 obtain⟨x,rfl⟩:=h;rfl
theorem gT.mono{ops:Array Oper}{K K':Act→World→Prop}(h: ∀a w,K a w→K' a w)(hr:gT P ops o a w K Q):gT P ops o a w K' Q:=by
 unfold gT at*
 split
 ·rename_i hw;rw[if_pos hw]at hr;exact hr.imp (Oper.wp_mono h) id
 ·rename_i hw;rw[if_neg hw]at hr;exact h _ _ hr
theorem R9{Γ:Nat→TK}(C: ∀t,c8 P t (Γ t)){cr:List (Nat×CR)}{m:Nat}{vc:List Prop}{v:SV}{env:Env}{d:Option Nat}(h:R7 P ty Γ cr st m d o.op=some (vc,st',v))(g:Good ty zb st a.tmps w env)(hB:zb.w.heap.size≤w.heap.size)(hA:HA zb)(hN:Ge w)(hv: ∀q,q∈vc→q):
  (∀k,v.mentions k=false)∧o.wp P a w (fun a' w'=> ∃u env',a'=a.put o.dst u∧Kept zb w w'∧Good ty zb st' a.tmps w' env'∧st'.n=st.n∧oR w' st'.hp env' a.tmps v u) Q:=by
 have one:(∃x,v= .one x)→ ∀k,v.mentions k=false:=fun hx k=>o8 hx
 unfold R7 at h
 split at h
 ·rename_i r he
  simp only[oI]at h
  subst h
  refine⟨one ?_,V0 C he g hB hv⟩
  unfold LR at he
  repeat' split at he
  all_goals first
   | (cases he;done)
   | (simp only[oI,pI]at he;exact⟨_,he.2.2.symm⟩)
 ·split at h
  ·rename_i r he
   simp only[oI]at h
   subst h
   refine⟨one ?_,Py C he g hB hv⟩
   unfold D1 at he
   repeat' split at he
   all_goals first
    | (cases he;done)
    | (simp only[oI,pI]at he;exact⟨_,he.2.2.symm⟩)
  ·split at h
   ·rename_i r he
    simp only[oI]at h
    subst h
    refine⟨one ?_,Zi he g hB hA hN hv⟩
    unfold eio at he
    repeat' split at he
    all_goals first
     | (cases he;done)
     | (simp only[oI,pI]at he;exact⟨_,he.2.2.symm⟩)
   ·split at h
    ·rename_i r he
     simp only[oI]at h
     subst h
     refine⟨one ?_,Zo (Γ:=Γ) he g hB hA hN hv⟩
     unfold eiv at he
     repeat' split at he
     all_goals first
      | (cases he;done)
      | (simp only[oI,pI]at he;exact⟨_,he.2.2.symm⟩)
    ·split at h
     ·rename_i r he
      simp only[oI]at h
      subst h
      exact V9 he g hB hA hN hv
     ·split at h
      ·rename_i r he
       simp only[oI]at h
       subst h
       refine⟨one ?_,Zq C he g hB hv⟩
       unfold efz at he
       repeat' split at he
       all_goals first
        | (cases he;done)
        | (simp only[oI,pI]at he;exact⟨_,he.2.2.symm⟩)
      ·split at h
       ·rename_i r he
        simp only[oI]at h
        subst h
        refine⟨one ?_,Wi he g hv⟩
        unfold L4 at he
        repeat' split at he
        all_goals first
         | (cases he;done)
         | (simp only[oI,pI]at he;exact⟨_,he.2.2.symm⟩)
       ·split at h
        ·rename_i r he
         simp only[oI]at h
         subst h
         refine⟨one ?_,Wb C he g hB hv⟩
         unfold L1 at he
         repeat' split at he
         all_goals first
          | (cases he;done)
          | (simp only[oI,pI]at he;exact⟨_,he.2.2.symm⟩)
        ·split at h
         ·rename_i r he
          simp only[oI]at h
          subst h
          refine⟨one ?_,We C he g hB hv⟩
          unfold Wd at he
          repeat' split at he
          all_goals first
           | (cases he;done)
           | (simp only[oI,pI]at he;exact⟨_,he.2.2.symm⟩)
         ·refine⟨one ?_,Wg C h g hB hv⟩
          unfold Wf at h
          repeat' split at h
          all_goals first
           | (cases h;done)
           | (simp only[oI,pI]at h;exact⟨_,h.2.2.symm⟩)
theorem Sa{Γ:Nat→TK}(C: ∀t,c8 P t (Γ t))(Z: ∀t,(∀z tg fo,Γ t≠ .st z tg fo)→Γ t≠ .other→(P.info? t).map (·.size)=some 1){vc:List Prop}{env:Env}(h:R8 Γ st o.op=some (vc,st'))(g:Good ty zb st a.tmps w env)(hB:zb.w.heap.size≤w.heap.size)(hv: ∀q,q∈vc→q):
  o.wp P a w (fun a' w'=> ∃env',a'=a.put o.dst undef∧Kept zb w w'∧Good ty zb st' a.tmps w' env'∧st'.n=st.n) Q:=by
 unfold R8 at h
 split at h
 ·rename_i r hr
  simp only[oI]at h
  subst h
  exact V2 C Z hr g hv
 ·exact Zp C Z h g hB hv
theorem rP{Γ:Nat→TK}(C: ∀t,c8 P t (Γ t))(Z: ∀t,(∀z tg fo,Γ t≠ .st z tg fo)→Γ t≠ .other→(P.info? t).map (·.size)=some 1){cH:List (Nat×Nat)}{cr:List (Nat×CR)}{ops:List Oper}{vc:List Prop}(h:step P ty Γ cH cr ops st o=some (vc,st'))(iv:Inv ty zb st a w)(hv: ∀q,q∈vc→q):
  gT P ops.toArray o a w (fun a' w'=>Inv ty zb st' a' w') Q:=by
 simp only[step]at h
 split at h
 ·rename_i r hq
  simp only[oI]at h
  subst h
  exact Rv C hq iv hv
 ·split at h
  ·rename_i m hg hd _
   have BO:=HH iv hd
   obtain⟨env,g⟩:=iv.good
   have Y8:=iv.kept.size
   split at h
   ·rename_i s1 hs
    split at h
    ·rename_i Zx
     simp only[oI,pI]at h
     obtain⟨rfl,rfl⟩:=h
     refine jO hg (Oper.wp_mono ?_ (Pw (Q:=Q) C Z hs g))
     rintro a' w' ⟨rfl,hb,hg',hn,Aq⟩
     rw[Zx]
     exact⟨by rw[gM,hn];exact iv.size,by rw[put_defers];exact iv.defers,iv.kept.trans hb,iv.Ap,env,hg'⟩
    ·cases h
   ·split at h
    ·rename_i nM s1 hs
     split at h
     ·rename_i s2 Zx hfs
      have hfs:=lP hfs
      subst hfs
      simp only[oI,pI]at h
      obtain⟨rfl,rfl⟩:=h
      refine jO hg (Oper.wp_mono ?_ (Sa (Q:=Q) C Z hs g Y8 hv))
      rintro a' w' ⟨env',rfl,hb,hg',hn⟩
      rw[Zx]
      exact⟨by rw[gM,hn];exact iv.size,by rw[put_defers];exact iv.defers,iv.kept.trans hb,iv.Ap,env',hg'⟩
     ·cases h
    ·split at h
     ·rename_i nM s1 v he
      split at h
      case h_2=>cases h
      rename_i s2 hfs
      have hfs:=lP hfs
      subst hfs
      simp only[oI,pI]at h
      obtain⟨rfl,rfl⟩:=h
      obtain⟨FN,hwp⟩:=R9 (Q:=Q) C he g Y8 iv.Ap (iv.Ap.now iv.kept) hv
      refine jO hg (Oper.wp_mono ?_ hwp)
      rintro a' w' ⟨u,env',rfl,hb,hg',hn,hr⟩
      refine⟨by rw[gM,wN,hn];exact iv.size,by rw[put_defers];exact iv.defers,iv.kept.trans hb,iv.Ap,env',nN hg' BO hr fun d _=>FN d⟩
     ·cases h
  ·cases h
theorem vN{Γ:Nat→TK}{cH:List (Nat×Nat)}{cr:List (Nat×CR)}{ops:List Oper}{r:List Oper}{acc vcs:List Prop}{mM:St}(h:run P ty Γ cH cr ops (o::r) st acc=some (vcs,mM)):
  ∃vc AI,step P ty Γ cH cr ops st o=some (vc,AI)∧run P ty Γ cH cr ops r AI (vc++acc)=some (vcs,mM):=by
 simp only[run]at h
 split at h
 ·rename_i n sl hp hs;exact⟨[],⟨n,sl,hp⟩,hs,h⟩
 ·rename_i p n sl hp hs;exact⟨[p],⟨n,sl,hp⟩,hs,h⟩
 ·rename_i p q n sl hp hs;exact⟨[p,q],⟨n,sl,hp⟩,hs,h⟩
 ·rename_i l n sl hp _ _ _ hs;exact⟨_,⟨n,sl,hp⟩,hs,h⟩
 ·cases h
theorem rQ{Γ:Nat→TK}{cH:List (Nat×Nat)}{cr:List (Nat×CR)}{ops:List Oper}: ∀{l:List Oper} {st mM:St} {acc vcs:List Prop},run P ty Γ cH cr ops l st acc=some (vcs,mM)→ ∀q,q∈acc→q∈vcs
 | [],st,mM,acc,vcs,h,q,hq=>by
   simp only[run,oI,pI]at h
   rw[←h.1];exact hq
 |o::r,st,mM,acc,vcs,h,q,hq=>by
  obtain⟨vc,AI,_,h2⟩:=vN h
  exact rQ h2 q (List.mem_append_right _ hq)
theorem L5{Γ:Nat→TK}(C: ∀t,c8 P t (Γ t))(Z: ∀t,(∀z tg fo,Γ t≠ .st z tg fo)→Γ t≠ .other→(P.info? t).map (·.size)=some 1){cH:List (Nat×Nat)}{cr:List (Nat×CR)}{ops:List Oper}{mM:St}{vcs:List Prop}
  (hQ: ∀a w,Inv ty zb mM a w→Q .normal a w): ∀{l:List Oper} {st:St} {acc:List Prop} {a:Act} {w:World},run P ty Γ cH cr ops l st acc=some (vcs,mM)→(∀q,q∈vcs→q)→Inv ty zb st a w→wpList P ops.toArray Q l a w
 | [],st,acc,a,w,h,hv,iv=>by
   simp only[run,oI,pI]at h
   obtain⟨_,rfl⟩:=h
   exact hQ a w iv
 |o::r,st,acc,a,w,h,hv,iv=>by
  obtain⟨vc,AI,h1,h2⟩:=vN h
  have:=rP (Q:=Q) C Z h1 iv (fun q hq=>hv q (rQ h2 q (List.mem_append_left _ hq)))
  exact this.mono fun a' w' kI=>L5 C Z hQ h2 hv kI
end
abbrev Post:=Exit→St→Prop
def Ee(ty:Tag→Nat)(zb:cK)(Q:Post):Exit→Act→World→Prop:=fun e a w=> ∃st,Inv ty zb st a w∧Q e st
def W(P:Program)(ty:Tag→Nat)(zb:cK)(c:Code)(Q:Post)(st:St):Prop:= ∀a w,Inv ty zb st a w→c.wp P (Ee ty zb Q) a w
def Post.then(next:St→Prop)(Q:Post):Post
 | .normal,st=>next st
 |e,st=>Q e st
def Post.inBlock(id:Nat)(Q:Post):Post
 | .exit i,st=>if i=id then Q .normal st else Q (.exit i) st
 |e,st=>Q e st
def wP(sl:List (Nat×SV)):List Nat→Option (List (Nat×SV))
 | []=>some []
 |s::r=>match look sl s with
  |some x=>match fS x,wP sl r with
   |some x,some l=>some ((s,x)::l)
   |_,_=>none
  |none=>none
def wQ(hp:Hp):List Nat→Option Hp
 | []=>some []
 |s::r=>match look hp s with
  |some x=>match fO x,wQ hp r with
   |some x,some l=>some ((s,x)::l)
   |_,_=>none
  |none=>none
def mN(hp:Hp)(v:V):Bool:=match v.name with|some n=>(match look hp n with|some _=>true|none=>false)|none=>true
def rR(hp:Hp):S1→Bool
 | .a v=>mN hp v
 | .agg l=>l.all (mN hp)
def NO(hp:Hp):SV→Bool
 | .one x=>rR hp x
 | .tZ l=>l.all (rR hp)
 | .cond _ x=>rR hp x
def yX(hp:Hp):Obj→Bool
 | .box c=>c.all (mN hp)
 | .arr _ _=>true
 | .gq _ _ s=>match s.name with|some n=>(match look hp n with|some _=>true|none=>false)|none=>true
def ng(sl:List (Nat×SV))(hp:Hp):Bool:=(sl.all fun e=>NO hp e.2)&&hp.all fun e=>yX hp e.2
def V.Wj(v:V):List Nat:=match v.name with|some n=> [n]|none=> []
def SV.Wj:SV→List Nat
 | .one (.a v)=>v.Wj
 | .one (.agg l)=>l.flatMap V.Wj
 | .tZ l=>l.flatMap fun x=>(match x with| .a v=>v.Wj| .agg l=>l.flatMap V.Wj)
 | .cond _ (.a v)=>v.Wj
 | .cond _ (.agg l)=>l.flatMap V.Wj
def L6:Nat→Hp→List Nat→List Nat→List Nat
 |0,_,_,acc=>acc
 |_,_,[],acc=>acc
 |f+1,hp,n::r,acc=>match acc.any (Nat.beq n)with
  |true=>L6 f hp r acc
  |false=>L6 f hp (match look hp n with|some (.box c)=>c.flatMap V.Wj++r|some (.gq _ _ (.of m))=>m::r|_=>r) (acc++ [n])
def HR(sl:List (Nat×SV)):List Nat→List Nat
 | []=> []
 |s::r=>match look sl s with|some x=>x.Wj++HR sl r|none=>HR sl r
def Gz(sl:List (Nat×SV))(hp:Hp)(ks:List Nat):List Nat→List Nat
 | []=>L6 300 hp (HR sl ks++(hp.map Prod.fst).filter iA) []
 |hs=>hs
def Vm(P:Program)(ty:Tag→Nat)(Γ:Nat→TK)(cH:List (Nat×Nat))(cr:List (Nat×CR))(ks hs:List Nat)(ops:List Oper):St→Option (List Prop×St)
 | ⟨n,I8,fQ⟩=>match run P ty Γ cH cr ops ops ⟨n,I8,fQ⟩ []with
 |some (vc,st')=>match wP st'.sl ks,wQ st'.hp (Gz st'.sl st'.hp ks hs)with
  |some sl,some hp=>match ng sl hp,Nat.beq st'.n n with
   |true,true=>some (vc,⟨n,sl,hp⟩)
   |_,_=>none
  |_,_=>none
 |none=>none
theorem iC{sl:List (Nat×SV)}: ∀{ks:List Nat} {l:List (Nat×SV)},wP sl ks=some l→ ∀s v,look l s=some v→look sl s=some v
 | [],l,h,s,v,hl=>by
   simp only[wP,oI]at h
   subst h;cases hl
 |k::r,l,h,s,v,hl=>by
  simp only[wP]at h
  split at h
  ·rename_i x0 h1
   split at h
   ·rename_i x l' hf h2
    simp only[oI]at h
    subst h
    by_cases hs:s=k
    ·subst hs;rw[look_eq]at hl;rw[←hl,R4 hf];exact h1
    ·rw[bg hs]at hl;exact iC h2 s v hl
   ·cases h
  ·cases h
theorem iD{hp:Hp}: ∀{ks:List Nat} {l:Hp},wQ hp ks=some l→ ∀s v,look l s=some v→look hp s=some v
 | [],l,h,s,v,hl=>by
   simp only[wQ,oI]at h
   subst h;cases hl
 |k::r,l,h,s,v,hl=>by
  simp only[wQ]at h
  split at h
  ·rename_i x0 h1
   split at h
   ·rename_i x l' hf h2
    simp only[oI]at h
    subst h
    by_cases hs:s=k
    ·subst hs;rw[look_eq]at hl;rw[←hl,XY hf];exact h1
    ·rw[bg hs]at hl;exact iD h2 s v hl
   ·cases h
  ·cases h
theorem vO{hp:Hp}{v:V}(h:mN hp v=true): ∀n,v.name=some n→look hp n≠none:=by
 intro n hn hl
 simp[mN,hn,hl]at h
theorem xp{hp:Hp}{x:S1}(h:rR hp x=true): ∀v,v∈x.vs→mN hp v=true:=by
 intro v hv
 cases x with
 |a y=>simp only[S1.vs,List.mem_singleton]at hv;subst hv;exact h
 |agg l=>exact List.all_eq_true.1 h v hv
theorem L7{hp:Hp}{x:SV}(h:NO hp x=true): ∀v,v∈x.vs→mN hp v=true:=by
 intro v hv
 cases x with
 |one x=>exact xp h v hv
 |tZ l=>
  simp only[SV.vs,List.mem_flatMap]at hv
  obtain⟨y,hy,hv⟩:=hv
  exact xp (List.all_eq_true.1 h y hy) v hv
 |cond p x=>exact xp h v hv
theorem Good.weaken{zb:cK}{st st':St}{tmps:Array Value}{w:World}{env:Env}(g:Good ty zb st tmps w env)(hs: ∀s v,look st'.sl s=some v→look st.sl s=some v)(hh: ∀n o,look st'.hp n=some o→look st.hp n=some o)
  (rC: ∀s v,look st'.sl s=some v→ ∀x,x∈v.vs→mN st'.hp x=true)(JB: ∀m o,look st'.hp m=some o→yX st'.hp o=true):Good ty zb st' tmps w env:=by
 have s:Step (fun n=>look st'.hp n≠none) (fun n=>look st'.hp n≠none) w st.hp env w st'.hp env:=by
  refine⟨fun _ _ _=>rfl,?_,?_,?_⟩
  ·rintro b _ ⟨n,o,h1,h2⟩;exact⟨n,o,hh n o h1,h2⟩
  ·intro n o hK h1
   cases hq:look st'.hp n with
   |none=>exact absurd hq hK
   |some o'=>
    have:=hh n o' hq
    rw[h1]at this
    simp only[oI]at this
    subst this
    exact⟨o,rfl,by cases o<;>simp[Obj.like],rfl⟩
  ·intro n t l hK h1
   cases hq:look st'.hp n with
   |none=>exact absurd hq hK
   |some o'=>
    have:=hh n o' hq
    rw[h1]at this
    simp only[oI]at this
    subst this
    exact⟨rfl,rfl,fun _ _=>rfl⟩
 have acd: ∀v,mN st'.hp v=true→v.uf (fun n=>look st'.hp n≠none) (fun n=>look st'.hp n≠none):=fun v h=>⟨fun n hn=>vO h n hn,fun n hn=>vO h n (V.qp hn)⟩
 refine⟨fun n o hl=> ?_,fun n m o o' hne h1 h2=>g.iB n m o o' hne (hh n o h1) (hh m o' h2),fun t v hl=>oR.step s (fun x hx=>acd x (rC t v hl x hx)) (g.slot t v (hs t v hl)),fun n o hl=>g.dom n o (hh n o hl),g.pins⟩
 refine(g.obj n o (hh n o hl)).step s ?_ (fun _ _=>rfl)
 have hO:=JB n o hl
 cases o with
 |box c=>exact fun v hv=>acd v (List.all_eq_true.1 hO v hv)
 |arr t l=>trivial
 |gq t l r=>
  intro m hm
  simp only[yX,hm]at hO
  intro he
  rw[he]at hO
  cases hO
theorem L8{sl:List (Nat×SV)}{hp:Hp}(h:ng sl hp=true):(∀s v,look sl s=some v→ ∀x,x∈v.vs→mN hp x=true)∧(∀m o,look hp m=some o→yX hp o=true):=by
 simp only[ng,Bool.and_eq_true,List.all_eq_true]at h
 exact⟨fun s v hl=>L7 (h.1 _ (eH hl)),fun m o hl=>h.2 _ (eH hl)⟩
theorem Inv.weaken{zb:cK}{st st':St}{a:Act}{w:World}(iv:Inv ty zb st a w)(hn:st'.n=st.n)(hs: ∀s v,look st'.sl s=some v→look st.sl s=some v)(hh: ∀n o,look st'.hp n=some o→look st.hp n=some o)(hc:ng st'.sl st'.hp=true):Inv ty zb st' a w:=by
 obtain⟨env,g⟩:=iv.good
 obtain⟨c1,c2⟩:=L8 hc
 exact⟨by rw[iv.size,hn],iv.defers,iv.kept,iv.Ap,env,g.weaken hs hh c1 c2⟩
structure Ctx(P:Program)(ty:Tag→Nat)(Γ:Nat→TK):Prop where
 kind: ∀t,c8 P t (Γ t)
 one: ∀t,(∀z tg fo,Γ t≠ .st z tg fo)→Γ t≠ .other→(P.info? t).map (·.size)=some 1
section
variable{P:Program}{Γ:Nat→TK}{zb:cK}{Q:Post}{st:St}
theorem PG{cH:List (Nat×Nat)}{cr:List (Nat×CR)}{ks hs:List Nat}{ops:List Oper}{vc:List Prop}{st':St}(h:Vm P ty Γ cH cr ks hs ops st=some (vc,st')): ∃s1,run P ty Γ cH cr ops ops st []=some (vc,s1)∧
  ∀a w,Inv ty zb s1 a w→Inv ty zb st' a w:=by
 obtain⟨n,I8,fQ⟩:=st
 simp only[Vm]at h
 split at h
 ·rename_i nM s1 hr
  split at h
  ·rename_i sl hp h1 h2
   split at h
   ·rename_i hc hn
    simp only[oI,pI]at h
    obtain⟨rfl,rfl⟩:=h
    exact⟨s1,hr,fun a w iv=>iv.weaken (Nat.eq_of_beq_eq_true hn).symm (iC h1) (iD h2) hc⟩
   ·cases h
  ·cases h
 ·cases h
theorem aE(X:Ctx P ty Γ)(cH:List (Nat×Nat))(cr:List (Nat×CR))(ks hs:List Nat){id:Nat}{ops:List Oper}{vc:List Prop}{st':St}(h:Vm P ty Γ cH cr ks hs ops st=some (vc,st'))(hv:lB vc)(k:Q .normal st'):W P ty zb (.region id ops.toArray false) Q st:=by
 intro a w iv
 obtain⟨s1,h1,h2⟩:=PG (zb:=zb) h
 exact wp_region_lit (L5 X.kind X.one (fun a w kI=>⟨st',h2 a w kI,k⟩) h1 hv.out iv)
theorem eO(X:Ctx P ty Γ)(ks:List Nat){id:Nat}{ops:List Oper}{vc:List Prop}{st':St}(h:G.Vm P ty Γ [] [] ks [] ops st=some (vc,st'))(hv:lB vc)(k:Q .normal st'):W P ty zb (.region id ops.toArray false) Q st:=aE X [] [] ks [] h hv k
theorem bt(X:Ctx P ty Γ)(ks:List Nat){id:Nat}{ops:List Oper}{st':St}(h:G.Vm P ty Γ [] [] ks [] ops st=some ([],st'))(k:Q .normal st'):W P ty zb (.region id ops.toArray false) Q st:=eO X ks h ⟨⟩ k
theorem aa{x y:Code}(h:W P ty zb x (Post.then (W P ty zb y Q) Q) st):W P ty zb (.seq x y) Q st:=by
 intro a w iv
 refine wp_seq (wp_mono (h a w iv) ?_)
 rintro e a' w' ⟨st',kI,hq⟩
 cases e with
 |normal=>exact hq a' w' kI
 |_=>exact⟨st',kI,hq⟩
theorem aD(X:Ctx P ty Γ)(cH:List (Nat×Nat))(cr:List (Nat×CR))(ks hs:List Nat){y:Code}{id:Nat}{ops:List Oper}{vc:List Prop}{st':St}(h:G.Vm P ty Γ cH cr ks hs ops st=some (vc,st'))(hv:lB vc)(k:W P ty zb y Q st'):W P ty zb (.seq (.region id ops.toArray false) y) Q st:=aa (aE X cH cr ks hs h hv k)
theorem aC(X:Ctx P ty Γ)(ks:List Nat){y:Code}{id:Nat}{ops:List Oper}{vc:List Prop}{st':St}(h:G.Vm P ty Γ [] [] ks [] ops st=some (vc,st'))(hv:lB vc)(k:W P ty zb y Q st'):W P ty zb (.seq (.region id ops.toArray false) y) Q st:=aD X [] [] ks [] h hv k
theorem aq(X:Ctx P ty Γ)(ks:List Nat){y:Code}{id:Nat}{ops:List Oper}{st':St}(h:G.Vm P ty Γ [] [] ks [] ops st=some ([],st'))(k:W P ty zb y Q st'):W P ty zb (.seq (.region id ops.toArray false) y) Q st:=aC X ks h ⟨⟩ k
theorem an(h:Q .normal st):W P ty zb .skip Q st:=fun _ _ iv=>wp_skip ⟨st,iv,h⟩
theorem aK{id:Nat}(h:Q (.exit id) st):W P ty zb (.exit id) Q st:=fun _ _ iv=>wp_exit ⟨st,iv,h⟩
theorem aj(h:Q .ret st):W P ty zb .ret Q st:=fun _ _ iv=>wp_ret ⟨st,iv,h⟩
theorem au{id:Nat}{c:Code}(h:W P ty zb c (Post.inBlock id Q) st):W P ty zb (.block id c) Q st:=by
 intro a w iv
 refine wp_block (wp_mono (h a w iv) ?_)
 rintro e a' w' ⟨st',kI,hq⟩
 cases e with
 |exit i=>
  simp only[Post.inBlock]at hq
  simp only[Exit.inBlock]
  split
  ·rename_i hi;rw[if_pos hi]at hq;exact⟨st',kI,hq⟩
  ·rename_i hi;rw[if_neg hi]at hq;exact⟨st',kI,hq⟩
 |_=>exact⟨st',kI,hq⟩
theorem ah{c:Operand}{x y:Code}{b:Bool}(hc:gr st [] c=some (.a (.lit (.bool b))))(h1:b=true→W P ty zb x Q st)(h2:b=false→W P ty zb y Q st):W P ty zb (.cond c x y) Q st:=by
 intro a w iv
 obtain⟨env,g⟩:=iv.good
 have:=(eI g (fun e he=>by simp at he) hc).lit
 exact wp_cond_split this (fun hb=>h1 hb a w iv) (fun hb=>h2 hb a w iv)
theorem Wk{ι:Type}(p:ι→Prop)(I:ι→St)(μ:ι→Nat)(i:ι){c:Code}(hp:p i)(h0: ∀a w,Inv ty zb st a w→Inv ty zb (I i) a w)
  (round: ∀i,p i→W P ty zb c (Post.then (fun st'=> ∃j,p j∧μ j<μ i∧ ∀a w,Inv ty zb st' a w→Inv ty zb (I j) a w) Q) (I i)):W P ty zb (.loop c) Q st:=by
 intro a w iv b k cs
 have key: ∀n i a w,μ i=n→p i→Inv ty zb (I i) a w→ ∃e a' w',Ee ty zb Q e a' w'∧Arrives P (lone (b.at a (.code c:: .inLoop c::k)) cs w) b k cs e a' w':=by
  intro n
  induction n using Nat.strongRecOn with
  |_ n ih=>
   intro i a w hn hpi iv
   obtain⟨e,a₁,w₁,⟨st',kI,hq⟩,JT⟩:=round i hpi a w iv b (.inLoop c::k) cs
   cases e with
   |normal=>
    obtain⟨j,hpj,hlt,hj⟩:=hq
    obtain⟨e₂,a₂,w₂,hq₂,acf⟩:=ih (μ j) (hn▸hlt) j a₁ w₁ rfl hpj (hj _ _ kI)
    exact⟨e₂,a₂,w₂,hq₂, .of_steps (Steps.trans JT (.one step_inLoop)) acf⟩
   |exit id=>exact⟨_,a₁,w₁,⟨st',kI,hq⟩, .pass (x:= .inLoop c) rfl (fun _ _=> .inl (by simp)) JT⟩
   |goto l=>exact⟨_,a₁,w₁,⟨st',kI,hq⟩, .pass (x:= .inLoop c) rfl (fun _ _=> .inl (by simp)) JT⟩
   |ret=>exact⟨_,a₁,w₁,⟨st',kI,hq⟩, .pass (x:= .inLoop c) rfl (fun _ _=> .inl (by simp)) JT⟩
   |panic ch=>exact⟨_,a₁,w₁,⟨st',kI,hq⟩, .pass (x:= .inLoop c) rfl (fun _ _=> .inl (by simp)) JT⟩
   |outgrown=>exact⟨_,a₁,w₁,⟨st',kI,hq⟩, .pass (x:= .inLoop c) rfl (fun _ _=> .inl (by simp)) JT⟩
 obtain⟨e,a',w',hq,JT⟩:=key _ i a w rfl hp (h0 a w iv)
 exact⟨e,a',w',hq, .of_steps (.one step_loop) JT⟩
def X0:List (Nat×SV)→List (Nat×SV)→Option (List (Nat×SV))
 | [],_=>some []
 | (s,x)::r,ov=>match fS (match look ov s with|some y=>y|none=>x),X0 r ov with
   |some x,some l=>some ((s,x)::l)
   |_,_=>none
def X1:Hp→Hp→Option Hp
 | [],_=>some []
 | (s,x)::r,ov=>match fO (match look ov s with|some y=>y|none=>x),X1 r ov with
   |some x,some l=>some ((s,x)::l)
   |_,_=>none
def over:St→List (Nat×SV)→Hp→Option St
 | ⟨n,sl,hp⟩,ov,oh=>match X0 sl ov,X1 hp oh with
   |some sl,some hp=>some ⟨n,sl,hp⟩
   |_,_=>none
theorem aG{ι:Type}(p:ι→Prop)(ov:ι→List (Nat×SV))(oh:ι→Hp)(μ:ι→Nat)(i:ι){c:Code}{I:ι→St}(_hI: ∀k,over st (ov k) (oh k)=some (I k))(hp:p i)(h0:I i=st)
  (round: ∀i,p i→W P ty zb c (Post.then (fun st'=> ∃j,p j∧μ j<μ i∧st'=I j) Q) (I i)):W P ty zb (.loop c) Q st:=by
 refine Wk p I μ i hp (fun a w iv=>by rw[h0];exact iv) fun i hi=> ?_
 intro a w iv
 refine wp_mono (round i hi a w iv) ?_
 rintro e a' w' ⟨st',kI,hq⟩
 cases e with
 |normal=>
  obtain⟨j,h1,h2,rfl⟩:=hq
  exact⟨_,kI,j,h1,h2,fun a w h=>h⟩
 |_=>exact⟨st',kI,hq⟩
end
end
section
variable{ty:Tag→Nat}
def enter:Nat→List S1→List (Nat×SV)
 |_,[]=> []
 |i,x::r=>(i, .one x)::enter (i+1) r
def PI(Γ:Nat→TK)(st:St):ResultVar→Option S1
 | .tmp t=>match look st.sl t with|some (.one x)=>some x|_=>none
 | .cell p t=>match look st.sl p with
   |some (.one (.a (.ptr n 0)))=>match look st.hp n,Γ t with
    |some (.box c), .st z _ _=>match Nat.beq c.length z.length with|true=>some (.agg c)|false=>none
    |_,_=>none
   |_=>none
def ur(Γ:Nat→TK)(st:St):List ResultVar→Option (List S1)
 | []=>some []
 |r::rs=>match PI Γ st r,ur Γ st rs with|some x,some xs=>some (x::xs)|_,_=>none
def Sb(st:St):V→V→Option (List Prop×List Nat)
 | .lit v, .lit u=>some ([v=u],[])
 | .lit (.slice none 0 0), .sl _ l=>some ([l= []],[])
 | .own n, .sl t l=>match look st.hp n,soft n with
   |some (.arr t' l'),false=>match gL t t' l' with
    |some l2=>some ([l2=l],[n])
    |none=>none
   |_,_=>none
 | .lit (.slice none 0 0), .vw _ _ _ l=>some ([l= []],[])
 | .own n, .vw _ _ t l=>match look st.hp n with
   |some (.arr t' l')=>match gL t t' l' with
    |some l2=>some ([l2=l],[n])
    |none=>none
   |_=>none
 | .vw n _ t' l', .vw _ _ t l=>match gL t t' l' with
   |some l2=>some ([l2=l],[n])
   |none=>none
 |_,_=>none
def meet(st:St):List V→List V→Option (List Prop×List Nat)
 | [],[]=>some ([],[])
 |x::r,y::s=>match Sb st x y,meet st r s with
  |some (vc,k),some (vcs,ks)=>some (lz vc vcs,lz k ks)
  |_,_=>none
 |_,_=>none
def NP(st:St):S1→S1→Option (List Prop×List Nat)
 | .a v, .a u=>meet st [v] [u]
 | .agg l, .agg m=>meet st l m
 |_,_=>none
def meets(st:St):List S1→List S1→Option (List Prop×List Nat)
 | [],[]=>some ([],[])
 |x::r,y::s=>match NP st x y,meets st r s with
  |some (vc,k),some (vcs,ks)=>some (lz vc vcs,lz k ks)
  |_,_=>none
 |_,_=>none
def ends(Γ:Nat→TK)(st:St)(s8:List ResultVar)(rs:List S1):Option (List Prop):=
 match ur Γ st s8 with
 |some xs=>match meets st xs rs with
  |some (vc,k)=>match p7 k with|true=>some vc|false=>none
  |none=>none
 |none=>none
def Fin(Γ:Nat→TK)(s8:List ResultVar)(rs:List S1):Post:=fun e st=>(e= .ret∨e= .normal)∧ ∃vc,ends Γ st s8 rs=some vc∧lB vc
theorem af{Γ:Nat→TK}{s8:List ResultVar}{rs:List S1}{st:St}{vc:List Prop}(h:ends Γ st s8 rs=some vc)(hv:lB vc):Fin Γ s8 rs .ret st:=⟨.inl rfl,vc,h,hv⟩
theorem X3{Γ:Nat→TK}{s8:List ResultVar}{rs:List S1}{st:St}{vc:List Prop}(h:ends Γ st s8 rs=some vc)(hv:lB vc):Fin Γ s8 rs .normal st:=⟨.inr rfl,vc,h,hv⟩
theorem jm.lift{α:Type}{k:Nat}{E:ER α}{lo e:Nat}{w:World}{v:Value}{l:List α}{fp:List Nat}(h:jm k E 0 e w v l fp)(hl: ∀b,b∈fp→lo≤b):jm k E lo e w v l fp:=by
 obtain⟨xs,bA,hown,hf,he,rfl,ho⟩:=h
 refine⟨xs,bA,⟨hown.1,?_⟩,hf,he,rfl,⟨ho.nodup,hl,ho.kind⟩⟩
 rcases hown.2 with h| ⟨g,o,cap,cur,rfl,Vj,r⟩
 ·exact Or.inl h
 ·exact Or.inr ⟨g,o,cap,cur,rfl,hl g (by simp[Value.ownBlock]),r⟩
section
variable{P:Program}{zb:cK}{st:St}{a:Act}{w:World}{env:Env}
theorem wS{Γ:Nat→TK}(C: ∀t,c8 P t (Γ t))(g:Good ty zb st a.tmps w env){r:ResultVar}{x:S1}(h:PI Γ st r=some x):
  ∃u,fG w st.hp env x u∧(match r with| .tmp t=>a.tmps.getD t undef=u| .cell p t=> ∃ad,a.tmps.getD p undef= .pointer (some ad)∧(loadVar t ad).run P w= .ok u w):=by
 cases r with
 |tmp t=>
  simp only[PI]at h
  split at h
  ·rename_i y hl
   simp only[oI]at h
   subst h
   exact⟨_,g.slot t _ hl,rfl⟩
  ·cases h
 |cell p t=>
  simp only[PI]at h
  split at h
  ·rename_i n hl
   split at h
   ·rename_i c z tg fo hb hk
    split at h
    ·rename_i hlen
     have hlen:=Nat.eq_of_beq_eq_true hlen
     simp only[oI]at h
     subst h
     obtain⟨_,b,hv,hu⟩:=g.slot p _ hl
     obtain⟨b',cs,e,DR,hh,hc⟩:=g.obj n _ hb
     have Y6:b=b':=by rw[DR]at hv;simpa using hv.symm
     subst Y6
     have hC:=C t
     rw[hk]at hC
     obtain⟨fs,Qy,hi,_⟩:=hC
     have hi':(P.info? t).map (·.size)=some cs.length:=by
      rw[hc.len,hlen]
      cases hq:P.info? t with
      |none=>simp[hq]at hi
      |some i=>simp[hq]at hi;simp[hi.1]
     refine⟨.agg cs.toArray,⟨cs,rfl,hc⟩,?_⟩
     have Cd:w.rangeAt b 0 cs:=by simpa using Q4 hh
     exact⟨_,hu,run_loadVar_mid w b 0 t cs _ Cd Qy rfl hi'⟩
    ·cases h
   ·cases h
  ·cases h
theorem NQ(g:Good ty zb st a.tmps w env){k1 k2:List Nat}{f1 f2:List Nat}(hnd:(k1++k2).Nodup)(p2:Own zb.w.heap.size w f1)(p3: ∀b,b∈f1→ ∃i o,i∈k1∧look st.hp i=some o∧b∈(env i).fp)(q2:Own zb.w.heap.size w f2)(q3: ∀b,b∈f2→ ∃i o,i∈k2∧look st.hp i=some o∧b∈(env i).fp):
  Own zb.w.heap.size w (f1++f2)∧ ∀b,b∈f1++f2→ ∃i o,i∈k1++k2∧look st.hp i=some o∧b∈(env i).fp:=by
 obtain⟨n1,n2,n3⟩:=List.nodup_append.1 hnd
 refine⟨⟨List.nodup_append.2 ⟨p2.nodup,q2.nodup,?_⟩,fun b hb=> ?_,fun b hb=> ?_⟩,fun b hb=> ?_⟩
 ·rintro b hb z hz rfl
  obtain⟨n,o1,h1,h2,h3⟩:=p3 b hb
  obtain⟨m,o2,h4,h5,h6⟩:=q3 b hz
  exact g.iB n m _ _ (fun e=>n3 n h1 m h4 e) h2 h5 b h3 h6
 ·rcases List.mem_append.1 hb with hb|hb
  ·exact p2.ge b hb
  ·exact q2.ge b hb
 ·rcases List.mem_append.1 hb with hb|hb
  ·exact p2.kind b hb
  ·exact q2.kind b hb
 ·rcases List.mem_append.1 hb with hb|hb
  ·obtain⟨n,o1,h1,h2,h3⟩:=p3 b hb;exact⟨n,o1,List.mem_append_left _ h1,h2,h3⟩
  ·obtain⟨n,o1,h1,h2,h3⟩:=q3 b hb;exact⟨n,o1,List.mem_append_right _ h1,h2,h3⟩
theorem Sc(hL:zb.L= [])(g:Good ty zb st a.tmps w env){x y:V}{u:Value}{vc:List Prop}{k:List Nat}(hr:RA w st.hp env x u)(h:Sb st x y=some (vc,k))(hv: ∀q,q∈vc→q):
  ∃fp,RB ty w zb.w.heap.size y u fp∧Own zb.w.heap.size w fp∧ ∀b,b∈fp→ ∃i o,i∈k∧look st.hp i=some o∧b∈(env i).fp:=by
 unfold Sb at h
 split at h
 ·simp only[oI,pI]at h
  obtain⟨rfl,rfl⟩:=h
  have hl:=hv _ (List.mem_singleton.2 rfl)
  obtain⟨rfl,ho⟩:=hr
  exact⟨[],⟨hl,hl▸ho,rfl⟩,Own.nil _ _,by simp⟩
 ·simp only[oI,pI]at h
  obtain⟨rfl,rfl⟩:=h
  have hl:=hv _ (List.mem_singleton.2 rfl)
  subst hl
  obtain⟨rfl,ho⟩:=hr
  exact⟨[],jm.nil _ _ _ _ _,Own.nil _ _,by simp⟩
 ·rename_i n t l
  split at h
  ·rename_i t' l' hl FP
   split at h
   ·rename_i l2 hc
    simp only[oI,pI]at h
    obtain⟨rfl,rfl⟩:=h
    have j0:=hv _ (List.mem_singleton.2 rfl)
    subst j0
    obtain⟨e,rfl⟩:=dH hc
    subst e
    obtain⟨_,rfl⟩:=hr
    have hb:=jm.lift (RO.VL FP (g.obj n _ hl)) (lo:=zb.w.heap.size) (fun b hb=>by
     rcases g.dom n _ hl b hb with h|h
     ·rw[hL]at h;cases h
     ·exact h)
    exact⟨(env n).fp,hb,hb.own,fun b hb=>⟨n,_,by simp,hl,hb⟩⟩
   ·cases h
  ·cases h
 ·simp only[oI,pI]at h
  obtain⟨rfl,rfl⟩:=h
  have hl:=hv _ (List.mem_singleton.2 rfl)
  subst hl
  obtain⟨rfl,ho⟩:=hr
  exact⟨[],⟨jm.sl (jm.nil _ _ 0 0 _),Own.nil _ _⟩,Own.nil _ _,by simp⟩
 ·rename_i n _ _ t l
  split at h
  ·rename_i t' l' hl
   split at h
   ·rename_i l2 hc
    simp only[oI,pI]at h
    obtain⟨rfl,rfl⟩:=h
    have j0:=hv _ (List.mem_singleton.2 rfl)
    subst j0
    obtain⟨e,rfl⟩:=dH hc
    subst e
    obtain⟨_,rfl⟩:=hr
    have hs:=RO.sl (g.obj n _ hl)
    have ho0:=RO.own (g.obj n _ hl)
    have ho:Own zb.w.heap.size w (env n).fp:=⟨ho0.nodup,fun b hb=>by
     rcases g.dom n _ hl b hb with h|h
     ·rw[hL]at h;cases h
     ·exact h,ho0.kind⟩
    exact⟨(env n).fp,⟨hs,ho⟩,ho,fun b hb=>⟨n,_,by simp,hl,hb⟩⟩
   ·cases h
  ·cases h
 ·rename_i n _ t' l' _ _ t l
  split at h
  ·rename_i l2 hc
   simp only[oI,pI]at h
   obtain⟨rfl,rfl⟩:=h
   have j0:=hv _ (List.mem_singleton.2 rfl)
   subst j0
   obtain⟨e,rfl⟩:=dH hc
   subst e
   obtain⟨⟨t0,l0,hl⟩,⟨fp,hs,hnd,hsub⟩,_⟩:=hr
   have ho0:=RO.own (g.obj n _ hl)
   have ho:Own zb.w.heap.size w fp:=⟨hnd,fun b hb=>by
    rcases g.dom n _ hl b (hsub b hb)with h|h
    ·rw[hL]at h;cases h
    ·exact h,fun b hb=>ho0.kind b (hsub b hb)⟩
   exact⟨fp,⟨hs,ho⟩,ho,fun b hb=>⟨n,_,by simp,hl,hsub b hb⟩⟩
  ·cases h
 ·cases h
theorem HS(hL:zb.L= [])(g:Good ty zb st a.tmps w env): ∀{xs ys:List V} {us:List Value} {vc:List Prop} {k:List Nat},bN (RA w st.hp env) xs us→meet st xs ys=some (vc,k)→k.Nodup→(∀q,q∈vc→q)→
  ∃fp,Ri ty w zb.w.heap.size ys us fp∧Own zb.w.heap.size w fp∧ ∀b,b∈fp→ ∃i o,i∈k∧look st.hp i=some o∧b∈(env i).fp
 | [],ys,us,vc,k,hr,h,hnd,hv=>by
   cases ys with
   |nil=>
    simp only[meet,oI,pI]at h
    obtain⟨rfl,rfl⟩:=h
    cases us with
    |nil=>exact⟨[],rfl,Own.nil _ _,by simp⟩
    |cons _ _=>exact hr.elim
   |cons y ys=>simp[meet]at h
 |x::r,ys,us,vc,k,hr,h,hnd,hv=>by
  cases us with
  |nil=>exact hr.elim
  |cons u us=>
   cases ys with
   |nil=>simp[meet]at h
   |cons y s=>
    simp only[meet]at h
    split at h
    ·rename_i nM k1 V4 k2 h1 h2
     simp only[oI,pI,dM]at h
     obtain⟨rfl,rfl⟩:=h
     obtain⟨n1,n2,n3⟩:=List.nodup_append.1 hnd
     obtain⟨f1,p1,p2,p3⟩:=Sc hL g hr.1 h1 (fun q hq=>hv q (List.mem_append_left _ hq))
     obtain⟨f2,q1,q2,q3⟩:=HS hL g hr.2 h2 n2 (fun q hq=>hv q (List.mem_append_right _ hq))
     obtain⟨r1,r2⟩:=NQ g hnd p2 p3 q2 q3
     exact⟨f1++f2,⟨_,_,p1,q1,rfl⟩,r1,r2⟩
    ·cases h
theorem Sd(hL:zb.L= [])(g:Good ty zb st a.tmps w env){x y:S1}{u:Value}{vc:List Prop}{k:List Nat}(hr:fG w st.hp env x u)(h:NP st x y=some (vc,k))(hnd:k.Nodup)(hv: ∀q,q∈vc→q):
  ∃fp,XL ty w zb.w.heap.size y u fp∧Own zb.w.heap.size w fp∧ ∀b,b∈fp→ ∃i o,i∈k∧look st.hp i=some o∧b∈(env i).fp:=by
 cases x with
 |a v=>
  cases y with
  |a v'=>exact HS hL g (xs:= [v]) (us:= [u]) ⟨hr,trivial⟩ h hnd hv
  |agg _=>simp[NP]at h
 |agg l=>
  cases y with
  |a v'=>simp[NP]at h
  |agg m=>
   obtain⟨cs,rfl,hl⟩:=hr
   obtain⟨fp,h1,h2,h3⟩:=HS hL g hl h hnd hv
   exact⟨fp,⟨cs,rfl,h1⟩,h2,h3⟩
theorem JU(hL:zb.L= [])(g:Good ty zb st a.tmps w env): ∀{xs ys:List S1} {us:List Value} {vc:List Prop} {k:List Nat},bN (fG w st.hp env) xs us→meets st xs ys=some (vc,k)→k.Nodup→(∀q,q∈vc→q)→
  ∃fp,Vk ty w zb.w.heap.size ys us fp∧Own zb.w.heap.size w fp∧ ∀b,b∈fp→ ∃i o,i∈k∧look st.hp i=some o∧b∈(env i).fp
 | [],ys,us,vc,k,hr,h,hnd,hv=>by
   cases ys with
   |nil=>
    simp only[meets,oI,pI]at h
    obtain⟨rfl,rfl⟩:=h
    cases us with
    |nil=>exact⟨[],rfl,Own.nil _ _,by simp⟩
    |cons _ _=>exact hr.elim
   |cons y ys=>simp[meets]at h
 |x::r,ys,us,vc,k,hr,h,hnd,hv=>by
  cases us with
  |nil=>exact hr.elim
  |cons u us=>
   cases ys with
   |nil=>simp[meets]at h
   |cons y s=>
    simp only[meets]at h
    split at h
    ·rename_i nM k1 V4 k2 h1 h2
     simp only[oI,pI,dM]at h
     obtain⟨rfl,rfl⟩:=h
     obtain⟨n1,n2,n3⟩:=List.nodup_append.1 hnd
     obtain⟨f1,p1,p2,p3⟩:=Sd hL g hr.1 h1 n1 (fun q hq=>hv q (List.mem_append_left _ hq))
     obtain⟨f2,q1,q2,q3⟩:=JU hL g hr.2 h2 n2 (fun q hq=>hv q (List.mem_append_right _ hq))
     obtain⟨r1,r2⟩:=NQ g hnd p2 p3 q2 q3
     exact⟨f1++f2,⟨_,_,p1,q1,rfl⟩,r1,r2⟩
    ·cases h
theorem Ef{Γ:Nat→TK}(C: ∀t,c8 P t (Γ t))(g:Good ty zb st a.tmps w env){fn:Func}{s8:List ResultVar}(hf:fn.results=s8.toArray){xs:List S1}(h:ur Γ st s8=some xs)(hl:s8.length≤4):
  ∃us,bN (fG w st.hp env) xs us∧us.length=s8.length∧(results fn a.tmps).run P w= .ok (match us with| [u]=>u|us=> .tuple us.toArray) w:=by
 have one: ∀{r:ResultVar} {rs:List ResultVar} {xs:List S1},ur Γ st (r::rs)=some xs→ ∃y ys,xs=y::ys∧PI Γ st r=some y∧ur Γ st rs=some ys:=by
  intro r rs xs h
  simp only[ur]at h
  split at h
  ·rename_i y ys h1 h2
   simp only[oI]at h
   exact⟨y,ys,h.symm,h1,h2⟩
  ·cases h
 have nil: ∀{xs:List S1},ur Γ st []=some xs→xs= []:=by
  intro xs h
  simp only[ur,oI]at h
  exact h.symm
 match s8,hf,h,hl with
 | [],hf,h,_=>
   rw[nil h]
   exact⟨[],trivial,rfl,by simp[results,hf]⟩
 | [r1],hf,h,_=>
   obtain⟨y1,ys,rfl,h1,h⟩:=one h
   rw[nil h]
   obtain⟨u1,k1,e1⟩:=wS C g h1
   refine⟨[u1],⟨k1,trivial⟩,rfl,?_⟩
   cases r1
   ·have e1:a.tmps.getD _ undef=u1:=e1
    rw[Array.getD_eq_getD_getElem?]at e1
    simp[results,hf,asAddr,e1]
   ·obtain⟨_,p1,e1⟩:=e1
    rw[Array.getD_eq_getD_getElem?]at p1
    simp[results,hf,asAddr,e1,p1]
 | [r1,r2],hf,h,_=>
   obtain⟨y1,ys,rfl,h1,h⟩:=one h
   obtain⟨y2,ys,rfl,h2,h⟩:=one h
   rw[nil h]
   obtain⟨u1,k1,e1⟩:=wS C g h1
   obtain⟨u2,k2,e2⟩:=wS C g h2
   refine⟨[u1,u2],⟨k1,k2,trivial⟩,rfl,?_⟩
   cases r1<;>cases r2
   ·have e1:a.tmps.getD _ undef=u1:=e1
    rw[Array.getD_eq_getD_getElem?]at e1
    have e2:a.tmps.getD _ undef=u2:=e2
    rw[Array.getD_eq_getD_getElem?]at e2
    simp[results,hf,asAddr,e1,e2]
   ·have e1:a.tmps.getD _ undef=u1:=e1
    rw[Array.getD_eq_getD_getElem?]at e1
    obtain⟨_,p2,e2⟩:=e2
    rw[Array.getD_eq_getD_getElem?]at p2
    simp[results,hf,asAddr,e1,e2,p2]
   ·obtain⟨_,p1,e1⟩:=e1
    rw[Array.getD_eq_getD_getElem?]at p1
    have e2:a.tmps.getD _ undef=u2:=e2
    rw[Array.getD_eq_getD_getElem?]at e2
    simp[results,hf,asAddr,e1,e2,p1]
   ·obtain⟨_,p1,e1⟩:=e1
    rw[Array.getD_eq_getD_getElem?]at p1
    obtain⟨_,p2,e2⟩:=e2
    rw[Array.getD_eq_getD_getElem?]at p2
    simp[results,hf,asAddr,e1,e2,p1,p2]
 | [r1,r2,r3],hf,h,_=>
   obtain⟨y1,ys,rfl,h1,h⟩:=one h
   obtain⟨y2,ys,rfl,h2,h⟩:=one h
   obtain⟨y3,ys,rfl,h3,h⟩:=one h
   rw[nil h]
   obtain⟨u1,k1,e1⟩:=wS C g h1
   obtain⟨u2,k2,e2⟩:=wS C g h2
   obtain⟨u3,k3,e3⟩:=wS C g h3
   refine⟨[u1,u2,u3],⟨k1,k2,k3,trivial⟩,rfl,?_⟩
   cases r1<;>cases r2<;>cases r3
   ·have e1:a.tmps.getD _ undef=u1:=e1
    rw[Array.getD_eq_getD_getElem?]at e1
    have e2:a.tmps.getD _ undef=u2:=e2
    rw[Array.getD_eq_getD_getElem?]at e2
    have e3:a.tmps.getD _ undef=u3:=e3
    rw[Array.getD_eq_getD_getElem?]at e3
    simp[results,hf,asAddr,e1,e2,e3]
   ·have e1:a.tmps.getD _ undef=u1:=e1
    rw[Array.getD_eq_getD_getElem?]at e1
    have e2:a.tmps.getD _ undef=u2:=e2
    rw[Array.getD_eq_getD_getElem?]at e2
    obtain⟨_,p3,e3⟩:=e3
    rw[Array.getD_eq_getD_getElem?]at p3
    simp[results,hf,asAddr,e1,e2,e3,p3]
   ·have e1:a.tmps.getD _ undef=u1:=e1
    rw[Array.getD_eq_getD_getElem?]at e1
    obtain⟨_,p2,e2⟩:=e2
    rw[Array.getD_eq_getD_getElem?]at p2
    have e3:a.tmps.getD _ undef=u3:=e3
    rw[Array.getD_eq_getD_getElem?]at e3
    simp[results,hf,asAddr,e1,e2,e3,p2]
   ·have e1:a.tmps.getD _ undef=u1:=e1
    rw[Array.getD_eq_getD_getElem?]at e1
    obtain⟨_,p2,e2⟩:=e2
    rw[Array.getD_eq_getD_getElem?]at p2
    obtain⟨_,p3,e3⟩:=e3
    rw[Array.getD_eq_getD_getElem?]at p3
    simp[results,hf,asAddr,e1,e2,e3,p2,p3]
   ·obtain⟨_,p1,e1⟩:=e1
    rw[Array.getD_eq_getD_getElem?]at p1
    have e2:a.tmps.getD _ undef=u2:=e2
    rw[Array.getD_eq_getD_getElem?]at e2
    have e3:a.tmps.getD _ undef=u3:=e3
    rw[Array.getD_eq_getD_getElem?]at e3
    simp[results,hf,asAddr,e1,e2,e3,p1]
   ·obtain⟨_,p1,e1⟩:=e1
    rw[Array.getD_eq_getD_getElem?]at p1
    have e2:a.tmps.getD _ undef=u2:=e2
    rw[Array.getD_eq_getD_getElem?]at e2
    obtain⟨_,p3,e3⟩:=e3
    rw[Array.getD_eq_getD_getElem?]at p3
    simp[results,hf,asAddr,e1,e2,e3,p1,p3]
   ·obtain⟨_,p1,e1⟩:=e1
    rw[Array.getD_eq_getD_getElem?]at p1
    obtain⟨_,p2,e2⟩:=e2
    rw[Array.getD_eq_getD_getElem?]at p2
    have e3:a.tmps.getD _ undef=u3:=e3
    rw[Array.getD_eq_getD_getElem?]at e3
    simp[results,hf,asAddr,e1,e2,e3,p1,p2]
   ·obtain⟨_,p1,e1⟩:=e1
    rw[Array.getD_eq_getD_getElem?]at p1
    obtain⟨_,p2,e2⟩:=e2
    rw[Array.getD_eq_getD_getElem?]at p2
    obtain⟨_,p3,e3⟩:=e3
    rw[Array.getD_eq_getD_getElem?]at p3
    simp[results,hf,asAddr,e1,e2,e3,p1,p2,p3]
 | [r1,r2,r3,r4],hf,h,_=>
   obtain⟨y1,ys,rfl,h1,h⟩:=one h
   obtain⟨y2,ys,rfl,h2,h⟩:=one h
   obtain⟨y3,ys,rfl,h3,h⟩:=one h
   obtain⟨y4,ys,rfl,h4,h⟩:=one h
   rw[nil h]
   obtain⟨u1,k1,e1⟩:=wS C g h1
   obtain⟨u2,k2,e2⟩:=wS C g h2
   obtain⟨u3,k3,e3⟩:=wS C g h3
   obtain⟨u4,k4,e4⟩:=wS C g h4
   refine⟨[u1,u2,u3,u4],⟨k1,k2,k3,k4,trivial⟩,rfl,?_⟩
   cases r1<;>cases r2<;>cases r3<;>cases r4
   ·have e1:a.tmps.getD _ undef=u1:=e1
    rw[Array.getD_eq_getD_getElem?]at e1
    have e2:a.tmps.getD _ undef=u2:=e2
    rw[Array.getD_eq_getD_getElem?]at e2
    have e3:a.tmps.getD _ undef=u3:=e3
    rw[Array.getD_eq_getD_getElem?]at e3
    have e4:a.tmps.getD _ undef=u4:=e4
    rw[Array.getD_eq_getD_getElem?]at e4
    simp[results,hf,asAddr,e1,e2,e3,e4]
   ·have e1:a.tmps.getD _ undef=u1:=e1
    rw[Array.getD_eq_getD_getElem?]at e1
    have e2:a.tmps.getD _ undef=u2:=e2
    rw[Array.getD_eq_getD_getElem?]at e2
    have e3:a.tmps.getD _ undef=u3:=e3
    rw[Array.getD_eq_getD_getElem?]at e3
    obtain⟨_,p4,e4⟩:=e4
    rw[Array.getD_eq_getD_getElem?]at p4
    simp[results,hf,asAddr,e1,e2,e3,e4,p4]
   ·have e1:a.tmps.getD _ undef=u1:=e1
    rw[Array.getD_eq_getD_getElem?]at e1
    have e2:a.tmps.getD _ undef=u2:=e2
    rw[Array.getD_eq_getD_getElem?]at e2
    obtain⟨_,p3,e3⟩:=e3
    rw[Array.getD_eq_getD_getElem?]at p3
    have e4:a.tmps.getD _ undef=u4:=e4
    rw[Array.getD_eq_getD_getElem?]at e4
    simp[results,hf,asAddr,e1,e2,e3,e4,p3]
   ·have e1:a.tmps.getD _ undef=u1:=e1
    rw[Array.getD_eq_getD_getElem?]at e1
    have e2:a.tmps.getD _ undef=u2:=e2
    rw[Array.getD_eq_getD_getElem?]at e2
    obtain⟨_,p3,e3⟩:=e3
    rw[Array.getD_eq_getD_getElem?]at p3
    obtain⟨_,p4,e4⟩:=e4
    rw[Array.getD_eq_getD_getElem?]at p4
    simp[results,hf,asAddr,e1,e2,e3,e4,p3,p4]
   ·have e1:a.tmps.getD _ undef=u1:=e1
    rw[Array.getD_eq_getD_getElem?]at e1
    obtain⟨_,p2,e2⟩:=e2
    rw[Array.getD_eq_getD_getElem?]at p2
    have e3:a.tmps.getD _ undef=u3:=e3
    rw[Array.getD_eq_getD_getElem?]at e3
    have e4:a.tmps.getD _ undef=u4:=e4
    rw[Array.getD_eq_getD_getElem?]at e4
    simp[results,hf,asAddr,e1,e2,e3,e4,p2]
   ·have e1:a.tmps.getD _ undef=u1:=e1
    rw[Array.getD_eq_getD_getElem?]at e1
    obtain⟨_,p2,e2⟩:=e2
    rw[Array.getD_eq_getD_getElem?]at p2
    have e3:a.tmps.getD _ undef=u3:=e3
    rw[Array.getD_eq_getD_getElem?]at e3
    obtain⟨_,p4,e4⟩:=e4
    rw[Array.getD_eq_getD_getElem?]at p4
    simp[results,hf,asAddr,e1,e2,e3,e4,p2,p4]
   ·have e1:a.tmps.getD _ undef=u1:=e1
    rw[Array.getD_eq_getD_getElem?]at e1
    obtain⟨_,p2,e2⟩:=e2
    rw[Array.getD_eq_getD_getElem?]at p2
    obtain⟨_,p3,e3⟩:=e3
    rw[Array.getD_eq_getD_getElem?]at p3
    have e4:a.tmps.getD _ undef=u4:=e4
    rw[Array.getD_eq_getD_getElem?]at e4
    simp[results,hf,asAddr,e1,e2,e3,e4,p2,p3]
   ·have e1:a.tmps.getD _ undef=u1:=e1
    rw[Array.getD_eq_getD_getElem?]at e1
    obtain⟨_,p2,e2⟩:=e2
    rw[Array.getD_eq_getD_getElem?]at p2
    obtain⟨_,p3,e3⟩:=e3
    rw[Array.getD_eq_getD_getElem?]at p3
    obtain⟨_,p4,e4⟩:=e4
    rw[Array.getD_eq_getD_getElem?]at p4
    simp[results,hf,asAddr,e1,e2,e3,e4,p2,p3,p4]
   ·obtain⟨_,p1,e1⟩:=e1
    rw[Array.getD_eq_getD_getElem?]at p1
    have e2:a.tmps.getD _ undef=u2:=e2
    rw[Array.getD_eq_getD_getElem?]at e2
    have e3:a.tmps.getD _ undef=u3:=e3
    rw[Array.getD_eq_getD_getElem?]at e3
    have e4:a.tmps.getD _ undef=u4:=e4
    rw[Array.getD_eq_getD_getElem?]at e4
    simp[results,hf,asAddr,e1,e2,e3,e4,p1]
   ·obtain⟨_,p1,e1⟩:=e1
    rw[Array.getD_eq_getD_getElem?]at p1
    have e2:a.tmps.getD _ undef=u2:=e2
    rw[Array.getD_eq_getD_getElem?]at e2
    have e3:a.tmps.getD _ undef=u3:=e3
    rw[Array.getD_eq_getD_getElem?]at e3
    obtain⟨_,p4,e4⟩:=e4
    rw[Array.getD_eq_getD_getElem?]at p4
    simp[results,hf,asAddr,e1,e2,e3,e4,p1,p4]
   ·obtain⟨_,p1,e1⟩:=e1
    rw[Array.getD_eq_getD_getElem?]at p1
    have e2:a.tmps.getD _ undef=u2:=e2
    rw[Array.getD_eq_getD_getElem?]at e2
    obtain⟨_,p3,e3⟩:=e3
    rw[Array.getD_eq_getD_getElem?]at p3
    have e4:a.tmps.getD _ undef=u4:=e4
    rw[Array.getD_eq_getD_getElem?]at e4
    simp[results,hf,asAddr,e1,e2,e3,e4,p1,p3]
   ·obtain⟨_,p1,e1⟩:=e1
    rw[Array.getD_eq_getD_getElem?]at p1
    have e2:a.tmps.getD _ undef=u2:=e2
    rw[Array.getD_eq_getD_getElem?]at e2
    obtain⟨_,p3,e3⟩:=e3
    rw[Array.getD_eq_getD_getElem?]at p3
    obtain⟨_,p4,e4⟩:=e4
    rw[Array.getD_eq_getD_getElem?]at p4
    simp[results,hf,asAddr,e1,e2,e3,e4,p1,p3,p4]
   ·obtain⟨_,p1,e1⟩:=e1
    rw[Array.getD_eq_getD_getElem?]at p1
    obtain⟨_,p2,e2⟩:=e2
    rw[Array.getD_eq_getD_getElem?]at p2
    have e3:a.tmps.getD _ undef=u3:=e3
    rw[Array.getD_eq_getD_getElem?]at e3
    have e4:a.tmps.getD _ undef=u4:=e4
    rw[Array.getD_eq_getD_getElem?]at e4
    simp[results,hf,asAddr,e1,e2,e3,e4,p1,p2]
   ·obtain⟨_,p1,e1⟩:=e1
    rw[Array.getD_eq_getD_getElem?]at p1
    obtain⟨_,p2,e2⟩:=e2
    rw[Array.getD_eq_getD_getElem?]at p2
    have e3:a.tmps.getD _ undef=u3:=e3
    rw[Array.getD_eq_getD_getElem?]at e3
    obtain⟨_,p4,e4⟩:=e4
    rw[Array.getD_eq_getD_getElem?]at p4
    simp[results,hf,asAddr,e1,e2,e3,e4,p1,p2,p4]
   ·obtain⟨_,p1,e1⟩:=e1
    rw[Array.getD_eq_getD_getElem?]at p1
    obtain⟨_,p2,e2⟩:=e2
    rw[Array.getD_eq_getD_getElem?]at p2
    obtain⟨_,p3,e3⟩:=e3
    rw[Array.getD_eq_getD_getElem?]at p3
    have e4:a.tmps.getD _ undef=u4:=e4
    rw[Array.getD_eq_getD_getElem?]at e4
    simp[results,hf,asAddr,e1,e2,e3,e4,p1,p2,p3]
   ·obtain⟨_,p1,e1⟩:=e1
    rw[Array.getD_eq_getD_getElem?]at p1
    obtain⟨_,p2,e2⟩:=e2
    rw[Array.getD_eq_getD_getElem?]at p2
    obtain⟨_,p3,e3⟩:=e3
    rw[Array.getD_eq_getD_getElem?]at p3
    obtain⟨_,p4,e4⟩:=e4
    rw[Array.getD_eq_getD_getElem?]at p4
    simp[results,hf,asAddr,e1,e2,e3,e4,p1,p2,p3,p4]
 |_::_::_::_::_::_,_,_,hl=>simp at hl
end
end
section
variable{ty:Tag→Nat}
theorem RI.ra{w:World}{env:Env}{v:V}{u:Value}{fp:List Nat}(h:RI w v u fp):RA w [] env v u:=by
 have hno: ∀b, ¬Ow [] env b:=by rintro b ⟨n,o,hl,_⟩;simp[look]at hl
 cases v with
 |lit x=>exact⟨h.1,h.2.1⟩
 |sl t l=>exact⟨fp,h,fun b _=>hno b⟩
 |_=>exact h.elim
theorem HB.rs1{w:World}{env:Env}{x:S1}{u:Value}(h:HB w x u):fG w [] env x u:=by
 cases x with
 |a v=>obtain⟨fp,h⟩:=h;exact h.ra
 |agg l=>
  obtain⟨cs,fp,rfl,h⟩:=h
  exact⟨cs,rfl,h.DG fun b _=>by rintro⟨n,o,hl,_⟩;simp[look]at hl⟩
theorem rS: ∀{as:List S1} {i s:Nat} {v:SV},look (enter i as) s=some v→ ∃x,v= .one x∧i≤s∧as[s-i]? =some x
 |x::r,i,s,v,h=>by
  by_cases hs:s=i
  ·subst hs
   rw[enter,look_eq]at h
   simp only[oI]at h
   exact⟨x,h.symm,Nat.le_refl _,by simp⟩
  ·rw[enter,bg hs]at h
   obtain⟨y,h1,h2,h3⟩:=rS h
   refine⟨y,h1,by omega,?_⟩
   rw[show s-i=(s-(i+1))+1 by omega,List.getElem?_cons_succ];exact h3
theorem entry{as:List S1}{us:List Value}{w:World}{n:Nat}(hA:Ge w)(ha:bN (HB w) as us)(hn:as.length≤n):
  Inv ty ⟨w,[],fun _=>⟨.tuple #[],[]⟩⟩ ⟨n,enter 0 as,[]⟩ {tmps:=us.toArray++Array.replicate (n-us.toArray.size) undef,defers:= []} w:=by
 have hl:=ha.len
 refine⟨by simp;omega,rfl,Kept.refl _ _,⟨hA,fun _ _ h=>by cases h⟩,fun _=>⟨.tuple #[],[]⟩,⟨fun n o h=>by simp[look]at h,fun n m o o' _ h=>by simp[look]at h,fun s v hv=> ?_,fun n o h=>by simp[look]at h,fun n _=>⟨rfl,fun b hb=>hb⟩⟩⟩
 obtain⟨x,rfl,_,hx⟩:=rS hv
 rw[Nat.sub_zero]at hx
 obtain⟨u,hu,hr⟩:=ha.at hx
 have hs:s<us.length:=(List.getElem?_eq_some_iff.1 hu).1
 have:(us.toArray++Array.replicate (n-us.toArray.size) undef).getD s undef=u:=by
  rw[Array.getD_eq_getD_getElem?,Array.getElem?_append_left (by simpa using hs)]
  simp[hu]
 show fG w [] _ x _
 rw[this]
 exact hr.rs1
theorem j7{P:Program}{Γ:Nat→TK}(X:Ctx P ty Γ){f:FuncId}{fn:Func}{c:Code}{s8:List ResultVar}{n:Nat}{as rs:List S1}
  (Eg: ∀(args:Array Value) (w:World),(callFunc f args).run P w= .ok (.enter f args) w)(hf:P.funcs[f]? =some fn)(hb:fn.body=some c)(hr:fn.results=s8.toArray)(hl:s8.length≤4)(hn:fn.ntmps=n)(hlen:as.length≤n)
  (h: ∀zb,W P ty zb c (Fin Γ s8 rs) ⟨n,enter 0 as,[]⟩):Sound ty P f as rs:=by
 refine⟨Eg,fun w us hA ha=>calls_of_wp hf hb ?_⟩
 rw[hn]
 refine wp_mono (h _ _ w (entry hA ha hlen)) ?_
 rintro e a w' ⟨st,iv,he,vc,iE,hv⟩
 have key:a.defers= []∧ ∃v,(results fn a.tmps).run P w'= .ok v w'∧Ret ty w rs (.returned v) w':=by
  obtain⟨env,g⟩:=iv.good
  unfold ends at iE
  split at iE
  ·rename_i xs hx
   split at iE
   ·rename_i nM k hm
    split at iE
    ·rename_i hnd
     simp only[oI]at iE
     subst iE
     obtain⟨vs,h1,h2,h3⟩:=Ef X.kind g hr hx hl
     obtain⟨fp,q1,q2,_⟩:=JU rfl g h1 hm (j6 hnd) hv.out
     have YS:Below w.heap.size w w':=⟨iv.kept.os,iv.kept.tape,iv.kept.output,iv.kept.size,fun b hb=>iv.kept.block b hb (by simp)⟩
     refine⟨iv.defers,_,h3,_,fp,rfl,YS,q2,?_⟩
     match rs,vs,q1 with
     | [],[],q1=>exact⟨[],rfl,q1⟩
     | [r],[u],⟨f1,f2,p1,p2,e⟩=>
       have p2:f2= []:=p2
       rw[p2,List.append_nil]at e
       rw[e];exact p1
     |r1::r2::r,u1::u2::u,q1=>exact⟨_,rfl,q1⟩
     | [],_::_,q1=>exact q1.elim
     |_::_,[],q1=>exact q1.elim
     | [r],u1::u2::u,⟨_,_,_,p,_⟩=>exact p.elim
     |r1::r2::r,[u],⟨_,_,_,p,_⟩=>exact p.elim
    ·cases iE
   ·cases iE
  ·cases iE
 rcases he with rfl|rfl<;>exact key
theorem ay{P:Program}{Γ:Nat→TK}(X:Ctx P ty Γ){f:FuncId}{fn:Func}{c:Code}{s8:List ResultVar}{n:Nat}{xs rs:List S1}
  (Eg: ∀(args:Array Value) (w:World),(callFunc f args).run P w= .ok (.enter f args) w)(hf:P.funcs[f]? =some fn)(hn:fn.ntmps=n)(hb:fn.body=some c)(hr:fn.results=s8.toArray)
  (h: ∀zb,W P ty zb c (Fin Γ s8 rs) ⟨n,enter 0 xs,[]⟩)(hl:s8.length≤4:=by decide)(hlen:xs.length≤n:=by simp):Sound ty P f xs rs:=j7 X Eg hf hb hr hl hn hlen h
def jy(m:Nat):List V→List V×Hp
 | []=>([],[])
 | .sl t l::r=>match jy (m+1) r with| (vs,os)=>(.own m::vs,(m, .arr t l)::os)
 |v::r=>match jy (m+1) r with| (vs,os)=>(v::vs,os)
def jk(m:Nat):List S1→List S1×Hp
 | []=>([],[])
 | .a v::r=>match jy m [v],jk (m+1) r with
   | ([v'],os),(as,os')=>(.a v'::as,os++os')
   |_,(as,os')=>(.a .any::as,os')
 | .agg l::r=>match jy m l,jk (m+l.length) r with
   | (l',os),(as,os')=>(.agg l'::as,os++os')
def eF(st:St)(m:Nat):List V→List V→Option (List Prop)
 | [],[]=>some []
 | .sl _ _::r, .sl t' l'::s=>match look st.hp m,eF st (m+1) r s with
   |some (.arr t l2),some vc=>match gL t' t l2 with|some l2=>some ((l2=l')::vc)|none=>none
   |_,_=>none
 | .lit v::r, .lit v'::s=>match eF st (m+1) r s with|some vc=>some ((v=v')::vc)|none=>none
 |_,_=>none
def Eh(st:St)(m:Nat):List S1→List S1→Option (List Prop)
 | [],[]=>some []
 | .a v::r, .a v'::s=>match eF st m [v] [v'],Eh st (m+1) r s with|some x,some y=>some (x++y)|_,_=>none
 | .agg l::r, .agg l'::s=>match eF st m l l',Eh st (m+l.length) r s with|some x,some y=>some (x++y)|_,_=>none
 |_,_=>none
def Se(Γ:Nat→TK)(st:St)(rv:ResultVar)(as as':List S1)(v:Value):Option (List Prop):=
 match PI Γ st rv,Eh st 1000 as as' with
 |some (.a (.lit v')),some vc=>some ((v'=v)::vc)
 |_,_=>none
def Zy(Γ:Nat→TK)(rv:ResultVar)(as as':List S1)(v:Value):Post:=fun e st=>(e= .ret∨e= .normal)∧ ∃vc,Se Γ st rv as as' v=some vc∧lB vc
theorem Zy.ret{Γ:Nat→TK}{rv:ResultVar}{as as':List S1}{v:Value}{st:St}{vc:List Prop}(h:Se Γ st rv as as' v=some vc)(hv:lB vc):Zy Γ rv as as' v .ret st:=⟨.inl rfl,vc,h,hv⟩
def JV(m:Nat):List Value→List (List Nat)→List (Nat×CO)
 |u::us,f::fs=>(m,⟨u,f⟩)::JV (m+1) us fs
 |_,_=> []
theorem Ei: ∀{us:List Value} {fs:List (List Nat)} {m i:Nat} {u:Value} {f:List Nat},us[i]? =some u→fs[i]? =some f→look (JV m us fs) (m+i)=some ⟨u,f⟩
 |u::us,f::fs,m,0,u',f',h1,h2=>by
  simp at h1 h2
  subst h1;subst h2
  rw[JV];exact look_eq
 |u::us,f::fs,m,i+1,u',f',h1,h2=>by
  rw[JV,bg (by omega),show m+(i+1)=(m+1)+i by omega]
  exact Ei (by simpa using h1) (by simpa using h2)
 | [],_,_,_,_,_,h1,_=>by simp at h1
 |_::_,[],_,_,_,_,_,h2=>by simp at h2
theorem Ej{w:World}: ∀{vs:List V} {us:List Value} {bA:List (List Nat)} (m:Nat),RF w vs us bA→(∀n o,look (jy m vs).2 n=some o→ ∃t l u f,o= .arr t l∧m≤n∧n<m+vs.length∧us[n-m]? =some u∧bA[n-m]? =some f∧vs[n-m]? =some (.sl t l)∧Sl (kk t) (rd t) w u l f)∧
  ∀hp env,(∀n o,look (jy m vs).2 n=some o→look hp n=some o)→(∀i u f,us[i]? =some u→bA[i]? =some f→env (m+i)=⟨u,f⟩)→bN (RA w hp env) (jy m vs).1 us
 | [],[],_,m,h=>⟨fun n o hl=>by simp[jy,look]at hl,fun _ _ _ _=>trivial⟩
 |v::vs,u::us,bA,m,⟨f,fr,h1,h2,e⟩=>by
  subst e
  obtain⟨q1,q2⟩:=Ej (m+1) h2
  have up: ∀n o,(∃t l u' f',o=Obj.arr t l∧m+1≤n∧n<m+1+vs.length∧us[n-(m+1)]? =some u'∧fr[n-(m+1)]? =some f'∧vs[n-(m+1)]? =some (.sl t l)∧Sl (kk t) (rd t) w u' l f')→
    ∃t l u' f',o=Obj.arr t l∧m≤n∧n<m+(v::vs).length∧(u::us)[n-m]? =some u'∧(f::fr)[n-m]? =some f'∧(v::vs)[n-m]? =some (.sl t l)∧Sl (kk t) (rd t) w u' l f':=by
   rintro n o ⟨t,l,u',f',k1,k2,k3,k4,k5,k6,k7⟩
   have e:n-m=(n-(m+1))+1:=by omega
   exact⟨t,l,u',f',k1,by omega,by simp;omega,by rw[e];simpa using k4,by rw[e];simpa using k5,by rw[e];simpa using k6,k7⟩
  cases v with
  |sl t l=>
   refine⟨fun n o hl=> ?_,fun hp env hh he=>⟨?_,q2 hp env (fun n o hl=>hh n o ?_) (fun i u' f' hu hf=> ?_)⟩⟩
   ·by_cases hn:n=m
    ·subst hn
     simp only[jy]at hl
     rw[look_eq]at hl
     simp only[oI]at hl
     exact⟨t,l,u,f,hl.symm,Nat.le_refl _,by simp,by simp,by simp,by simp,h1⟩
    ·simp only[jy]at hl
     rw[bg hn]at hl
     exact up n o (q1 n o hl)
   ·refine⟨⟨t,l,hh m _ ?_⟩,?_⟩
    ·simp only[jy];exact look_eq
    ·have:=he 0 u f (by simp) (by simp)
     rw[Nat.add_zero]at this
     rw[this]
   ·have hge:=(q1 n o hl)
    obtain⟨_,_,_,_,_,hge,_⟩:=hge
    simp only[jy]
    rw[bg (by omega)];exact hl
   ·have:=he (i+1) u' f' (by simpa using hu) (by simpa using hf)
    rwa [show m+(i+1)=m+1+i by omega]at this
  |lit x=>
   refine⟨fun n o hl=>up n o (q1 n o hl),fun hp env hh he=>⟨⟨h1.1,h1.2.1⟩,q2 hp env hh (fun i u' f' hu hf=> ?_)⟩⟩
   have:=he (i+1) u' f' (by simpa using hu) (by simpa using hf)
   rwa [show m+(i+1)=m+1+i by omega]at this
  |_=>exact h1.elim
 | [],_::_,_,_,h=>h.elim
 |_::_,[],_,_,h=>h.elim
theorem RF.len{w:World}: ∀{vs:List V} {us:List Value} {bA:List (List Nat)},RF w vs us bA→us.length=vs.length∧bA.length=vs.length
 | [],[],_,h=>by rw[show _=_ from h];exact⟨rfl,rfl⟩
 |_::_,_::_,_,⟨_,_,_,h,e⟩=>by obtain⟨h1,h2⟩:=RF.len h;rw[e];exact⟨by simp[h1],by simp[h2]⟩
 | [],_::_,_,h=>h.elim
 |_::_,[],_,h=>h.elim
theorem AJ: ∀{vs:List V} (m:Nat),(jy m vs).1.length=vs.length
 | [],_=>rfl
 |v::r,m=>by
  have:=AJ (vs:=r) (m+1)
  cases v<;>simp[jy,this]
theorem Ek{w:World}: ∀{as:List S1} {us:List Value} {bA:List (List Nat)} (m:Nat),qu w as us bA→
  (∀n o,look (jk m as).2 n=some o→ ∃t l u f,o= .arr t l∧m≤n∧(us.flatMap fun u=>u.cells.toList)[n-m]? =some u∧bA[n-m]? =some f∧Sl (kk t) (rd t) w u l f)∧
  ∀hp env,(∀n o,look (jk m as).2 n=some o→look hp n=some o)→(∀i u f,(us.flatMap fun u=>u.cells.toList)[i]? =some u→bA[i]? =some f→env (m+i)=⟨u,f⟩)→bN (fG w hp env) (jk m as).1 us
 | [],[],bA,m,h=>⟨fun n o hl=>by simp[jk,look]at hl,fun _ _ _ _=>trivial⟩
 | .a v::as,u::us,bA,m,⟨f,g,h1,h2,e⟩=>by
   subst e
   have hc:u.cells.toList= [u]:=by rw[h1.cells]
   obtain⟨p1,p2⟩:=Ej m (show RF w [v] [u] [f]from ⟨f,[],h1,rfl,rfl⟩)
   obtain⟨q1,q2⟩:=Ek (m+1) h2
   have nv:=AJ (vs:= [v]) m
   rw[List.flatMap_cons,hc]
   simp only[jk]
   generalize jy m [v]=x at p1 p2 nv ⊢
   obtain⟨xs,os⟩:=x
   match xs,nv with
   | [v'],_=>
     have up: ∀n o,look (jk (m+1) as).2 n=some o→look os n=none:=by
      intro n o hl
      cases hq:look os n with
      |none=>rfl
      |some o'=>
       obtain⟨_,_,_,_,_,k1,_⟩:=q1 n o hl
       obtain⟨_,_,_,_,_,_,k2,_⟩:=p1 n o' hq
       simp at k2;omega
     refine⟨fun n o hl=> ?_,fun hp env hh he=>⟨?_,q2 hp env (fun n o hl=>hh n o (by
       show look (os++(jk (m+1) as).2) n=some o
       rw[bq (up n o hl)];exact hl)) fun i u' f' hu hf=> ?_⟩⟩
     ·have hl:look (os++(jk (m+1) as).2) n=some o:=hl
      cases hq:look os n with
      |some o'=>
       rw[cg hq]at hl
       simp only[oI]at hl
       subst hl
       obtain⟨t,l,u',f',k1,k2,k3,k4,k5,k6,k7⟩:=p1 n _ hq
       have h0:n-m=0:=by simp at k3;omega
       rw[h0]at k4 k5 ⊢
       simp at k4 k5
       subst k4;subst k5
       exact⟨t,l,u,f,k1,k2,by simp,by simp,k7⟩
      |none=>
       rw[bq hq]at hl
       obtain⟨t,l,u',f',k1,k2,k3,k4,k5⟩:=q1 n o hl
       have e:n-m=(n-(m+1))+1:=by omega
       exact⟨t,l,u',f',k1,by omega,by rw[e];simpa using k3,by rw[e];simpa using k4,k5⟩
     ·have:=p2 hp env (fun n o hl=>hh n o (cg hl)) (fun i u' f' hu hf=>by
       match i with
       |0=>exact he 0 u' f' (by simpa using hu) (by simpa using hf)
       |i+1=>simp at hu)
      exact this.1
     ·have:=he (i+1) u' f' (by simpa using hu) (by simpa using hf)
      rwa [show m+(i+1)=m+1+i by omega]at this
 | .agg l::as,u::us,bA,m,⟨cs,f,g,e1,h1,h2,e⟩=>by
   subst e;subst e1
   have hc:(Value.agg cs.toArray).cells.toList=cs:=by simp[Value.cells]
   obtain⟨p1,p2⟩:=Ej m h1
   obtain⟨q1,q2⟩:=Ek (m+l.length) h2
   obtain⟨n1,n2⟩:=RF.len h1
   rw[List.flatMap_cons,hc]
   have up: ∀n o,look (jk (m+l.length) as).2 n=some o→look (jy m l).2 n=none:=by
    intro n o hl
    cases hq:look (jy m l).2 n with
    |none=>rfl
    |some o'=>
     obtain⟨_,_,_,_,_,k1,_⟩:=q1 n o hl
     obtain⟨_,_,_,_,_,_,k2,_⟩:=p1 n o' hq
     omega
   refine⟨fun n o hl=> ?_,fun hp env hh he=>⟨⟨cs,rfl,?_⟩,q2 hp env (fun n o hl=>hh n o (by
     show look ((jy m l).2++(jk (m+l.length) as).2) n=some o
     rw[bq (up n o hl)];exact hl)) fun i u' f' hu hf=> ?_⟩⟩
   ·have hl:look ((jy m l).2++(jk (m+l.length) as).2) n=some o:=hl
    cases hq:look (jy m l).2 n with
    |some o'=>
     rw[cg hq]at hl
     simp only[oI]at hl
     subst hl
     obtain⟨t,l',u',f',k1,k2,k3,k4,k5,k6,k7⟩:=p1 n _ hq
     exact⟨t,l',u',f',k1,k2,by rw[List.getElem?_append_left (by omega)];exact k4,by rw[List.getElem?_append_left (by omega)];exact k5,k7⟩
    |none=>
     rw[bq hq]at hl
     obtain⟨t,l',u',f',k1,k2,k3,k4,k5⟩:=q1 n o hl
     have e:n-m-l.length=n-(m+l.length):=by omega
     exact⟨t,l',u',f',k1,by omega,by rw[List.getElem?_append_right (by omega),n1,e];exact k3,by rw[List.getElem?_append_right (by omega),n2,e];exact k4,k5⟩
   ·exact p2 hp env (fun n o hl=>hh n o (cg hl)) (fun i u' f' hu hf=>he i u' f'
     (by rw[List.getElem?_append_left (List.getElem?_eq_some_iff.1 hu).1];exact hu)
     (by rw[List.getElem?_append_left (List.getElem?_eq_some_iff.1 hf).1];exact hf))
   ·have:=he (l.length+i) u' f' (by rw[List.getElem?_append_right (by omega),n1,show l.length+i-l.length=i by omega];exact hu)
     (by rw[List.getElem?_append_right (by omega),n2,show l.length+i-l.length=i by omega];exact hf)
    rwa [show m+(l.length+i)=m+l.length+i by omega]at this
 | [],_::_,_,_,h=>h.elim
 | .a _::_,[],_,_,h=>h.elim
 | .agg _::_,[],_,_,h=>h.elim
theorem wh.nodup: ∀{fs gs:List (List Nat)},wh fs gs→gs.flatten.Nodup→(∀f,f∈fs→f.Nodup)→fs.flatten.Nodup∧ ∀b,b∈fs.flatten→b∈gs.flatten
 | [],[],_,_,_=>⟨by simp,by simp⟩
 |f::fs,g::gs,⟨h1,h2⟩,hn,hf=>by
  rw[List.flatten_cons]at hn
  obtain⟨_,n2,n3⟩:=List.nodup_append.1 hn
  obtain⟨q1,q2⟩:=wh.nodup h2 n2 (fun f hm=>hf f (List.mem_cons_of_mem _ hm))
  refine⟨?_,fun b hb=> ?_⟩
  ·rw[List.flatten_cons]
   exact List.nodup_append.2 ⟨hf f (by simp),q1,fun b hb c hc e=>n3 b (h1 b hb) c (q2 c hc) e⟩
  ·rw[List.flatten_cons]at hb ⊢
   rcases List.mem_append.1 hb with hb|hb
   ·exact List.mem_append_left _ (h1 b hb)
   ·exact List.mem_append_right _ (q2 b hb)
 | [],_::_,h,_,_=>h.elim
 |_::_,[],h,_,_=>h.elim
theorem wh.app: ∀{a b c d:List (List Nat)},wh a b→wh c d→wh (a++c) (b++d)
 | [],[],_,_,_,h=>h
 |_::_,_::_,_,_,⟨h1,h2⟩,h=>⟨h1,wh.app h2 h⟩
 | [],_::_,_,_,h,_=>h.elim
 |_::_,[],_,_,h,_=>h.elim
section
variable{zb:cK}{st:St}{tmps:Array Value}{w0 w:World}{env:Env}
theorem CT(g:Good ty zb st tmps w env): ∀{vs vs':List V} {us:List Value} {bA:List (List Nat)} {vc:List Prop} (m:Nat),iA m=true→eF st m vs vs'=some vc→(∀q,q∈vc→q)→RF w0 vs us bA→
  (∀i u f,us[i]? =some u→bA[i]? =some f→zb.pv (m+i)=⟨u,f⟩)→ ∃kH,RF w vs' us kH∧wh kH bA∧ ∀f,f∈kH→Own 0 w f
 | [],[],[],bA,vc,m,_,_,_,h,_=>⟨[],rfl,by rw[show bA= []from h];trivial,by simp⟩
 | .sl t l::r, .sl t' l'::s,u::us,bA,vc,m,hm,hh,hv,⟨f,fr,h1,h2,e⟩,hz=>by
   subst e
   simp only[eF]at hh
   split at hh
   ·rename_i t2 l2 vcs hl hr
    split at hh
    ·rename_i l3 hc
     simp only[oI]at hh
     subst hh
     obtain⟨e,rfl⟩:=dH hc
     subst e
     have e2:l2=l':=hv _ (by simp)
     subst e2
     obtain⟨kH,q1,q2,q3⟩:=CT g (m+1) (by unfold iA at hm ⊢;exact Nat.ble_eq_true_of_le (Nat.le_succ_of_le (Nat.le_of_ble_eq_true hm))) hr (fun q hq=>hv q (List.mem_cons_of_mem _ hq)) h2 (fun i u' f' hu hf=>by
      have:=hz (i+1) u' f' (by simpa using hu) (by simpa using hf)
      rwa [show m+(i+1)=m+1+i by omega]at this)
     have hp:=hz 0 u f (by simp) (by simp)
     rw[Nat.add_zero]at hp
     obtain⟨k1,k2⟩:=g.pins m hm
     rw[hp]at k1 k2
     have hro:=g.obj m _ hl
     refine⟨(env m).fp::kH,⟨_,_,?_,q1,rfl⟩,⟨k2,q2⟩,?_⟩
     ·have:=RO.sl hro
      rw[k1]at this
      exact this
     ·intro f' hf'
      rcases List.mem_cons.1 hf' with rfl|hf'
      ·exact RO.own hro
      ·exact q3 f' hf'
    ·cases hh
   ·cases hh
 | .lit x::r, .lit x'::s,u::us,bA,vc,m,hm,hh,hv,⟨f,fr,h1,h2,e⟩,hz=>by
   subst e
   simp only[eF]at hh
   split at hh
   ·rename_i vcs hr
    simp only[oI]at hh
    subst hh
    have e2:x=x':=hv _ (by simp)
    subst e2
    obtain⟨kH,q1,q2,q3⟩:=CT g (m+1) (by unfold iA at hm ⊢;exact Nat.ble_eq_true_of_le (Nat.le_succ_of_le (Nat.le_of_ble_eq_true hm))) hr (fun q hq=>hv q (List.mem_cons_of_mem _ hq)) h2 (fun i u' f' hu hf=>by
     have:=hz (i+1) u' f' (by simpa using hu) (by simpa using hf)
     rwa [show m+(i+1)=m+1+i by omega]at this)
    refine⟨[]::kH,⟨_,_,⟨h1.1,h1.2.1,rfl⟩,q1,rfl⟩,⟨by simp,q2⟩,?_⟩
    intro f' hf'
    rcases List.mem_cons.1 hf' with rfl|hf'
    ·exact Own.nil _ _
    ·exact q3 f' hf'
   ·cases hh
 | [],_::_,_,_,_,_,_,hh,_,_,_=>by simp[eF]at hh
 | .sl _ _::_,[],_,_,_,_,_,hh,_,_,_=>by simp[eF]at hh
 | .sl _ _::_, .lit _::_,_,_,_,_,_,hh,_,_,_=>by simp[eF]at hh
 | .sl _ _::_, .any::_,_,_,_,_,_,hh,_,_,_=>by simp[eF]at hh
 | .sl _ _::_, .own _::_,_,_,_,_,_,hh,_,_,_=>by simp[eF]at hh
 | .sl _ _::_, .ptr _ _::_,_,_,_,_,_,hh,_,_,_=>by simp[eF]at hh
 | .sl _ _::_, .mL _ _ _::_,_,_,_,_,_,hh,_,_,_=>by simp[eF]at hh
 | .sl _ _::_, .ip _ _ _::_,_,_,_,_,_,hh,_,_,_=>by simp[eF]at hh
 | .sl _ _::_, .vw _ _ _ _::_,_,_,_,_,_,hh,_,_,_=>by simp[eF]at hh
 | .sl _ _::_, .B9 _ _ _ _ _::_,_,_,_,_,_,hh,_,_,_=>by simp[eF]at hh
 | .sl _ _::_, .Ca _ _ _::_,_,_,_,_,_,hh,_,_,_=>by simp[eF]at hh
 | .sl _ _::_, .mix _ _ _ _::_,_,_,_,_,_,hh,_,_,_=>by simp[eF]at hh
 | .sl _ _::_, .we _::_,_,_,_,_,_,hh,_,_,_=>by simp[eF]at hh
 | .sl _ _::_, .As _ _::_,_,_,_,_,_,hh,_,_,_=>by simp[eF]at hh
 | .sl _ _::_, .rF _::_,_,_,_,_,_,hh,_,_,_=>by simp[eF]at hh
 | .sl _ _::_, .raw _::_,_,_,_,_,_,hh,_,_,_=>by simp[eF]at hh
 | .sl _ _::_, .eX _ _ _::_,_,_,_,_,_,hh,_,_,_=>by simp[eF]at hh
 | .lit _::_,[],_,_,_,_,_,hh,_,_,_=>by simp[eF]at hh
 | .lit _::_, .sl _ _::_,_,_,_,_,_,hh,_,_,_=>by simp[eF]at hh
 | .lit _::_, .any::_,_,_,_,_,_,hh,_,_,_=>by simp[eF]at hh
 | .lit _::_, .own _::_,_,_,_,_,_,hh,_,_,_=>by simp[eF]at hh
 | .lit _::_, .ptr _ _::_,_,_,_,_,_,hh,_,_,_=>by simp[eF]at hh
 | .lit _::_, .mL _ _ _::_,_,_,_,_,_,hh,_,_,_=>by simp[eF]at hh
 | .lit _::_, .ip _ _ _::_,_,_,_,_,_,hh,_,_,_=>by simp[eF]at hh
 | .lit _::_, .vw _ _ _ _::_,_,_,_,_,_,hh,_,_,_=>by simp[eF]at hh
 | .lit _::_, .B9 _ _ _ _ _::_,_,_,_,_,_,hh,_,_,_=>by simp[eF]at hh
 | .lit _::_, .Ca _ _ _::_,_,_,_,_,_,hh,_,_,_=>by simp[eF]at hh
 | .lit _::_, .mix _ _ _ _::_,_,_,_,_,_,hh,_,_,_=>by simp[eF]at hh
 | .lit _::_, .we _::_,_,_,_,_,_,hh,_,_,_=>by simp[eF]at hh
 | .lit _::_, .As _ _::_,_,_,_,_,_,hh,_,_,_=>by simp[eF]at hh
 | .lit _::_, .rF _::_,_,_,_,_,_,hh,_,_,_=>by simp[eF]at hh
 | .lit _::_, .raw _::_,_,_,_,_,_,hh,_,_,_=>by simp[eF]at hh
 | .lit _::_, .eX _ _ _::_,_,_,_,_,_,hh,_,_,_=>by simp[eF]at hh
 | .any::_,_,_,_,_,_,_,hh,_,_,_=>by simp[eF]at hh
 | .own _::_,_,_,_,_,_,_,hh,_,_,_=>by simp[eF]at hh
 | .ptr _ _::_,_,_,_,_,_,_,hh,_,_,_=>by simp[eF]at hh
 | .mL _ _ _::_,_,_,_,_,_,_,hh,_,_,_=>by simp[eF]at hh
 | .ip _ _ _::_,_,_,_,_,_,_,hh,_,_,_=>by simp[eF]at hh
 | .vw _ _ _ _::_,_,_,_,_,_,_,hh,_,_,_=>by simp[eF]at hh
 | .B9 _ _ _ _ _::_,_,_,_,_,_,_,hh,_,_,_=>by simp[eF]at hh
 | .Ca _ _ _::_,_,_,_,_,_,_,hh,_,_,_=>by simp[eF]at hh
 | .mix _ _ _ _::_,_,_,_,_,_,_,hh,_,_,_=>by simp[eF]at hh
 | .we _::_,_,_,_,_,_,_,hh,_,_,_=>by simp[eF]at hh
 | .As _ _::_,_,_,_,_,_,_,hh,_,_,_=>by simp[eF]at hh
 | .rF _::_,_,_,_,_,_,_,hh,_,_,_=>by simp[eF]at hh
 | .raw _::_,_,_,_,_,_,_,hh,_,_,_=>by simp[eF]at hh
 | .eX _ _ _::_,_,_,_,_,_,_,hh,_,_,_=>by simp[eF]at hh
 |_::_,_,[],_,_,_,_,_,_,h,_=>h.elim
 | [],[],_::_,_,_,_,_,_,_,h,_=>h.elim
theorem RF.one{w:World}{v:V}{u:Value}{bA:List (List Nat)}(h:RF w [v] [u] bA): ∃f,RI w v u f∧bA= [f]:=by
 obtain⟨f,g,h1,h2,h3⟩:=h
 exact⟨f,h1,by rw[h3,show g= []from h2]⟩
theorem HT(g:Good ty zb st tmps w env): ∀{as as':List S1} {us:List Value} {bA:List (List Nat)} {vc:List Prop} (m:Nat),iA m=true→Eh st m as as'=some vc→(∀q,q∈vc→q)→qu w0 as us bA→
  (∀i u f,(us.flatMap fun u=>u.cells.toList)[i]? =some u→bA[i]? =some f→zb.pv (m+i)=⟨u,f⟩)→ ∃kH,qu w as' us kH∧wh kH bA∧ ∀f,f∈kH→Own 0 w f
 | [],[],[],bA,vc,m,_,_,_,h,_=>⟨[],rfl,by rw[show bA= []from h];trivial,by simp⟩
 | .a v::r, .a v'::s,u::us,bA,vc,m,hm,hh,hv,⟨f,fr,h1,h2,e⟩,hz=>by
   subst e
   have hc:u.cells.toList= [u]:=by rw[h1.cells]
   rw[List.flatMap_cons,hc]at hz
   simp only[Eh]at hh
   split at hh
   ·rename_i x y hx hy
    simp only[oI]at hh
    subst hh
    obtain⟨f1,p1,p2,p3⟩:=CT g m hm hx (fun q hq=>hv q (List.mem_append_left _ hq)) (show RF w0 [v] [u] [f]from ⟨f,[],h1,rfl,rfl⟩) (fun i u' f' hu hf=>by
     match i with
     |0=>exact hz 0 u' f' (by simpa using hu) (by simpa using hf)
     |i+1=>simp at hu)
    obtain⟨f2,rfl⟩: ∃f2,f1= [f2]:=by obtain⟨f2,_,h⟩:=RF.one p1;exact⟨f2,h⟩
    obtain⟨f3,p4,p5⟩:=RF.one p1
    simp only[List.cons.injEq,and_true]at p5
    subst p5
    obtain⟨kH,q1,q2,q3⟩:=HT g (m+1) (by unfold iA at hm ⊢;exact Nat.ble_eq_true_of_le (Nat.le_succ_of_le (Nat.le_of_ble_eq_true hm))) hy (fun q hq=>hv q (List.mem_append_right _ hq)) h2 (fun i u' f' hu hf=>by
     have:=hz (i+1) u' f' (by simpa using hu) (by simpa using hf)
     rwa [show m+(i+1)=m+1+i by omega]at this)
    refine⟨f2::kH,⟨_,_,p4,q1,rfl⟩,⟨p2.1,q2⟩,?_⟩
    intro f' hf'
    rcases List.mem_cons.1 hf' with rfl|hf'
    ·exact p3 _ (by simp)
    ·exact q3 f' hf'
   ·cases hh
 | .agg l::r, .agg l'::s,u::us,bA,vc,m,hm,hh,hv,⟨cs,f,fr,e1,h1,h2,e⟩,hz=>by
   subst e;subst e1
   have hc:(Value.agg cs.toArray).cells.toList=cs:=by simp[Value.cells]
   obtain⟨n1,n2⟩:=RF.len h1
   rw[List.flatMap_cons,hc]at hz
   simp only[Eh]at hh
   split at hh
   ·rename_i x y hx hy
    simp only[oI]at hh
    subst hh
    obtain⟨f1,p1,p2,p3⟩:=CT g m hm hx (fun q hq=>hv q (List.mem_append_left _ hq)) h1 (fun i u' f' hu hf=>hz i u' f'
     (by rw[List.getElem?_append_left (List.getElem?_eq_some_iff.1 hu).1];exact hu)
     (by rw[List.getElem?_append_left (List.getElem?_eq_some_iff.1 hf).1];exact hf))
    obtain⟨kH,q1,q2,q3⟩:=HT g (m+l.length) (by unfold iA at hm ⊢;exact Nat.ble_eq_true_of_le (Nat.le_trans (Nat.le_of_ble_eq_true hm) (Nat.le_add_right _ _))) hy (fun q hq=>hv q (List.mem_append_right _ hq)) h2 (fun i u' f' hu hf=>by
     have:=hz (l.length+i) u' f' (by rw[List.getElem?_append_right (by omega),n1,show l.length+i-l.length=i by omega];exact hu)
      (by rw[List.getElem?_append_right (by omega),n2,show l.length+i-l.length=i by omega];exact hf)
     rwa [show m+(l.length+i)=m+l.length+i by omega]at this)
    refine⟨f1++kH,⟨cs,f1,kH,rfl,p1,q1,rfl⟩,wh.app p2 q2,?_⟩
    intro f' hf'
    rcases List.mem_append.1 hf' with hf'|hf'
    ·exact p3 _ hf'
    ·exact q3 f' hf'
   ·cases hh
 | [],_::_,_,_,_,_,_,hh,_,_,_=>by simp[Eh]at hh
 | .a _::_,[],_,_,_,_,_,hh,_,_,_=>by simp[Eh]at hh
 | .agg _::_,[],_,_,_,_,_,hh,_,_,_=>by simp[Eh]at hh
 | .a _::_, .agg _::_,_,_,_,_,_,hh,_,_,_=>by simp[Eh]at hh
 | .agg _::_, .a _::_,_,_,_,_,_,hh,_,_,_=>by simp[Eh]at hh
 | .a _::_,_,[],_,_,_,_,_,_,h,_=>h.elim
 | .agg _::_,_,[],_,_,_,_,_,_,h,_=>h.elim
 | [],[],_::_,_,_,_,_,_,_,h,_=>h.elim
end
theorem AK: ∀{as:List S1} (m:Nat),(jk m as).1.length=as.length
 | [],_=>rfl
 | .a v::r,m=>by
   have:=AK (as:=r) (m+1)
   have h2:=AJ (vs:= [v]) m
   simp only[jk]
   generalize jy m [v]=x at h2 ⊢
   obtain⟨xs,os⟩:=x
   match xs,h2 with
   | [v'],_=>simp[this]
 | .agg l::r,m=>by
   have:=AK (as:=r) (m+l.length)
   simp[jk,this]
theorem Zz{bA:List (List Nat)}(h:bA.flatten.Nodup){i j:Nat}{f f':List Nat}(hi:bA[i]? =some f)(hj:bA[j]? =some f')(hne:i≠j): ∀b,b∈f→b∉f':=by
 induction bA generalizing i j with
 |nil=>simp at hi
 |cons g r ih=>
  rw[List.flatten_cons]at h
  obtain⟨_,n2,n3⟩:=List.nodup_append.1 h
  intro b hb hb'
  cases i with
  |zero=>
   cases j with
   |zero=>exact hne rfl
   |succ j=>
    simp at hi hj
    subst hi
    exact n3 b hb b (List.mem_flatten.2 ⟨f',List.mem_of_getElem? hj,hb'⟩) rfl
  |succ i=>
   cases j with
   |zero=>
    simp at hi hj
    subst hj
    exact n3 b hb' b (List.mem_flatten.2 ⟨f,List.mem_of_getElem? hi,hb⟩) rfl
   |succ j=>exact ih n2 (by simpa using hi) (by simpa using hj) (by omega) b hb hb'
def HU(us:List Value)(bA:List (List Nat)):Nat→CO:=fun n=>match look (JV 1000 (us.flatMap fun u=>u.cells.toList) bA) n with|some c=>c|none=>⟨.tuple #[],[]⟩
theorem ZA{as:List S1}{us:List Value}{bA:List (List Nat)}{w:World}{n:Nat}(hA:Ge w)(hL: ∀b,Jj b→b∉bA.flatten)(ha:qu w as us bA)(ho:Own 0 w bA.flatten)(hn:as.length≤n):
  Inv ty ⟨w,bA.flatten,HU us bA⟩ ⟨n,enter 0 (jk 1000 as).1,(jk 1000 as).2⟩ {tmps:=us.toArray++Array.replicate (n-us.toArray.size) undef,defers:= []} w:=by
 obtain⟨q1,q2⟩:=Ek 1000 ha
 have hpv: ∀i u f,(us.flatMap fun u=>u.cells.toList)[i]? =some u→bA[i]? =some f→HU us bA (1000+i)=⟨u,f⟩:=by
  intro i u f hu hf
  unfold HU
  rw[Ei hu hf]
 have hall:=q2 (jk 1000 as).2 (HU us bA) (fun _ _ h=>h) hpv
 have hl:=hall.len
 rw[AK]at hl
 have PJ: ∀m o,look (jk 1000 as).2 m=some o→ ∃t l f,o= .arr t l∧1000≤m∧bA[m-1000]? =some f∧(HU us bA m).fp=f∧Sl (kk t) (rd t) w (HU us bA m).v l f:=by
  intro m o hm
  obtain⟨t,l,u,f,k1,k2,k3,k4,k5⟩:=q1 m o hm
  have h:=hpv _ _ _ k3 k4
  rw[show 1000+(m-1000)=m by omega]at h
  refine⟨t,l,f,k1,k2,k4,by rw[h],by rw[h];exact k5⟩
 refine⟨by simp;omega,rfl,Kept.refl _ _,⟨hA,hL⟩,HU us bA,⟨?_,?_,?_,?_,fun n _=>⟨rfl,fun b hb=>hb⟩⟩⟩
 ·intro m o hm
  obtain⟨t,l,f,rfl,k2,k3,k4,k5⟩:=PJ m o hm
  have hp:iA m=true:=by unfold iA;exact Nat.ble_eq_true_of_le k2
  show mZ ty w m t l _
  unfold mZ
  rw[Jr hp]
  refine⟨by rw[k4];exact k5,?_⟩
  rw[k4]
  have hmem:=List.mem_of_getElem? k3
  exact⟨(List.pairwise_flatten.1 ho.nodup).1 f hmem,fun _ _=>Nat.zero_le _,fun b hb=>ho.kind b (List.mem_flatten.2 ⟨f,hmem,hb⟩)⟩
 ·intro m m' o o' hne hm hm' b hb hb'
  obtain⟨t,l,f,_,k2,k3,k4,_⟩:=PJ m o hm
  obtain⟨t',l',f',_,k2',k3',k4',_⟩:=PJ m' o' hm'
  rw[k4]at hb
  rw[k4']at hb'
  exact Zz ho.nodup k3 k3' (by omega) b hb hb'
 ·intro s v hv
  obtain⟨x,rfl,_,hx⟩:=rS hv
  rw[Nat.sub_zero]at hx
  obtain⟨u,hu,hr⟩:=hall.at hx
  have hs:s<us.length:=(List.getElem?_eq_some_iff.1 hu).1
  have:(us.toArray++Array.replicate (n-us.toArray.size) undef).getD s undef=u:=by
   rw[Array.getD_eq_getD_getElem?,Array.getElem?_append_left (by simpa using hs)]
   simp[hu]
  show fG w _ _ x _
  rw[this]
  exact hr
 ·intro m o hm b hb
  obtain⟨t,l,f,_,k2,k3,k4,_⟩:=PJ m o hm
  rw[k4]at hb
  exact Or.inl (List.mem_flatten.2 ⟨f,List.mem_of_getElem? k3,hb⟩)
theorem AG.of{P:Program}{Γ:Nat→TK}(X:Ctx P ty Γ){f:FuncId}{fn:Func}{c:Code}{rv:ResultVar}{n:Nat}{as as':List S1}{v:Value}
  (Eg: ∀(args:Array Value) (w:World),(callFunc f args).run P w= .ok (.enter f args) w)(hf:P.funcs[f]? =some fn)(hb:fn.body=some c)(hr:fn.results= [rv].toArray)(hn:fn.ntmps=n)(hlen:as.length≤n)
  (h: ∀zb,W P ty zb c (Zy Γ rv as as' v) ⟨n,enter 0 (jk 1000 as).1,(jk 1000 as).2⟩):AG P f as as' v:=by
 refine⟨Eg,fun w us bA hA hL ha ho=>calls_of_wp hf hb ?_⟩
 rw[hn]
 refine wp_mono (h _ _ w (ZA (ty:=ty) hA hL ha ho hlen)) ?_
 rintro e a w' ⟨st,iv,he,vc,iE,hv⟩
 have key:a.defers= []∧ ∃v',(results fn a.tmps).run P w'= .ok v' w'∧ ∃kH,(Ending.returned v'= .returned v)∧Kept ⟨w,bA.flatten,fun _=>⟨v,[]⟩⟩ w w'∧qu w' as' us kH∧Own 0 w' kH.flatten∧wh kH bA:=by
  obtain⟨env,g⟩:=iv.good
  unfold Se at iE
  split at iE
  ·rename_i v1 nM h1 h2
   simp only[oI]at iE
   subst iE
   have hx:ur Γ st [rv]=some [.a (.lit v1)]:=by simp[ur,h1]
   obtain⟨vs,k1,k2,k3⟩:=Ef X.kind g hr hx (by simp)
   match vs,k1 with
   | [u],⟨k4,_⟩=>
     have hu:u=v1:=k4.1
     have FN:v1=v:=hv.out _ (by simp)
     obtain⟨kH,q1,q2,q3⟩:=HT g 1000 rfl h2 (fun q hq=>hv.out q (List.mem_cons_of_mem _ hq)) ha (fun i u f hu hf=>by
      show HU us bA (1000+i)=_
      unfold HU
      rw[Ei hu hf])
     obtain⟨r1,r2⟩:=wh.nodup q2 ho.nodup (fun f hf=>(q3 f hf).nodup)
     refine⟨iv.defers,_,k3,kH,by rw[hu,FN],⟨iv.kept.os,iv.kept.tape,iv.kept.output,iv.kept.size,iv.kept.block,iv.kept.shape⟩,q1,⟨r1,fun _ _=>Nat.zero_le _,fun b hb=> ?_⟩,q2⟩
     obtain⟨f,hf,hb⟩:=List.mem_flatten.1 hb
     exact(q3 f hf).kind b hb
  ·cases iE
 rcases he with rfl|rfl<;>exact key
end
section
variable{ty:Tag→Nat}
def S9:V→V→Option (List Prop)
 |_, .any=>some []
 | .lit v, .lit u=>some [v=u]
 | .eX v t l, .eX u t' l'=>match gL t' t l with|some l2=>some [v=u,l2=l']|none=>none
 | .own n, .own m=>match Nat.beq n m with|true=>some []|false=>none
 | .ptr n o, .ptr m q=>match Nat.beq n m&&Nat.beq o q with|true=>some []|false=>none
 |_,_=>none
def uQ:List V→List V→Option (List Prop)
 | [],[]=>some []
 |x::r,y::s=>match S9 x y,uQ r s with|some vc,some vcs=>some (lz vc vcs)|_,_=>none
 |_,_=>none
def ox:Obj→Obj→Option (List Prop)
 | .arr t l, .arr t' l'=>match gL t' t l with|some l2=>some [l2=l']|none=>none
 | .box c, .box d=>uQ c d
 |_,_=>none
def Io(hp:Hp):Hp→Option (List Prop)
 | []=>some []
 | (n,o)::r=>match look hp n with
   |some x=>match ox x o,Io hp r with|some vc,some vcs=>some (lz vc vcs)|_,_=>none
   |none=>none
def Ip:S1→S1→Option (List Prop)
 | .a v, .a u=>uQ [v] [u]
 | .agg l, .agg m=>uQ l m
 |_,_=>none
def Bg:List S1→List S1→Option (List Prop)
 | [],[]=>some []
 |x::r,y::s=>match Ip x y,Bg r s with|some vc,some vcs=>some (lz vc vcs)|_,_=>none
 |_,_=>none
def Od(Γ:Nat→TK)(st:St)(s8:List ResultVar)(fu:Hp)(rs:List S1):Option (List Prop):=
 match ur Γ st s8 with
 |some xs=>match Bg xs rs,Io st.hp fu with
  |some vc,some vcs=>some (lz vc vcs)
  |_,_=>none
 |none=>none
def Z6(Γ:Nat→TK)(s8:List ResultVar)(fu:Hp)(rs:List S1):Post:=fun e st=>(e= .ret∨e= .normal)∧ ∃vc,Od Γ st s8 fu rs=some vc∧lB vc
theorem aY{Γ:Nat→TK}{s8:List ResultVar}{fu:Hp}{rs:List S1}{st:St}{vc:List Prop}(h:Od Γ st s8 fu rs=some vc)(hv:lB vc):Z6 Γ s8 fu rs .ret st:=⟨.inl rfl,vc,h,hv⟩
theorem sq{Γ:Nat→TK}{s8:List ResultVar}{fu:Hp}{rs:List S1}{st:St}{vc:List Prop}(h:Od Γ st s8 fu rs=some vc)(hv:lB vc):Z6 Γ s8 fu rs .normal st:=⟨.inr rfl,vc,h,hv⟩
def okT(fu:Hp)(rs:List S1):Bool:=(rs.all (rR fu))&&(fu.all fun e=>yX fu e.2)&&gS fu
section
variable{P:Program}{zb:cK}{st:St}{a:Act}{w:World}{env:Env}
theorem EZ{x o:Obj}{vc:List Prop}(h:ox x o=some vc):(∀t l,x= .arr t l→ ∃t' l',o= .arr t' l')∧ ∀c,x= .box c→ ∃d,o= .box d:=by
 cases x<;>cases o<;>simp[ox]at h ⊢
theorem E0{hp:Hp}: ∀{fu:Hp} {vc:List Prop},Io hp fu=some vc→(∀q,q∈vc→q)→ ∀n o,(n,o)∈fu→ ∃x v1,look hp n=some x∧ox x o=some v1∧ ∀q,q∈v1→q
 | (k,y)::r,vc,h,hv,n,o,hm=>by
   simp only[Io]at h
   split at h
   ·rename_i x hx
    split at h
    ·rename_i v1 v2 h1 h2
     simp only[oI,dM]at h
     subst h
     rcases List.mem_cons.1 hm with h'|h'
     ·simp only[pI]at h'
      obtain⟨rfl,rfl⟩:=h'
      exact⟨x,v1,hx,h1,fun q hq=>hv q (List.mem_append_left _ hq)⟩
     ·exact E0 h2 (fun q hq=>hv q (List.mem_append_right _ hq)) n o h'
    ·cases h
   ·cases h
theorem Ta{hp fu:Hp}(hT: ∀n o,look fu n=some o→ ∃x v1,look hp n=some x∧ox x o=some v1){x y:V}{u:Value}{vc:List Prop}(hr:RA w hp env x u)(h:S9 x y=some vc)(hv: ∀q,q∈vc→q)(hn:mN fu y=true):RA w fu env y u:=by
 unfold S9 at h
 split at h
 ·trivial
 ·simp only[oI]at h
  subst h
  have e:=hv _ (List.mem_singleton.2 rfl)
  subst e
  exact hr
 ·split at h
  ·rename_i l2 hc
   simp only[oI]at h
   subst h
   have e1:=hv _ (List.mem_cons_self ..)
   have e2:=hv _ (List.mem_cons_of_mem _ (List.mem_singleton.2 rfl))
   obtain⟨et,rfl⟩:=dH hc
   subst et
   subst e1;subst e2
   obtain⟨hu,fp,h1,h2⟩:=hr
   refine⟨hu,fp,h1,fun b hb ho=>h2 b hb ?_⟩
   obtain⟨n,o,q1,q2⟩:=ho
   obtain⟨x,_,p1,_⟩:=hT n o q1
   exact⟨n,x,p1,q2⟩
  ·cases h
 ·rename_i n m
  split at h
  ·rename_i hb
   have hb:=Nat.eq_of_beq_eq_true hb
   subst hb
   obtain⟨⟨t,l,hl⟩,hu⟩:=hr
   have hno:=vO hn n rfl
   cases hq:look fu n with
   |none=>exact absurd hq hno
   |some o=>
    obtain⟨x,v1,h1,h2⟩:=hT n o hq
    rw[hl]at h1
    simp only[oI]at h1
    subst h1
    obtain⟨t',l',rfl⟩:=(EZ h2).1 t l rfl
    exact⟨⟨t',l',hq⟩,hu⟩
  ·cases h
 ·rename_i n o m q
  split at h
  ·rename_i hb
   simp only[Bool.and_eq_true]at hb
   have aW:=Nat.eq_of_beq_eq_true hb.1
   have bz:=Nat.eq_of_beq_eq_true hb.2
   subst aW;subst bz
   obtain⟨⟨c,hl⟩,hu⟩:=hr
   have hno:=vO hn n rfl
   cases hq:look fu n with
   |none=>exact absurd hq hno
   |some z=>
    obtain⟨x,v1,h1,h2⟩:=hT n z hq
    rw[hl]at h1
    simp only[oI]at h1
    subst h1
    obtain⟨d,rfl⟩:=(EZ h2).2 c rfl
    exact⟨⟨d,hq⟩,hu⟩
  ·cases h
 ·cases h
theorem vW{hp fu:Hp}(hT: ∀n o,look fu n=some o→ ∃x v1,look hp n=some x∧ox x o=some v1): ∀{xs ys:List V} {us:List Value} {vc:List Prop},bN (RA w hp env) xs us→uQ xs ys=some vc→(∀q,q∈vc→q)→(∀y,y∈ys→mN fu y=true)→bN (RA w fu env) ys us
 | [],ys,us,vc,hr,h,_,_=>by
   cases ys with
   |nil=>
    cases us with
    |nil=>trivial
    |cons _ _=>exact hr.elim
   |cons _ _=>simp[uQ]at h
 |x::r,ys,us,vc,hr,h,hv,hn=>by
  cases us with
  |nil=>exact hr.elim
  |cons u us=>
   cases ys with
   |nil=>simp[uQ]at h
   |cons y s=>
    simp only[uQ]at h
    split at h
    ·rename_i v1 v2 h1 h2
     simp only[oI,dM]at h
     subst h
     exact⟨Ta hT hr.1 h1 (fun q hq=>hv q (List.mem_append_left _ hq)) (hn y (by simp)),vW hT hr.2 h2 (fun q hq=>hv q (List.mem_append_right _ hq)) (fun z hz=>hn z (List.mem_cons_of_mem _ hz))⟩
    ·cases h
theorem P8{hp fu:Hp}(hT: ∀n o,look fu n=some o→ ∃x v1,look hp n=some x∧ox x o=some v1){x y:S1}{u:Value}{vc:List Prop}(hr:fG w hp env x u)(h:Ip x y=some vc)(hv: ∀q,q∈vc→q)(hn:rR fu y=true):fG w fu env y u:=by
 cases x with
 |a v=>
  cases y with
  |a v'=>
   have:=vW hT (xs:= [v]) (us:= [u]) ⟨hr,trivial⟩ h hv (fun z hz=>by rw[List.mem_singleton.1 hz];exact hn)
   exact this.1
  |agg _=>simp[Ip]at h
 |agg l=>
  cases y with
  |a v'=>simp[Ip]at h
  |agg m=>
   obtain⟨cs,rfl,hl⟩:=hr
   exact⟨cs,rfl,vW hT hl h hv (fun z hz=>List.all_eq_true.1 hn z hz)⟩
theorem GR{hp fu:Hp}(hT: ∀n o,look fu n=some o→ ∃x v1,look hp n=some x∧ox x o=some v1): ∀{xs ys:List S1} {us:List Value} {vc:List Prop},bN (fG w hp env) xs us→Bg xs ys=some vc→(∀q,q∈vc→q)→(∀y,y∈ys→rR fu y=true)→bN (fG w fu env) ys us
 | [],ys,us,vc,hr,h,_,_=>by
   cases ys with
   |nil=>
    cases us with
    |nil=>trivial
    |cons _ _=>exact hr.elim
   |cons _ _=>simp[Bg]at h
 |x::r,ys,us,vc,hr,h,hv,hn=>by
  cases us with
  |nil=>exact hr.elim
  |cons u us=>
   cases ys with
   |nil=>simp[Bg]at h
   |cons y s=>
    simp only[Bg]at h
    split at h
    ·rename_i v1 v2 h1 h2
     simp only[oI,dM]at h
     subst h
     exact⟨P8 hT hr.1 h1 (fun q hq=>hv q (List.mem_append_left _ hq)) (hn y (by simp)),GR hT hr.2 h2 (fun q hq=>hv q (List.mem_append_right _ hq)) (fun z hz=>hn z (List.mem_cons_of_mem _ hz))⟩
    ·cases h
end
theorem Z7{as:List S1}{us:List Value}{w:World}{env:Env}{fQ:Hp}{n:Nat}(hA:Ge w)(hL: ∀b,Jj b→b∉yU fQ env)(hG:JM ty w fQ env)(ha:bN (fG w fQ env) as us)(hn:as.length≤n):
  Inv ty ⟨w,yU fQ env,env⟩ ⟨n,enter 0 as,fQ⟩ {tmps:=us.toArray++Array.replicate (n-us.toArray.size) undef,defers:= []} w:=by
 have hl:=ha.len
 refine⟨by simp;omega,rfl,Kept.refl _ _,⟨hA,hL⟩,env,⟨hG.1,hG.2,fun s v hv=> ?_,fun n o h b hb=>Or.inl (List.mem_flatMap.2 ⟨_,eH h,hb⟩),fun n _=>⟨rfl,fun b hb=>hb⟩⟩⟩
 obtain⟨x,rfl,_,hx⟩:=rS hv
 rw[Nat.sub_zero]at hx
 obtain⟨u,hu,hr⟩:=ha.at hx
 have hs:s<us.length:=(List.getElem?_eq_some_iff.1 hu).1
 have:(us.toArray++Array.replicate (n-us.toArray.size) undef).getD s undef=u:=by
  rw[Array.getD_eq_getD_getElem?,Array.getElem?_append_left (by simpa using hs)]
  simp[hu]
 show fG w fQ env x _
 rw[this]
 exact hr
theorem cq{P:Program}{Γ:Nat→TK}(X:Ctx P ty Γ){f:FuncId}{fn:Func}{c:Code}{s8:List ResultVar}{n:Nat}{fQ fu:Hp}{as rs:List S1}
  (Eg: ∀(args:Array Value) (w:World),(callFunc f args).run P w= .ok (.enter f args) w)(hf:P.funcs[f]? =some fn)(hb:fn.body=some c)(hr:fn.results=s8.toArray)(hl:s8.length≤4)(hn:fn.ntmps=n)(hlen:as.length≤n)(hT:okT fu rs=true)
  (h: ∀zb,W P ty zb c (Z6 Γ s8 fu rs) ⟨n,enter 0 as,fQ⟩):dA ty P f fQ as fu rs:=by
 refine⟨Eg,fun w env us hA hL hG ha=>calls_of_wp hf hb ?_⟩
 rw[hn]
 refine wp_mono (h _ _ w (Z7 hA hL hG ha hlen)) ?_
 simp only[okT,Bool.and_eq_true,List.all_eq_true]at hT
 obtain⟨⟨t1,t2⟩,t3⟩:=hT
 rintro e a w' ⟨st,iv,he,vc,iE,hv⟩
 have key:a.defers= []∧ ∃v,(results fn a.tmps).run P w'= .ok v w'∧ ∃env' u,Ending.returned v= .returned u∧Kept ⟨w,yU fQ env,env⟩ w w'∧JM ty w' fu env'∧
   (∀n o,look fu n=some o→ ∀b,b∈(env' n).fp→b∈yU fQ env∨w.heap.size≤b)∧(∀n,iA n=true→(env' n).v=(env n).v∧ ∀b,b∈(env' n).fp→b∈(env n).fp)∧abX w' fu env' rs u:=by
  obtain⟨env',g⟩:=iv.good
  unfold Od at iE
  split at iE
  ·rename_i xs hx
   split at iE
   ·rename_i v1 v2 hm1 hm2
    simp only[oI,dM]at iE
    subst iE
    have FN: ∀q,q∈v1→q:=fun q hq=>hv.out q (List.mem_append_left _ hq)
    have Pu: ∀q,q∈v2→q:=fun q hq=>hv.out q (List.mem_append_right _ hq)
    obtain⟨vs,h1,h2,h3⟩:=Ef X.kind g hr hx hl
    have hmem:=E0 hm2 Pu
    have hT: ∀n o,look fu n=some o→ ∃x v1,look st.hp n=some x∧ox x o=some v1:=fun n o hl=>by
     obtain⟨x,v1,p1,p2,_⟩:=hmem n o (eH hl)
     exact⟨x,v1,p1,p2⟩
    have hres:=GR hT h1 hm1 FN t1
    refine⟨iv.defers,_,h3,env',_,rfl,iv.kept,⟨fun n o hl=> ?_,fun n m o o' hne nv mo=> ?_⟩,fun n o hl b hb=> ?_,fun n hp=>g.pins n hp,?_⟩
    ·obtain⟨x,v1,p1,p2,p3⟩:=hmem n o (eH hl)
     have hro:=g.obj n x p1
     cases x with
     |arr t l=>
      cases o with
      |box d=>simp[ox]at p2
      |gq t' l' s'=>simp[ox]at p2
      |arr t' l'=>
       simp only[ox]at p2
       split at p2
       ·rename_i l2 hc
        simp only[oI]at p2
        subst p2
        have e2:=p3 _ (List.mem_singleton.2 rfl)
        subst e2
        obtain⟨e,rfl⟩:=dH hc
        subst e
        exact NK (fun h=>h) hro
       ·cases p2
     |gq t l s=>cases o<;>simp[ox]at p2
     |box c=>
      cases o with
      |arr t' l'=>simp[ox]at p2
      |gq t' l' s'=>simp[ox]at p2
      |box d=>
       obtain⟨b,cs,e,q1,q2,q3⟩:=hro
       exact⟨b,cs,e,q1,q2,vW hT q3 p2 p3 (fun y hy=>List.all_eq_true.1 (t2 _ (eH hl)) y hy)⟩
    ·obtain⟨x,_,p1,_⟩:=hT n o nv
     obtain⟨y,_,p2,_⟩:=hT m o' mo
     exact g.iB n m x y hne p1 p2
    ·obtain⟨x,_,p1,_⟩:=hT n o hl
     exact g.dom n x p1 b hb
    ·match rs,vs,hres with
     | [r],[u],hres=>exact hres.1
     | [],[],hres=>exact⟨[],rfl,trivial⟩
     |r1::r2::r,u1::u2::u,hres=>exact⟨_,rfl,hres⟩
     | [],_::_,hres=>exact hres.elim
     |_::_,[],hres=>exact hres.elim
     | [_],_::_::_,hres=>exact hres.2.elim
     |_::_::_,[_],hres=>exact hres.2.elim
   ·cases iE
  ·cases iE
 rcases he with rfl|rfl<;>exact key
end
end Go.Proofs.YtcnomgcfijjkmaaGreat.G
