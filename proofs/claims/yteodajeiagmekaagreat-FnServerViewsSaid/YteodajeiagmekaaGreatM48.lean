/-
  Two names of objects are swapped.
-/
import Derived.Test.YteodajeiagmekaaGreatM34
import Derived.Test.YteodajeiagmekaaGreatM35
namespace Go.Proofs.YteodajeiagmekaaGreat.G
set_option linter.all false
open Go.RowKit L D
section
variable{ty:Tag→Nat}
def EF(st:St)(n i:Nat):Option St:=match look st.hp n with
 |some (.box c)=>match yp c i with
  |some (.own m)=>match look st.hp m with
   |some (.arr t l)=>match Za ((n, .box (c.set i (.vw m none t l)))::st.hp.filter fun e=> !Nat.beq e.1 n)with
    |some hp=>some ⟨st.n,st.sl,hp⟩
    |none=>none
   |_=>none
  |_=>none
 |_=>none
theorem uC{α:Type}{hp:List (Nat×α)}{n m:Nat}(h:m≠n):look (hp.filter fun e=> !Nat.beq e.1 n) m=look hp m:=by
 induction hp with
 |nil=>rfl
 |cons e r ih=>
  obtain⟨j,x⟩:=e
  by_cases hj:j=n
  ·subst hj
   rw[List.filter_cons_of_neg (by simp),ih,aU h]
  ·have:Nat.beq j n=false:=by
    cases hb:Nat.beq j n with
    |false=>rfl
    |true=>exact absurd (Nat.eq_of_beq_eq_true hb) hj
   rw[List.filter_cons_of_pos (by simp[this])]
   by_cases hm:m=j
   ·subst hm;rw[look_eq,look_eq]
   ·rw[aU hm,aU hm,ih]
section
variable{P:Program}{zb:bY}{st st':St}{Q:Post}
theorem Inv.EF{a:Act}{w:World}(n i:Nat)(h:G.EF st n i=some st')(iv:Inv ty zb st a w):Inv ty zb st' a w:=by
 unfold G.EF at h
 split at h
 case h_2=>cases h
 rename_i c hc
 split at h
 case h_2=>cases h
 rename_i m hm
 split at h
 case h_2=>cases h
 rename_i t l hl
 split at h
 case h_2=>cases h
 rename_i hp hf
 simp only[Option.some.injEq]at h
 subst h
 have hf:=Hy hf
 obtain⟨env,g⟩:=iv.good
 have hmn:m≠n:=by rintro rfl;rw[hl]at hc;cases hc
 have hlk: ∀k o,look hp k=some o→(k=n∧o= .box (c.set i (.vw m none t l)))∨(k≠n∧look st.hp k=some o):=by
  intro k o hk
  rw[hf]at hk
  by_cases hkn:k=n
  ·subst hkn;rw[look_eq]at hk;simp only[Option.some.injEq]at hk;exact Or.inl ⟨rfl,hk.symm⟩
  ·rw[aU hkn,uC hkn]at hk;exact Or.inr ⟨hkn,hk⟩
 have hne: ∀k o,k≠n→look st.hp k=some o→look hp k=some o:=by
  intro k o hkn hk
  rw[hf,aU hkn,uC hkn];exact hk
 have hnn:look hp n=some (.box (c.set i (.vw m none t l))):=by rw[hf,look_eq]
 have s:Step (fun _=>True) (fun _=>True) w st.hp env w hp env:=by
  refine⟨fun _ _ _=>rfl,?_,?_,?_⟩
  ·rintro b _ ⟨k,o,h1,h2⟩
   rcases hlk k o h1 with⟨rfl,_⟩| ⟨_,h3⟩
   ·exact⟨_,_,hc,h2⟩
   ·exact⟨k,o,h3,h2⟩
  ·intro k o _ h1
   by_cases hkn:k=n
   ·subst hkn
    rw[hc]at h1
    simp only[Option.some.injEq]at h1
    subst h1
    exact⟨_,hnn,trivial,rfl⟩
   ·exact⟨o,hne k o hkn h1,by cases o<;>simp[Obj.like],rfl⟩
  ·intro k t' l' _ h1
   have hkn:k≠n:=by rintro rfl;rw[hc]at h1;cases h1
   exact⟨hne k _ hkn h1,rfl,fun _ _=>rfl⟩
 refine⟨iv.size,iv.defers,iv.kept,iv.B0,env,⟨fun k o hk=> ?_,fun k k' o o' hkk h1 h2=> ?_,fun t v hv=>p8.step s (fun v _=>v.eY) (g.slot t v hv),fun k o hk b hb=> ?_,g.pins⟩⟩
 ·rcases hlk k o hk with⟨rfl,rfl⟩| ⟨hkn,h3⟩
  ·obtain⟨b,cs,e,h1,h2,h3⟩:=g.obj _ _ hc
   refine⟨b,cs,e,h1,h2,bt.set (h3.mono fun x y _ hr=>RA.step s x.eY hr) fun y hy=> ?_⟩
   rw[CD]at hm
   obtain⟨y',hy',hr⟩:=h3.at hm
   rw[hy]at hy'
   simp only[Option.some.injEq]at hy'
   subst hy'
   obtain⟨_,hu⟩:=hr
   have hro:=g.obj m _ hl
   have hlm:=hne m _ hmn hl
   refine⟨⟨t,l,hlm⟩,⟨(env m).fp,?_,(RO.own hro).nodup,fun _ h=>h⟩,by simp⟩
   rw[hu];exact RO.sl hro
  ·exact(g.obj k o h3).step s o.eY (fun _ _=>rfl)
 ·have: ∀k o,look hp k=some o→ ∃x,look st.hp k=some x:=by
   intro k o hk
   rcases hlk k o hk with⟨rfl,_⟩| ⟨_,h3⟩
   ·exact⟨_,hc⟩
   ·exact⟨_,h3⟩
  obtain⟨x,hx⟩:=this k o h1
  obtain⟨y,hy⟩:=this k' o' h2
  exact g.kW k k' x y hkk hx hy
 ·rcases hlk k o hk with⟨rfl,_⟩| ⟨_,h3⟩
  ·exact g.dom _ _ hc b hb
  ·exact g.dom k o h3 b hb
theorem W.EF{c:Code}(n i:Nat)(h:G.EF st n i=some st')(k:W P ty zb c Q st'):W P ty zb c Q st:=fun a w iv=>k a w (iv.EF n i h)
end
end
section
variable{ty:Tag→Nat}
def wO(a b n:Nat):Nat:=match Nat.beq n a,Nat.beq n b with
 |true,_=>b
 |false,true=>a
 |false,false=>n
def V.sw(a b:Nat):V→V
 | .own n=> .own (wO a b n)
 | .ptr n o=> .ptr (wO a b n) o
 | .mM n i o=> .mM (wO a b n) i o
 | .vw n p t l=> .vw (wO a b n) p t l
 | .BY n p t x o=> .BY (wO a b n) p t x o
 | .BZ n t l=> .BZ (wO a b n) t l
 | .Aj f n=> .Aj f (wO a b n)
 | .mix n c t l=> .mix (wO a b n) c t l
 | .Ag n=> .Ag (wO a b n)
 |v=>v
def S1.sw(a b:Nat):S1→S1
 | .a v=> .a (v.sw a b)
 | .agg l=> .agg (l.map (V.sw a b))
def SV.sw(a b:Nat):SV→SV
 | .one x=> .one (x.sw a b)
 | .tK l=> .tK (l.map (S1.sw a b))
 | .cond p x=> .cond p (x.sw a b)
def CB.sw(a b:Nat):CB→CB
 | .of n=> .of (wO a b n)
 |s=>s
def Obj.sw(a b:Nat):Obj→Obj
 | .box c=> .box (c.map (V.sw a b))
 | .arr t l=> .arr t l
 | .lZ t l s=> .lZ t l (s.sw a b)
def P9(a b:Nat)(hp:Hp):Hp:=hp.map fun e=>(wO a b e.1,e.2.sw a b)
def Tp(st:St)(a b:Nat):Option St:=match jk a,jk b,soft a,soft b with
 |false,false,false,false=>NF ⟨st.n,st.sl.map fun e=>(e.1,e.2.sw a b),P9 a b st.hp⟩
 |_,_,_,_=>none
theorem ME(a b n:Nat):wO a b n=if n=a then b else if n=b then a else n:=by
 unfold wO
 by_cases h1:n=a
 ·subst h1;rw[if_pos rfl,Nat.beq_refl]
 ·have e1:Nat.beq n a=false:=by
   cases h:Nat.beq n a with
   |false=>rfl
   |true=>exact absurd (Nat.eq_of_beq_eq_true h) h1
  rw[if_neg h1,e1]
  by_cases h2:n=b
  ·subst h2;rw[if_pos rfl,Nat.beq_refl]
  ·have e2:Nat.beq n b=false:=by
    cases h:Nat.beq n b with
    |false=>rfl
    |true=>exact absurd (Nat.eq_of_beq_eq_true h) h2
   rw[if_neg h2,e2]
theorem pE(a b n:Nat):wO a b (wO a b n)=n:=by
 simp only[ME]
 by_cases h1:n=a
 ·subst h1;simp only[if_true]
  by_cases h2:b=n
  ·rw[if_pos h2,h2]
  ·rw[if_neg h2]
 ·by_cases h2:n=b
  ·subst h2;simp[h1]
  ·simp[h1,h2]
theorem WA{a b n m:Nat}(h:wO a b n=wO a b m):n=m:=by
 have:=congrArg (wO a b) h
 rwa [pE,pE]at this
theorem qR(a b:Nat): ∀(hp:Hp) (n:Nat),look (P9 a b hp) n=(look hp (wO a b n)).map (Obj.sw a b)
 | [],n=>rfl
 | (j,x)::r,n=>by
   show look ((wO a b j,x.sw a b)::P9 a b r) n=_
   by_cases h:n=wO a b j
   ·subst h
    rw[look_eq,pE,look_eq];rfl
   ·rw[aU h,qR a b r n,aU]
    intro e
    exact h (by rw[←e,pE])
section
variable{w:World}{hp:Hp}{env:Env}{a b:Nat}
theorem pF{n:Nat}{t:Tag}{l:List (T t)}(h:look hp n=some (.arr t l)):look (P9 a b hp) (wO a b n)=some (.arr t l):=by
 rw[qR,pE,h];rfl
theorem Ol{n:Nat}{c:List V}(h:look hp n=some (.box c)):look (P9 a b hp) (wO a b n)=some (.box (c.map (V.sw a b))):=by
 rw[qR,pE,h];rfl
def Tq(a b:Nat)(env:Env):Env:=fun n=>env (wO a b n)
theorem lN(n:Nat):Tq a b env (wO a b n)=env n:=by unfold Tq;rw[pE]
theorem uI{x:Nat}(h:Ow (P9 a b hp) (Tq a b env) x):Ow hp env x:=by
 obtain⟨n,o,h1,h2⟩:=h
 rw[qR]at h1
 cases hq:look hp (wO a b n)with
 |none=>rw[hq]at h1;cases h1
 |some o'=>exact⟨_,_,hq,h2⟩
theorem RV.sw{n:Nat}{p:Option (Nat×Nat)}{t:Tag}{l:List (T t)}{u:Value}(h:RV w hp env n p t l u):RV w (P9 a b hp) (Tq a b env) (wO a b n) p t l u:=by
 obtain⟨⟨t1,l1,h1⟩,⟨fp,h2,h3,h4⟩,h5⟩:=h
 refine⟨⟨t1,l1,pF h1⟩,⟨fp,h2,h3,by rw[lN];exact h4⟩,fun i off iZ=> ?_⟩
 obtain⟨t0,l0,b0,o,len,cap,q1,q2,q3,q4,q5,q6⟩:=h5 i off iZ
 exact⟨t0,l0,b0,o,len,cap,pF q1,q2,q3,by rw[lN];exact q4,by rw[lN];exact q5,q6⟩
theorem RA.sw{v:V}{u:Value}(h:RA w hp env v u):RA w (P9 a b hp) (Tq a b env) (v.sw a b) u:=by
 cases v with
 |any=>trivial
 |lit v=>exact h
 |vR k=>exact h
 |fY v t l=>obtain⟨hu,fp,h1,h2⟩:=h;exact⟨hu,fp,h1,fun x hx ho=>h2 x hx (uI ho)⟩
 |sl t l=>obtain⟨fp,h1,h2⟩:=h;exact⟨fp,h1,fun x hx ho=>h2 x hx (uI ho)⟩
 |ip t x off=>obtain⟨b',o,cs,fp,h1,h2,h3,h4,h5,h6⟩:=h;exact⟨b',o,cs,fp,h1,h2,h3,h4,fun ho=>h5 (uI ho),fun c hc ho=>h6 c hc (uI ho)⟩
 |own n=>obtain⟨⟨t,l,hl⟩,hu⟩:=h;exact⟨⟨t,l,pF hl⟩,by rw[lN];exact hu⟩
 |ptr n off=>obtain⟨⟨c,hl⟩,b',h1,h2⟩:=h;exact⟨⟨_,Ol hl⟩,b',by rw[lN];exact h1,h2⟩
 |Aj f n=>obtain⟨⟨c,hl⟩,b',h1,h2⟩:=h;exact⟨⟨_,Ol hl⟩,b',by rw[lN];exact h1,h2⟩
 |mM n i off=>obtain⟨t,l,hl,b',o,len,cap,h1,h2⟩:=h;exact⟨t,l,pF hl,b',o,len,cap,by rw[lN];exact h1,h2⟩
 |vw n p t l=>exact RV.sw h
 |BZ n t l=>
  obtain⟨⟨t1,l1,h1⟩,b',fp,h2,h3,h4,h5⟩:=h
  exact⟨⟨t1,l1,pF h1⟩,b',fp,h2,fun ho=>h3 (uI ho),h4,by rw[lN];exact h5⟩
 |Ag n=>
  obtain⟨⟨t,l,s,hl⟩,hu⟩:=h
  exact⟨⟨t,l,s.sw a b,by rw[qR,pE,hl];rfl⟩,by rw[lN];exact hu⟩
 |mix n c t l=>
  obtain⟨⟨t1,l1,h1⟩,⟨fp,h2,h3⟩,h4⟩:=h
  exact⟨⟨t1,l1,pF h1⟩,⟨fp,h2,fun x hx=>(h3 x hx).imp (fun q=>by rw[lN];exact q) (fun q ho=>q (uI ho))⟩,h4⟩
 |BY n p t x off=>
  obtain⟨⟨t1,l1,h1⟩,b',o,cs,fp,h2,h3,h4,h5,h6,h7,h8⟩:=h
  refine⟨⟨t1,l1,pF h1⟩,b',o,cs,fp,h2,by rw[lN];exact h3,h4,h5,h6,by rw[lN];exact h7,fun i o2 j iZ=> ?_⟩
  obtain⟨l2,u0,b0,pN,len,cap,q1,q2,q3,q4,q5⟩:=h8 i o2 j iZ
  exact⟨l2,u0,b0,pN,len,cap,q1.sw,q2,q3,q4,q5⟩
theorem fP.sw{x:S1}{u:Value}(h:fP w hp env x u):fP w (P9 a b hp) (Tq a b env) (x.sw a b) u:=by
 cases x with
 |a v=>exact RA.sw h
 |agg l=>obtain⟨cs,h1,h2⟩:=h;exact⟨cs,h1,h2.map fun _ _ q=>RA.sw q⟩
theorem p8.sw{tmps:Array Value}{x:SV}{u:Value}(h:p8 w hp env tmps x u):p8 w (P9 a b hp) (Tq a b env) tmps (x.sw a b) u:=by
 cases x with
 |one x=>exact fP.sw h
 |tK l=>obtain⟨us,h1,h2⟩:=h;exact⟨us,h1,h2.map fun _ _ q=>fP.sw q⟩
 |cond p x=>exact⟨fun q=>fP.sw (h.1 q),h.2⟩
theorem BE.sw{s:CB}{t:Tag}{x:T t}{u:Value}(h:BE w hp env s t x u):BE w (P9 a b hp) (Tq a b env) (s.sw a b) t x u:=by
 cases s with
 |gone=>trivial
 |oB=>obtain⟨f,h1,h2⟩:=h;exact⟨f,h1,fun c hc ho=>h2 c hc (uI ho)⟩
 |of n=>
  obtain⟨⟨t1,l1,h1⟩,f,h2,h3⟩:=h
  exact⟨⟨t1,l1,pF h1⟩,f,h2,fun c hc=>(h3 c hc).imp (fun q=>by rw[lN];exact q) (fun q ho=>q (uI ho))⟩
end
theorem Tr{a b n:Nat}{p:Nat→Bool}(ha:p a=false)(hb:p b=false):p (wO a b n)=p n:=by
 rw[ME]
 split
 ·rename_i h;subst h;rw[ha,hb]
 ·split
  ·rename_i h;subst h;rw[ha,hb]
  ·rfl
theorem WB{a b n:Nat}(ha:jk a=false)(hb:jk b=false)(h:jk n=true):wO a b n=n:=by
 rw[ME]
 split
 ·rename_i h1;subst h1;rw[ha]at h;cases h
 ·split
  ·rename_i h1;subst h1;rw[hb]at h;cases h
  ·rfl
theorem Tt{zb:bY}{st st':St}{a b:Nat}(h:Tp st a b=some st'){c:Act}{w:World}(iv:Inv ty zb st c w):Inv ty zb st' c w:=by
 obtain⟨env,g⟩:=iv.good
 unfold Tp at h
 split at h
 case h_2=>cases h
 rename_i hpa hpb hsa hsb
 have h:=mP h
 subst h
 have hlk: ∀n o,look (P9 a b st.hp) n=some o→ ∃o0,look st.hp (wO a b n)=some o0∧o=o0.sw a b:=by
  intro n o hl
  rw[qR]at hl
  cases hq:look st.hp (wO a b n)with
  |none=>rw[hq]at hl;cases hl
  |some o0=>rw[hq]at hl;simp only[Option.map_some,Option.some.injEq]at hl;exact⟨o0,rfl,hl.symm⟩
 refine⟨iv.size,iv.defers,iv.kept,iv.B0,Tq a b env,⟨fun n o hl=> ?_,fun n m o o' hne h1 h2=> ?_,fun s v hs=> ?_,fun n o hl=> ?_,fun n hn=> ?_⟩⟩
 ·obtain⟨o0,h1,rfl⟩:=hlk n o hl
  have hro:=g.obj _ _ h1
  show RO ty w (P9 a b st.hp) (Tq a b env) n (o0.sw a b) (env (wO a b n))
  cases o0 with
  |arr t l=>exact NA (fun q=>by rw[Tr hsa hsb]at q;exact q) hro
  |box l=>
   obtain⟨x,cs,e,q1,q2,q3⟩:=hro
   exact⟨x,cs,e,q1,q2,q3.map fun _ _ q=>RA.sw q⟩
  |lZ t l s=>
   obtain⟨q1,us,q2,q3,q4⟩:=hro
   exact⟨q1,us,q2,q3,fun i x u hx hu=>(q4 i x u hx hu).sw⟩
 ·obtain⟨o1,q1,_⟩:=hlk n o h1
  obtain⟨o2,q2,_⟩:=hlk m o' h2
  exact g.kW _ _ _ _ (fun e=>hne (WA e)) q1 q2
 ·replace hs:look (st.sl.map fun e=>(e.1,e.2.sw a b)) s=some v:=hs
  rw[j9 (α:=SV) (f:=fun e:Nat×SV=>e.2.sw a b)]at hs
  cases hq:look st.sl s with
  |none=>rw[hq]at hs;cases hs
  |some v0=>
   rw[hq]at hs
   simp only[Option.map_some,Option.some.injEq]at hs
   subst hs
   exact p8.sw (g.slot s v0 hq)
 ·obtain⟨o0,h1,_⟩:=hlk n o hl
  exact g.dom _ _ h1
 ·have hq:=g.pins n hn
  unfold Tq
  rw[WB hpa hpb hn]
  exact hq
theorem W.swap{P:Program}{zb:bY}{Q:Post}{st st':St}{c:Code}(a b:Nat)(h:Tp st a b=some st')(k:W P ty zb c Q st'):W P ty zb c Q st:=fun x w iv=>k x w (Tt h iv)
end
end Go.Proofs.YteodajeiagmekaaGreat.G
