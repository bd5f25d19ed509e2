/- Steps. -/
import Derived.Test.YtaalpcnbbldlaaaGreatDoorR9
import Derived.Test.YtaalpcnbbldlaaaGreatDoorR12
open Array renaming getD_eq_getD_getElem?→ak
open Go.Region renaming wanted→j7
open Nat renaming beq→bH,beq_refl→yD,eq_of_beq_eq_true→aG,le_refl→aS
namespace Go.Proofs.YtaalpcnbbldlaaaGreatDoor.G
set_option linter.all false
open Go.RowKit L D
section
variable{ty:Tag→Nat}
def Zd(st:St)(n i:Nat):Option St:=match look st.hp n with
 |some (.box c)=>match Ic c i with
  |some (.own m)=>match look st.hp m with
   |some (.arr t l)=>match fHp ((n, .box (c.set i (.vw m none t l)))::st.hp.filter fun e=> !Nat.beq e.1 n)with
    |some hp=>some ⟨st.n,st.sl,hp⟩
    |none=>none
   |_=>none
  |_=>none
 |_=>none
theorem DP{α:Type}{hp:List (Nat×α)}{n m:Nat}(h:m≠n):look (hp.filter fun e=> !Nat.beq e.1 n) m=look hp m:=by
 induction hp with
 |nil=>rfl
 |cons e r ih=>
  obtain⟨j,x⟩:=e;by_cases hj:j=n
  ·subst hj;rw[List.filter_cons_of_neg fI,ih,cR h]
  ·have:bH j n=false:=by
    cases hb:bH j n with
    |false=>rfl
    |true=>exact absurd (aG hb) hj
   rw[List.filter_cons_of_pos aj4];by_cases hm:m=j
   ·subst hm;rw[look_eq,look_eq]
   ·rw[cR hm,cR hm,ih]
theorem dG.set{α β:Type}{R:α→β→Prop}: ∀{as:List α} {bs:List β} {i:Nat} {x:α},dG R as bs→(∀y,bs[i]? =some y→R x y)→dG R (as.set i x) bs
 | [],[],_,_,_,_=>trivial
 |a::as,b::bs,0,x,h,hx=>⟨hx b rfl,h.2⟩
 |a::as,b::bs,i+1,x,h,hx=>⟨h.1,dG.set h.2 (fun y hy=>hx y (by simpa using hy))⟩
 | [],_::_,_,_,h,_=>h.elim
 |_::_,[],_,_,h,_=>h.elim
section
variable{P:Program}{zb:fG}{st st':St}{Q:Post}
theorem Inv.Zd{a:Act}{w:World}(n i:Nat)(h:G.Zd st n i=some st')(iv:Inv ty zb st a w):Inv ty zb st' a w:=by
 unfold G.Zd at h;split at h
 case h_2=>cases h
 rename_i c hc;split at h
 case h_2=>cases h
 rename_i m hm;split at h
 case h_2=>cases h
 rename_i t l hl;split at h
 case h_2=>cases h
 rename_i hp hf;simp only[oI]at h;subst h;have hf:=Va hf;obtain⟨env,g⟩:=iv.good;have hmn:m≠n:=by rintro rfl;rw[hl]at hc;cases hc
 have hlk: ∀k o,look hp k=some o→(k=n∧o= .box (c.set i (.vw m none t l)))∨(k≠n∧look st.hp k=some o):=by
  intro k o hk;rw[hf]at hk;by_cases hkn:k=n
  ·subst hkn;rw[look_eq]at hk;simp only[oI]at hk;exact Or.inl ⟨rfl,hk.symm⟩
  ·rw[cR hkn,DP hkn]at hk;exact Or.inr ⟨hkn,hk⟩
 have hne: ∀k o,k≠n→look st.hp k=some o→look hp k=some o:=by
  intro k o hkn hk;rw[hf,cR hkn,DP hkn];exact hk
 have hnn:look hp n=some (.box (c.set i (.vw m none t l))):=by rw[hf,look_eq]
 have s:Step (fun _=>True) (fun _=>True) w st.hp env w hp env:=by
  refine⟨fun _ _ _=>rfl,?_,?_,?_⟩
  ·rintro b _ ⟨k,o,h1,h2⟩;rcases hlk k o h1 with⟨rfl,_⟩| ⟨_,h3⟩
   ·exact⟨_,_,hc,h2⟩
   ·exact⟨k,o,h3,h2⟩
  ·intro k o _ h1;by_cases hkn:k=n
   ·subst hkn;rw[hc]at h1;simp only[oI]at h1;subst h1;exact⟨_,hnn,trivial,rfl⟩
   ·exact⟨o,hne k o hkn h1,by cases o<;>simp[Obj.like],rfl⟩
  ·intro k t' l' _ h1;have hkn:k≠n:=by rintro rfl;rw[hc]at h1;cases h1
   exact⟨hne k _ hkn h1,rfl,fun _ _=>rfl⟩
 refine⟨iv.size,iv.defers,iv.kept,iv.Nf,env,⟨fun k o hk=> ?_,fun k k' o o' hkk h1 h2=> ?_,fun t v hv=>AR.step s (fun v _=>v.lp) (g.slot t v hv),fun k o hk b hb=> ?_,g.pins⟩⟩
 ·rcases hlk k o hk with⟨rfl,rfl⟩| ⟨hkn,h3⟩
  ·obtain⟨b,cs,e,h1,h2,h3⟩:=g.obj _ _ hc;refine⟨b,cs,e,h1,h2,dG.set (h3.mono fun x y _ hr=>RA.step s x.lp hr) fun y hy=> ?_⟩;rw[NY]at hm;obtain⟨y',hy',hr⟩:=h3.at hm;rw[hy]at hy';simp only[oI]at hy';subst hy';obtain⟨_,hu⟩:=hr;have hro:=g.obj m _ hl;have hlm:=hne m _ hmn hl;refine⟨⟨t,l,hlm⟩,⟨(env m).fp,?_,(RO.own hro).nodup,fun _ h=>h⟩,by simp⟩;rw[hu];exact RO.sl hro
  ·exact(g.obj k o h3).step s o.lp (fun _ _=>rfl)
 ·have: ∀k o,look hp k=some o→ ∃x,look st.hp k=some x:=by
   intro k o hk;rcases hlk k o hk with⟨rfl,_⟩| ⟨_,h3⟩
   ·exact⟨_,hc⟩
   ·exact⟨_,h3⟩
  obtain⟨x,hx⟩:=this k o h1;obtain⟨y,hy⟩:=this k' o' h2;exact g.tN k k' x y hkk hx hy
 ·rcases hlk k o hk with⟨rfl,_⟩| ⟨_,h3⟩
  ·exact g.dom _ _ hc b hb
  ·exact g.dom k o h3 b hb
theorem amo{c:Code}(n i:Nat)(h:G.Zd st n i=some st')(k:W P ty zb c Q st'):W P ty zb c Q st:=fun a w iv=>k a w (iv.Zd n i h)
end
end
section
variable{n:Nat}{t:Tag}{u:Value}{ty:Tag→Nat}
def Gm(a b n:Nat):Nat:=match bH n a,bH n b with
 |true,_=>b
 |false,true=>a
 |false,false=>n
def V.sw(a b:Nat):V→V
 | .own n=> .own (Gm a b n)
 | .ptr n o=> .ptr (Gm a b n) o
 | .Cm n i o=> .Cm (Gm a b n) i o
 | .vw n p t l=> .vw (Gm a b n) p t l
 | .Xb n p t x o=> .Xb (Gm a b n) p t x o
 | .Xc n t l=> .Xc (Gm a b n) t l
 | .S3 f n=> .S3 f (Gm a b n)
 | .mix n c t l=> .mix (Gm a b n) c t l
 | .RX n=> .RX (Gm a b n)
 |v=>v
def S1.sw(a b:Nat):S1→S1
 | .a v=> .a (v.sw a b)
 | .agg l=> .agg (l.map (V.sw a b))
def SV.sw(a b:Nat):SV→SV
 | .one x=> .one (x.sw a b)
 | .Gf l=> .Gf (l.map (S1.sw a b))
 | .cond p x=> .cond p (x.sw a b)
def BV.sw(a b:Nat):BV→BV
 | .of n=> .of (Gm a b n)
 | .Kx _=> .Kx none
 |s=>s
def Obj.sw(a b:Nat):Obj→Obj
 | .box c=> .box (c.map (V.sw a b))
 | .arr t l=> .arr t l
 | .pQ t l s=> .pQ t l (s.sw a b)
def hsw(a b:Nat)(hp:Hp):Hp:=hp.map fun e=>(Gm a b e.1,e.2.sw a b)
def amH(st:St)(a b:Nat):Option St:=match tG a,tG b,soft a,soft b with
 |false,false,false,false=>fSt ⟨st.n,st.sl.map fun e=>(e.1,e.2.sw a b),hsw a b st.hp⟩
 |_,_,_,_=>none
theorem acI(a b n:Nat):Gm a b n=if n=a then b else if n=b then a else n:=by
 unfold Gm;by_cases h1:n=a
 ·subst h1;rw[if_pos rfl,yD]
 ·have e1:bH n a=false:=by
   cases h:bH n a with
   |false=>rfl
   |true=>exact absurd (aG h) h1
  rw[if_neg h1,e1];by_cases h2:n=b
  ·subst h2;rw[if_pos rfl,yD]
  ·have e2:bH n b=false:=by
    cases h:bH n b with
    |false=>rfl
    |true=>exact absurd (aG h) h2
   rw[if_neg h2,e2]
theorem yS(a b n:Nat):Gm a b (Gm a b n)=n:=by
 simp only[acI];by_cases h1:n=a
 ·subst h1;simp only[if_true];by_cases h2:b=n
  ·rw[if_pos h2,h2]
  ·rw[if_neg h2]
 ·by_cases h2:n=b
  ·subst h2;simp[h1]
  ·simp[h1,h2]
theorem asU{a b m:Nat}(h:Gm a b n=Gm a b m):n=m:=by
 have:=congrArg (Gm a b) h
 rwa [yS,yS]at this
theorem Ai(a b:Nat): ∀(hp:Hp) (n:Nat),look (hsw a b hp) n=(look hp (Gm a b n)).map (Obj.sw a b)
 | [],n=>rfl
 | (j,x)::r,n=>by
   show look ((Gm a b j,x.sw a b)::hsw a b r) n=_
   by_cases h:n=Gm a b j
   ·subst h;rw[look_eq,yS,look_eq];rfl
   ·rw[cR h,Ai a b r n,cR];intro e;exact h (by rw[←e,yS])
section
variable{w:World}{hp:Hp}{env:Env}{a b:Nat}
theorem yT{l:List (T t)}(h:look hp n=some (.arr t l)):look (hsw a b hp) (Gm a b n)=some (.arr t l):=by
 rw[Ai,yS,h];rfl
theorem afa{c:List V}(h:look hp n=some (.box c)):look (hsw a b hp) (Gm a b n)=some (.box (c.map (V.sw a b))):=by
 rw[Ai,yS,h];rfl
def esw(a b:Nat)(env:Env):Env:=fun n=>env (Gm a b n)
theorem uu(n:Nat):esw a b env (Gm a b n)=env n:=by unfold esw;rw[yS]
theorem Bs{x:Nat}(h:Ow (hsw a b hp) (esw a b env) x):Ow hp env x:=by
 obtain⟨n,o,h1,h2⟩:=h;rw[Ai]at h1;cases hq:look hp (Gm a b n)with
 |none=>rw[hq]at h1;cases h1
 |some o'=>exact⟨_,_,hq,h2⟩
theorem RV.sw{p:Option (Nat×Nat)}{l:List (T t)}(h:RV w hp env n p t l u):RV w (hsw a b hp) (esw a b env) (Gm a b n) p t l u:=by
 obtain⟨⟨t1,l1,h1⟩,⟨fp,h2,h3,h4⟩,h5⟩:=h;refine⟨⟨t1,l1,yT h1⟩,⟨fp,h2,h3,by rw[uu];exact h4⟩,fun i off hp'=> ?_⟩;obtain⟨t0,l0,b0,o,len,cap,q1,q2,q3,q4,q5,q6⟩:=h5 i off hp';exact⟨t0,l0,b0,o,len,cap,yT q1,q2,q3,by rw[uu];exact q4,by rw[uu];exact q5,q6⟩
theorem RA.sw{v:V}(h:RA w hp env v u):RA w (hsw a b hp) (esw a b env) (v.sw a b) u:=by
 cases v with
 |any=>trivial
 |lit v=>exact h
 |Nb k=>exact h
 |raw v=>exact h
 |uS v t l=>obtain⟨hu,fp,h1,h2⟩:=h;exact⟨hu,fp,h1,fun x hx ho=>h2 x hx (Bs ho)⟩
 |sl t l=>obtain⟨fp,h1,h2⟩:=h;exact⟨fp,h1,fun x hx ho=>h2 x hx (Bs ho)⟩
 |ip t x off=>obtain⟨b',o,cs,fp,h1,h2,h3,h4,h5,h6⟩:=h;exact⟨b',o,cs,fp,h1,h2,h3,h4,fun ho=>h5 (Bs ho),fun c hc ho=>h6 c hc (Bs ho)⟩
 |own n=>obtain⟨⟨t,l,hl⟩,hu⟩:=h;exact⟨⟨t,l,yT hl⟩,by rw[uu];exact hu⟩
 |ptr n off=>obtain⟨⟨c,hl⟩,b',h1,h2⟩:=h;exact⟨⟨_,afa hl⟩,b',by rw[uu];exact h1,h2⟩
 |S3 f n=>obtain⟨⟨c,hl⟩,b',h1,h2⟩:=h;exact⟨⟨_,afa hl⟩,b',by rw[uu];exact h1,h2⟩
 |Cm n i off=>obtain⟨t,l,hl,b',o,len,cap,h1,h2⟩:=h;exact⟨t,l,yT hl,b',o,len,cap,by rw[uu];exact h1,h2⟩
 |vw n p t l=>exact RV.sw h
 |Xc n t l=>
  obtain⟨⟨t1,l1,h1⟩,b',fp,h2,h3,h4,h5⟩:=h;exact⟨⟨t1,l1,yT h1⟩,b',fp,h2,fun ho=>h3 (Bs ho),h4,by rw[uu];exact h5⟩
 |RX n=>
  obtain⟨⟨t,l,s,hl⟩,hu⟩:=h;exact⟨⟨t,l,s.sw a b,by rw[Ai,yS,hl];rfl⟩,by rw[uu];exact hu⟩
 |mix n c t l=>
  obtain⟨⟨t1,l1,h1⟩,⟨fp,h2,h3⟩,h4⟩:=h;exact⟨⟨t1,l1,yT h1⟩,⟨fp,h2,fun x hx=>(h3 x hx).imp (fun q=>by rw[uu];exact q) (fun q ho=>q (Bs ho))⟩,h4⟩
 |Xb n p t x off=>
  obtain⟨⟨t1,l1,h1⟩,b',o,cs,fp,h2,h3,h4,h5,h6,h7,h8⟩:=h;refine⟨⟨t1,l1,yT h1⟩,b',o,cs,fp,h2,by rw[uu];exact h3,h4,h5,h6,by rw[uu];exact h7,fun i o2 j hp'=> ?_⟩;obtain⟨l2,u0,b0,zm,len,cap,q1,q2,q3,q4,q5⟩:=h8 i o2 j hp';exact⟨l2,u0,b0,zm,len,cap,q1.sw,q2,q3,q4,q5⟩
theorem mG.sw{x:S1}(h:mG w hp env x u):mG w (hsw a b hp) (esw a b env) (x.sw a b) u:=by
 cases x with
 |a v=>exact RA.sw h
 |agg l=>obtain⟨cs,h1,h2⟩:=h;exact⟨cs,h1,h2.map fun _ _ q=>RA.sw q⟩
theorem AR.sw{tmps:Array Value}{x:SV}(h:AR w hp env tmps x u):AR w (hsw a b hp) (esw a b env) tmps (x.sw a b) u:=by
 cases x with
 |one x=>exact mG.sw h
 |Gf l=>obtain⟨us,h1,h2⟩:=h;exact⟨us,h1,h2.map fun _ _ q=>mG.sw q⟩
 |cond p x=>exact⟨fun q=>mG.sw (h.1 q),h.2⟩
theorem BE.sw{s:BV}{x:T t}(h:BE w hp env s t x u):BE w (hsw a b hp) (esw a b env) (s.sw a b) t x u:=by
 cases s with
 |gone=>trivial
 |mp=>trivial
 |bag u=>trivial
 |Kx p=>trivial
 |xp=>obtain⟨f,h1,h2⟩:=h;exact⟨f,h1,fun c hc ho=>h2 c hc (Bs ho)⟩
 |of n=>
  obtain⟨⟨t1,l1,h1⟩,f,h2,h3⟩:=h;exact⟨⟨t1,l1,yT h1⟩,f,h2,fun c hc=>(h3 c hc).imp (fun q=>by rw[uu];exact q) (fun q ho=>q (Bs ho))⟩
end
theorem amJ{a b:Nat}{p:Nat→Bool}(ha:p a=false)(hb:p b=false):p (Gm a b n)=p n:=by
 rw[acI];split
 ·rename_i h;subst h;rw[ha,hb]
 ·split
  ·rename_i h;subst h;rw[ha,hb]
  ·rfl
theorem asV{a b:Nat}(ha:tG a=false)(hb:tG b=false)(h:tG n=true):Gm a b n=n:=by
 rw[acI];split
 ·rename_i h1;subst h1;rw[ha]at h;cases h
 ·split
  ·rename_i h1;subst h1;rw[hb]at h;cases h
  ·rfl
theorem amK{zb:fG}{st st':St}{a b:Nat}(h:amH st a b=some st'){c:Act}{w:World}(iv:Inv ty zb st c w):Inv ty zb st' c w:=by
 obtain⟨env,g⟩:=iv.good;unfold amH at h;split at h
 case h_2=>cases h
 rename_i hpa hpb hsa hsb;have h:=vP h;subst h;have hlk: ∀n o,look (hsw a b st.hp) n=some o→ ∃o0,look st.hp (Gm a b n)=some o0∧o=o0.sw a b:=by
  intro n o hl;rw[Ai]at hl;cases hq:look st.hp (Gm a b n)with
  |none=>rw[hq]at hl;cases hl
  |some o0=>rw[hq]at hl;simp only[Option.map_some,oI]at hl;exact⟨o0,rfl,hl.symm⟩
 refine⟨iv.size,iv.defers,iv.kept,iv.Nf,esw a b env,⟨fun n o hl=> ?_,fun n m o o' hne h1 h2=> ?_,fun s v hs=> ?_,fun n o hl=> ?_,fun n hn=> ?_⟩⟩
 ·obtain⟨o0,h1,rfl⟩:=hlk n o hl;have hro:=g.obj _ _ h1;show RO ty w (hsw a b st.hp) (esw a b env) n (o0.sw a b) (env (Gm a b n))
  cases o0 with
  |arr t l=>exact aef (fun q=>by rw[amJ hsa hsb]at q;exact q) hro
  |box l=>
   obtain⟨x,cs,e,q1,q2,q3⟩:=hro;exact⟨x,cs,e,q1,q2,q3.map fun _ _ q=>RA.sw q⟩
  |pQ t l s=>
   rcases RO.RZ hro with⟨rfl,h⟩| ⟨u,rfl,h1,h2,fp,h3,h4⟩| ⟨p,rfl,h⟩| ⟨hr,q1,us,q2,q3,q4⟩
   ·exact h
   ·exact⟨h1,h2,fp,h3,h4.imp id fun⟨c,e1,e2⟩=>⟨c,e1,fun ho=>e2 (Bs ho)⟩⟩
   ·exact⟨h.1,h.2.1,fun _ _ _ e=>by cases e⟩
   ·exact RO.ahr (by cases s<;>first|exact hr.elim|trivial) ⟨q1,us,q2,q3,fun i x u hx hu=>(q4 i x u hx hu).sw⟩
 ·obtain⟨o1,q1,_⟩:=hlk n o h1;obtain⟨o2,q2,_⟩:=hlk m o' h2;exact g.tN _ _ _ _ (fun e=>hne (asU e)) q1 q2
 ·replace hs:look (st.sl.map fun e=>(e.1,e.2.sw a b)) s=some v:=hs;rw[sH (α:=SV) (f:=fun e:Nat×SV=>e.2.sw a b)]at hs;cases hq:look st.sl s with
  |none=>rw[hq]at hs;cases hs
  |some v0=>
   rw[hq]at hs;simp only[Option.map_some,oI]at hs;subst hs;exact AR.sw (g.slot s v0 hq)
 ·obtain⟨o0,h1,_⟩:=hlk n o hl;exact g.dom _ _ h1
 ·have hq:=g.pins n hn;unfold esw;rw[asV hpa hpb hn];exact hq
theorem fM{P:Program}{zb:fG}{Q:Post}{st st':St}{c:Code}(a b:Nat)(h:amH st a b=some st')(k:W P ty zb c Q st'):W P ty zb c Q st:=fun x w iv=>k x w (amK h iv)
end
section
variable{ty:Tag→Nat}
def toBrr(st:St)(s m:Nat)(r:BV):Option St:=match look st.sl s,Nat.blt s st.n with
 |some (.one (.a (.own n))),true=>match look st.hp n,pinned [n],tG m,look (gr [n] [] st.hp) m with
  |some (.arr t []),false,false,none=>match bH (kk t) 1 with
   |true=>fSt ((⟨st.n,st.sl.map fun e=>(e.1,e.2.dJ [n] []),aDa st.hp n m t [] r⟩:St).put (some s) (.one (.a (.RX m))))
   |false=>none
  |_,_,_,_=>none
 |_,_=>none
theorem toBrr_ok{zb:fG}{st st':St}{s m:Nat}{r:BV}(hr:r.br)(h:toBrr st s m r=some st'){a:Act}{w:World}(iv:Inv ty zb st a w):Inv ty zb st' a w:=by
 obtain⟨env,g⟩:=iv.good;have hB:=iv.kept.size;unfold toBrr at h;split at h
 case h_2=>cases h
 rename_i n hs hlt;split at h
 case h_2=>cases h
 rename_i t hl hpk X7 hlk;split at h
 case h_2=>cases h
 rename_i hk1;have hk1:=aG hk1;have h:=vP h;have hsf:soft n=false:=AZ hpk fI;have hb:=RO.bld hsf (g.obj n _ hl);have RG: ∀b,(env n).v.ownBlock=some b→b∈(env n).fp:=by
  intro b hb';obtain⟨xs,eS,_,_,_,qx,_⟩:=hb;rw[qx,hb'];simp
 have hbE:qN 1 akD 0 (ty t) w (env n).v ([]:List Value) (env n).fp:=by
  obtain⟨xs,eS,q1,q2,q3,q4,q5⟩:=hb;obtain rfl:eS= []:=List.length_eq_zero_iff.1 q2;exact⟨xs,[],by rw[hk1]at q1;exact q1,rfl,fun i x f hx=>by simp at hx,q4,q5⟩
 obtain⟨env',hg',hv',_,_⟩:=KH (ty:=ty) g hB (ks:= [n]) hpk X7 hlk (v:=(env n).v) (v':=(env n).v) (w':=w) (ob:= .pQ t [] r) (fp:=(env n).fp) (fx:= []) (oK:=(env n).fp) (by
  intro b hb;rw[List.append_nil]at hb;exact⟨n,_,by simp,hl,hb⟩) RG (fun aGw hd s2=>RO.ahr hr ⟨hk1,[],hbE,rfl,fun i x u hx=>by simp at hx⟩) ⟨rfl,rfl,rfl,aS _,fun _ _ _=>rfl⟩ (fun b hb=>Or.inl hb)
 have hlt:s<a.tmps.size:=by rw[iv.size];exact Nat.le_of_ble_eq_true hlt
 obtain⟨_,hu⟩:=g.slot s _ hs;have gp:=hg'.put hlt (v:= .one (.a (.RX m))) (u:=a.tmps.getD s undef) ⟨⟨t,[],_,look_eq⟩,by rw[hv'];exact hu⟩ rfl;have e:a.tmps.setIfInBounds s (a.tmps.getD s undef)=a.tmps:=by
  rw[ak,Array.getElem?_eq_getElem hlt];apply Array.ext
  ·simp
  ·intro i h1 h2;rw[Array.getElem_setIfInBounds];split
   ·rename_i hi;subst hi;rfl
   ·rfl
 rw[e]at gp;rw[h];exact⟨by rw[Dg];exact iv.size,iv.defers,iv.kept,iv.Nf,env',gp⟩
theorem Zi{P:Program}{zb:fG}{Q:Post}{st st':St}{c:Code}(s m:Nat)(h:G.toBrr st s m .xp=some st')(k:W P ty zb c Q st'):W P ty zb c Q st:=fun a w iv=>k a w (toBrr_ok gA h iv)
end
section
variable{ty:Tag→Nat}
def toLsl(st:St)(s:Nat)(v:Value):Option St:=match look st.sl s with
 |some (.one (.a (.sl t l)))=>fSt ⟨st.n,(s, .one (.a (.uS v t l)))::st.sl,st.hp⟩
 |_=>none
theorem anI{P:Program}{zb:fG}{c:Code}{Q:Post}{st:St}(s:Nat){f:Value→St}(h: ∀v,toLsl st s v=some (f v))(k: ∀v,W P ty zb c Q (f v)):W P ty zb c Q st:=by
 intro a w iv;have h:=h (a.tmps.getD s undef);refine k (a.tmps.getD s undef) a w ?_;obtain⟨env,g⟩:=iv.good;unfold toLsl at h;split at h
 case h_2=>cases h
 rename_i t l hs;have h:=vP h;rw[h];refine⟨iv.size,iv.defers,iv.kept,iv.Nf,env,⟨g.obj,g.tN,fun s' v hv=> ?_,g.dom,g.pins⟩⟩;by_cases hss:s'=s
 ·subst hss;rw[look_eq]at hv;simp only[oI]at hv;subst hv;exact⟨rfl,g.slot _ _ hs⟩
 ·rw[cR hss]at hv;exact g.slot s' v hv
end
section
variable{ops:Array Oper}{K:Act→World→Prop}{ty:Tag→Nat}
def gk(cr:List (Nat×CR))(ops:List Oper)(st:St)(o:Oper):Option (Bool×Prop):=match o.guard with
 |some (j,x)=>match ops[j]? with
  |some q=>match q.dst with
   |some d=>match look cr (d+1100000),look st.sl d with
    |some ⟨y,_⟩,some (.one (.a (.lit (.bool b))))=>some (x==y,b=y)
    |_,_=>none
   |none=>none
  |none=>none
 |none=>none
def pk(cr:List (Nat×CR))(st:St)(o:Oper):Option (Oper×Prop):=match o.op with
 | .pick (.tmp c) x y=>match look cr (c+1100000),look st.sl c with
   |some ⟨z,_⟩,some (.one (.a (.lit (.bool b))))=>some ({o with op:= .move (match z with|true=>x|false=>y)},b=z)
   |_,_=>none
 |_=>none
def ung(o:Oper):Oper:={o with guard:=none}
def step2(P:Program)(ty:Tag→Nat)(Γ:Nat→TK)(iD:List (Nat×Nat))(cr:List (Nat×CR))(ops:List Oper)(st:St)(o:Oper):Option (List Prop×St):=
 match gk cr ops st o with
 |none=>match pk cr st o with
  |some (o',p)=>match step P ty Γ iD cr ops st o' with
   |some (vc,st')=>some (p::vc,st')
   |none=>none
  |none=>step P ty Γ iD cr ops st o
 |some (true,p)=>match step P ty Γ iD cr ops st (ung o)with
  |some (vc,st')=>some (p::vc,st')
  |none=>none
 |some (false,p)=>match Ig st o.dst with
  |true=>some ([p],st.put o.dst (.one (.a .any)))
  |false=>none
section
variable{P:Program}{zb:fG}{st st':St}{a:Act}{w:World}{Q:Exit→Act→World→Prop}{o:Oper}
theorem oJ.ung(hw:j7 o (yielded ops a.tmps)=true)(h:oJ P ops (ung o) a w K Q):oJ P ops o a w K Q:=by
 unfold oJ at h ⊢;rw[if_pos (by simp[j7,G.ung])]at h;rw[if_pos hw];exact h
theorem oJ.as{op':Op}(he:execOp a.eval o=execOp a.eval {o with op:=op'})(hr:oJ P ops {o with op:=op'} a w K Q):oJ P ops o a w K Q:=by
 have hwp:o.wp P a w K Q↔Oper.wp P {o with op:=op'} a w K Q:=by
  unfold Oper.wp;rw[he];rfl
 have has:o.asks P a w↔Oper.asks P {o with op:=op'} a w:=by
  unfold Oper.asks;rw[he]
 unfold oJ at hr ⊢;rw[hwp,has];exact hr
theorem oJ.pk{cr:List (Nat×CR)}{o':Oper}{p:Prop}(iv:Inv ty zb st a w)(h:G.pk cr st o=some (o',p))(hp:p)(hr:oJ P ops o' a w K Q):oJ P ops o a w K Q:=by
 unfold G.pk at h;split at h
 case h_2=>cases h
 rename_i c x y ho;split at h
 case h_2=>cases h
 rename_i z rs b hl hs;simp only[oI,pI]at h;obtain⟨rfl,rfl⟩:=h;obtain⟨env,g⟩:=iv.good;have hs1:=g.slot c _ hs;have hs2:a.eval (.tmp c)= .bool b:=(show mG w st.hp env (.a (.lit (.bool b))) (a.tmps.getD c undef)from hs1).lit;subst hp;cases b with
 |true=>exact oJ.as (by unfold execOp;simp only[ho,hs2];rfl) hr
 |false=>exact oJ.as (by unfold execOp;simp only[ho,hs2];rfl) hr
theorem anX{Γ:Nat→TK}(C: ∀t,gO P t (Γ t))(Z: ∀t,(∀z tg fo,Γ t≠ .st z tg fo)→Γ t≠ .other→(P.info? t).map (·.size)=some 1){iD:List (Nat×Nat)}{cr:List (Nat×CR)}{ops:List Oper}{vc:List Prop}(h:step2 P ty Γ iD cr ops st o=some (vc,st'))(iv:Inv ty zb st a w)(hv: ∀q,q∈vc→q):
  oJ P ops.toArray o a w (fun a' w'=>Inv ty zb st' a' w') Q:=by
 have hgk: ∀{x:Bool} {p:Prop},gk cr ops st o=some (x,p)→p→(j7 o (yielded ops.toArray a.tmps)=true↔x=true):=by
  intro x p hq hp;unfold gk at hq;split at hq
  case h_2=>cases hq
  rename_i j y hg;split at hq
  case h_2=>cases hq
  rename_i q hj;split at hq
  case h_2=>cases hq
  rename_i d hd;split at hq
  case h_2=>cases hq
  rename_i z rs b hl hs;simp only[oI,pI]at hq;obtain⟨rfl,rfl⟩:=hq;rw[AW hg aj2 hd];obtain⟨env,g⟩:=iv.good;have hs1:=g.slot d _ hs;have hs2:=(show mG w st.hp env (.a (.lit (.bool b))) (a.tmps.getD d undef)from hs1).lit;rw[ak]at hs2;have hs3:a.tmps[d]? =some (.bool b):=by
   cases Yf:a.tmps[d]? with
   |none=>rw[Yf]at hs2;simp[undef]at hs2
   |some u=>rw[Yf]at hs2;simp only[Option.getD_some]at hs2;rw[hs2]
  rw[hs3];simp only[oI,Value.bool.injEq];subst hp;constructor
  ·rintro rfl;simp
  ·intro h;exact(eq_of_beq h).symm
 unfold step2 at h;split at h
 ·split at h
  ·rename_i o' p hq;split at h
   case h_2=>cases h
   rename_i zM Kn hs;simp only[oI,pI]at h;obtain⟨rfl,rfl⟩:=h;have hp:p:=hv p fI;exact oJ.pk iv hq hp (Fb C Z hs iv fun q hq=>hv q OL)
  ·exact Fb C Z h iv hv
 ·rename_i p hq;split at h
  case h_2=>cases h
  rename_i zM Kn hs;simp only[oI,pI]at h;obtain⟨rfl,rfl⟩:=h;have hp:p:=hv p fI;exact oJ.ung ((hgk hq hp).2 rfl) (Fb C Z hs iv fun q hq=>hv q OL)
 ·rename_i p hq;split at h
  case h_2=>cases h
  rename_i hd;simp only[oI,pI]at h;obtain⟨rfl,rfl⟩:=h;have hp:p:=hv p fI;have hw: ¬j7 o (yielded ops.toArray a.tmps)=true:=fun hw=>by have:=(hgk hq hp).1 hw;cases this
  unfold oJ;rw[if_neg hw];obtain⟨env,g⟩:=iv.good;exact⟨by rw[nR,Dg];exact iv.size,by rw[put_defers];exact iv.defers,iv.kept,iv.Nf,env,uV g (UX iv hd) trivial (fun d _=>rfl)⟩
end
section
variable{P:Program}{Γ:Nat→TK}{zb:fG}{Q:Post}{st:St}
end
end
section
variable{ty:Tag→Nat}
def fzn:List V→List V→List V
 | .lit (.slice none 0 0)::r, .sl t _::s=> .sl t []::fzn r s
 |v::r,_::s=>v::fzn r s
 |l,_=>l
theorem ac0{w:World}{hp:Hp}{env:Env}: ∀{l s:List V} {us:List Value},dG (RA w hp env) l us→dG (RA w hp env) (fzn l s) us
 | [],s,us,h=>by
   unfold fzn;exact h
 |v::r,[],us,h=>by
  unfold fzn;first
   |exact h
   | (split<;>first|exact h| (rename_i h1 h2;cases h2))
 |v::r,x::s,[],h=>h.elim
 |v::r,x::s,u::us,⟨h1,h2⟩=>by
  unfold fzn;split
  ·rename_i r' t l' s' e1 e2;simp only[List.cons.injEq]at e1 e2;obtain⟨rfl,rfl⟩:=e1;obtain⟨rfl,rfl⟩:=e2;refine⟨⟨[],?_,by simp⟩,ac0 h2⟩;rw[h1.1];exact⟨none,0,rfl,aS _,Nat.zero_le _,Or.inl ⟨rfl,rfl,rfl⟩⟩
  ·rename_i v' r' x' s' _ e1 e2;simp only[List.cons.injEq]at e1 e2;obtain⟨rfl,rfl⟩:=e1;obtain⟨rfl,rfl⟩:=e2;exact⟨h1,ac0 h2⟩
  ·exact⟨h1,h2⟩
def anY(cr:List (Nat×CR))(d:Option Nat)(st:St):St:=match d with
 |some d=>match look cr (d+1200000),look st.sl d with
  |some ⟨_,[.agg s]⟩,some (.one (.agg c))=>⟨st.n,(d, .one (.agg (fzn c s)))::st.sl,st.hp⟩
  |_,_=>st
 |none=>st
theorem atG{zb:fG}{cr:List (Nat×CR)}{d:Option Nat}{st:St}{a:Act}{w:World}(iv:Inv ty zb st a w):Inv ty zb (anY cr d st) a w:=by
 unfold anY;split
 ·rename_i d;split
  ·rename_i own s c hq hl;obtain⟨env,g⟩:=iv.good;refine⟨iv.size,iv.defers,iv.kept,iv.Nf,env,g.obj,g.tN,fun t v hv=> ?_,g.dom,g.pins⟩;by_cases ht:t=d
   ·subst ht;rw[look_eq]at hv;simp only[oI]at hv;subst hv;obtain⟨us,h1,h2⟩:mG w st.hp env (.agg c) (a.tmps.getD t undef):=g.slot t _ hl;exact⟨us,h1,ac0 h2⟩
   ·rw[cR ht]at hv;exact g.slot t v hv
  ·exact iv
 ·exact iv
def JP(P:Program)(ty:Tag→Nat)(Γ:Nat→TK)(iD:List (Nat×Nat))(cr:List (Nat×CR))(ops:List Oper):List Oper→St→List Prop→Option (List Prop×St)
 | [],st,acc=>some (acc,st)
 |o::r,st,acc=>match step2 P ty Γ iD cr ops st o with
  |some (l,s)=>match anY cr o.dst s with
   | ⟨n,sl,hp⟩=>match l with
     | []=>JP P ty Γ iD cr ops r ⟨n,sl,hp⟩ acc
     | [p]=>JP P ty Γ iD cr ops r ⟨n,sl,hp⟩ (p::acc)
     | [p,q]=>JP P ty Γ iD cr ops r ⟨n,sl,hp⟩ (p::q::acc)
     | [p,q,t]=>JP P ty Γ iD cr ops r ⟨n,sl,hp⟩ (p::q::t::acc)
     |l=>JP P ty Γ iD cr ops r ⟨n,sl,hp⟩ (l++acc)
  |none=>none
def aEt(P:Program)(ty:Tag→Nat)(Γ:Nat→TK)(iD:List (Nat×Nat))(cr:List (Nat×CR))(ks hs:List Nat)(ops:List Oper):St→Option (List Prop×St)
 | ⟨n,sl0,nB⟩=>match JP P ty Γ iD cr ops ops ⟨n,sl0,nB⟩ []with
 |some (vc,st')=>match Mu st'.sl ks,Mv st'.hp (ael st'.sl st'.hp ks hs)with
  |some sl,some hp=>match Bb sl hp,bH st'.n n with
   |true,true=>some (vc,⟨n,sl,hp⟩)
   |_,_=>none
  |_,_=>none
 |none=>none
section
variable{P:Program}{zb:fG}{st st':St}{a:Act}{w:World}{Q:Exit→Act→World→Prop}{o:Oper}
theorem Q1{Γ:Nat→TK}{iD:List (Nat×Nat)}{cr:List (Nat×CR)}{ops:List Oper}{KM:St}{vcs:List Prop}{o:Oper}{r:List Oper}{st:St}{acc:List Prop}(h:JP P ty Γ iD cr ops (o::r) st acc=some (vcs,KM)):
  ∃q:List Prop×St,step2 P ty Γ iD cr ops st o=some q∧JP P ty Γ iD cr ops r (anY cr o.dst q.2) (q.1++acc)=some (vcs,KM):=by
 simp only[JP]at h;split at h
 case h_2=>cases h
 rename_i l s h1;refine⟨(l,s),h1,?_⟩;generalize anY cr o.dst s=z at h ⊢;obtain⟨n,sl,hp⟩:=z;dsimp only at h ⊢
 repeat' split at h
 all_goals exact h
theorem Z9{Γ:Nat→TK}{iD:List (Nat×Nat)}{cr:List (Nat×CR)}{ops:List Oper}{KM:St}{vcs:List Prop}: ∀{l:List Oper} {st:St} {acc:List Prop},JP P ty Γ iD cr ops l st acc=some (vcs,KM)→ ∀q,q∈acc→q∈vcs
 | [],st,acc,h,q,hq=>by
   simp only[JP,oI,pI]at h;rw[←h.1];exact hq
 |o::r,st,acc,h,q,hq=>by
  obtain⟨l,h⟩:=Q1 h;exact Z9 h.2 q (List.mem_append_right _ hq)
theorem afV{Γ:Nat→TK}(C: ∀t,gO P t (Γ t))(Z: ∀t,(∀z tg fo,Γ t≠ .st z tg fo)→Γ t≠ .other→(P.info? t).map (·.size)=some 1){iD:List (Nat×Nat)}{cr:List (Nat×CR)}{ops:List Oper}{KM:St}{vcs:List Prop}
  (hQ: ∀a w,Inv ty zb KM a w→Q .normal a w): ∀{l:List Oper} {st:St} {acc:List Prop} {a:Act} {w:World},JP P ty Γ iD cr ops l st acc=some (vcs,KM)→(∀q,q∈vcs→q)→Inv ty zb st a w→wpList P ops.toArray Q l a w
 | [],st,acc,a,w,h,hv,iv=>by
   simp only[JP,oI,pI]at h;obtain⟨_,rfl⟩:=h;exact hQ a w iv
 |o::r,st,acc,a,w,h,hv,iv=>by
  obtain⟨⟨l,s1⟩,h1,h2⟩:=Q1 h;have:=anX (Q:=Q) C Z h1 iv (fun q hq=>hv q (Z9 h2 q (List.mem_append_left _ hq)));exact this.mono fun a' w' zu=>afV C Z hQ h2 hv (atG zu)
end
section
variable{P:Program}{Γ:Nat→TK}{zb:fG}{Q:Post}{st:St}
theorem BG(X:Ctx P ty Γ)(iD:List (Nat×Nat))(cr:List (Nat×CR))(ks hs:List Nat){id:Nat}{ops:List Oper}{vc:List Prop}{st':St}(h:G.aEt P ty Γ iD cr ks hs ops st=some (vc,st'))(hv:tH vc)(k:Q .normal st'):W P ty zb (.region id ops.toArray false) Q st:=by
 intro a w iv;have hsp: ∃s1,JP P ty Γ iD cr ops ops st []=some (vc,s1)∧ ∀a w,Inv ty zb s1 a w→Inv ty zb st' a w:=by
  obtain⟨n,sl0,nB⟩:=st;simp only[G.aEt]at h;split at h
  ·rename_i zM s1 hr;split at h
   ·rename_i sl hp h1 h2;split at h
    ·rename_i hc hn;simp only[oI,pI]at h;obtain⟨rfl,rfl⟩:=h;exact⟨s1,hr,fun a w iv=>iv.weaken (aG hn).symm (rq h1) (ru h2) hc⟩
    ·cases h
   ·cases h
  ·cases h
 obtain⟨s1,h1,h2⟩:=hsp;exact wp_region_lit (afV X.kind X.one (fun a w zu=>⟨st',h2 a w zu,k⟩) h1 hv.out iv)
end
end
end Go.Proofs.YtaalpcnbbldlaaaGreatDoor.G
