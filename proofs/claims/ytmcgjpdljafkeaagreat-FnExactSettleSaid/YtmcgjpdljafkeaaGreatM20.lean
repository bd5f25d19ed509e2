/-
  Two names of objects are swapped.
-/
import Derived.Test.YtmcgjpdljafkeaaGreatM8
namespace Go.Proofs.YtmcgjpdljafkeaaGreat.G
set_option linter.all false
open Go.RowKit L D
section
variable{ty:Tag→Nat}
def uR(a b n:Nat):Nat:=match Nat.beq n a,Nat.beq n b with
 |true,_=>b
 |false,true=>a
 |false,false=>n
def V.sw(a b:Nat):V→V
 | .own n=> .own (uR a b n)
 | .ptr n o=> .ptr (uR a b n) o
 | .lS n i o=> .lS (uR a b n) i o
 | .vw n p t l=> .vw (uR a b n) p t l
 | .Aw n p t x o=> .Aw (uR a b n) p t x o
 | .AX n t l=> .AX (uR a b n) t l
 | .yx f n=> .yx f (uR a b n)
 | .mix n c t l=> .mix (uR a b n) c t l
 | .yu n=> .yu (uR a b n)
 |v=>v
def S1.sw(a b:Nat):S1→S1
 | .a v=> .a (v.sw a b)
 | .agg l=> .agg (l.map (V.sw a b))
def SV.sw(a b:Nat):SV→SV
 | .one x=> .one (x.sw a b)
 | .rC l=> .rC (l.map (S1.sw a b))
 | .cond p x=> .cond p (x.sw a b)
def Ja.sw(a b:Nat):Ja→Ja
 | .of n=> .of (uR a b n)
 |s=>s
def Obj.sw(a b:Nat):Obj→Obj
 | .box c=> .box (c.map (V.sw a b))
 | .arr t l=> .arr t l
 | .lT t l s=> .lT t l (s.sw a b)
def Nu(a b:Nat)(hp:Hp):Hp:=hp.map fun e=>(uR a b e.1,e.2.sw a b)
def QC(st:St)(a b:Nat):Option St:=match iA a,iA b,soft a,soft b with
 |false,false,false,false=>MV ⟨st.n,st.sl.map fun e=>(e.1,e.2.sw a b),Nu a b st.hp⟩
 |_,_,_,_=>none
theorem Ks(a b n:Nat):uR a b n=if n=a then b else if n=b then a else n:=by
 unfold uR
 by_cases h1:n=a
 ·subst h1;rw[if_pos rfl,Nat.beq_refl]
 ·have e1:Nat.beq n a=false:=by
   cases h:Nat.beq n a with
   |false=>rfl
   |true=>exact absurd (Nat.eq_of_beq_eq_true h) h1
  rw[if_neg h1,e1]
  by_cases h2:n=b
  ·subst h2;rw[if_pos rfl,Nat.beq_refl]
  ·have e2:Nat.beq n b=false:=by
    cases h:Nat.beq n b with
    |false=>rfl
    |true=>exact absurd (Nat.eq_of_beq_eq_true h) h2
   rw[if_neg h2,e2]
theorem nS(a b n:Nat):uR a b (uR a b n)=n:=by
 simp only[Ks]
 by_cases h1:n=a
 ·subst h1;simp only[if_true]
  by_cases h2:b=n
  ·rw[if_pos h2,h2]
  ·rw[if_neg h2]
 ·by_cases h2:n=b
  ·subst h2;simp[h1]
  ·simp[h1,h2]
theorem SZ{a b n m:Nat}(h:uR a b n=uR a b m):n=m:=by
 have:=congrArg (uR a b) h
 rwa [nS,nS]at this
theorem o9(a b:Nat): ∀(hp:Hp) (n:Nat),look (Nu a b hp) n=(look hp (uR a b n)).map (Obj.sw a b)
 | [],n=>rfl
 | (j,x)::r,n=>by
   show look ((uR a b j,x.sw a b)::Nu a b r) n=_
   by_cases h:n=uR a b j
   ·subst h
    rw[look_eq,nS,look_eq];rfl
   ·rw[aW h,o9 a b r n,aW]
    intro e
    exact h (by rw[←e,nS])
section
variable{w:World}{hp:Hp}{env:Env}{a b:Nat}
theorem nT{n:Nat}{t:Tag}{l:List (T t)}(h:look hp n=some (.arr t l)):look (Nu a b hp) (uR a b n)=some (.arr t l):=by
 rw[o9,nS,h];rfl
theorem LW{n:Nat}{c:List V}(h:look hp n=some (.box c)):look (Nu a b hp) (uR a b n)=some (.box (c.map (V.sw a b))):=by
 rw[o9,nS,h];rfl
def QD(a b:Nat)(env:Env):Env:=fun n=>env (uR a b n)
theorem kQ(n:Nat):QD a b env (uR a b n)=env n:=by unfold QD;rw[nS]
theorem vP{x:Nat}(h:Ow (Nu a b hp) (QD a b env) x):Ow hp env x:=by
 obtain⟨n,o,h1,h2⟩:=h
 rw[o9]at h1
 cases hq:look hp (uR a b n)with
 |none=>rw[hq]at h1;cases h1
 |some o'=>exact⟨_,_,hq,h2⟩
theorem RV.sw{n:Nat}{p:Option (Nat×Nat)}{t:Tag}{l:List (T t)}{u:Value}(h:RV w hp env n p t l u):RV w (Nu a b hp) (QD a b env) (uR a b n) p t l u:=by
 obtain⟨⟨t1,l1,h1⟩,⟨fp,h2,h3,h4⟩,h5⟩:=h
 refine⟨⟨t1,l1,nT h1⟩,⟨fp,h2,h3,by rw[kQ];exact h4⟩,fun i off iB=> ?_⟩
 obtain⟨t0,l0,b0,o,len,cap,q1,q2,q3,q4,q5,q6⟩:=h5 i off iB
 exact⟨t0,l0,b0,o,len,cap,nT q1,q2,q3,by rw[kQ];exact q4,by rw[kQ];exact q5,q6⟩
theorem RA.sw{v:V}{u:Value}(h:RA w hp env v u):RA w (Nu a b hp) (QD a b env) (v.sw a b) u:=by
 cases v with
 |any=>trivial
 |lit v=>exact h
 |tY k=>exact h
 |sl t l=>obtain⟨fp,h1,h2⟩:=h;exact⟨fp,h1,fun x hx ho=>h2 x hx (vP ho)⟩
 |ip t x off=>obtain⟨b',o,cs,fp,h1,h2,h3,h4,h5,h6⟩:=h;exact⟨b',o,cs,fp,h1,h2,h3,h4,fun ho=>h5 (vP ho),fun c hc ho=>h6 c hc (vP ho)⟩
 |own n=>obtain⟨⟨t,l,hl⟩,hu⟩:=h;exact⟨⟨t,l,nT hl⟩,by rw[kQ];exact hu⟩
 |ptr n off=>obtain⟨⟨c,hl⟩,b',h1,h2⟩:=h;exact⟨⟨_,LW hl⟩,b',by rw[kQ];exact h1,h2⟩
 |yx f n=>obtain⟨⟨c,hl⟩,b',h1,h2⟩:=h;exact⟨⟨_,LW hl⟩,b',by rw[kQ];exact h1,h2⟩
 |lS n i off=>obtain⟨t,l,hl,b',o,len,cap,h1,h2⟩:=h;exact⟨t,l,nT hl,b',o,len,cap,by rw[kQ];exact h1,h2⟩
 |vw n p t l=>exact RV.sw h
 |AX n t l=>
  obtain⟨⟨t1,l1,h1⟩,b',fp,h2,h3,h4,h5⟩:=h
  exact⟨⟨t1,l1,nT h1⟩,b',fp,h2,fun ho=>h3 (vP ho),h4,by rw[kQ];exact h5⟩
 |yu n=>
  obtain⟨⟨t,l,s,hl⟩,hu⟩:=h
  exact⟨⟨t,l,s.sw a b,by rw[o9,nS,hl];rfl⟩,by rw[kQ];exact hu⟩
 |mix n c t l=>
  obtain⟨⟨t1,l1,h1⟩,⟨fp,h2,h3⟩,h4⟩:=h
  exact⟨⟨t1,l1,nT h1⟩,⟨fp,h2,fun x hx=>(h3 x hx).imp (fun q=>by rw[kQ];exact q) (fun q ho=>q (vP ho))⟩,h4⟩
 |Aw n p t x off=>
  obtain⟨⟨t1,l1,h1⟩,b',o,cs,fp,h2,h3,h4,h5,h6,h7,h8⟩:=h
  refine⟨⟨t1,l1,nT h1⟩,b',o,cs,fp,h2,by rw[kQ];exact h3,h4,h5,h6,by rw[kQ];exact h7,fun i o2 j iB=> ?_⟩
  obtain⟨l2,u0,b0,n8,len,cap,q1,q2,q3,q4,q5⟩:=h8 i o2 j iB
  exact⟨l2,u0,b0,n8,len,cap,q1.sw,q2,q3,q4,q5⟩
theorem fG.sw{x:S1}{u:Value}(h:fG w hp env x u):fG w (Nu a b hp) (QD a b env) (x.sw a b) u:=by
 cases x with
 |a v=>exact RA.sw h
 |agg l=>obtain⟨cs,h1,h2⟩:=h;exact⟨cs,h1,h2.map fun _ _ q=>RA.sw q⟩
theorem oC.sw{tmps:Array Value}{x:SV}{u:Value}(h:oC w hp env tmps x u):oC w (Nu a b hp) (QD a b env) tmps (x.sw a b) u:=by
 cases x with
 |one x=>exact fG.sw h
 |rC l=>obtain⟨us,h1,h2⟩:=h;exact⟨us,h1,h2.map fun _ _ q=>fG.sw q⟩
 |cond p x=>exact⟨fun q=>fG.sw (h.1 q),h.2⟩
theorem BE.sw{s:Ja}{t:Tag}{x:T t}{u:Value}(h:BE w hp env s t x u):BE w (Nu a b hp) (QD a b env) (s.sw a b) t x u:=by
 cases s with
 |gone=>trivial
 |nZ=>obtain⟨f,h1,h2⟩:=h;exact⟨f,h1,fun c hc ho=>h2 c hc (vP ho)⟩
 |of n=>
  obtain⟨⟨t1,l1,h1⟩,f,h2,h3⟩:=h
  exact⟨⟨t1,l1,nT h1⟩,f,h2,fun c hc=>(h3 c hc).imp (fun q=>by rw[kQ];exact q) (fun q ho=>q (vP ho))⟩
end
theorem QE{a b n:Nat}{p:Nat→Bool}(ha:p a=false)(hb:p b=false):p (uR a b n)=p n:=by
 rw[Ks]
 split
 ·rename_i h;subst h;rw[ha,hb]
 ·split
  ·rename_i h;subst h;rw[ha,hb]
  ·rfl
theorem S0{a b n:Nat}(ha:iA a=false)(hb:iA b=false)(h:iA n=true):uR a b n=n:=by
 rw[Ks]
 split
 ·rename_i h1;subst h1;rw[ha]at h;cases h
 ·split
  ·rename_i h1;subst h1;rw[hb]at h;cases h
  ·rfl
theorem QF{zb:cA}{st st':St}{a b:Nat}(h:QC st a b=some st'){c:Act}{w:World}(iv:Inv ty zb st c w):Inv ty zb st' c w:=by
 obtain⟨env,g⟩:=iv.good
 unfold QC at h
 split at h
 case h_2=>cases h
 rename_i hpa hpb hsa hsb
 have h:=mK h
 subst h
 have hlk: ∀n o,look (Nu a b st.hp) n=some o→ ∃o0,look st.hp (uR a b n)=some o0∧o=o0.sw a b:=by
  intro n o hl
  rw[o9]at hl
  cases hq:look st.hp (uR a b n)with
  |none=>rw[hq]at hl;cases hl
  |some o0=>rw[hq]at hl;simp only[Option.map_some,Option.some.injEq]at hl;exact⟨o0,rfl,hl.symm⟩
 refine⟨iv.size,iv.defers,iv.kept,iv.A3,QD a b env,⟨fun n o hl=> ?_,fun n m o o' hne h1 h2=> ?_,fun s v hs=> ?_,fun n o hl=> ?_,fun n hn=> ?_⟩⟩
 ·obtain⟨o0,h1,rfl⟩:=hlk n o hl
  have hro:=g.obj _ _ h1
  show RO ty w (Nu a b st.hp) (QD a b env) n (o0.sw a b) (env (uR a b n))
  cases o0 with
  |arr t l=>exact K3 (fun q=>by rw[QE hsa hsb]at q;exact q) hro
  |box l=>
   obtain⟨x,cs,e,q1,q2,q3⟩:=hro
   exact⟨x,cs,e,q1,q2,q3.map fun _ _ q=>RA.sw q⟩
  |lT t l s=>
   obtain⟨q1,us,q2,q3,q4⟩:=hro
   exact⟨q1,us,q2,q3,fun i x u hx hu=>(q4 i x u hx hu).sw⟩
 ·obtain⟨o1,q1,_⟩:=hlk n o h1
  obtain⟨o2,q2,_⟩:=hlk m o' h2
  exact g.kj _ _ _ _ (fun e=>hne (SZ e)) q1 q2
 ·replace hs:look (st.sl.map fun e=>(e.1,e.2.sw a b)) s=some v:=hs
  rw[jH (α:=SV) (f:=fun e:Nat×SV=>e.2.sw a b)]at hs
  cases hq:look st.sl s with
  |none=>rw[hq]at hs;cases hs
  |some v0=>
   rw[hq]at hs
   simp only[Option.map_some,Option.some.injEq]at hs
   subst hs
   exact oC.sw (g.slot s v0 hq)
 ·obtain⟨o0,h1,_⟩:=hlk n o hl
  exact g.dom _ _ h1
 ·have hq:=g.pins n hn
  unfold QD
  rw[S0 hpa hpb hn]
  exact hq
theorem W.swap{P:Program}{zb:cA}{Q:Post}{st st':St}{c:Code}(a b:Nat)(h:QC st a b=some st')(k:W P ty zb c Q st'):W P ty zb c Q st:=fun x w iv=>k x w (QF h iv)
end
end Go.Proofs.YtmcgjpdljafkeaaGreat.G
