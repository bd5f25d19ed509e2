/-
  Regions whose every order is walked by a plan: the theorem.
-/
import Derived.Test.YteodajeiagmekaaGreatM10
namespace Go.Proofs.YteodajeiagmekaaGreat.G
set_option linter.all false
open Go.RowKit L D
section
variable{ty:Tag→Nat}
section
variable{ks ns:List Nat}{m0:Nat}{w w':World}{hp iZ:Hp}{env env':Env}
end
section
variable{P:Program}{zb:bY}{st:St}{a:Act}{w:World}{env:Env}
end
section
variable{P:Program}{zb:bY}{st:St}{a:Act}{w:World}{env:Env}{o:Oper}
end
section
variable{P:Program}{Γ:Nat→TK}{zb:bY}{Q:Post}{st:St}
end
def lG(st:St)(b i m:Nat)(t:Tag):Option St:=match look st.hp b,jk m,look st.hp m with
 |some (.box c),false,none=>match yp c i with
  |some (.lit (.slice none 0 0))=>NF ⟨st.n,st.sl,(b, .box (c.set i (.own m)))::(m, .arr t [])::st.hp⟩
  |_=>none
 |_,_,_=>none
theorem bt.set'{R R':V→Value→Prop}{y:V}(hm: ∀a u,R a u→R' a u): ∀{c:List V} {cs:List Value} {i:Nat} {v:V},bt R c cs→yp c i=some v→(∀u,R v u→R' y u)→bt R' (c.set i y) cs
 | [],_,_,_,_,h,_=>by cases h
 |a::r,[],_,_,h,_,_=>h.elim
 |a::r,u::us,0,v,⟨h1,h2⟩,h,hy=>by
  simp only[yp,Option.some.injEq]at h
  subst h
  exact⟨hy u h1,h2.mono fun a b _ h=>hm a b h⟩
 |a::r,u::us,i+1,v,⟨h1,h2⟩,h,hy=>⟨hm a u h1,bt.set' hm h2 (by simpa[yp]using h) hy⟩
theorem PT{zb:bY}{st st':St}{b i m:Nat}{t:Tag}(h:lG st b i m t=some st'){a:Act}{w:World}(iv:Inv ty zb st a w):Inv ty zb st' a w:=by
 obtain⟨env,g⟩:=iv.good
 have hB:=iv.kept.size
 unfold lG at h
 split at h
 case h_2=>cases h
 rename_i c hl Jb hlk
 split at h
 case h_2=>cases h
 rename_i he
 have h:=mP h
 have hne:b≠m:=by rintro rfl;rw[hl]at hlk;cases hlk
 have hN:ld (ty:=ty) w w st.hp [(m, .arr t [])] env (fun n=>if n=m then⟨Dv,[]⟩else env n):=by
  refine⟨Below.refl _ _,fun n hn=> ?_,fun n o hn=> ?_,fun n n' o o' hne h1 h2=> ?_⟩
  ·by_cases hnm:n=m
   ·subst hnm;rw[look_eq]at hn;cases hn
   ·simp[hnm]
  ·by_cases hnm:n=m
   ·subst hnm
    rw[look_eq]at hn
    simp only[Option.some.injEq]at hn
    subst hn
    simp only[if_true]
    exact⟨RO.FZ (jE.nil _ _ _ _ _),by simp⟩
   ·rw[aU hnm]at hn;cases hn
  ·intro x hx
   by_cases hnm:n=m
   ·subst hnm;simp at hx
   ·rw[aU hnm]at h1;cases h1
 have g1:=Good.grow hB g (os:= [(m, .arr t [])]) (by simp[fresh,hlk,Jb]) hN
 have nj:look ([(m,Obj.arr t [])]++st.hp) b=some (.box c):=by
  show look ((m,Obj.arr t [])::st.hp) b=_
  rw[aU hne];exact hl
 obtain⟨b',cs,e,IK,hh,hc⟩:=g1.obj b _ nj
 have g2:=DK (off:=0) (us:= []) (c':=c.set i (.own m)) g1 nj IK hh (Nat.zero_le _) (by
  simp only[List.take_zero,List.nil_append,Nat.zero_add,List.length_nil,List.drop_zero]
  refine bt.set' (fun _ _ h=>h) hc he fun u hu=> ?_
  obtain⟨rfl,_⟩:=hu
  refine⟨⟨t,[],look_eq⟩,?_⟩
  simp only[if_true])
 rw[h]
 exact⟨iv.size,iv.defers,iv.kept,iv.B0,_,g2⟩
theorem W.lG{P:Program}{zb:bY}{Q:Post}{st st':St}{c:Code}(b i m:Nat)(t:Tag)(h:G.lG st b i m t=some st')(k:W P ty zb c Q st'):W P ty zb c Q st:=fun a w iv=>k a w (PT h iv)
def kH(st:St)(b i m:Nat):Option St:=match look st.hp b with
 |some (.box c)=>match yp c i with
  |some (.own n)=>match look st.hp n,pinned [n],jk m,look (cE [n] [] st.hp) m with
   |some (.arr t l),false,false,none=>match st.gone [n] m t l with
    | ⟨nn,sl,hp⟩=>NF ⟨nn,sl,(b, .box ((c.map fun v=>v.bE [n] []).set i (.own m)))::hp⟩
   |_,_,_,_=>none
  |_=>none
 |_=>none
theorem bt.abS{R R':V→Value→Prop}{f:V→V}{y:V}(hm: ∀a u,R a u→R' (f a) u): ∀{c:List V} {cs:List Value} {i:Nat} {v:V},bt R c cs→yp c i=some v→(∀u,R v u→R' y u)→bt R' ((c.map f).set i y) cs
 | [],_,_,_,_,h,_=>by cases h
 |a::r,[],_,_,h,_,_=>h.elim
 |a::r,u::us,0,v,⟨h1,h2⟩,h,hy=>by
  simp only[yp,Option.some.injEq]at h
  subst h
  exact⟨hy u h1,h2.map hm⟩
 |a::r,u::us,i+1,v,⟨h1,h2⟩,h,hy=>⟨hm a u h1,bt.abS hm h2 (by simpa[yp]using h) hy⟩
theorem Ml{zb:bY}{st st':St}{b i m:Nat}(h:kH st b i m=some st'){a:Act}{w:World}(iv:Inv ty zb st a w):Inv ty zb st' a w:=by
 obtain⟨env,g⟩:=iv.good
 have hB:=iv.kept.size
 unfold kH at h
 split at h
 case h_2=>cases h
 rename_i c IL
 split at h
 case h_2=>cases h
 rename_i n he
 split at h
 case h_2=>cases h
 rename_i t l hl hpk Jb hlk
 rw[St.gone_eq]at h
 have h:=mP h
 have XF:soft n=false:=rK hpk (by simp)
 have hb:=RO.Nk XF (g.obj n _ hl)
 have Fk: ∀b,(env n).v.ownBlock=some b→b∈(env n).fp:=by
  intro b hb'
  obtain⟨xs,bh,_,_,_,ig,_⟩:=hb
  rw[ig,hb'];simp
 obtain⟨env',hg',Lt,hold,aef⟩:=F7 (ty:=ty) g hB (ks:= [n]) hpk Jb hlk (v:=(env n).v) (v':=(env n).v) (w':=w) (fp:=(env n).fp) (fx:= []) (by
  intro b hb
  rw[List.append_nil]at hb
  exact⟨n,_,by simp,hl,hb⟩) Fk hb ⟨rfl,rfl,rfl,Nat.le_refl _,fun _ _ _=>rfl⟩ (fun b hb=>Or.inl hb)
 have hbn:b≠n:=by rintro rfl;rw[IL]at hl;cases hl
 have hbk:look (cE [n] [] st.hp) b=some (.box (c.map fun v=>v.bE [n] [])):=by
  rw[bT,if_neg (by simpa using hbn),IL];rfl
 have Ga:b≠m:=by rintro rfl;rw[hbk]at hlk;cases hlk
 have aM:look ((m,Obj.arr t l)::cE [n] [] st.hp) b=some (.box (c.map fun v=>v.bE [n] [])):=by rw[aU Ga];exact hbk
 obtain⟨b',cs,e,IK,hh,hc⟩:=hg'.obj b _ aM
 obtain⟨b0,cs0,e0,aeg,hh0,hc0⟩:=g.obj b _ IL
 have YL:b'=b0:=by
  rw[hold b Ga,aeg]at IK
  simpa using IK.symm
 subst YL
 have hcs:cs=cs0:=by
  rw[hh0]at hh
  simp at hh
  exact hh.1.symm
 subst hcs
 have s:sS [n] [] w st.hp env w ((m,Obj.arr t l)::cE [n] [] st.hp) env':=by
  have hnm: ∀x o,x≠n→look st.hp x=some o→x≠m:=by
   rintro x o hx h1 rfl
   rw[bT,if_neg (by simpa using hx),h1]at hlk;cases hlk
  refine⟨fun _ _ _=>rfl,?_,?_,?_⟩
  ·rintro x hx ⟨y,o',h1,h2⟩
   by_cases hy:y=m
   ·subst hy
    exact⟨n,_,hl,by rw[←aef];exact h2⟩
   ·rw[hold y hy]at h2
    rw[aU hy,bT]at h1
    split at h1
    ·cases h1
    ·cases hq:look st.hp y with
     |none=>rw[hq]at h1;cases h1
     |some o=>exact⟨y,o,hq,h2⟩
  ·intro x o hx h1
   have hx:x≠n:=by simpa using hx
   have ZB:=hnm x o hx h1
   exact⟨o.bE [n] [],by rw[aU ZB,bT,if_neg (by simpa using hx),h1];rfl,by cases o<;>simp[Obj.like,Obj.bE],by rw[hold x ZB]⟩
  ·rintro x t' l' ⟨hx,_⟩ h1
   have hx:x≠n:=by simpa using hx
   have ZB:=hnm x _ hx h1
   exact⟨by rw[aU ZB,bT,if_neg (by simpa using hx),h1];rfl,by rw[hold x ZB],fun _ _=>rfl⟩
 have g2:=DK (off:=0) (us:= []) (c':=(c.map fun v=>v.bE [n] []).set i (.own m)) hg' aM IK hh (Nat.zero_le _) (by
  simp only[List.take_zero,List.nil_append,Nat.zero_add,List.length_nil,List.drop_zero]
  refine bt.abS (fun v u h=>RA.jl s h) hc0 he fun u hu=> ?_
  obtain⟨_,hu⟩:=hu
  exact⟨⟨t,l,look_eq⟩,by rw[hu,Lt]⟩)
 rw[h]
 exact⟨iv.size,iv.defers,iv.kept,iv.B0,_,g2⟩
theorem W.kH{P:Program}{zb:bY}{Q:Post}{st st':St}{c:Code}(b i m:Nat)(h:G.kH st b i m=some st')(k:W P ty zb c Q st'):W P ty zb c Q st:=fun a w iv=>k a w (Ml h iv)
end
section
variable{ty:Tag→Nat}
def dH.N3:dH→List (Nat×Nat×dH)
 | .br d t sub next=>(d,t,sub)::next.N3
 |_=> []
def dH.S0:dH→Bool
 | .last _=>true
 | .ph _ _=>true
 |_=>false
def JV(d:Nat):Nat→List TE→St→St
 |_,[],s=>s
 |i,e::r,s=>match d.testBit i with
  |true=>JV d (i+1) r (app s e)
  |false=>JV d (i+1) r s
def Mp(i:Nat)(vc:List Prop):List (Nat×List Prop)→List (Nat×List Prop)
 | []=> [(i,vc)]
 | (j,v)::r=>match Nat.blt j i with
   |true=>(i,vc)::(j,v)::r
   |false=>(j,v)::Mp i vc r
def JW(d:Nat):List (Nat×List Prop)→List (Nat×List Prop)→List (Nat×List Prop)
 | [],acc=>acc
 | (i,vc)::r,acc=>match d.testBit i with
   |true=>JW d r (Mp i vc acc)
   |false=>JW d r acc
def BJ:List (Nat×List Prop)→Option (List Prop)
 | []=>some []
 | (_,[])::r=>BJ r
 | (_,[p])::r=>match BJ r with|some l=>some (p::l)|none=>none
 | (_,[p,q])::r=>match BJ r with|some l=>some (p::q::l)|none=>none
 | (_,l)::r=>match BJ r with|some l'=>some (l++l')|none=>none
theorem uy{i:Nat}{vc:List Prop}: ∀{l:List (Nat×List Prop)} {x:Nat×List Prop},x∈Mp i vc l↔x=(i,vc)∨x∈l
 | [],x=>by simp[Mp]
 | (j,v)::r,x=>by
   simp only[Mp]
   split
   ·simp
   ·rw[List.mem_cons,List.mem_cons,uy]
    constructor
    ·rintro(h|h|h)
     ·exact Or.inr (Or.inl h)
     ·exact Or.inl h
     ·exact Or.inr (Or.inr h)
    ·rintro(h|h|h)
     ·exact Or.inr (Or.inl h)
     ·exact Or.inl h
     ·exact Or.inr (Or.inr h)
theorem qI{d:Nat}: ∀{vq acc:List (Nat×List Prop)} {x:Nat×List Prop},x∈JW d vq acc↔(x∈vq∧d.testBit x.1=true)∨x∈acc
 | [],acc,x=>by simp[JW]
 | (i,vc)::r,acc,x=>by
   simp only[JW]
   split
   ·rename_i hb
    rw[qI,uy]
    constructor
    ·rintro(⟨h1,h2⟩|rfl|h)
     ·exact Or.inl ⟨List.mem_cons_of_mem _ h1,h2⟩
     ·exact Or.inl ⟨by simp,hb⟩
     ·exact Or.inr h
    ·rintro(⟨h1,h2⟩|h)
     ·rcases List.mem_cons.1 h1 with rfl|h1
      ·exact Or.inr (Or.inl rfl)
      ·exact Or.inl ⟨h1,h2⟩
     ·exact Or.inr (Or.inr h)
   ·rename_i hb
    rw[qI]
    constructor
    ·rintro(⟨h1,h2⟩|h)
     ·exact Or.inl ⟨List.mem_cons_of_mem _ h1,h2⟩
     ·exact Or.inr h
    ·rintro(⟨h1,h2⟩|h)
     ·rcases List.mem_cons.1 h1 with rfl|h1
      ·simp only at h2;rw[h2]at hb;cases hb
      ·exact Or.inl ⟨h1,h2⟩
     ·exact Or.inr h
theorem AQ: ∀{l:List (Nat×List Prop)} {m:List Prop},BJ l=some m→ ∀x,x∈l→ ∀q,q∈x.2→q∈m
 | [],_,_,x,hx=>by cases hx
 | (i,v)::r,m,h,x,hx=>by
   have key: ∃l',BJ r=some l'∧m=v++l':=by
    unfold BJ at h
    split at h
    ·rename_i he;cases he
    ·rename_i he;simp only[List.cons.injEq,Prod.mk.injEq]at he;obtain⟨⟨rfl,rfl⟩,rfl⟩:=he;exact⟨m,h,rfl⟩
    ·rename_i he
     simp only[List.cons.injEq,Prod.mk.injEq]at he;obtain⟨⟨rfl,rfl⟩,rfl⟩:=he
     split at h
     ·rename_i l' h1;simp only[Option.some.injEq]at h;exact⟨l',h1,h.symm⟩
     ·cases h
    ·rename_i he
     simp only[List.cons.injEq,Prod.mk.injEq]at he;obtain⟨⟨rfl,rfl⟩,rfl⟩:=he
     split at h
     ·rename_i l' h1;simp only[Option.some.injEq]at h;exact⟨l',h1,h.symm⟩
     ·cases h
    ·rename_i he
     simp only[List.cons.injEq,Prod.mk.injEq]at he;obtain⟨⟨rfl,rfl⟩,rfl⟩:=he
     split at h
     ·rename_i l' h1;simp only[Option.some.injEq]at h;exact⟨l',h1,h.symm⟩
     ·cases h
   obtain⟨l',h1,rfl⟩:=key
   intro q hq
   rcases List.mem_cons.1 hx with rfl|hx
   ·exact List.mem_append_left _ hq
   ·exact List.mem_append_right _ (AQ h1 x hx q hq)
def kM(P:Program)(ty:Tag→Nat)(Γ:Nat→TK)(dc:List (Nat×Nat))(cr:List (Nat×CR))(ks hs:List Nat)(ops:List Oper)(n0:Nat):dH→St→List TE→List (Nat×List Prop)→List (Nat×List Prop)→Option (List (List Prop×St))
 | .last q,s,_,_,acc=>match JU Γ (I2 P ty) (Sound ty P) dc cr ops q 0 ops s with
   |some (tr,vq)=>match NF (JV q 0 tr s)with
    |some ⟨n,sl1,fu⟩=>match Bz sl1 ks,BA fu (NH sl1 fu ks hs),BJ (JW q vq acc)with
     |some sl,some hp,some vc=>match rQ sl hp,Nat.beq n n0 with
      |true,true=>some [(vc,⟨n0,sl,hp⟩)]
      |_,_=>none
     |_,_,_=>none
    |none=>none
   |none=>none
 | .ph q c,s,_,_,acc=>match JU Γ (I2 P ty) (Sound ty P) dc cr ops q 0 ops s with
   |some (tr,vq)=>kM P ty Γ dc cr ks hs ops n0 c s tr vq acc
   |none=>none
 | .br d t sub next,s,tr,vq,acc=>match NF (JV d 0 tr s),ops[t]? with
   |some s1,some o=>match step P ty Γ dc cr ops s1 o with
    |some (vc,s2)=>match NF s2 with
     |some s2=>match kM P ty Γ dc cr ks hs ops n0 sub s2 [] [] (Mp t vc (JW d vq acc)),kM P ty Γ dc cr ks hs ops n0 next s tr vq acc with
      |some l1,some l2=>some (mO l1 l2)
      |_,_=>none
     |none=>none
    |none=>none
   |_,_=>none
 | .nil,_,_,_,_=>some []
def Ew(ops:List Oper)(B q JX:Nat):Nat→Nat→Nat→List Nat
 |0,_,d=> [d]
 |m+1,i,d=>match q.testBit i with
  |false=>Ew ops B q JX m (i+1) d
  |true=>(match((ops[i]?).map fun o=>(bU o).all fun j=>B.testBit j||d.testBit j).getD false with
   |true=>Ew ops B q JX m (i+1) (d|||2^i)
   |false=> [])++(match JX.testBit i with
   |true=> []
   |false=>Ew ops B q JX m (i+1) d)
def Wq(ops:List Oper)(cl:List Nat)(A:List (Nat×Oper))(qs B q:Nat):Bool:=
 A.all fun e=>(!(q.testBit e.1)|| !(B.testBit e.1))&&
   (B.testBit e.1||q.testBit e.1|| !(qs.testBit e.1)|| !((bU e.2).all fun j=>B.testBit j||q.testBit j))&&
   (!(q.testBit e.1)||
     ((tmpsOf e.2).all fun t=>A.all fun f=> !(q.testBit f.1)|| !(yL f.2 t)||Nat.beq f.1 e.1|| (cl.getD e.1 0).testBit f.1|| (Nat.blt e.1 f.1&&(cl.getD f.1 0).testBit e.1))&&
     (match e.2.guard with
      |none=>true
      |some (j,_)=>(bU e.2).any (Nat.beq j))&&
     (match e.2.dst with
      |some d=>A.all fun f=>Nat.beq f.1 e.1|| !(yL f.2 d)
      |none=>false)&&(bU e.2).all fun j=>B.testBit j||q.testBit j)
def HT(ops:List Oper)(cl:List Nat)(n B q:Nat)(c:dH):Bool:=
 (List.range n).all fun t=>B.testBit t||q.testBit t||
  (Ew ops B q (cl.getD t 0) n 0 0).all fun d=> !(((ops[t]?).map fun o=>(bU o).all fun j=>B.testBit j||d.testBit j).getD false)||c.N3.any fun b=>Nat.beq b.1 d&&Nat.beq b.2.1 t
def QD(ops:List Oper)(cl:List Nat)(A:List (Nat×Oper))(qs n:Nat):Nat→dH→Bool
 |B, .last q=>Wq ops cl A qs B q&&(List.range n).all fun i=>B.testBit i||q.testBit i
 |B, .ph q c=>Wq ops cl A qs B q&&HT ops cl n B q c&& !((List.range n).all fun i=>B.testBit i||q.testBit i)&&QD ops cl A qs n B c
 |B, .br d t sub next=>sub.S0&&Nat.blt t n&&QD ops cl A qs n (B|||d|||2^t) sub&&QD ops cl A qs n B next
 |_, .nil=>true
def ZE(ops:List Oper)(qs:Nat)(p:dH):Bool:=
 ((idx 0 ops).all fun e=>(bU e.2).all fun j=>Nat.blt j e.1)&&p.S0&&QD ops (HE ops) (idx 0 ops) qs ops.length 0 p
section
variable{oM D:Nat→Bool}{tr:List TE}{s:St}
theorem ze(d:Nat): ∀(tr:List TE) (k:Nat) (s:St),JV d k tr s=cU (fun i=>d.testBit (k+i)) tr s tr.length
 | [],_,_=>rfl
 |e::r,k,s=>by
  have hf:(fun j=>d.testBit (k+(j+1)))=fun i=>d.testBit (k+1+i):=by funext j;congr 1;omega
  simp only[JV]
  split
  ·rename_i h
   rw[ze d r (k+1) (app s e),List.length_cons,qg _ e r s (by simpa using h),hf]
  ·rename_i h
   rw[ze d r (k+1) s,List.length_cons,nv _ e r s (by simpa using h),hf]
theorem AR{D':Nat→Bool}: ∀{n:Nat},(∀i,i<n→D i=D' i)→cU D tr s n=cU D' tr s n
 |0,_=>rfl
 |n+1,h=>by rw[cU,cU,AR (n:=n) fun i hi=>h i (by omega),h n (by omega)]
theorem Ex: ∀{n:Nat},cU (fun _=>false) tr s n=s
 |0=>rfl
 |n+1=>by rw[yN rfl,Ex]
variable{Qb:Nat→Bool}
theorem AS{m:Nat}(hf:Eu Qb tr s m): ∀{j i:Nat},i≤j→j≤m→ ∀{n o},look (cU Qb tr s i).hp n=some o→look (cU Qb tr s j).hp n=some o
 |0,i,hi,_,n,o,h=>by
  have:i=0:=by omega
  subst this;exact h
 |j+1,i,hi,hm,n,o,h=>by
  by_cases hij:i=j+1
  ·subst hij;exact h
  ·have ih:=AS hf (j:=j) (i:=i) (by omega) (by omega) h
   rw[cU]
   split
   ·rename_i e' h1 h2
    show look (e'.os++(cU Qb tr s j).hp) n=_
    cases hq:look e'.os n with
    |none=>rw[aS hq];exact ih
    |some o'=>
     have:=hf j e' (by omega) h1 h2 n o' hq
     rw[this]at ih;cases ih
   ·exact ih
theorem uz{m:Nat}(hf:Eu Qb tr s m)(hD: ∀i,D i=true→Qb i=true): ∀{i:Nat},i≤m→ ∀{n o},look (cU D tr s i).hp n=some o→look (cU Qb tr s i).hp n=some o
 |0,_,n,o,h=>h
 |i+1,hm,n,o,h=>by
  rw[cU]at h
  split at h
  ·rename_i e' h1 h2
   have h:look (e'.os++(cU D tr s i).hp) n=some o:=h
   rw[l8 (hD i h1) h2]
   show look (e'.os++(cU Qb tr s i).hp) n=some o
   cases hq:look e'.os n with
   |none=>rw[aS hq]at h ⊢;exact uz hf hD (by omega) h
   |some o'=>rw[bJ hq]at h ⊢;exact h
  ·exact AS hf (Nat.le_succ i) hm (uz hf hD (by omega) h)
theorem vH{m:Nat}(hf:Eu Qb tr s m)(hD: ∀i,D i=true→Qb i=true): ∀{i:Nat},i≤m→ ∀{n o},look s.hp n=some o→look (cU D tr s i).hp n=some o
 |0,_,n,o,h=>h
 |i+1,hm,n,o,h=>by
  have ih:=vH hf hD (i:=i) (by omega) h
  rw[cU]
  split
  ·rename_i e' h1 h2
   show look (e'.os++(cU D tr s i).hp) n=some o
   cases hq:look e'.os n with
   |none=>rw[aS hq];exact ih
   |some o'=>
    have h3:=hf i e' (by omega) (hD i h1) h2 n o' hq
    have h4:=uz hf hD (by omega) ih
    rw[h3]at h4;cases h4
  ·exact ih
theorem vI{m:Nat}(hf:Eu Qb tr s m)(hD: ∀i,D i=true→Qb i=true): ∀{i:Nat},i≤m→ ∀{j:Nat} {e:TE} {n:Nat} {o:Obj},j<i→D j=true→tr[j]? =some e→look e.os n=some o→look (cU D tr s i).hp n=some o
 |i+1,hm,j,e,n,o,hj,hin,he,h=>by
  by_cases hij:j=i
  ·subst hij
   rw[l8 hin he]
   exact bJ h
  ·have ih:=vI hf hD (i:=i) (by omega) (j:=j) (by omega) hin he h
   rw[cU]
   split
   ·rename_i e' h1 h2
    show look (e'.os++(cU D tr s i).hp) n=some o
    cases hq:look e'.os n with
    |none=>rw[aS hq];exact ih
    |some o'=>
     have h3:=hf i e' (by omega) (hD i h1) h2 n o' hq
     have h4:=uz hf hD (by omega) ih
     rw[h3]at h4;cases h4
   ·exact ih
end
theorem abV{ops:List Oper}(h:((idx 0 ops).all fun e=>(bU e.2).all fun j=>Nat.blt j e.1)=true): ∀i o,ops[i]? =some o→ ∀j,j∈bU o→j<i:=by
 intro i o ho j hj
 simp only[List.all_eq_true]at h
 have:=h _ (by simpa using yO (l:=ops) (k:=0) ho) j hj
 exact Nat.le_of_ble_eq_true this
theorem HU{ops:List Oper}{qs B q:Nat}(hb: ∀i o,ops[i]? =some o→ ∀j,j∈bU o→j<i)(h:Wq ops (HE ops) (idx 0 ops) qs B q=true):ZD ops qs B q:=by
 simp only[Wq,List.all_eq_true,Bool.and_eq_true,Bool.or_eq_true,Bool.not_eq_true']at h
 have hA: ∀{i o},ops[i]? =some o→(i,o)∈idx 0 ops:=by
  intro i o ho
  simpa using yO (l:=ops) (k:=0) ho
 have hdi: ∀{o:Oper} {t:Nat},o.dst=some t→yL o t=true:=by intro o t hd;simp[yL,hd]
 refine⟨hb,fun i hi hq=> ?_,fun i o ho hB hqs he=> ?_,fun i o hq ho t ht k o' Mq ho' hd=> ?_,fun i o j x hq ho hg=> ?_,fun i o k o' d hq ho ho' hd hd'=> ?_,fun i o hq ho j hj=> ?_⟩
 ·rcases(h _ (hA (List.getElem?_eq_getElem hi))).1.1 with h1|h1
  ·simp only at h1;rw[hq]at h1;cases h1
  ·exact h1
 ·rcases(h _ (hA ho)).1.2 with((h1|h1)|h1)|h1
  ·simp only at h1;rw[hB]at h1;cases h1
  ·exact h1
  ·simp only at h1;rw[hqs]at h1;cases h1
  ·exfalso
   have:((bU o).all fun j=>B.testBit j||q.testBit j)=true:=by
    rw[List.all_eq_true];intro j hj
    rcases he j hj with h|h
    ·rw[h];rfl
    ·rw[h];simp
   simp only at h1
   rw[this]at h1;cases h1
 ·rcases(h _ (hA ho)).2 with h1|h1
  ·simp only at h1;rw[hq]at h1;cases h1
  ·rcases h1.1.1.1 t ht _ (hA ho')with(((h2|h2)|h2)|h2)|h2
   ·simp only at h2;rw[Mq]at h2;cases h2
   ·rw[hdi hd]at h2;cases h2
   ·exact Or.inl (Nat.eq_of_beq_eq_true h2)
   ·exact Or.inr (Or.inl h2)
   ·exact Or.inr (Or.inr ⟨Nat.le_of_ble_eq_true h2.1,h2.2⟩)
 ·rcases(h _ (hA ho)).2 with h1|h1
  ·simp only at h1;rw[hq]at h1;cases h1
  ·have h2:=h1.1.1.2
   simp only[hg,List.any_eq_true]at h2
   obtain⟨y,hy,h3⟩:=h2
   rw[Nat.eq_of_beq_eq_true h3];exact hy
 ·rcases(h _ (hA ho)).2 with h1|h1
  ·simp only at h1;rw[hq]at h1;cases h1
  ·have h2:=h1.1.2
   simp only[hd,List.all_eq_true,Bool.or_eq_true,Bool.not_eq_true']at h2
   rcases h2 _ (hA ho')with h3|h3
   ·exact Nat.eq_of_beq_eq_true h3
   ·rw[hdi hd']at h3;cases h3
 ·rcases(h _ (hA ho)).2 with h1|h1
  ·simp only at h1;rw[hq]at h1;cases h1
  ·exact h1.2 j hj
end
section
variable{ty:Tag→Nat}
section
variable{P:Program}{Γ:Nat→TK}{dc:List (Nat×Nat)}{cr:List (Nat×CR)}{ops:List Oper}{s:St}{tr:List TE}{vq:List (Nat×List Prop)}{qs B q:Nat}
theorem Mr(C: ∀t,cA P t (Γ t))(T:U3 Γ (I2 P ty) (Sound ty P) dc cr ops q s tr vq)(K:ZD ops qs B q)(hv: ∀x,x∈vq→q.testBit x.1=true→x.1<ops.length→ ∀p,p∈x.2→p){zb:bY}{Q:Exit→Act→World→Prop}{D:Nat→Bool}(tD: ∀i,D i=true→q.testBit i=true)(XT: ∀i,D i=true→i<ops.length)
  (CJ: ∀i o,(B.testBit i=true∨D i=true)→ops[i]? =some o→ ∀j,j∈bU o→(B.testBit j=true∨D j=true))
  {i:Nat}(CN:q.testBit i=true)(Fl:D i=false){o:Oper}(ho:ops[i]? =some o)(hE: ∀j,j∈bU o→(B.testBit j=true∨D j=true)){a:Act}{w:World}(iv:Inv ty zb (cU D tr s ops.length) a w):
  qb P ops.toArray o a w (fun a' w'=>Inv ty zb (cU (fun j=>D j||j==i) tr s ops.length) a' w') Q:=by
 have hi:i<ops.length:=(List.getElem?_eq_some_iff.1 ho).1
 obtain⟨o',e,vc,ho',he,hd,hnm,hq,Vz⟩:=T.one i hi CN
 rw[ho]at ho'
 simp only[Option.some.injEq]at ho'
 subst ho'
 have hfr:=T.fresh
 have N4: ∀{k},q.testBit k=true→k<ops.length→(B.testBit k=true∨D k=true)→D k=true:=by
  intro k hk nG h
  rcases h with h|h
  ·rw[K.kW k nG hk]at h;cases h
  ·exact h
 have aeh: ∀{x},((HE ops).getD i 0).testBit x=true→(B.testBit x=true∨D x=true):=fun h=>tY (D:=fun j=>B.testBit j=true∨D j=true) K.back CJ i o ho hE _ h
 have abW: ∀{x},((HE ops).getD i 0).testBit x=true→x<i:=fun h=>tY (D:=fun j=>j<i) K.back (fun a b hab hb j hj=>Nat.lt_trans (K.back a b hb j hj) hab) i o ho (fun j hj=>K.back i o ho j hj) _ h
 have hdist: ∀{j e'},j<ops.length→q.testBit j=true→tr[j]? =some e'→ ∃q,ops[j]? =some q∧q.dst=some e'.d:=by
  intro j e' hj XZ he'
  obtain⟨q,e2,_,VQ,yE,hd2,_⟩:=T.one j hj XZ
  rw[he']at yE
  simp only[Option.some.injEq]at yE
  subst yE
  exact⟨q,VQ,hd2⟩
 have tZ: ∀{j j':Nat} {e1 e2:TE},j<ops.length→j'<ops.length→q.testBit j=true→q.testBit j'=true→tr[j]? =some e1→tr[j']? =some e2→e2.d=e1.d→j'=j:=by
  intro j j' e1 e2 h1 h2 g1 g2 h3 h4 h5
  obtain⟨q1,p1,p2⟩:=hdist h1 g1 h3
  obtain⟨q2,p3,p4⟩:=hdist h2 g2 h4
  exact K.dist j q1 j' q2 e1.d g1 p1 p3 p2 (by rw[p4,h5])
 have bu: ∀t,(∀k o',k<ops.length→q.testBit k=true→ops[k]? =some o'→o'.dst=some t→k=i∨(k<i∧D k=true)∨(i<k∧D k=false))→look (cU (fun j=>q.testBit j) tr s i).sl t=look (cU D tr s ops.length).sl t:=by
  intro t ht
  by_cases hex: ∃k e',k<i∧D k=true∧tr[k]? =some e'∧e'.d=t
  ·obtain⟨k,e',hk,mK,he',rfl⟩:=hex
   rw[gh hk (tD k mK) he' fun j' e2 h1 h2 h3 h4=>tZ (by omega) (by omega) (tD k mK) h2 he' h3 h4,gh (by omega) mK he' fun j' e2 h1 h2 h3 h4=>tZ (by omega) h1 (tD k mK) (tD j' h2) he' h3 h4]
  ·rw[jo (fun k e' hk Mq he' hdt=>by
      obtain⟨q',h1,h2⟩:=hdist (by omega) Mq he'
      rcases ht k q' (by omega) Mq h1 (by rw[h2,hdt])with h|h|h
      ·omega
      ·exact hex ⟨k,e',hk,h.2,he',hdt⟩
      ·omega),
    jo (fun k e' hk mK he' hdt=>by
     obtain⟨q',h1,h2⟩:=hdist hk (tD k mK) he'
     rcases ht k q' hk (tD k mK) h1 (by rw[h2,hdt])with h|h|h
     ·subst h;rw[Fl]at mK;cases mK
     ·exact hex ⟨k,e',h.1,h.2,he',hdt⟩
     ·rw[h.2]at mK;cases mK)]
 obtain⟨p,fN,gG,fu,Fx⟩:=ir hq
 have yP: ∀x,x∈p→look (cU (fun j=>q.testBit j) tr s i).sl x.1=look (cU D tr s ops.length).sl x.1:=by
  intro x hx
  refine bu x.1 fun k o2 nG Mq IM hd2=>Or.inr (Or.inl ⟨?_,N4 Mq nG ?_⟩)
  ·exact T.path K i hi CN o p ho fN x hx k o2 Mq IM hd2 (fun j=>j<i) (fun a b hab hb j hj=>Nat.lt_trans (K.back a b hb j hj) hab) (fun j hj=>K.back i o ho j hj)
  ·exact T.path K i hi CN o p ho fN x hx k o2 Mq IM hd2 (fun j=>B.testBit j=true∨D j=true) CJ hE
 have jc:fB (cU D tr s ops.length) ops o=some p:=by
  rw[←fN]
  unfold fB
  split
  ·rfl
  ·rename_i j x hgd
   split
   ·rename_i q Ee
    split
    ·rename_i d Ls
     have hmem: ∃y,(d,y)∈p:=by
      unfold fB at fN
      rw[hgd]at fN
      dsimp only at fN
      rw[Ee]at fN
      dsimp only at fN
      rw[Ls]at fN
      dsimp only at fN
      split at fN
      ·simp only[Option.some.injEq]at fN;exact⟨x,by rw[←fN];simp⟩
      ·simp only[Option.some.injEq]at fN;exact⟨x,by rw[←fN];simp⟩
      ·cases fN
     obtain⟨y,hy⟩:=hmem
     rw[←yP (d,y) hy]
    ·rfl
   ·rfl
 have Ma:fresh (cU D tr s ops.length).hp e.os=true:=by
  refine Ec fun n x hl=> ?_
  cases Lu:look (cU D tr s ops.length).hp n with
  |none=>exact⟨rfl,(Fx n x hl).2⟩
  |some y=>
   exfalso
   have hpi:=hfr i e hi CN he n x hl
   rcases gC Lu with h| ⟨j,e',hj,AB,he',h⟩
   ·have:=vH (D:=fun j=>q.testBit j) hfr (fun _ h=>h) (i:=i) (by omega) h
    rw[hpi]at this
    cases this
   ·have hji:j≠i:=by rintro rfl;rw[Fl]at AB;cases AB
    by_cases hlt:j<i
    ·have:=vI (D:=fun j=>q.testBit j) hfr (fun _ h=>h) (i:=i) (by omega) hlt (tD j AB) he' h
     rw[hpi]at this
     cases this
    ·have h2:=hfr j e' hj (tD j AB) he' n y h
     have:=vI (D:=fun j=>q.testBit j) hfr (fun _ h=>h) (i:=j) (by omega) (j:=i) (by omega) CN he hl
     rw[h2]at this
     cases this
 have R9:((cU D tr s ops.length).sl.any fun x=>x.2.mentions e.d)=false:=by
  rw[List.any_eq_false]
  intro x hx hm
  rcases CI hx with h| ⟨j,e',hj,AB,he',rfl⟩
  ·rw[List.any_eq_false]at hnm
   exact hnm x (oY h) hm
  ·obtain⟨qq,e2,VD,Ee,yE,hd2,_,R8,_⟩:=T.one j hj (tD j AB)
   rw[he']at yE
   simp only[Option.some.injEq]at yE
   subst yE
   obtain⟨pj,Zh,hj0,Rt,_⟩:=ir R8
   by_cases hnil:pj= []
   ·cases vU:e'.v with
    |cond q y=>exact hj0 hnil _ _ vU
    |one y=>simp[vU,SV.mentions]at hm
    |tK y=>simp[vU,SV.mentions]at hm
   ·obtain⟨y,hy⟩:=(Rt hnil).1
    simp only[hy,SV.mentions,List.any_eq_true]at hm
    obtain⟨z,hz,hzd⟩:=hm
    have hzd:=Nat.eq_of_beq_eq_true hzd
    have h4:=T.path K j hj (tD j AB) qq pj Ee Zh z hz i o CN ho (by rw[hd,hzd]) (fun j=>B.testBit j=true∨D j=true) CJ (CJ j qq (Or.inr AB) Ee)
    have:=N4 CN hi h4
    rw[Fl]at this;cases this
 have hdm:e.v.mentions e.d=false:=by
  by_cases hnil:p= []
  ·cases vU:e.v with
   |cond q y=>exact absurd vU (gG hnil _ _)
   |one y=>rfl
   |tK y=>rfl
  ·obtain⟨⟨y,hy⟩,_,hne⟩:=fu hnil
   rw[hy]
   simp only[SV.mentions]
   rw[List.any_eq_false]
   intro z hz hb
   exact hne e.d hd z hz (Nat.eq_of_beq_eq_true hb)
 have hD2: ∀j,(fun j=>D j||j==i) j=true→q.testBit j=true:=by
  intro j hj
  simp only[Bool.or_eq_true,beq_iff_eq]at hj
  rcases hj with h|rfl
  ·exact tD j h
  ·exact CN
 have behind: ∀a' w',Inv ty zb (app (cU D tr s ops.length) e) a' w'→Inv ty zb (cU (fun j=>D j||j==i) tr s ops.length) a' w':=by
  intro a' w' mQ
  obtain⟨env,g⟩:=mQ.good
  refine⟨by rw[mQ.size,oN];show(cU D tr s ops.length).n=s.n;exact oN _,mQ.defers,mQ.kept,mQ.B0,env,g.congr ?_ ?_⟩
  ·intro t v hl
   show look ((e.d,e.v)::(cU D tr s ops.length).sl) t=some v
   by_cases ht:t=e.d
   ·subst ht
    rw[gh hi (by simp) he fun j' e2 h1 h2 h3 h4=>tZ hi h1 CN (hD2 j' h2) he h3 h4]at hl
    rw[look_eq];exact hl
   ·rw[aU ht]
    by_cases hex: ∃k e',k<ops.length∧D k=true∧tr[k]? =some e'∧e'.d=t
    ·obtain⟨k,e',hk,mK,he',rfl⟩:=hex
     rw[gh hk (by simp[mK]) he' fun j' e2 h1 h2 h3 h4=>tZ hk h1 (tD k mK) (hD2 j' h2) he' h3 h4]at hl
     rw[gh hk mK he' fun j' e2 h1 h2 h3 h4=>tZ hk h1 (tD k mK) (tD j' h2) he' h3 h4]
     exact hl
    ·rw[jo fun k e' hk mK he' hdt=>by
      simp only[Bool.or_eq_true,beq_iff_eq]at mK
      rcases mK with h|rfl
      ·exact hex ⟨k,e',hk,h,he',hdt⟩
      ·rw[he]at he'
       simp only[Option.some.injEq]at he'
       exact ht (by rw[he',hdt])]at hl
     rw[jo fun k e' hk mK he' hdt=>hex ⟨k,e',hk,mK,he',hdt⟩]
     exact hl
  ·intro n
   show look (cU (fun j=>D j||j==i) tr s ops.length).hp n=look (e.os++(cU D tr s ops.length).hp) n
   cases hl:look e.os n with
   |some x=>
    rw[bJ hl]
    exact vI hfr hD2 (Nat.le_refl _) hi (by simp) he hl
   |none=>
    rw[aS hl]
    cases hx:look (cU (fun j=>D j||j==i) tr s ops.length).hp n with
    |some y=>
     rcases gC hx with h| ⟨j,e',hj,AB,he',h⟩
     ·exact(vH hfr tD (Nat.le_refl _) h).symm
     ·have hji:j≠i:=by
       rintro rfl
       rw[he]at he'
       simp only[Option.some.injEq]at he'
       subst he'
       rw[hl]at h;cases h
      have AB:D j=true:=by
       simp only[Bool.or_eq_true,beq_iff_eq]at AB
       exact AB.resolve_right hji
      exact(vI hfr tD (Nat.le_refl _) hj AB he' h).symm
    |none=>
     cases hy:look (cU D tr s ops.length).hp n with
     |none=>rfl
     |some y=>
      rcases gC hy with h| ⟨j,e',hj,AB,he',h⟩
      ·rw[vH hfr hD2 (Nat.le_refl _) h]at hx;cases hx
      ·rw[vI hfr hD2 (Nat.le_refl _) hj (by simp[AB]) he' h]at hx;cases hx
 have hput:St.put ⟨(cU D tr s ops.length).n,(cU D tr s ops.length).sl,e.os++(cU D tr s ops.length).hp⟩ o.dst e.v=app (cU D tr s ops.length) e:=by
  rw[hd]
  simp only[St.put,R9]
  rfl
 by_cases hw:Region.wanted o (yielded ops.toArray a.tmps)=true
 ·have hh:holds a.tmps p:=by
   obtain⟨env,g⟩:=iv.good
   unfold fB at jc
   split at jc
   ·simp at jc;subst jc;intro y hy;simp at hy
   ·rename_i j x hgd
    split at jc
    ·rename_i q Ee
     split at jc
     ·rename_i d Ls
      have Zi:=(nM (ops:=ops.toArray) hgd (by simpa using Ee) Ls a.tmps).1 hw
      split at jc
      ·simp only[Option.some.injEq]at jc
       subst jc
       intro y hy
       simp at hy
       subst hy
       exact Zi
      ·rename_i p' b hl
       simp only[Option.some.injEq]at jc
       subst jc
       intro y hy
       rcases List.mem_cons.1 hy with rfl|hy
       ·exact Zi
       ·exact(vp g hl Zi).1 y hy
      ·cases jc
     ·cases jc
    ·cases jc
  obtain⟨env,g⟩:=iv.good
  have HG:Compat (cU (fun j=>q.testBit j) tr s i).hp (cU D tr s ops.length).hp:=by
   intro n x y h1 h2
   have h3:=AS hfr (Nat.le_of_lt hi) (Nat.le_refl _) h1
   have h4:=uz hfr tD (Nat.le_refl _) h2
   rw[h3]at h4
   simpa using h4
  have hmono:=Eb HG g (by rw[oN,oN]) fN jc hh (fun x hx t hxt=>bu t fun k o2 hk Mq IM hd2=>by
    have ht:t∈tmpsOf o:=by
     simp only[tmpsOf,List.mem_filterMap]
     exact⟨x,hx,by rw[hxt]⟩
    rcases K.uses i o CN ho t ht k o2 Mq IM hd2 with h|h|h
    ·exact Or.inl h
    ·exact Or.inr (Or.inl ⟨abW h,N4 Mq hk (aeh h)⟩)
    ·refine Or.inr (Or.inr ⟨h.1,?_⟩)
     cases mK:D k with
     |false=>rfl
     |true=>
      have:=tY (D:=fun j=>B.testBit j=true∨D j=true) K.back CJ k o2 IM (CJ k o2 (Or.inr mK) IM) i h.2
      have:=N4 CN hi this
      rw[Fl]at this;cases this) yP Ma hq
  have:=DJ (Q:=Q) C hmono iv (fun p hp=>hv _ Vz CN hi p hp)
  rw[hput]at this
  exact this.mono behind
 ·unfold qb
  rw[if_neg hw]
  have hnil:p≠ []:=by
   rintro rfl
   unfold fB at fN
   split at fN
   ·rename_i hgd;exact hw (by simp[Region.wanted,hgd])
   ·repeat' split at fN
    all_goals simp at fN
  obtain⟨⟨y,hy⟩,hos,_⟩:=fu hnil
  have hnh: ¬holds a.tmps p:=by
   intro hh
   unfold fB at fN
   split at fN
   ·rename_i hgd;exact hw (by simp[Region.wanted,hgd])
   ·rename_i j x hgd
    split at fN
    ·rename_i q Ee
     split at fN
     ·rename_i d Ls
      have hdx:(d,x)∈p:=by
       split at fN
       ·simp only[Option.some.injEq]at fN;rw[←fN];simp
       ·simp only[Option.some.injEq]at fN;rw[←fN];simp
       ·cases fN
      exact hw ((nM (ops:=ops.toArray) hgd (by simpa using Ee) Ls a.tmps).2 (hh _ hdx))
     ·cases fN
    ·cases fN
  apply behind
  obtain⟨env,g⟩:=iv.good
  have hlt:e.d<a.tmps.size:=by
   unfold l5 at hq
   have:wE (cU (fun j=>q.testBit j) tr s i) o.dst=true:=by
    cases Zj:wE (cU (fun j=>q.testBit j) tr s i) o.dst with
    |true=>rfl
    |false=>rw[Zj]at hq;simp at hq
   rw[hd]at this
   rw[iv.size,oN]
   have:=Nat.le_of_ble_eq_true this
   rw[show(cU (fun j=>q.testBit j) tr s i).n=s.n from oN i]at this
   exact this
  have Sa:=g.put (d:=e.d) hlt (v:=e.v) (u:=undef) (by rw[hy];exact⟨fun hh=>absurd hh hnh,fun _=>rfl⟩) hdm
  refine⟨by rw[ij];exact iv.size,by rw[put_defers];exact iv.defers,iv.kept,iv.B0,env,?_⟩
  rw[hd]
  have Zk:(cU D tr s ops.length).put (some e.d) e.v=app (cU D tr s ops.length) e:=by
   simp only[St.put,R9,app,hos]
   rfl
  rw[Zk]at Sa
  exact Sa
end
theorem zf{ops:List Oper}{B q JX:Nat}{D:Nat→Bool}(tD: ∀i,D i=true→q.testBit i=true)(ZI: ∀i,D i=true→i<ops.length)(hb: ∀i o,ops[i]? =some o→ ∀j,j∈bU o→j<i)
  (hc: ∀i o,D i=true→ops[i]? =some o→ ∀j,j∈bU o→(B.testBit j=true∨D j=true))(N5: ∀i,q.testBit i=true→JX.testBit i=true→D i=true):
  ∀(m i d:Nat),i+m=ops.length→(∀j,d.testBit j=(decide (j<i)&&D j))→ ∃d',d'∈Ew ops B q JX m i d∧ ∀j,d'.testBit j=D j
 |0,i,d,him,hd=>by
  refine⟨d,by simp[Ew],fun j=> ?_⟩
  rw[hd j]
  cases hj:D j with
  |false=>simp
  |true=>have:=ZI j hj;simp;omega
 |m+1,i,d,him,hd=>by
  have hstep:D i=false→ ∀j,d.testBit j=(decide (j<i+1)&&D j):=by
   intro Fl j
   rw[hd j]
   by_cases hji:j=i
   ·subst hji;simp[Fl]
   ·have:decide (j<i)=decide (j<i+1):=by
     apply decide_eq_decide.2;omega
    rw[this]
  simp only[Ew]
  split
  ·rename_i hq
   have Fl:D i=false:=by
    cases h:D i with
    |false=>rfl
    |true=>rw[tD i h]at hq;cases hq
   exact zf tD ZI hb hc N5 m (i+1) d (by omega) (hstep Fl)
  ·rename_i hq
   cases Fl:D i with
   |true=>
    have hlt:=ZI i Fl
    have ho:=List.getElem?_eq_getElem hlt
    have hcond:(((ops[i]?).map fun o=>(bU o).all fun j=>B.testBit j||d.testBit j).getD false)=true:=by
     rw[ho]
     simp only[Option.map_some,Option.getD_some,List.all_eq_true,Bool.or_eq_true]
     intro j hj
     rcases hc i _ Fl ho j hj with h|h
     ·exact Or.inl h
     ·exact Or.inr (by rw[hd j,h];have:=hb i _ ho j hj;simp[this])
    obtain⟨d',h1,h2⟩:=zf tD ZI hb hc N5 m (i+1) (d|||2^i) (by omega) (fun j=>by
     rw[Nat.testBit_or,Nat.testBit_two_pow,hd j]
     by_cases hji:i=j
     ·subst hji;simp[Fl]
     ·have:decide (j<i)=decide (j<i+1):=by
       apply decide_eq_decide.2;omega
      simp[hji,this])
    refine⟨d',?_,h2⟩
    rw[hcond]
    exact List.mem_append_left _ h1
   |false=>
    obtain⟨d',h1,h2⟩:=zf tD ZI hb hc N5 m (i+1) d (by omega) (hstep Fl)
    refine⟨d',List.mem_append_right _ ?_,h2⟩
    split
    ·rename_i hm
     have:=N5 i hq hm
     rw[Fl]at this;cases this
    ·exact h1
section
variable{P:Program}{Γ:Nat→TK}{dc:List (Nat×Nat)}{cr:List (Nat×CR)}{ks hs:List Nat}{ops:List Oper}{n0 qs:Nat}
theorem oZ: ∀{c:dH} {s:St} {tr:List TE} {vq acc:List (Nat×List Prop)} {lv:List (List Prop×St)},kM P ty Γ dc cr ks hs ops n0 c s tr vq acc=some lv→ ∀d t sub,(d,t,sub)∈c.N3→
  ∃o vc s2 l1,ops[t]? =some o∧step P ty Γ dc cr ops (JV d 0 tr s) o=some (vc,s2)∧kM P ty Γ dc cr ks hs ops n0 sub s2 [] [] (Mp t vc (JW d vq acc))=some l1∧ ∀x,x∈l1→x∈lv
 | .br d0 t0 abY next,s,tr,vq,acc,lv,h,d,t,sub,hm=>by
   simp only[kM]at h
   split at h
   case h_2=>cases h
   rename_i s1 o hs1 ho
   have hs1:=mP hs1
   subst hs1
   split at h
   case h_2=>cases h
   rename_i vc s2 hst
   split at h
   case h_2=>cases h
   rename_i s3 hs3
   have hs3:=mP hs3
   subst hs3
   split at h
   case h_2=>cases h
   rename_i l1 l2 h1 h2
   simp only[Option.some.injEq]at h
   rw[dU]at h
   subst h
   simp only[dH.N3,List.mem_cons,Prod.mk.injEq]at hm
   rcases hm with⟨rfl,rfl,rfl⟩|hm
   ·exact⟨o,vc,_,l1,ho,hst,h1,fun x hx=>List.mem_append_left _ hx⟩
   ·obtain⟨o',Zf,s',l',p1,p2,p3,p4⟩:=oZ h2 d t sub hm
    exact⟨o',Zf,s',l',p1,p2,p3,fun x hx=>List.mem_append_right _ (p4 x hx)⟩
 | .last _,_,_,_,_,_,_,_,_,_,hm=>by simp[dH.N3]at hm
 | .ph _ _,_,_,_,_,_,_,_,_,_,hm=>by simp[dH.N3]at hm
 | .nil,_,_,_,_,_,_,_,_,_,hm=>by simp[dH.N3]at hm
theorem qJ: ∀{c:dH} {s:St} {tr:List TE} {vq acc:List (Nat×List Prop)} {lv:List (List Prop×St)},kM P ty Γ dc cr ks hs ops n0 c s tr vq acc=some lv→ ∀x,x∈lv→ ∀y,y∈acc→ ∀p,p∈y.2→p∈x.1
 | .last q,s,tr,vq,acc,lv,h,x,hx,y,hy,p,hp=>by
   simp only[kM]at h
   repeat' split at h
   all_goals first
    | (cases h;done)
    |skip
   rename_i hf _ _ _ _
   simp only[Option.some.injEq]at h
   subst h
   rw[List.mem_singleton]at hx
   subst hx
   exact AQ hf y (qI.2 (Or.inr hy)) p hp
 | .ph q c,s,tr,vq,acc,lv,h,x,hx,y,hy,p,hp=>by
   simp only[kM]at h
   split at h
   ·exact qJ h x hx y hy p hp
   ·cases h
 | .br d0 t0 abY next,s,tr,vq,acc,lv,h,x,hx,y,hy,p,hp=>by
   simp only[kM]at h
   split at h
   case h_2=>cases h
   split at h
   case h_2=>cases h
   split at h
   case h_2=>cases h
   split at h
   case h_2=>cases h
   rename_i l1 l2 h1 h2
   simp only[Option.some.injEq]at h
   rw[dU]at h
   subst h
   rcases List.mem_append.1 hx with hx|hx
   ·exact qJ h1 x hx y (uy.2 (Or.inr (qI.2 (Or.inr hy)))) p hp
   ·exact qJ h2 x hx y hy p hp
 | .nil,_,_,_,_,_,h,x,hx,_,_,_,_=>by
   simp only[kM,Option.some.injEq]at h
   subst h
   cases hx
theorem vJ{n:Nat}: ∀{c:dH} {B:Nat},QD ops (HE ops) (idx 0 ops) qs n B c=true→ ∀d t sub,(d,t,sub)∈c.N3→sub.S0=true∧t<n∧QD ops (HE ops) (idx 0 ops) qs n (B|||d|||2^t) sub=true∧SizeOf.sizeOf sub<SizeOf.sizeOf c
 | .br d0 t0 abY next,B,h,d,t,sub,hm=>by
   simp only[QD,Bool.and_eq_true]at h
   simp only[dH.N3,List.mem_cons,Prod.mk.injEq]at hm
   rcases hm with⟨rfl,rfl,rfl⟩|hm
   ·exact⟨h.1.1.1,Nat.le_of_ble_eq_true h.1.1.2,h.1.2,by simp only[dH.br.sizeOf_spec];omega⟩
   ·obtain⟨p1,p2,p3,p4⟩:=vJ h.2 d t sub hm
    exact⟨p1,p2,p3,by simp only[dH.br.sizeOf_spec];omega⟩
 | .last _,_,_,_,_,_,hm=>by simp[dH.N3]at hm
 | .ph _ _,_,_,_,_,_,hm=>by simp[dH.N3]at hm
 | .nil,_,_,_,_,_,hm=>by simp[dH.N3]at hm
theorem Gq{B q:Nat}{c:dH}(h:HT ops (HE ops) ops.length B q c=true)(K:ZD ops qs B q){D:Nat→Bool}(tD: ∀i,D i=true→q.testBit i=true)(ZI: ∀i,D i=true→i<ops.length)
  (CJ: ∀i o,(B.testBit i=true∨D i=true)→ops[i]? =some o→ ∀j,j∈bU o→(B.testBit j=true∨D j=true)){t:Nat}{o:Oper}(ho:ops[t]? =some o)(ht:B.testBit t=false)(hqt:q.testBit t=false)(hE: ∀j,j∈bU o→(B.testBit j=true∨D j=true)):
  ∃d sub,(d,t,sub)∈c.N3∧ ∀i,d.testBit i=D i:=by
 have htl:t<ops.length:=(List.getElem?_eq_some_iff.1 ho).1
 simp only[HT,List.all_eq_true,List.mem_range,Bool.or_eq_true]at h
 obtain⟨d,h1,h2⟩:=zf (B:=B) (q:=q) (JX:=(HE ops).getD t 0) tD ZI K.back (fun i o hi=>CJ i o (Or.inr hi)) (fun i CN hm=>by
  have:=tY (D:=fun j=>B.testBit j=true∨D j=true) K.back CJ t o ho hE i hm
  rcases this with h|h
  ·have hil:i<ops.length:=by
    have:=tY (D:=fun j=>j<t) K.back (fun a b hab hb j hj=>Nat.lt_trans (K.back a b hb j hj) hab) t o ho (fun j hj=>K.back t o ho j hj) _ hm
    omega
   rw[K.kW i hil CN]at h;cases h
  ·exact h) ops.length 0 0 (by omega) (fun j=>by simp)
 rcases h t htl with(h3|h3)|h3
 ·rw[ht]at h3;cases h3
 ·rw[hqt]at h3;cases h3
 ·have h4:=h3 d h1
  simp only[Bool.not_eq_true',List.any_eq_true,Bool.and_eq_true]at h4
  rcases h4 with h4| ⟨⟨d',t',sub⟩,h5,h6,h7⟩
  ·exfalso
   rw[ho]at h4
   simp only[Option.map_some,Option.getD_some]at h4
   have:((bU o).all fun j=>B.testBit j||d.testBit j)=true:=by
    rw[List.all_eq_true]
    intro j hj
    rw[Bool.or_eq_true,h2 j]
    exact hE j hj
   rw[this]at h4;cases h4
  ·have h6:=Nat.eq_of_beq_eq_true h6
   have h7:=Nat.eq_of_beq_eq_true h7
   simp only at h6 h7
   subst h6;subst h7
   exact⟨d',sub,h5,h2⟩
theorem N6{B q:Nat}{c:dH}(aej:HT ops (HE ops) ops.length B q c=true)(K:ZD ops qs B q)(JY: ∀i o,B.testBit i=true→ops[i]? =some o→ ∀j,j∈bU o→B.testBit j=true)
  (R8: ∀i o,q.testBit i=true→ops[i]? =some o→ ∀j,j∈bU o→(B.testBit j=true∨q.testBit j=true))(hnot:((List.range ops.length).all fun i=>B.testBit i||q.testBit i)=false):
  ∃d t sub,(d,t,sub)∈c.N3∧(∀i,d.testBit i=(q.testBit i&&decide (i<ops.length)))∧ ∀o,ops[t]? =some o→ ∀j,j∈bU o→(B.testBit j=true∨d.testBit j=true):=by
 have: ∃i,i<ops.length∧B.testBit i=false∧q.testBit i=false∧ ∀j,j<i→B.testBit j=true∨q.testBit j=true:=by
  rw[List.all_eq_false]at hnot
  obtain⟨i,hi,hn⟩:=hnot
  rw[List.mem_range]at hi
  simp only[Bool.or_eq_true,not_or,Bool.not_eq_true]at hn
  induction i using Nat.strongRecOn with
  |_ i ih=>
   by_cases hl: ∀j,j<i→B.testBit j=true∨q.testBit j=true
   ·exact⟨i,hi,hn.1,hn.2,hl⟩
   ·have: ∃j,j<i∧B.testBit j=false∧q.testBit j=false:=by
     apply Classical.byContradiction
     intro hno
     apply hl
     intro j hj
     cases hb:B.testBit j with
     |true=>exact Or.inl rfl
     |false=>
      cases hq:q.testBit j with
      |true=>exact Or.inr rfl
      |false=>exact absurd ⟨j,hj,hb,hq⟩ hno
    obtain⟨j,hj,h1,h2⟩:=this
    exact ih j hj (by omega) ⟨h1,h2⟩
 obtain⟨i,hi,h1,h2,h3⟩:=this
 have ho:=List.getElem?_eq_getElem hi
 obtain⟨d,sub,h4,h5⟩:=Gq (D:=fun j=>q.testBit j&&decide (j<ops.length)) aej K (fun j hj=>by simp at hj;exact hj.1) (fun j hj=>by simp at hj;exact hj.2)
  (fun a b hab hb j hj=>by
   have hal:a<ops.length:=(List.getElem?_eq_some_iff.1 hb).1
   have hjl:j<ops.length:=Nat.lt_trans (K.back a b hb j hj) hal
   rcases hab with h|h
   ·exact Or.inl (JY a b h hb j hj)
   ·simp at h
    rcases R8 a b h.1 hb j hj with h|h
    ·exact Or.inl h
    ·exact Or.inr (by simp[h,hjl])) ho h1 h2 (fun j hj=>by
   have hji:=K.back i _ ho j hj
   rcases h3 j hji with h|h
   ·exact Or.inl h
   ·exact Or.inr (by simp[h];omega))
 refine⟨d,i,sub,h4,h5,fun o ho' j hj=> ?_⟩
 have hji:=K.back i _ ho' j hj
 rcases h3 j hji with h|h
 ·exact Or.inl h
 ·exact Or.inr (by rw[h5 j,h];simp;omega)
theorem HV{B d t q:Nat}(K:ZD ops qs B q)(JY: ∀i o,B.testBit i=true→ops[i]? =some o→ ∀j,j∈bU o→B.testBit j=true)(hd: ∀i o,d.testBit i=true→ops[i]? =some o→ ∀j,j∈bU o→(B.testBit j=true∨d.testBit j=true))
  (ht: ∀o,ops[t]? =some o→ ∀j,j∈bU o→(B.testBit j=true∨d.testBit j=true)): ∀i o,(B|||d|||2^t).testBit i=true→ops[i]? =some o→ ∀j,j∈bU o→(B|||d|||2^t).testBit j=true:=by
 intro i o hi ho j hj
 simp only[Nat.testBit_or,Nat.testBit_two_pow,Bool.or_eq_true,decide_eq_true_eq]at hi ⊢
 rcases hi with(h|h)|h
 ·exact Or.inl (Or.inl (JY i o h ho j hj))
 ·exact Or.inl (hd i o h ho j hj)
 ·subst h;exact Or.inl (ht o ho j hj)
theorem Ey: ∀(N:Nat) (p:dH),SizeOf.sizeOf p≤N→p.S0=true→ ∀(B:Nat) (s:St) (tr:List TE) (vq acc:List (Nat×List Prop)) (lv:List (List Prop×St)),(∀i o,ops[i]? =some o→ ∀j,j∈bU o→j<i)→(∀i o,B.testBit i=true→ops[i]? =some o→ ∀j,j∈bU o→B.testBit j=true)→
  QD ops (HE ops) (idx 0 ops) qs ops.length B p=true→kM P ty Γ dc cr ks hs ops n0 p s tr vq acc=some lv→lv≠ []
 |N, .last q,_,_,B,s,tr,vq,acc,lv,hb,JY,hok,h=>by
  simp only[kM]at h
  repeat' split at h
  all_goals first
   | (cases h;done)
   |skip
  simp only[Option.some.injEq]at h
  rw[←h];simp
 |0, .ph q c,hN,_,_,_,_,_,_,_,_,_,_,_=>by simp only[dH.ph.sizeOf_spec]at hN;omega
 |N+1, .ph q c,hN,_,B,s,tr,vq,acc,lv,hb,JY,hok,h=>by
  simp only[QD,Bool.and_eq_true,Bool.not_eq_true']at hok
  have K:=HU hb hok.1.1.1
  obtain⟨d,t,sub,hm,hd,ht⟩:=N6 hok.1.1.2 K JY K.clq hok.1.2
  simp only[kM]at h
  split at h
  case h_2=>cases h
  rename_i tr' vq' hr
  obtain⟨o,vc,s2,l1,h1,h2,h3,h4⟩:=oZ h d t sub hm
  obtain⟨p1,p2,p3,p4⟩:=vJ hok.2 d t sub hm
  have hsz:SizeOf.sizeOf sub≤N:=by simp only[dH.ph.sizeOf_spec]at hN;omega
  have:=Ey N sub hsz p1 (B|||d|||2^t) s2 [] [] _ l1 hb (HV K JY (fun i o hi ho j hj=>by
   rw[hd i]at hi
   simp only[Bool.and_eq_true,decide_eq_true_eq]at hi
   rcases K.clq i o hi.1 ho j hj with h|h
   ·exact Or.inl h
   ·exact Or.inr (by rw[hd j,h];have:=K.back i o ho j hj;simp;omega)) ht) p3 h3
  intro hnil
  cases l1 with
  |nil=>exact this rfl
  |cons x r=>have:=h4 x (by simp);rw[hnil]at this;cases this
 |_, .br _ _ _ _,_,hp,_,_,_,_,_,_,_,_,_,_=>by cases hp
 |_, .nil,_,hp,_,_,_,_,_,_,_,_,_,_=>by cases hp
variable{zb:bY}{Q:Exit→Act→World→Prop}
theorem Gr(X:Ctx P ty Γ){B q:Nat}{s:St}{tr:List TE}{vq:List (Nat×List Prop)}(T:U3 Γ (I2 P ty) (Sound ty P) dc cr ops q s tr vq)(K:ZD ops qs B q)(hv: ∀x,x∈vq→q.testBit x.1=true→x.1<ops.length→ ∀p,p∈x.2→p)(JY: ∀i o,B.testBit i=true→ops[i]? =some o→ ∀j,j∈bU o→B.testBit j=true)
  (fin: ∀a w,(∀i,i<ops.length→B.testBit i=true∨q.testBit i=true)→Inv ty zb (cU (fun j=>q.testBit j) tr s ops.length) a w→Q .normal a w)
  (jl: ∀(fuel:Nat) (D:Nat→Bool) (listed:Array Bool) (i:Nat) (o:Oper) (a:Act) (w:World),listed.size=ops.length→(∀j,j<ops.length→listed.getD j false=(B.testBit j||D j))→(∀i,D i=true→q.testBit i=true)→(∀i,D i=true→i<ops.length)→
   (∀i o,(B.testBit i=true∨D i=true)→ops[i]? =some o→ ∀j,j∈bU o→(B.testBit j=true∨D j=true))→ops[i]? =some o→B.testBit i=false→q.testBit i=false→(∀j,j∈bU o→(B.testBit j=true∨D j=true))→cnt ops.length (fun j=>(listed.setIfInBounds i true).getD j false)≤fuel→
   Inv ty zb (cU D tr s ops.length) a w→qb P ops.toArray o a w (wpAny P .any ops.toArray Q fuel (listed.setIfInBounds i true)) Q):
  ∀(fuel:Nat) (D:Nat→Bool) (listed:Array Bool) (a:Act) (w:World),listed.size=ops.length→(∀j,j<ops.length→listed.getD j false=(B.testBit j||D j))→(∀i,D i=true→q.testBit i=true)→(∀i,D i=true→i<ops.length)→
   (∀i o,(B.testBit i=true∨D i=true)→ops[i]? =some o→ ∀j,j∈bU o→(B.testBit j=true∨D j=true))→cnt ops.length (fun j=>listed.getD j false)≤fuel→Inv ty zb (cU D tr s ops.length) a w→wpAny P .any ops.toArray Q fuel listed a w:=by
 have all: ∀{D:Nat→Bool} {listed:Array Bool} {a:Act} {w:World},listed.size=ops.length→(∀j,j<ops.length→listed.getD j false=(B.testBit j||D j))→(∀i,D i=true→q.testBit i=true)→Region.ready .any ops.toArray listed= []→Inv ty zb (cU D tr s ops.length) a w→Q .normal a w:=by
  intro D listed a w hl hL tD hnil iv
  have PI: ∀i,i<ops.length→listed.getD i false=true:=by
   intro i
   induction i using Nat.strongRecOn with
   |_ i ih=>
    intro hi
    cases hd:listed.getD i false with
    |true=>rfl
    |false=>
     have:i∈Region.ready .any ops.toArray listed:=(jT hl).2 ⟨ops[i],List.getElem?_eq_getElem hi,hd,fun j hj=>by
      have:=K.back i _ (List.getElem?_eq_getElem hi) j hj
      exact ih j this (by omega)⟩
     rw[hnil]at this
     cases this
  have hBD: ∀i,i<ops.length→B.testBit i=true∨D i=true:=by
   intro i hi
   have:=PI i hi
   rw[hL i hi,Bool.or_eq_true]at this
   exact this
  refine fin a w (fun i hi=>(hBD i hi).imp id (tD i)) ?_
  rw[←AR (D:=D) fun i hi=> ?_]
  ·exact iv
  ·cases hq:q.testBit i with
   |false=>
    cases hd:D i with
    |false=>rfl
    |true=>rw[tD i hd]at hq;cases hq
   |true=>
    rcases hBD i hi with h|h
    ·rw[K.kW i hi hq]at h;cases h
    ·exact h
 intro fuel
 induction fuel with
 |zero=>
  intro D listed a w hl hL tD XT CJ hf iv
  have hz:=JA (by omega:cnt ops.length (fun i=>listed.getD i false)=0)
  have hnil:Region.ready .any ops.toArray listed= []:=by
   apply List.eq_nil_iff_forall_not_mem.2
   intro i hi
   obtain⟨o,ho,h1,_⟩:=(jT hl).1 hi
   rw[hz i (List.getElem?_eq_some_iff.1 ho).1]at h1
   cases h1
  exact⟨hnil,all hl hL tD hnil iv⟩
 |succ fuel ih=>
  intro D listed a w hl hL tD XT CJ hf iv
  refine⟨fun hnil=>all hl hL tD hnil iv,fun i hi=> ?_⟩
  obtain⟨o,ho,hif,hE0⟩:=(jT hl).1 hi
  have hin:=(List.getElem?_eq_some_iff.1 ho).1
  have hE: ∀j,j∈bU o→(B.testBit j=true∨D j=true):=by
   intro j hj
   have:=hE0 j hj
   rw[hL j (by have:=K.back i o ho j hj;omega),Bool.or_eq_true]at this
   exact this
  rw[hL i hin,Bool.or_eq_false_iff]at hif
  obtain⟨hBi,Fl⟩:=hif
  have PJ: ∀j,(listed.setIfInBounds i true).getD j false=(listed.getD j false||j==i):=fun j=>yQ (by omega)
  have VR:(fun j=>(listed.setIfInBounds i true).getD j false)=fun j=>listed.getD j false||j==i:=funext PJ
  have Wr:cnt ops.length (fun j=>(listed.setIfInBounds i true).getD j false)≤fuel:=by
   rw[VR]
   have:=NM (D:=fun i=>listed.getD i false) hin (by rw[hL i hin,hBi,Fl];rfl)
   omega
  unfold wpOp
  rw[List.getElem?_toArray,ho]
  dsimp only
  cases CN:q.testBit i with
  |true=>
   have hstep:=Mr (Q:=Q) X.kind T K hv tD XT CJ CN Fl ho hE iv
   refine qb.mono (fun a' w' mQ=>ih (fun j=>D j||j==i) (listed.setIfInBounds i true) a' w' (by simpa using hl) (fun j hj=> ?_) (fun j hj=> ?_) (fun j hj=> ?_) (fun a b hab hb j hj=> ?_) Wr mQ) hstep
   ·rw[PJ,hL j hj,Bool.or_assoc]
   ·simp only[Bool.or_eq_true,beq_iff_eq]at hj
    rcases hj with h|rfl
    ·exact tD j h
    ·exact CN
   ·simp only[Bool.or_eq_true,beq_iff_eq]at hj
    rcases hj with h|rfl
    ·exact XT j h
    ·exact hin
   ·have up: ∀{x},(B.testBit x=true∨D x=true)→(B.testBit x=true∨(D x||x==i)=true):=fun h=>h.imp id (fun h=>by simp[h])
    simp only[Bool.or_eq_true,beq_iff_eq]at hab
    rcases hab with h|h|rfl
    ·exact up (CJ a b (Or.inl h) hb j hj)
    ·exact up (CJ a b (Or.inr h) hb j hj)
    ·rw[ho]at hb
     simp only[Option.some.injEq]at hb
     subst hb
     exact up (hE j hj)
  |false=>exact jl fuel D listed i o a w hl hL tD XT CJ ho hBi CN hE Wr iv
theorem JZ(X:Ctx P ty Γ)(hb: ∀i o,ops[i]? =some o→ ∀j,j∈bU o→j<i): ∀(N:Nat) (p:dH),SizeOf.sizeOf p≤N→p.S0=true→ ∀(B:Nat) (s:St) (tr0:List TE) (vq0 acc:List (Nat×List Prop)) (lv:List (List Prop×St)),
  (∀i o,B.testBit i=true→ops[i]? =some o→ ∀j,j∈bU o→B.testBit j=true)→QD ops (HE ops) (idx 0 ops) qs ops.length B p=true→kM P ty Γ dc cr ks hs ops n0 p s tr0 vq0 acc=some lv→
  (∀x,x∈lv→(∀q,q∈x.1→q)∧ ∀a w,Inv ty zb x.2 a w→Q .normal a w)→
  ∀(fuel:Nat) (listed:Array Bool) (a:Act) (w:World),listed.size=ops.length→(∀j,j<ops.length→listed.getD j false=B.testBit j)→cnt ops.length (fun j=>listed.getD j false)≤fuel→Inv ty zb s a w→wpAny P .any ops.toArray Q fuel listed a w
 |N, .last q,hN,_,B,s,tr0,vq0,acc,lv,JY,hok,h,hlv,fuel,listed,a,w,hl,hL,hf,iv=>by
  simp only[QD,Bool.and_eq_true]at hok
  have K:=HU hb hok.1
  simp only[kM]at h
  split at h
  case h_2=>cases h
  rename_i tr vq hr
  split at h
  case h_2=>cases h
  rename_i n sl1 fu hs1
  have hs1:=mP hs1
  split at h
  case h_2=>cases h
  rename_i sl hp vc h1 h2 h3
  split at h
  case h_2=>cases h
  rename_i Ar hn
  simp only[Option.some.injEq]at h
  have T:=U3.of hr
  obtain⟨hx1,vU⟩:=hlv (vc,⟨n0,sl,hp⟩) (by rw[←h];simp)
  have hmk:cU (fun j=>q.testBit j) tr s ops.length=⟨n,sl1,fu⟩:=by
   rw[hs1,ze,T.len]
   congr 1
   funext j;rw[Nat.zero_add]
  refine Gr X T K (fun x hx hq _ p hp=>hx1 p (AQ h3 x (qI.2 (Or.inl ⟨hx,hq⟩)) p hp)) JY (fun a w _ mQ=> ?_) (fun fuel D listed i o a w _ _ _ _ _ ho hBi CN _ _ _=> ?_) fuel (fun _=>false) listed a w hl (fun j hj=>by rw[hL j hj,Bool.or_false]) (by simp) (by simp) (fun i o hi ho j hj=>by
    rcases hi with h|h
    ·exact Or.inl (JY i o h ho j hj)
    ·cases h) hf (by rw[Ex];exact iv)
  ·rw[hmk]at mQ
   exact vU a w (mQ.weaken (Nat.eq_of_beq_eq_true hn).symm (lg h1) (lp h2) Ar)
  ·exfalso
   have hil:=(List.getElem?_eq_some_iff.1 ho).1
   have:=List.all_eq_true.1 hok.2 i (List.mem_range.2 hil)
   rw[hBi,CN]at this;cases this
 |0, .ph q c,hN,_,_,_,_,_,_,_,_,_,_,_,_,_,_,_,_,_,_,_=>by simp only[dH.ph.sizeOf_spec]at hN;omega
 |N+1, .ph q c,hN,_,B,s,tr0,vq0,acc,lv,JY,hok,h,hlv,fuel,listed,a,w,hl,hL,hf,iv=>by
  simp only[QD,Bool.and_eq_true,Bool.not_eq_true']at hok
  have K:=HU hb hok.1.1.1
  obtain⟨d,t,sub,hm,hd,ht⟩:=N6 hok.1.1.2 K JY K.clq hok.1.2
  simp only[kM]at h
  split at h
  case h_2=>cases h
  rename_i tr vq hr
  have T:=U3.of hr
  have hv: ∀x,x∈vq→q.testBit x.1=true→x.1<ops.length→ ∀p,p∈x.2→p:=by
   obtain⟨o,vc,s2,l1,h1,h2,h3,h4⟩:=oZ h d t sub hm
   obtain⟨p1,p2,p3,p4⟩:=vJ hok.2 d t sub hm
   have hsz:SizeOf.sizeOf sub≤N:=by simp only[dH.ph.sizeOf_spec]at hN;omega
   have hne:=Ey N sub hsz p1 (B|||d|||2^t) s2 [] [] _ l1 hb (HV K JY (fun i o hi ho j hj=>by
    rw[hd i]at hi
    simp only[Bool.and_eq_true,decide_eq_true_eq]at hi
    rcases K.clq i o hi.1 ho j hj with h|h
    ·exact Or.inl h
    ·exact Or.inr (by rw[hd j,h];have:=K.back i o ho j hj;simp;omega)) ht) p3 h3
   cases l1 with
   |nil=>exact absurd rfl hne
   |cons x r=>
    intro y hy hq hyl p hp
    exact(hlv x (h4 x (by simp))).1 p (qJ h3 x (by simp) y (uy.2 (Or.inr (qI.2 (Or.inl ⟨hy,by rw[hd y.1,hq];simp[hyl]⟩)))) p hp)
  refine Gr X T K hv JY (fun a w hall _=> ?_) (fun fuel D listed i o a w hl hL tD XT CJ ho hBi CN hE Wr mQ=> ?_) fuel (fun _=>false) listed a w hl (fun j hj=>by rw[hL j hj,Bool.or_false]) (by simp) (by simp) (fun i o hi ho j hj=>by
    rcases hi with h|h
    ·exact Or.inl (JY i o h ho j hj)
    ·cases h) hf (by rw[Ex];exact iv)
  ·exfalso
   have:((List.range ops.length).all fun i=>B.testBit i||q.testBit i)=true:=by
    rw[List.all_eq_true]
    intro i hi
    rw[Bool.or_eq_true]
    exact hall i (List.mem_range.1 hi)
   rw[hok.1.2]at this;cases this
  ·obtain⟨d,sub,hm,hd⟩:=Gq hok.1.1.2 K tD XT CJ ho hBi CN hE
   obtain⟨o',vc,s2,l1,h1,h2,h3,h4⟩:=oZ h d i sub hm
   rw[ho]at h1
   simp only[Option.some.injEq]at h1
   subst h1
   obtain⟨p1,p2,p3,p4⟩:=vJ hok.2 d i sub hm
   have hsz:SizeOf.sizeOf sub≤N:=by simp only[dH.ph.sizeOf_spec]at hN;omega
   have hmk:JV d 0 tr s=cU D tr s ops.length:=by
    rw[ze,T.len]
    exact AR fun j _=>by rw[Nat.zero_add];exact hd j
   rw[hmk]at h2
   have abZ:=HV (d:=d) (t:=i) K JY (fun i o hi ho j hj=>by
    rw[hd i]at hi
    rw[hd j]
    exact CJ i o (Or.inr hi) ho j hj) (fun o2 IM j hj=>by
    rw[ho]at IM
    simp only[Option.some.injEq]at IM
    subst IM
    rw[hd j]
    exact hE j hj)
   have hne:=Ey N sub hsz p1 (B|||d|||2^i) s2 [] [] _ l1 hb abZ p3 h3
   have Vz: ∀p,p∈vc→p:=by
    cases l1 with
    |nil=>exact absurd rfl hne
    |cons x r=>
     intro p hp
     exact(hlv x (h4 x (by simp))).1 p (qJ h3 x (by simp) (i,vc) (uy.2 (Or.inl rfl)) p hp)
   have hstep:=CG (Q:=Q) X.kind X.one h2 mQ Vz
   refine qb.mono (fun a' w' iv2=>JZ X hb N sub hsz p1 (B|||d|||2^i) s2 [] [] _ l1 abZ p3 h3 (fun x hx=>hlv x (h4 x hx)) fuel (listed.setIfInBounds i true) a' w' (by simpa using hl) (fun j hj=> ?_) Wr iv2) hstep
   have hin:=(List.getElem?_eq_some_iff.1 ho).1
   rw[yQ (by omega),hL j hj]
   simp only[Nat.testBit_or,Nat.testBit_two_pow,hd j]
   by_cases hji:j=i
   ·subst hji;simp
   ·have: ¬i=j:=fun e=>hji e.symm
    simp[hji,this]
 |_, .br _ _ _ _,_,hp,_,_,_,_,_,_,_,_,_,_,_,_,_,_,_,_,_,_=>by cases hp
 |_, .nil,_,hp,_,_,_,_,_,_,_,_,_,_,_,_,_,_,_,_,_,_=>by cases hp
end
section
variable{P:Program}{Γ:Nat→TK}{zb:bY}{Q:Post}{st:St}
theorem W.ab0(X:Ctx P ty Γ)(dc:List (Nat×Nat))(cr:List (Nat×CR))(ks hs:List Nat)(qs:Nat)(pl:dH){id:Nat}{ops:List Oper}{vc:List Prop}{st':St}{rest:List (List Prop×St)}(hm:P.follows .mixedOrders=true)(hc:ZE ops qs pl=true)(h:kM P ty Γ dc cr ks hs ops st.n pl st [] [] []=some ((vc,st')::rest))(he:Gp (vc,st') rest)(hv:aj vc)(k:Q .normal st'):
  W P ty zb (.region id ops.toArray true) Q st:=by
 intro a w iv
 simp only[ZE,Bool.and_eq_true]at hc
 have hb:=abV hc.1.1
 refine wp_region_any hm ?_
 have hz: ∀i,(Array.replicate ops.toArray.size false).getD i false=false:=by
  intro i
  rw[Array.getD_eq_getD_getElem?,Array.getElem?_replicate]
  split<;>rfl
 refine JZ (zb:=zb) (Q:=D1 ty zb Q) X hb _ pl (Nat.le_refl _) hc.1.2 0 st [] [] [] _ (fun i o hi=>by simp at hi) hc.2 h (fun x hx=> ?_) _ _ a _ (by simp) (fun j hj=>by rw[hz];simp) ?_ ?_
 ·have hx:x=(vc,st'):=by
   rcases List.mem_cons.1 hx with rfl|hx
   ·rfl
   ·exact he.out x hx
  subst hx
  exact⟨hv.out,fun a w mQ=>⟨st',mQ,k⟩⟩
 ·unfold cnt
  refine Nat.le_trans (List.length_filter_le _ _) ?_
  simp
 ·obtain⟨env,g⟩:=iv.good
  have hdr:Below w.heap.size w w.drew:=(Below.refl _ _).drew
  refine⟨iv.size,iv.defers,iv.kept.trans (jF hdr iv.kept.size),iv.B0,env,?_⟩
  have:=g.grow (os:= []) (w':=w.drew) (env':=env) iv.kept.size rfl (ld.none hdr)
  exact this
end
section
variable{P:Program}{Γ:Nat→TK}{zb:bY}{Q:Post}{st:St}
theorem W.fZ(X:Ctx P ty Γ)(dc:List (Nat×Nat))(cr:List (Nat×CR))(ks hs:List Nat)(qs:Nat)(pl:dH)(nw:Nat){id:Nat}{ops:List Oper}{vc:List Prop}{st':St}(hm:P.follows .mixedOrders=true)(hc:ZE ops qs pl=true)(_h0:G.cD P ty Γ dc cr ks hs ops st=some (vc,st'))(h:kM P ty Γ dc cr ks hs ops st.n pl st [] [] []=some ((vc,st')::List.replicate nw (vc,st')))(hv:aj vc)(k:Q .normal st'):
  W P ty zb (.region id ops.toArray true) Q st:=by
 refine W.ab0 X dc cr ks hs qs pl hm hc h ?_ hv k
 have: ∀n,Gp (vc,st') (List.replicate n (vc,st')):=by
  intro n
  induction n with
  |zero=>trivial
  |succ n ih=>exact⟨rfl,ih⟩
 exact this nw
end
end
end Go.Proofs.YteodajeiagmekaaGreat.G
