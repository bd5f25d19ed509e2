/- Steps. -/
import Derived.Test.YtaalpcnbbldlaaaGreatDoorR8
open List renaming all_eq_true→bE,mem_append_left→bl,mem_append_right→aW,mem_cons_of_mem→aE,mem_singleton→aV
open Nat renaming beq→bH,eq_of_beq_eq_true→aG
namespace Go.Proofs.YtaalpcnbbldlaaaGreatDoor.G
set_option linter.all false
open Go.RowKit L D
section
variable{Dk:List ResultVar}{kY:Hp}{rs:List S1}{vc:List Prop}{ty:Tag→Nat}
def aml:V→V→Option (List Prop)
 |_, .any=>some []
 | .lit v, .lit u=>some [v=u]
 | .uS v t l, .uS u t' l'=>match rM t' t l with|some l2=>some [v=u,l2=l']|none=>none
 | .own n, .own m=>match bH n m with|true=>some []|false=>none
 | .ptr n o, .ptr m q=>match bH n m&&bH o q with|true=>some []|false=>none
 |_,_=>none
def DO:List V→List V→Option (List Prop)
 | [],[]=>some []
 |x::r,y::s=>match aml x y,DO r s with|some vc,some vcs=>some (zn vc vcs)|_,_=>none
 |_,_=>none
def xR:Obj→Obj→Option (List Prop)
 | .arr t l, .arr t' l'=>match rM t' t l with|some l2=>some [l2=l']|none=>none
 | .box c, .box d=>DO c d
 |_,_=>none
def VL(hp:Hp):Hp→Option (List Prop)
 | []=>some []
 | (n,o)::r=>match look hp n with
   |some x=>match xR x o,VL hp r with|some vc,some vcs=>some (zn vc vcs)|_,_=>none
   |none=>none
def VM:S1→S1→Option (List Prop)
 | .a v, .a u=>DO [v] [u]
 | .agg l, .agg m=>DO l m
 |_,_=>none
def Lp:List S1→List S1→Option (List Prop)
 | [],[]=>some []
 |x::r,y::s=>match VM x y,Lp r s with|some vc,some vcs=>some (zn vc vcs)|_,_=>none
 |_,_=>none
def ae1(Γ:Nat→TK)(st:St)(Dk:List ResultVar)(kY:Hp)(rs:List S1):Option (List Prop):=
 match Iz Γ st Dk with
 |some xs=>match Lp xs rs,VL st.hp kY with
  |some vc,some vcs=>some (zn vc vcs)
  |_,_=>none
 |none=>none
def ayO(Γ:Nat→TK)(Dk:List ResultVar)(kY:Hp)(rs:List S1):Post:=fun e st=>(e= .ret∨e= .normal)∧ ∃vc,ae1 Γ st Dk kY rs=some vc∧tH vc
theorem bB{Γ:Nat→TK}{st:St}(h:ae1 Γ st Dk kY rs=some vc)(hv:tH vc):ayO Γ Dk kY rs .ret st:=⟨.inl rfl,vc,h,hv⟩
theorem Bo{Γ:Nat→TK}{st:St}(h:ae1 Γ st Dk kY rs=some vc)(hv:tH vc):ayO Γ Dk kY rs .normal st:=⟨.inr rfl,vc,h,hv⟩
def okT(kY:Hp)(rs:List S1):Bool:=(rs.all (Ba kY))&&(kY.all fun e=>Iy kY e.2)&&tW kY
section
variable{P:Program}{zb:fG}{st:St}{a:Act}{w:World}{env:Env}
theorem Qn{x o:Obj}(h:xR x o=some vc):(∀t l,x= .arr t l→ ∃t' l',o= .arr t' l')∧ ∀c,x= .box c→ ∃d,o= .box d:=by
 cases x<;>cases o<;>simp[xR]at h ⊢
theorem Qo{hp:Hp}: ∀{kY:Hp} {vc:List Prop},VL hp kY=some vc→(∀q,q∈vc→q)→ ∀n o,(n,o)∈kY→ ∃x v1,look hp n=some x∧xR x o=some v1∧ ∀q,q∈v1→q
 | (k,y)::r,vc,h,hv,n,o,hm=>by
   simp only[VL]at h;split at h
   ·rename_i x hx;split at h
    ·rename_i v1 v2 h1 h2;simp only[oI,lR]at h;subst h;rcases List.mem_cons.1 hm with h'|h'
     ·simp only[pI]at h';obtain⟨rfl,rfl⟩:=h';exact⟨x,v1,hx,h1,fun q hq=>hv q (bl _ hq)⟩
     ·exact Qo h2 (fun q hq=>hv q (aW _ hq)) n o h'
    ·cases h
   ·cases h
theorem amm{hp:Hp}(hT: ∀n o,look kY n=some o→ ∃x v1,look hp n=some x∧xR x o=some v1){x y:V}{u:Value}(hr:RA w hp env x u)(h:aml x y=some vc)(hv: ∀q,q∈vc→q)(hn:vQ kY y=true):RA w kY env y u:=by
 unfold aml at h;split at h
 ·trivial
 ·simp only[oI]at h;subst h;have e:=hv _ (aV.2 rfl);subst e;exact hr
 ·split at h
  ·rename_i l2 hc;simp only[oI]at h;subst h;have e1:=hv _ (List.mem_cons_self ..);have e2:=hv _ (aE _ (aV.2 rfl));obtain⟨et,rfl⟩:=kq hc;subst et;subst e1;subst e2;obtain⟨hu,fp,h1,h2⟩:=hr;refine⟨hu,fp,h1,fun b hb ho=>h2 b hb ?_⟩;obtain⟨n,o,q1,q2⟩:=ho;obtain⟨x,_,p1,_⟩:=hT n o q1;exact⟨n,x,p1,q2⟩
  ·cases h
 ·rename_i n m;split at h
  ·rename_i hb;have hb:=aG hb;subst hb;obtain⟨⟨t,l,hl⟩,hu⟩:=hr;have hno:=Fc hn n rfl;cases hq:look kY n with
   |none=>exact absurd hq hno
   |some o=>
    obtain⟨x,v1,h1,h2⟩:=hT n o hq;rw[hl]at h1;simp only[oI]at h1;subst h1;obtain⟨t',l',rfl⟩:=(Qn h2).1 t l rfl;exact⟨⟨t',l',hq⟩,hu⟩
  ·cases h
 ·rename_i n o m q;split at h
  ·rename_i hb;simp only[Bool.and_eq_true]at hb;have cQ:=aG hb.1;have fu:=aG hb.2;subst cQ;subst fu;obtain⟨⟨c,hl⟩,hu⟩:=hr;have hno:=Fc hn n rfl;cases hq:look kY n with
   |none=>exact absurd hq hno
   |some z=>
    obtain⟨x,v1,h1,h2⟩:=hT n z hq;rw[hl]at h1;simp only[oI]at h1;subst h1;obtain⟨d,rfl⟩:=(Qn h2).2 c rfl;exact⟨⟨d,hq⟩,hu⟩
  ·cases h
 ·cases h
theorem Fk{hp kY:Hp}(hT: ∀n o,look kY n=some o→ ∃x v1,look hp n=some x∧xR x o=some v1): ∀{xs ys:List V} {us:List Value} {vc:List Prop},dG (RA w hp env) xs us→DO xs ys=some vc→(∀q,q∈vc→q)→(∀y,y∈ys→vQ kY y=true)→dG (RA w kY env) ys us
 | [],ys,us,vc,hr,h,_,_=>by
   cases ys with
   |nil=>
    cases us with
    |nil=>trivial
    |cons _ _=>exact hr.elim
   |cons _ _=>simp[DO]at h
 |x::r,ys,us,vc,hr,h,hv,hn=>by
  cases us with
  |nil=>exact hr.elim
  |cons u us=>
   cases ys with
   |nil=>simp[DO]at h
   |cons y s=>
    simp only[DO]at h;split at h
    ·rename_i v1 v2 h1 h2;simp only[oI,lR]at h;subst h;exact⟨amm hT hr.1 h1 (fun q hq=>hv q (bl _ hq)) (hn y fI),Fk hT hr.2 h2 (fun q hq=>hv q (aW _ hq)) (fun z hz=>hn z (aE _ hz))⟩
    ·cases h
theorem aii{hp:Hp}(hT: ∀n o,look kY n=some o→ ∃x v1,look hp n=some x∧xR x o=some v1){x y:S1}{u:Value}(hr:mG w hp env x u)(h:VM x y=some vc)(hv: ∀q,q∈vc→q)(hn:Ba kY y=true):mG w kY env y u:=by
 cases x with
 |a v=>
  cases y with
  |a v'=>
   have:=Fk hT (xs:= [v]) (us:= [u]) ⟨hr,trivial⟩ h hv (fun z hz=>by rw[aV.1 hz];exact hn);exact this.1
  |agg _=>simp[VM]at h
 |agg l=>
  cases y with
  |a v'=>simp[VM]at h
  |agg m=>
   obtain⟨cs,rfl,hl⟩:=hr;exact⟨cs,rfl,Fk hT hl h hv (fun z hz=>bE.1 hn z hz)⟩
theorem TH{hp kY:Hp}(hT: ∀n o,look kY n=some o→ ∃x v1,look hp n=some x∧xR x o=some v1): ∀{xs ys:List S1} {us:List Value} {vc:List Prop},dG (mG w hp env) xs us→Lp xs ys=some vc→(∀q,q∈vc→q)→(∀y,y∈ys→Ba kY y=true)→dG (mG w kY env) ys us
 | [],ys,us,vc,hr,h,_,_=>by
   cases ys with
   |nil=>
    cases us with
    |nil=>trivial
    |cons _ _=>exact hr.elim
   |cons _ _=>simp[Lp]at h
 |x::r,ys,us,vc,hr,h,hv,hn=>by
  cases us with
  |nil=>exact hr.elim
  |cons u us=>
   cases ys with
   |nil=>simp[Lp]at h
   |cons y s=>
    simp only[Lp]at h;split at h
    ·rename_i v1 v2 h1 h2;simp only[oI,lR]at h;subst h;exact⟨aii hT hr.1 h1 (fun q hq=>hv q (bl _ hq)) (hn y fI),TH hT hr.2 h2 (fun q hq=>hv q (aW _ hq)) (fun z hz=>hn z (aE _ hz))⟩
    ·cases h
end
theorem ayP{as:List S1}{us:List Value}{w:World}{env:Env}{nB:Hp}{n:Nat}(hA:Nc w)(hL: ∀b,ahn b→b∉Iv nB env)(hG:Yk ty w nB env)(ha:dG (mG w nB env) as us)(hn:as.length≤n):
  Inv ty ⟨w,Iv nB env,env⟩ ⟨n,enter 0 as,nB⟩ {tmps:=us.toArray++Array.replicate (n-us.toArray.size) undef,defers:= []} w:=by
 have hl:=ha.len;refine⟨by simp;omega,rfl,Kept.refl _ _,⟨hA,hL⟩,env,⟨hG.1,hG.2,fun s v hv=> ?_,fun n o h b hb=>Or.inl (List.mem_flatMap.2 ⟨_,jx h,hb⟩),fun n _=>⟨rfl,fun b hb=>hb⟩⟩⟩;obtain⟨x,rfl,_,hx⟩:=GN hv;rw[Nat.sub_zero]at hx;obtain⟨u,hu,hr⟩:=ha.at hx;have hs:s<us.length:=(List.getElem?_eq_some_iff.1 hu).1;have:(us.toArray++Array.replicate (n-us.toArray.size) undef).getD s undef=u:=by
  rw[Array.getD_eq_getD_getElem?,Array.getElem?_append_left (by simpa using hs)];simp[hu]
 show mG w nB env x _
 rw[this];exact hr
theorem ff{P:Program}{Γ:Nat→TK}(X:Ctx P ty Γ){f:FuncId}{fn:Func}{c:Code}{n:Nat}{nB:Hp}{as:List S1}
  (Yu: ∀(args:Array Value) (w:World),(callFunc f args).run P w= .ok (.enter f args) w)(hf:P.funcs[f]? =some fn)(hb:fn.body=some c)(hr:fn.results=Dk.toArray)(hl:Dk.length≤4)(hn:fn.ntmps=n)(hlen:as.length≤n)(hT:okT kY rs=true)
  (h: ∀zb,W P ty zb c (ayO Γ Dk kY rs) ⟨n,enter 0 as,nB⟩):jr ty P f nB as kY rs:=by
 refine⟨Yu,fun w env us hA hL hG ha=>calls_of_wp hf hb ?_⟩;rw[hn];refine wp_mono (h _ _ w (ayP hA hL hG ha hlen)) ?_;simp only[okT,Bool.and_eq_true,bE]at hT;obtain⟨⟨t1,t2⟩,t3⟩:=hT;rintro e a w' ⟨st,iv,he,vc,va,hv⟩;have key:a.defers= []∧ ∃v,(results fn a.tmps).run P w'= .ok v w'∧ ∃env' u,Ending.returned v= .returned u∧Kept ⟨w,Iv nB env,env⟩ w w'∧Yk ty w' kY env'∧
   (∀n o,look kY n=some o→ ∀b,b∈(env' n).fp→b∈Iv nB env∨w.heap.size≤b)∧(∀n,tG n=true→(env' n).v=(env n).v∧ ∀b,b∈(env' n).fp→b∈(env n).fp)∧aC2 w' kY env' rs u:=by
  obtain⟨env',g⟩:=iv.good;unfold ae1 at va;split at va
  ·rename_i xs hx;split at va
   ·rename_i v1 v2 hm1 hm2;simp only[oI,lR]at va;subst va;have hv1: ∀q,q∈v1→q:=fun q hq=>hv.out q (bl _ hq);have hv2: ∀q,q∈v2→q:=fun q hq=>hv.out q (aW _ hq);obtain⟨vs,h1,h2,h3⟩:=Yt X.kind g hr hx hl;have hmem:=Qo hm2 hv2;have hT: ∀n o,look kY n=some o→ ∃x v1,look st.hp n=some x∧xR x o=some v1:=fun n o hl=>by
     obtain⟨x,v1,p1,p2,_⟩:=hmem n o (jx hl);exact⟨x,v1,p1,p2⟩
    have hres:=TH hT h1 hm1 hv1 t1;refine⟨iv.defers,_,h3,env',_,rfl,iv.kept,⟨fun n o hl=> ?_,fun n m o o' hne hl1 uI=> ?_⟩,fun n o hl b hb=> ?_,fun n hp=>g.pins n hp,?_⟩
    ·obtain⟨x,v1,p1,p2,p3⟩:=hmem n o (jx hl);have hro:=g.obj n x p1;cases x with
     |arr t l=>
      cases o with
      |box d=>simp[xR]at p2
      |pQ t' l' s'=>simp[xR]at p2
      |arr t' l'=>
       simp only[xR]at p2;split at p2
       ·rename_i l2 hc;simp only[oI]at p2;subst p2;have e2:=p3 _ (aV.2 rfl);subst e2;obtain⟨e,rfl⟩:=kq hc;subst e;exact aef (fun h=>h) hro
       ·cases p2
     |pQ t l s=>cases o<;>simp[xR]at p2
     |box c=>
      cases o with
      |arr t' l'=>simp[xR]at p2
      |pQ t' l' s'=>simp[xR]at p2
      |box d=>
       obtain⟨b,cs,e,q1,q2,q3⟩:=hro;exact⟨b,cs,e,q1,q2,Fk hT q3 p2 p3 (fun y hy=>bE.1 (t2 _ (jx hl)) y hy)⟩
    ·obtain⟨x,_,p1,_⟩:=hT n o hl1;obtain⟨y,_,p2,_⟩:=hT m o' uI;exact g.tN n m x y hne p1 p2
    ·obtain⟨x,_,p1,_⟩:=hT n o hl;exact g.dom n x p1 b hb
    ·match rs,vs,hres with
     | [r],[u],hres=>exact hres.1
     | [],[],hres=>exact⟨[],rfl,trivial⟩
     |r1::r2::r,u1::u2::u,hres=>exact⟨_,rfl,hres⟩
     | [],_::_,hres=>exact hres.elim
     |_::_,[],hres=>exact hres.elim
     | [_],_::_::_,hres=>exact hres.2.elim
     |_::_::_,[_],hres=>exact hres.2.elim
   ·cases va
  ·cases va
 rcases he with rfl|rfl<;>exact key
end
end Go.Proofs.YtaalpcnbbldlaaaGreatDoor.G
