/-
  Contracts of functions that are lent memory: from the walk through their bodies.
-/
import Derived.Test.YtaalpcnbbldlaaaGreatDoorM8
open Array renaming getD_eq_getD_getElem?→ak,getElem?_append_left→mU,replicate→oX
open List renaming all_eq_true→bE,flatten_cons→cY,getElem?_eq_some_iff→aV,mem_append_left→aY,mem_append_right→aS,mem_cons_of_mem→aT,mem_singleton→aZ,nodup_append→bK
open Nat renaming beq→bW,eq_of_beq_eq_true→aJ,sub_zero→RD
namespace Go.Proofs.YtaalpcnbbldlaaaGreatDoor.G
set_option linter.all false
open Go.RowKit L D
section
variable{ty:Tag→Nat}
theorem RI.ra{w:World}{env:Env}{v:V}{u:Value}{fp:List Nat}(h:RI w v u fp):RA w [] env v u:=by
 have hno: ∀b, ¬Ow [] env b:=by rintro b ⟨n,o,hl,_⟩;simp[look]at hl
 cases v with
 |lit x=>exact⟨h.1,h.2.1⟩
 |sl t l=>exact⟨fp,h,fun b _=>hno b⟩
 |_=>exact h.elim
theorem Mp.rs1{w:World}{env:Env}{x:S1}{u:Value}(h:Mp w x u):jU w [] env x u:=by
 cases x with
 |a v=>obtain⟨fp,h⟩:=h;exact h.ra
 |agg l=>
  obtain⟨cs,fp,rfl,h⟩:=h
  exact⟨cs,rfl,h.Ke fun b _=>by rintro⟨n,o,hl,_⟩;simp[look]at hl⟩
theorem C9: ∀{as:List S1} {i s:Nat} {v:SV},look (enter i as) s=some v→ ∃x,v= .one x∧i≤s∧as[s-i]? =some x
 |x::r,i,s,v,h=>by
  by_cases hs:s=i
  ·subst hs
   rw[enter,look_eq]at h
   simp only[oI]at h
   exact⟨x,h.symm,Nat.le_refl _,by simp⟩
  ·rw[enter,cF hs]at h
   obtain⟨y,h1,h2,h3⟩:=C9 h
   refine⟨y,h1,by omega,?_⟩
   rw[show s-i=(s-(i+1))+1 by omega,List.getElem?_cons_succ];exact h3
theorem entry{as:List S1}{us:List Value}{w:World}{n:Nat}(hA:IK w)(ha:cW (Mp w) as us)(hn:as.length≤n):
  Inv ty ⟨w,[],fun _=>⟨.tuple #[],[]⟩⟩ ⟨n,enter 0 as,[]⟩ {tmps:=us.toArray++oX (n-us.toArray.size) undef,defers:= []} w:=by
 have hl:=ha.len
 refine⟨by simp;omega,rfl,Kept.refl _ _,⟨hA,fun _ _ h=>by cases h⟩,fun _=>⟨.tuple #[],[]⟩,⟨fun n o h=>by simp[look]at h,fun n m o o' _ h=>by simp[look]at h,fun s v hv=> ?_,fun n o h=>by simp[look]at h,fun n _=>⟨rfl,fun b hb=>hb⟩⟩⟩
 obtain⟨x,rfl,_,hx⟩:=C9 hv
 rw[RD]at hx
 obtain⟨u,hu,hr⟩:=ha.at hx
 have hs:s<us.length:=(aV.1 hu).1
 have:(us.toArray++oX (n-us.toArray.size) undef).getD s undef=u:=by
  rw[ak,mU (by simpa using hs)]
  simp[hu]
 show jU w [] _ x _
 rw[this]
 exact hr.rs1
theorem eA{P:Program}{Γ:Nat→TK}(X:Ctx P ty Γ){f:FuncId}{fn:Func}{c:Code}{BS:List ResultVar}{n:Nat}{as rs:List S1}
  (RE: ∀(args:Array Value) (w:World),(callFunc f args).run P w= .ok (.enter f args) w)(hf:P.funcs[f]? =some fn)(hb:fn.body=some c)(hr:fn.results=BS.toArray)(hl:BS.length≤4)(hn:fn.ntmps=n)(hlen:as.length≤n)
  (h: ∀zb,W P ty zb c (Fin Γ BS rs) ⟨n,enter 0 as,[]⟩):Sound ty P f as rs:=by
 refine⟨RE,fun w us hA ha=>calls_of_wp hf hb ?_⟩
 rw[hn]
 refine wp_mono (h _ _ w (entry hA ha hlen)) ?_
 rintro e a w' ⟨st,iv,he,vc,ry,hv⟩
 have key:a.defers= []∧ ∃v,(results fn a.tmps).run P w'= .ok v w'∧Zd ty w rs (.returned v) w':=by
  obtain⟨env,g⟩:=iv.good
  unfold ends at ry
  split at ry
  ·rename_i xs hx
   split at ry
   ·rename_i vX k hm
    split at ry
    ·rename_i hnd
     simp only[oI]at ry
     subst ry
     obtain⟨vs,h1,h2,h3⟩:=RC X.kind g hr hx hl
     obtain⟨fp,q1,q2,_⟩:=Rz rfl g h1 hm (oH hnd) hv.out
     have hbel:Below w.heap.size w w':=⟨iv.kept.os,iv.kept.tape,iv.kept.output,iv.kept.size,fun b hb=>iv.kept.block b hb (by simp)⟩
     refine⟨iv.defers,_,h3,_,fp,rfl,hbel,q2,?_⟩
     match rs,vs,q1 with
     | [],[],q1=>exact⟨[],rfl,q1⟩
     | [r],[u],⟨f1,f2,p1,p2,e⟩=>
       have p2:f2= []:=p2
       rw[p2,List.append_nil]at e
       rw[e];exact p1
     |r1::r2::r,u1::u2::u,q1=>exact⟨_,rfl,q1⟩
     | [],_::_,q1=>exact q1.elim
     |_::_,[],q1=>exact q1.elim
     | [r],u1::u2::u,⟨_,_,_,p,_⟩=>exact p.elim
     |r1::r2::r,[u],⟨_,_,_,p,_⟩=>exact p.elim
    ·cases ry
   ·cases ry
  ·cases ry
 rcases he with rfl|rfl<;>exact key
theorem aF{P:Program}{Γ:Nat→TK}(X:Ctx P ty Γ){f:FuncId}{fn:Func}{c:Code}{BS:List ResultVar}{n:Nat}{xs rs:List S1}
  (RE: ∀(args:Array Value) (w:World),(callFunc f args).run P w= .ok (.enter f args) w)(hf:P.funcs[f]? =some fn)(hn:fn.ntmps=n)(hb:fn.body=some c)(hr:fn.results=BS.toArray)
  (h: ∀zb,W P ty zb c (Fin Γ BS rs) ⟨n,enter 0 xs,[]⟩)(hl:BS.length≤4:=by decide)(hlen:xs.length≤n:=by simp):Sound ty P f xs rs:=eA X RE hf hb hr hl hn hlen h
theorem RF.len{w:World}: ∀{vs:List V} {us:List Value} {dN:List (List Nat)},RF w vs us dN→us.length=vs.length∧dN.length=vs.length
 | [],[],_,h=>by rw[show _=_ from h];exact⟨rfl,rfl⟩
 |_::_,_::_,_,⟨_,_,_,h,e⟩=>by obtain⟨h1,h2⟩:=RF.len h;rw[e];exact⟨by simp[h1],by simp[h2]⟩
 | [],_::_,_,h=>h.elim
 |_::_,[],_,h=>h.elim
theorem agO.nodup: ∀{fs gs:List (List Nat)},agO fs gs→gs.flatten.Nodup→(∀f,f∈fs→f.Nodup)→fs.flatten.Nodup∧ ∀b,b∈fs.flatten→b∈gs.flatten
 | [],[],_,_,_=>⟨by simp,by simp⟩
 |f::fs,g::gs,⟨h1,h2⟩,hn,hf=>by
  rw[cY]at hn
  obtain⟨_,n2,n3⟩:=bK.1 hn
  obtain⟨q1,q2⟩:=agO.nodup h2 n2 (fun f hm=>hf f (aT _ hm))
  refine⟨?_,fun b hb=> ?_⟩
  ·rw[cY]
   exact bK.2 ⟨hf f (by simp),q1,fun b hb c hc e=>n3 b (h1 b hb) c (q2 c hc) e⟩
  ·rw[cY]at hb ⊢
   rcases List.mem_append.1 hb with hb|hb
   ·exact aY _ (h1 b hb)
   ·exact aS _ (q2 b hb)
 | [],_::_,h,_,_=>h.elim
 |_::_,[],h,_,_=>h.elim
section
variable{zb:eM}{st:St}{tmps:Array Value}{w0 w:World}{env:Env}
theorem RF.one{w:World}{v:V}{u:Value}{dN:List (List Nat)}(h:RF w [v] [u] dN): ∃f,RI w v u f∧dN= [f]:=by
 obtain⟨f,g,h1,h2,h3⟩:=h
 exact⟨f,h1,by rw[h3,show g= []from h2]⟩
end
end
section
variable{ty:Tag→Nat}
def adm:V→V→Option (List Prop)
 |_, .any=>some []
 | .lit v, .lit u=>some [v=u]
 | .BF v t l, .BF u t' l'=>match oF t' t l with|some l2=>some [v=u,l2=l']|none=>none
 | .own n, .own m=>match bW n m with|true=>some []|false=>none
 | .ptr n o, .ptr m q=>match bW n m&&bW o q with|true=>some []|false=>none
 |_,_=>none
def AL:List V→List V→Option (List Prop)
 | [],[]=>some []
 |x::r,y::s=>match adm x y,AL r s with|some vc,some vcs=>some (vD vc vcs)|_,_=>none
 |_,_=>none
def tZ:Obj→Obj→Option (List Prop)
 | .arr t l, .arr t' l'=>match oF t' t l with|some l2=>some [l2=l']|none=>none
 | .box c, .box d=>AL c d
 |_,_=>none
def Py(hp:Hp):Hp→Option (List Prop)
 | []=>some []
 | (n,o)::r=>match look hp n with
   |some x=>match tZ x o,Py hp r with|some vc,some vcs=>some (vD vc vcs)|_,_=>none
   |none=>none
def Pz:S1→S1→Option (List Prop)
 | .a v, .a u=>AL [v] [u]
 | .agg l, .agg m=>AL l m
 |_,_=>none
def G5:List S1→List S1→Option (List Prop)
 | [],[]=>some []
 |x::r,y::s=>match Pz x y,G5 r s with|some vc,some vcs=>some (vD vc vcs)|_,_=>none
 |_,_=>none
def XB(Γ:Nat→TK)(st:St)(BS:List ResultVar)(iW:Hp)(rs:List S1):Option (List Prop):=
 match Ep Γ st BS with
 |some xs=>match G5 xs rs,Py st.hp iW with
  |some vc,some vcs=>some (vD vc vcs)
  |_,_=>none
 |none=>none
def al6(Γ:Nat→TK)(BS:List ResultVar)(iW:Hp)(rs:List S1):Post:=fun e st=>(e= .ret∨e= .normal)∧ ∃vc,XB Γ st BS iW rs=some vc∧tF vc
theorem bI{Γ:Nat→TK}{BS:List ResultVar}{iW:Hp}{rs:List S1}{st:St}{vc:List Prop}(h:XB Γ st BS iW rs=some vc)(hv:tF vc):al6 Γ BS iW rs .ret st:=⟨.inl rfl,vc,h,hv⟩
theorem xX{Γ:Nat→TK}{BS:List ResultVar}{iW:Hp}{rs:List S1}{st:St}{vc:List Prop}(h:XB Γ st BS iW rs=some vc)(hv:tF vc):al6 Γ BS iW rs .normal st:=⟨.inr rfl,vc,h,hv⟩
def okT(iW:Hp)(rs:List S1):Bool:=(rs.all (xJ iW))&&(iW.all fun e=>Eo iW e.2)&&qm iW
section
variable{P:Program}{zb:eM}{st:St}{a:Act}{w:World}{env:Env}
theorem Lh{x o:Obj}{vc:List Prop}(h:tZ x o=some vc):(∀t l,x= .arr t l→ ∃t' l',o= .arr t' l')∧ ∀c,x= .box c→ ∃d,o= .box d:=by
 cases x<;>cases o<;>simp[tZ]at h ⊢
theorem Li{hp:Hp}: ∀{iW:Hp} {vc:List Prop},Py hp iW=some vc→(∀q,q∈vc→q)→ ∀n o,(n,o)∈iW→ ∃x v1,look hp n=some x∧tZ x o=some v1∧ ∀q,q∈v1→q
 | (k,y)::r,vc,h,hv,n,o,hm=>by
   simp only[Py]at h
   split at h
   ·rename_i x hx
    split at h
    ·rename_i v1 v2 h1 h2
     simp only[oI,jC]at h
     subst h
     rcases List.mem_cons.1 hm with h'|h'
     ·simp only[pI]at h'
      obtain⟨rfl,rfl⟩:=h'
      exact⟨x,v1,hx,h1,fun q hq=>hv q (aY _ hq)⟩
     ·exact Li h2 (fun q hq=>hv q (aS _ hq)) n o h'
    ·cases h
   ·cases h
theorem adn{hp iW:Hp}(hT: ∀n o,look iW n=some o→ ∃x v1,look hp n=some x∧tZ x o=some v1){x y:V}{u:Value}{vc:List Prop}(hr:RA w hp env x u)(h:adm x y=some vc)(hv: ∀q,q∈vc→q)(hn:sj iW y=true):RA w iW env y u:=by
 unfold adm at h
 split at h
 ·trivial
 ·simp only[oI]at h
  subst h
  have e:=hv _ (aZ.2 rfl)
  subst e
  exact hr
 ·split at h
  ·rename_i l2 hc
   simp only[oI]at h
   subst h
   have e1:=hv _ (List.mem_cons_self ..)
   have e2:=hv _ (aT _ (aZ.2 rfl))
   obtain⟨et,rfl⟩:=iM hc
   subst et
   subst e1;subst e2
   obtain⟨hu,fp,h1,h2⟩:=hr
   refine⟨hu,fp,h1,fun b hb ho=>h2 b hb ?_⟩
   obtain⟨n,o,q1,q2⟩:=ho
   obtain⟨x,_,p1,_⟩:=hT n o q1
   exact⟨n,x,p1,q2⟩
  ·cases h
 ·rename_i n m
  split at h
  ·rename_i hb
   have hb:=aJ hb
   subst hb
   obtain⟨⟨t,l,hl⟩,hu⟩:=hr
   have hno:=BR hn n rfl
   cases hq:look iW n with
   |none=>exact absurd hq hno
   |some o=>
    obtain⟨x,v1,h1,h2⟩:=hT n o hq
    rw[hl]at h1
    simp only[oI]at h1
    subst h1
    obtain⟨t',l',rfl⟩:=(Lh h2).1 t l rfl
    exact⟨⟨t',l',hq⟩,hu⟩
  ·cases h
 ·rename_i n o m q
  split at h
  ·rename_i hb
   simp only[Bool.and_eq_true]at hb
   have bM:=aJ hb.1
   have cS:=aJ hb.2
   subst bM;subst cS
   obtain⟨⟨c,hl⟩,hu⟩:=hr
   have hno:=BR hn n rfl
   cases hq:look iW n with
   |none=>exact absurd hq hno
   |some z=>
    obtain⟨x,v1,h1,h2⟩:=hT n z hq
    rw[hl]at h1
    simp only[oI]at h1
    subst h1
    obtain⟨d,rfl⟩:=(Lh h2).2 c rfl
    exact⟨⟨d,hq⟩,hu⟩
  ·cases h
 ·cases h
theorem B0{hp iW:Hp}(hT: ∀n o,look iW n=some o→ ∃x v1,look hp n=some x∧tZ x o=some v1): ∀{xs ys:List V} {us:List Value} {vc:List Prop},cW (RA w hp env) xs us→AL xs ys=some vc→(∀q,q∈vc→q)→(∀y,y∈ys→sj iW y=true)→cW (RA w iW env) ys us
 | [],ys,us,vc,hr,h,_,_=>by
   cases ys with
   |nil=>
    cases us with
    |nil=>trivial
    |cons _ _=>exact hr.elim
   |cons _ _=>simp[AL]at h
 |x::r,ys,us,vc,hr,h,hv,hn=>by
  cases us with
  |nil=>exact hr.elim
  |cons u us=>
   cases ys with
   |nil=>simp[AL]at h
   |cons y s=>
    simp only[AL]at h
    split at h
    ·rename_i v1 v2 h1 h2
     simp only[oI,jC]at h
     subst h
     exact⟨adn hT hr.1 h1 (fun q hq=>hv q (aY _ hq)) (hn y (by simp)),B0 hT hr.2 h2 (fun q hq=>hv q (aS _ hq)) (fun z hz=>hn z (aT _ hz))⟩
    ·cases h
theorem Z4{hp iW:Hp}(hT: ∀n o,look iW n=some o→ ∃x v1,look hp n=some x∧tZ x o=some v1){x y:S1}{u:Value}{vc:List Prop}(hr:jU w hp env x u)(h:Pz x y=some vc)(hv: ∀q,q∈vc→q)(hn:xJ iW y=true):jU w iW env y u:=by
 cases x with
 |a v=>
  cases y with
  |a v'=>
   have:=B0 hT (xs:= [v]) (us:= [u]) ⟨hr,trivial⟩ h hv (fun z hz=>by rw[aZ.1 hz];exact hn)
   exact this.1
  |agg _=>simp[Pz]at h
 |agg l=>
  cases y with
  |a v'=>simp[Pz]at h
  |agg m=>
   obtain⟨cs,rfl,hl⟩:=hr
   exact⟨cs,rfl,B0 hT hl h hv (fun z hz=>bE.1 hn z hz)⟩
theorem NN{hp iW:Hp}(hT: ∀n o,look iW n=some o→ ∃x v1,look hp n=some x∧tZ x o=some v1): ∀{xs ys:List S1} {us:List Value} {vc:List Prop},cW (jU w hp env) xs us→G5 xs ys=some vc→(∀q,q∈vc→q)→(∀y,y∈ys→xJ iW y=true)→cW (jU w iW env) ys us
 | [],ys,us,vc,hr,h,_,_=>by
   cases ys with
   |nil=>
    cases us with
    |nil=>trivial
    |cons _ _=>exact hr.elim
   |cons _ _=>simp[G5]at h
 |x::r,ys,us,vc,hr,h,hv,hn=>by
  cases us with
  |nil=>exact hr.elim
  |cons u us=>
   cases ys with
   |nil=>simp[G5]at h
   |cons y s=>
    simp only[G5]at h
    split at h
    ·rename_i v1 v2 h1 h2
     simp only[oI,jC]at h
     subst h
     exact⟨Z4 hT hr.1 h1 (fun q hq=>hv q (aY _ hq)) (hn y (by simp)),NN hT hr.2 h2 (fun q hq=>hv q (aS _ hq)) (fun z hz=>hn z (aT _ hz))⟩
    ·cases h
end
theorem al7{as:List S1}{us:List Value}{w:World}{env:Env}{kO:Hp}{n:Nat}(hA:IK w)(hL: ∀b,Y7 b→b∉Ej kO env)(hG:Rr ty w kO env)(ha:cW (jU w kO env) as us)(hn:as.length≤n):
  Inv ty ⟨w,Ej kO env,env⟩ ⟨n,enter 0 as,kO⟩ {tmps:=us.toArray++oX (n-us.toArray.size) undef,defers:= []} w:=by
 have hl:=ha.len
 refine⟨by simp;omega,rfl,Kept.refl _ _,⟨hA,hL⟩,env,⟨hG.1,hG.2,fun s v hv=> ?_,fun n o h b hb=>Or.inl (List.mem_flatMap.2 ⟨_,gU h,hb⟩),fun n _=>⟨rfl,fun b hb=>hb⟩⟩⟩
 obtain⟨x,rfl,_,hx⟩:=C9 hv
 rw[RD]at hx
 obtain⟨u,hu,hr⟩:=ha.at hx
 have hs:s<us.length:=(aV.1 hu).1
 have:(us.toArray++oX (n-us.toArray.size) undef).getD s undef=u:=by
  rw[ak,mU (by simpa using hs)]
  simp[hu]
 show jU w kO env x _
 rw[this]
 exact hr
theorem fW{P:Program}{Γ:Nat→TK}(X:Ctx P ty Γ){f:FuncId}{fn:Func}{c:Code}{BS:List ResultVar}{n:Nat}{kO iW:Hp}{as rs:List S1}
  (RE: ∀(args:Array Value) (w:World),(callFunc f args).run P w= .ok (.enter f args) w)(hf:P.funcs[f]? =some fn)(hb:fn.body=some c)(hr:fn.results=BS.toArray)(hl:BS.length≤4)(hn:fn.ntmps=n)(hlen:as.length≤n)(hT:okT iW rs=true)
  (h: ∀zb,W P ty zb c (al6 Γ BS iW rs) ⟨n,enter 0 as,kO⟩):jG ty P f kO as iW rs:=by
 refine⟨RE,fun w env us hA hL hG ha=>calls_of_wp hf hb ?_⟩
 rw[hn]
 refine wp_mono (h _ _ w (al7 hA hL hG ha hlen)) ?_
 simp only[okT,Bool.and_eq_true,bE]at hT
 obtain⟨⟨t1,t2⟩,t3⟩:=hT
 rintro e a w' ⟨st,iv,he,vc,ry,hv⟩
 have key:a.defers= []∧ ∃v,(results fn a.tmps).run P w'= .ok v w'∧ ∃env' u,Ending.returned v= .returned u∧Kept ⟨w,Ej kO env,env⟩ w w'∧Rr ty w' iW env'∧
   (∀n o,look iW n=some o→ ∀b,b∈(env' n).fp→b∈Ej kO env∨w.heap.size≤b)∧(∀n,p9 n=true→(env' n).v=(env n).v∧ ∀b,b∈(env' n).fp→b∈(env n).fp)∧an5 w' iW env' rs u:=by
  obtain⟨env',g⟩:=iv.good
  unfold XB at ry
  split at ry
  ·rename_i xs hx
   split at ry
   ·rename_i v1 v2 hm1 hm2
    simp only[oI,jC]at ry
    subst ry
    have hv1: ∀q,q∈v1→q:=fun q hq=>hv.out q (aY _ hq)
    have hv2: ∀q,q∈v2→q:=fun q hq=>hv.out q (aS _ hq)
    obtain⟨vs,h1,h2,h3⟩:=RC X.kind g hr hx hl
    have hmem:=Li hm2 hv2
    have hT: ∀n o,look iW n=some o→ ∃x v1,look st.hp n=some x∧tZ x o=some v1:=fun n o hl=>by
     obtain⟨x,v1,p1,p2,_⟩:=hmem n o (gU hl)
     exact⟨x,v1,p1,p2⟩
    have hres:=NN hT h1 hm1 hv1 t1
    refine⟨iv.defers,_,h3,env',_,rfl,iv.kept,⟨fun n o hl=> ?_,fun n m o o' hne hl1 qS=> ?_⟩,fun n o hl b hb=> ?_,fun n hp=>g.pins n hp,?_⟩
    ·obtain⟨x,v1,p1,p2,p3⟩:=hmem n o (gU hl)
     have hro:=g.obj n x p1
     cases x with
     |arr t l=>
      cases o with
      |box d=>simp[tZ]at p2
      |mI t' l' s'=>simp[tZ]at p2
      |arr t' l'=>
       simp only[tZ]at p2
       split at p2
       ·rename_i l2 hc
        simp only[oI]at p2
        subst p2
        have e2:=p3 _ (aZ.2 rfl)
        subst e2
        obtain⟨e,rfl⟩:=iM hc
        subst e
        exact WR (fun h=>h) hro
       ·cases p2
     |mI t l s=>cases o<;>simp[tZ]at p2
     |box c=>
      cases o with
      |arr t' l'=>simp[tZ]at p2
      |mI t' l' s'=>simp[tZ]at p2
      |box d=>
       obtain⟨b,cs,e,q1,q2,q3⟩:=hro
       exact⟨b,cs,e,q1,q2,B0 hT q3 p2 p3 (fun y hy=>bE.1 (t2 _ (gU hl)) y hy)⟩
    ·obtain⟨x,_,p1,_⟩:=hT n o hl1
     obtain⟨y,_,p2,_⟩:=hT m o' qS
     exact g.qn n m x y hne p1 p2
    ·obtain⟨x,_,p1,_⟩:=hT n o hl
     exact g.dom n x p1 b hb
    ·match rs,vs,hres with
     | [r],[u],hres=>exact hres.1
     | [],[],hres=>exact⟨[],rfl,trivial⟩
     |r1::r2::r,u1::u2::u,hres=>exact⟨_,rfl,hres⟩
     | [],_::_,hres=>exact hres.elim
     |_::_,[],hres=>exact hres.elim
     | [_],_::_::_,hres=>exact hres.2.elim
     |_::_::_,[_],hres=>exact hres.2.elim
   ·cases ry
  ·cases ry
 rcases he with rfl|rfl<;>exact key
end
end Go.Proofs.YtaalpcnbbldlaaaGreatDoor.G
