/-
  Contracts of functions that are lent memory: from the walk through their bodies.
-/
import Derived.Test.YtaalpcnbbldlaaaGreatDoorR8
namespace Go.Proofs.YtaalpcnbbldlaaaGreatDoor.G
set_option linter.all false
open Go.RowKit L D
section
variable{ty:Tag→Nat}
theorem RI.ra{w:World}{env:Env}{v:V}{u:Value}{fp:List Nat}(h:RI w v u fp):RA w [] env v u:=by
 have hno: ∀b, ¬Ow [] env b:=by rintro b ⟨n,o,hl,_⟩;simp[look]at hl
 cases v with
 |lit x=>exact⟨h.1,h.2.1⟩
 |sl t l=>exact⟨fp,h,fun b _=>hno b⟩
 |_=>exact h.elim
theorem FD.rs1{w:World}{env:Env}{x:S1}{u:Value}(h:FD w x u):fD w [] env x u:=by
 cases x with
 |a v=>obtain⟨fp,h⟩:=h;exact h.ra
 |agg l=>
  obtain⟨cs,fp,rfl,h⟩:=h;exact⟨cs,rfl,h.DG fun b _=>by rintro⟨n,o,hl,_⟩;simp[look]at hl⟩
theorem xg: ∀{as:List S1} {i s:Nat} {v:SV},look (enter i as) s=some v→ ∃x,v= .one x∧i≤s∧as[s-i]? =some x
 |x::r,i,s,v,h=>by
  by_cases hs:s=i
  ·subst hs;rw[enter,look_eq]at h;simp only[oI]at h;exact⟨x,h.symm,Nat.le_refl _,by simp⟩
  ·rw[enter,bB hs]at h;obtain⟨y,h1,h2,h3⟩:=xg h;refine⟨y,h1,by omega,?_⟩;rw[show s-i=(s-(i+1))+1 by omega,List.getElem?_cons_succ];exact h3
theorem entry{as:List S1}{us:List Value}{w:World}{n:Nat}(hA:Cq w)(ha:bK (FD w) as us)(hn:as.length≤n):
  Inv ty ⟨w,[],fun _=>⟨.tuple #[],[]⟩⟩ ⟨n,enter 0 as,[]⟩ {tmps:=us.toArray++Array.replicate (n-us.toArray.size) undef,defers:= []} w:=by
 have hl:=ha.len;refine⟨by simp;omega,rfl,Kept.refl _ _,⟨hA,fun _ _ h=>by cases h⟩,fun _=>⟨.tuple #[],[]⟩,⟨fun n o h=>by simp[look]at h,fun n m o o' _ h=>by simp[look]at h,fun s v hv=> ?_,fun n o h=>by simp[look]at h,fun n _=>⟨rfl,fun b hb=>hb⟩⟩⟩;obtain⟨x,rfl,_,hx⟩:=xg hv;rw[Nat.sub_zero]at hx;obtain⟨u,hu,hr⟩:=ha.at hx;have hs:s<us.length:=(List.getElem?_eq_some_iff.1 hu).1;have:(us.toArray++Array.replicate (n-us.toArray.size) undef).getD s undef=u:=by
  rw[Array.getD_eq_getD_getElem?,Array.getElem?_append_left (by simpa using hs)];simp[hu]
 show fD w [] _ x _
 rw[this];exact hr.rs1
theorem cw{P:Program}{Γ:Nat→TK}(X:Ctx P ty Γ){f:FuncId}{fn:Func}{c:Code}{vA:List ResultVar}{n:Nat}{as rs:List S1}
  (JZ: ∀(args:Array Value) (w:World),(callFunc f args).run P w= .ok (.enter f args) w)(hf:P.funcs[f]? =some fn)(hb:fn.body=some c)(hr:fn.results=vA.toArray)(hl:vA.length≤4)(hn:fn.ntmps=n)(hlen:as.length≤n)
  (h: ∀zb,W P ty zb c (Fin Γ vA rs) ⟨n,enter 0 as,[]⟩):Sound ty P f as rs:=by
 refine⟨JZ,fun w us hA ha=>calls_of_wp hf hb ?_⟩;rw[hn];refine wp_mono (h _ _ w (entry hA ha hlen)) ?_;rintro e a w' ⟨st,iv,he,vc,lD,hv⟩;have key:a.defers= []∧ ∃v,(results fn a.tmps).run P w'= .ok v w'∧PS ty w rs (.returned v) w':=by
  obtain⟨env,g⟩:=iv.good;unfold ends at lD;split at lD
  ·rename_i xs hx;split at lD
   ·rename_i oV k hm;split at lD
    ·rename_i hnd;simp only[oI]at lD;subst lD;obtain⟨vs,h1,h2,h3⟩:=JY X.kind g hr hx hl;obtain⟨fp,q1,q2,_⟩:=JX rfl g h1 hm (jF hnd) hv.out;have hbel:Below w.heap.size w w':=⟨iv.kept.os,iv.kept.tape,iv.kept.output,iv.kept.size,fun b hb=>iv.kept.block b hb (by simp)⟩;refine⟨iv.defers,_,h3,_,fp,rfl,hbel,q2,?_⟩;match rs,vs,q1 with
     | [],[],q1=>exact⟨[],rfl,q1⟩
     | [r],[u],⟨f1,f2,p1,p2,e⟩=>
       have p2:f2= []:=p2;rw[p2,List.append_nil]at e;rw[e];exact p1
     |r1::r2::r,u1::u2::u,q1=>exact⟨_,rfl,q1⟩
     | [],_::_,q1=>exact q1.elim
     |_::_,[],q1=>exact q1.elim
     | [r],u1::u2::u,⟨_,_,_,p,_⟩=>exact p.elim
     |r1::r2::r,[u],⟨_,_,_,p,_⟩=>exact p.elim
    ·cases lD
   ·cases lD
  ·cases lD
 rcases he with rfl|rfl<;>exact key
theorem av{P:Program}{Γ:Nat→TK}(X:Ctx P ty Γ){f:FuncId}{fn:Func}{c:Code}{vA:List ResultVar}{n:Nat}{xs rs:List S1}
  (JZ: ∀(args:Array Value) (w:World),(callFunc f args).run P w= .ok (.enter f args) w)(hf:P.funcs[f]? =some fn)(hn:fn.ntmps=n)(hb:fn.body=some c)(hr:fn.results=vA.toArray)
  (h: ∀zb,W P ty zb c (Fin Γ vA rs) ⟨n,enter 0 xs,[]⟩)(hl:vA.length≤4:=by decide)(hlen:xs.length≤n:=by simp):Sound ty P f xs rs:=cw X JZ hf hb hr hl hn hlen h
theorem RF.len{w:World}: ∀{vs:List V} {us:List Value} {bX:List (List Nat)},RF w vs us bX→us.length=vs.length∧bX.length=vs.length
 | [],[],_,h=>by rw[show _=_ from h];exact⟨rfl,rfl⟩
 |_::_,_::_,_,⟨_,_,_,h,e⟩=>by obtain⟨h1,h2⟩:=RF.len h;rw[e];exact⟨by simp[h1],by simp[h2]⟩
 | [],_::_,_,h=>h.elim
 |_::_,[],_,h=>h.elim
theorem V2.nodup: ∀{fs gs:List (List Nat)},V2 fs gs→gs.flatten.Nodup→(∀f,f∈fs→f.Nodup)→fs.flatten.Nodup∧ ∀b,b∈fs.flatten→b∈gs.flatten
 | [],[],_,_,_=>⟨by simp,by simp⟩
 |f::fs,g::gs,⟨h1,h2⟩,hn,hf=>by
  rw[List.flatten_cons]at hn;obtain⟨_,n2,n3⟩:=List.nodup_append.1 hn;obtain⟨q1,q2⟩:=V2.nodup h2 n2 (fun f hm=>hf f (List.mem_cons_of_mem _ hm));refine⟨?_,fun b hb=> ?_⟩
  ·rw[List.flatten_cons];exact List.nodup_append.2 ⟨hf f (by simp),q1,fun b hb c hc e=>n3 b (h1 b hb) c (q2 c hc) e⟩
  ·rw[List.flatten_cons]at hb ⊢;rcases List.mem_append.1 hb with hb|hb
   ·exact List.mem_append_left _ (h1 b hb)
   ·exact List.mem_append_right _ (q2 b hb)
 | [],_::_,h,_,_=>h.elim
 |_::_,[],h,_,_=>h.elim
section
variable{zb:cD}{st:St}{tmps:Array Value}{w0 w:World}{env:Env}
theorem RF.one{w:World}{v:V}{u:Value}{bX:List (List Nat)}(h:RF w [v] [u] bX): ∃f,RI w v u f∧bX= [f]:=by
 obtain⟨f,g,h1,h2,h3⟩:=h;exact⟨f,h1,by rw[h3,show g= []from h2]⟩
end
end
section
variable{ty:Tag→Nat}
def Te:V→V→Option (List Prop)
 |_, .any=>some []
 | .lit v, .lit u=>some [v=u]
 | .vf v t l, .vf u t' l'=>match jD t' t l with|some l2=>some [v=u,l2=l']|none=>none
 | .own n, .own m=>match Nat.beq n m with|true=>some []|false=>none
 | .ptr n o, .ptr m q=>match Nat.beq n m&&Nat.beq o q with|true=>some []|false=>none
 |_,_=>none
def tY:List V→List V→Option (List Prop)
 | [],[]=>some []
 |x::r,y::s=>match Te x y,tY r s with|some vc,some vcs=>some (oF vc vcs)|_,_=>none
 |_,_=>none
def nu:Obj→Obj→Option (List Prop)
 | .arr t l, .arr t' l'=>match jD t' t l with|some l2=>some [l2=l']|none=>none
 | .box c, .box d=>tY c d
 |_,_=>none
def Im(hp:Hp):Hp→Option (List Prop)
 | []=>some []
 | (n,o)::r=>match look hp n with
   |some x=>match nu x o,Im hp r with|some vc,some vcs=>some (oF vc vcs)|_,_=>none
   |none=>none
def Io:S1→S1→Option (List Prop)
 | .a v, .a u=>tY [v] [u]
 | .agg l, .agg m=>tY l m
 |_,_=>none
def Bl:List S1→List S1→Option (List Prop)
 | [],[]=>some []
 |x::r,y::s=>match Io x y,Bl r s with|some vc,some vcs=>some (oF vc vcs)|_,_=>none
 |_,_=>none
def Oo(Γ:Nat→TK)(st:St)(vA:List ResultVar)(eD:Hp)(rs:List S1):Option (List Prop):=
 match yJ Γ st vA with
 |some xs=>match Bl xs rs,Im st.hp eD with
  |some vc,some vcs=>some (oF vc vcs)
  |_,_=>none
 |none=>none
def ZN(Γ:Nat→TK)(vA:List ResultVar)(eD:Hp)(rs:List S1):Post:=fun e st=>(e= .ret∨e= .normal)∧ ∃vc,Oo Γ st vA eD rs=some vc∧mP vc
theorem aS{Γ:Nat→TK}{vA:List ResultVar}{eD:Hp}{rs:List S1}{st:St}{vc:List Prop}(h:Oo Γ st vA eD rs=some vc)(hv:mP vc):ZN Γ vA eD rs .ret st:=⟨.inl rfl,vc,h,hv⟩
theorem qO{Γ:Nat→TK}{vA:List ResultVar}{eD:Hp}{rs:List S1}{st:St}{vc:List Prop}(h:Oo Γ st vA eD rs=some vc)(hv:mP vc):ZN Γ vA eD rs .normal st:=⟨.inr rfl,vc,h,hv⟩
def okT(eD:Hp)(rs:List S1):Bool:=(rs.all (qC eD))&&(eD.all fun e=>yI eD e.2)&&kJ eD
section
variable{P:Program}{zb:cD}{st:St}{a:Act}{w:World}{env:Env}
theorem EH{x o:Obj}{vc:List Prop}(h:nu x o=some vc):(∀t l,x= .arr t l→ ∃t' l',o= .arr t' l')∧ ∀c,x= .box c→ ∃d,o= .box d:=by
 cases x<;>cases o<;>simp[nu]at h ⊢
theorem EI{hp:Hp}: ∀{eD:Hp} {vc:List Prop},Im hp eD=some vc→(∀q,q∈vc→q)→ ∀n o,(n,o)∈eD→ ∃x v1,look hp n=some x∧nu x o=some v1∧ ∀q,q∈v1→q
 | (k,y)::r,vc,h,hv,n,o,hm=>by
   simp only[Im]at h;split at h
   ·rename_i x hx;split at h
    ·rename_i v1 v2 h1 h2;simp only[oI,eX]at h;subst h;rcases List.mem_cons.1 hm with h'|h'
     ·simp only[pI]at h';obtain⟨rfl,rfl⟩:=h';exact⟨x,v1,hx,h1,fun q hq=>hv q (List.mem_append_left _ hq)⟩
     ·exact EI h2 (fun q hq=>hv q (List.mem_append_right _ hq)) n o h'
    ·cases h
   ·cases h
theorem Tf{hp eD:Hp}(hT: ∀n o,look eD n=some o→ ∃x v1,look hp n=some x∧nu x o=some v1){x y:V}{u:Value}{vc:List Prop}(hr:RA w hp env x u)(h:Te x y=some vc)(hv: ∀q,q∈vc→q)(hn:lW eD y=true):RA w eD env y u:=by
 unfold Te at h;split at h
 ·trivial
 ·simp only[oI]at h;subst h;have e:=hv _ (List.mem_singleton.2 rfl);subst e;exact hr
 ·split at h
  ·rename_i l2 hc;simp only[oI]at h;subst h;have e1:=hv _ (List.mem_cons_self ..);have e2:=hv _ (List.mem_cons_of_mem _ (List.mem_singleton.2 rfl));obtain⟨et,rfl⟩:=eu hc;subst et;subst e1;subst e2;obtain⟨hu,fp,h1,h2⟩:=hr;refine⟨hu,fp,h1,fun b hb ho=>h2 b hb ?_⟩;obtain⟨n,o,q1,q2⟩:=ho;obtain⟨x,_,p1,_⟩:=hT n o q1;exact⟨n,x,p1,q2⟩
  ·cases h
 ·rename_i n m;split at h
  ·rename_i hb;have hb:=Nat.eq_of_beq_eq_true hb;subst hb;obtain⟨⟨t,l,hl⟩,hu⟩:=hr;have hno:=vv hn n rfl;cases hq:look eD n with
   |none=>exact absurd hq hno
   |some o=>
    obtain⟨x,v1,h1,h2⟩:=hT n o hq;rw[hl]at h1;simp only[oI]at h1;subst h1;obtain⟨t',l',rfl⟩:=(EH h2).1 t l rfl;exact⟨⟨t',l',hq⟩,hu⟩
  ·cases h
 ·rename_i n o m q;split at h
  ·rename_i hb;simp only[Bool.and_eq_true]at hb;have aV:=Nat.eq_of_beq_eq_true hb.1;have bI:=Nat.eq_of_beq_eq_true hb.2;subst aV;subst bI;obtain⟨⟨c,hl⟩,hu⟩:=hr;have hno:=vv hn n rfl;cases hq:look eD n with
   |none=>exact absurd hq hno
   |some z=>
    obtain⟨x,v1,h1,h2⟩:=hT n z hq;rw[hl]at h1;simp only[oI]at h1;subst h1;obtain⟨d,rfl⟩:=(EH h2).2 c rfl;exact⟨⟨d,hq⟩,hu⟩
  ·cases h
 ·cases h
theorem vI{hp eD:Hp}(hT: ∀n o,look eD n=some o→ ∃x v1,look hp n=some x∧nu x o=some v1): ∀{xs ys:List V} {us:List Value} {vc:List Prop},bK (RA w hp env) xs us→tY xs ys=some vc→(∀q,q∈vc→q)→(∀y,y∈ys→lW eD y=true)→bK (RA w eD env) ys us
 | [],ys,us,vc,hr,h,_,_=>by
   cases ys with
   |nil=>
    cases us with
    |nil=>trivial
    |cons _ _=>exact hr.elim
   |cons _ _=>simp[tY]at h
 |x::r,ys,us,vc,hr,h,hv,hn=>by
  cases us with
  |nil=>exact hr.elim
  |cons u us=>
   cases ys with
   |nil=>simp[tY]at h
   |cons y s=>
    simp only[tY]at h;split at h
    ·rename_i v1 v2 h1 h2;simp only[oI,eX]at h;subst h;exact⟨Tf hT hr.1 h1 (fun q hq=>hv q (List.mem_append_left _ hq)) (hn y (by simp)),vI hT hr.2 h2 (fun q hq=>hv q (List.mem_append_right _ hq)) (fun z hz=>hn z (List.mem_cons_of_mem _ hz))⟩
    ·cases h
theorem Qt{hp eD:Hp}(hT: ∀n o,look eD n=some o→ ∃x v1,look hp n=some x∧nu x o=some v1){x y:S1}{u:Value}{vc:List Prop}(hr:fD w hp env x u)(h:Io x y=some vc)(hv: ∀q,q∈vc→q)(hn:qC eD y=true):fD w eD env y u:=by
 cases x with
 |a v=>
  cases y with
  |a v'=>
   have:=vI hT (xs:= [v]) (us:= [u]) ⟨hr,trivial⟩ h hv (fun z hz=>by rw[List.mem_singleton.1 hz];exact hn);exact this.1
  |agg _=>simp[Io]at h
 |agg l=>
  cases y with
  |a v'=>simp[Io]at h
  |agg m=>
   obtain⟨cs,rfl,hl⟩:=hr;exact⟨cs,rfl,vI hT hl h hv (fun z hz=>List.all_eq_true.1 hn z hz)⟩
theorem GG{hp eD:Hp}(hT: ∀n o,look eD n=some o→ ∃x v1,look hp n=some x∧nu x o=some v1): ∀{xs ys:List S1} {us:List Value} {vc:List Prop},bK (fD w hp env) xs us→Bl xs ys=some vc→(∀q,q∈vc→q)→(∀y,y∈ys→qC eD y=true)→bK (fD w eD env) ys us
 | [],ys,us,vc,hr,h,_,_=>by
   cases ys with
   |nil=>
    cases us with
    |nil=>trivial
    |cons _ _=>exact hr.elim
   |cons _ _=>simp[Bl]at h
 |x::r,ys,us,vc,hr,h,hv,hn=>by
  cases us with
  |nil=>exact hr.elim
  |cons u us=>
   cases ys with
   |nil=>simp[Bl]at h
   |cons y s=>
    simp only[Bl]at h;split at h
    ·rename_i v1 v2 h1 h2;simp only[oI,eX]at h;subst h;exact⟨Qt hT hr.1 h1 (fun q hq=>hv q (List.mem_append_left _ hq)) (hn y (by simp)),GG hT hr.2 h2 (fun q hq=>hv q (List.mem_append_right _ hq)) (fun z hz=>hn z (List.mem_cons_of_mem _ hz))⟩
    ·cases h
end
theorem ZO{as:List S1}{us:List Value}{w:World}{env:Env}{ga:Hp}{n:Nat}(hA:Cq w)(hL: ∀b,PK b→b∉yE ga env)(hG:JO ty w ga env)(ha:bK (fD w ga env) as us)(hn:as.length≤n):
  Inv ty ⟨w,yE ga env,env⟩ ⟨n,enter 0 as,ga⟩ {tmps:=us.toArray++Array.replicate (n-us.toArray.size) undef,defers:= []} w:=by
 have hl:=ha.len;refine⟨by simp;omega,rfl,Kept.refl _ _,⟨hA,hL⟩,env,⟨hG.1,hG.2,fun s v hv=> ?_,fun n o h b hb=>Or.inl (List.mem_flatMap.2 ⟨_,dO h,hb⟩),fun n _=>⟨rfl,fun b hb=>hb⟩⟩⟩;obtain⟨x,rfl,_,hx⟩:=xg hv;rw[Nat.sub_zero]at hx;obtain⟨u,hu,hr⟩:=ha.at hx;have hs:s<us.length:=(List.getElem?_eq_some_iff.1 hu).1;have:(us.toArray++Array.replicate (n-us.toArray.size) undef).getD s undef=u:=by
  rw[Array.getD_eq_getD_getElem?,Array.getElem?_append_left (by simpa using hs)];simp[hu]
 show fD w ga env x _
 rw[this];exact hr
theorem cY{P:Program}{Γ:Nat→TK}(X:Ctx P ty Γ){f:FuncId}{fn:Func}{c:Code}{vA:List ResultVar}{n:Nat}{ga eD:Hp}{as rs:List S1}
  (JZ: ∀(args:Array Value) (w:World),(callFunc f args).run P w= .ok (.enter f args) w)(hf:P.funcs[f]? =some fn)(hb:fn.body=some c)(hr:fn.results=vA.toArray)(hl:vA.length≤4)(hn:fn.ntmps=n)(hlen:as.length≤n)(hT:okT eD rs=true)
  (h: ∀zb,W P ty zb c (ZN Γ vA eD rs) ⟨n,enter 0 as,ga⟩):ff ty P f ga as eD rs:=by
 refine⟨JZ,fun w env us hA hL hG ha=>calls_of_wp hf hb ?_⟩;rw[hn];refine wp_mono (h _ _ w (ZO hA hL hG ha hlen)) ?_;simp only[okT,Bool.and_eq_true,List.all_eq_true]at hT;obtain⟨⟨t1,t2⟩,t3⟩:=hT;rintro e a w' ⟨st,iv,he,vc,lD,hv⟩;have key:a.defers= []∧ ∃v,(results fn a.tmps).run P w'= .ok v w'∧ ∃env' u,Ending.returned v= .returned u∧Kept ⟨w,yE ga env,env⟩ w w'∧JO ty w' eD env'∧
   (∀n o,look eD n=some o→ ∀b,b∈(env' n).fp→b∈yE ga env∨w.heap.size≤b)∧(∀n,kB n=true→(env' n).v=(env n).v∧ ∀b,b∈(env' n).fp→b∈(env n).fp)∧abr w' eD env' rs u:=by
  obtain⟨env',g⟩:=iv.good;unfold Oo at lD;split at lD
  ·rename_i xs hx;split at lD
   ·rename_i v1 v2 hm1 hm2;simp only[oI,eX]at lD;subst lD;have hv1: ∀q,q∈v1→q:=fun q hq=>hv.out q (List.mem_append_left _ hq);have hv2: ∀q,q∈v2→q:=fun q hq=>hv.out q (List.mem_append_right _ hq);obtain⟨vs,h1,h2,h3⟩:=JY X.kind g hr hx hl;have hmem:=EI hm2 hv2;have hT: ∀n o,look eD n=some o→ ∃x v1,look st.hp n=some x∧nu x o=some v1:=fun n o hl=>by
     obtain⟨x,v1,p1,p2,_⟩:=hmem n o (dO hl);exact⟨x,v1,p1,p2⟩
    have hres:=GG hT h1 hm1 hv1 t1;refine⟨iv.defers,_,h3,env',_,rfl,iv.kept,⟨fun n o hl=> ?_,fun n m o o' hne hl1 lg=> ?_⟩,fun n o hl b hb=> ?_,fun n hp=>g.pins n hp,?_⟩
    ·obtain⟨x,v1,p1,p2,p3⟩:=hmem n o (dO hl);have hro:=g.obj n x p1;cases x with
     |arr t l=>
      cases o with
      |box d=>simp[nu]at p2
      |iq t' l' s'=>simp[nu]at p2
      |arr t' l'=>
       simp only[nu]at p2;split at p2
       ·rename_i l2 hc;simp only[oI]at p2;subst p2;have e2:=p3 _ (List.mem_singleton.2 rfl);subst e2;obtain⟨e,rfl⟩:=eu hc;subst e;exact NW (fun h=>h) hro
       ·cases p2
     |iq t l s=>cases o<;>simp[nu]at p2
     |box c=>
      cases o with
      |arr t' l'=>simp[nu]at p2
      |iq t' l' s'=>simp[nu]at p2
      |box d=>
       obtain⟨b,cs,e,q1,q2,q3⟩:=hro;exact⟨b,cs,e,q1,q2,vI hT q3 p2 p3 (fun y hy=>List.all_eq_true.1 (t2 _ (dO hl)) y hy)⟩
    ·obtain⟨x,_,p1,_⟩:=hT n o hl1;obtain⟨y,_,p2,_⟩:=hT m o' lg;exact g.kK n m x y hne p1 p2
    ·obtain⟨x,_,p1,_⟩:=hT n o hl;exact g.dom n x p1 b hb
    ·match rs,vs,hres with
     | [r],[u],hres=>exact hres.1
     | [],[],hres=>exact⟨[],rfl,trivial⟩
     |r1::r2::r,u1::u2::u,hres=>exact⟨_,rfl,hres⟩
     | [],_::_,hres=>exact hres.elim
     |_::_,[],hres=>exact hres.elim
     | [_],_::_::_,hres=>exact hres.2.elim
     |_::_::_,[_],hres=>exact hres.2.elim
   ·cases lD
  ·cases lD
 rcases he with rfl|rfl<;>exact key
end
end Go.Proofs.YtaalpcnbbldlaaaGreatDoor.G
