/-
  Calls, and all operations that turn nothing.
-/
import Derived.ChangeKeysEq
import Derived.Laws.Tables
import Derived.Test.YtaalpcnbbldlaaaGreatDoorR6
namespace Go.Proofs.YtaalpcnbbldlaaaGreatDoor.G
set_option linter.all false
open Go.RowKit L D
section
def cT(P:Program)(t:Nat):TK→Prop
 | .int k=>P.underlying t=some (.int k)
 | .bool=>P.underlying t=some .bool
 | .str=>P.underlying t=some .string
 | .sl g e=>P.underlying t=some (.slice e)∧(P.info? e).map (·.size)=some (kk g)
 | .st z _ fo=> ∃fs,P.underlying t=some (.struct fs)∧(P.info? t).map (fun i=>(i.size,i.zero))=some (z.length,some (.agg z.toArray))∧(∀v,v∈z→v.oneCell'=true)∧
   (∀f k,nN fo f=some k→ ∃fd,fs[f]? =some fd∧fd.offset=k∧ ∃i,P.info? fd.type=some i∧i.size≠0)∧
   ∃places,fs.toList.mapM (fun f=>(P.info? f.type).map fun i=>(f.offset,i.size))=some places∧ ∀j o k,nN fo j=some o→XS z.length fo j=some k→places[j]? =some (o,k)
 | .mp=> ∃k e,P.underlying t=some (.map k e)∧P.underlying k=some (.int .i64)∧(∀w,(zeroValue e).run P w= .ok (.int .i64 0) w)∧(P.info? t).map (·.size)=some 1
 | .other=>True
def C2(n:Nat):List Nat→Nat
 | []=>n
 |k::_=>k
def yw(P:Program)(n:Nat):List Field→List Nat→Bool
 | [],[]=>true
 |fd::r,k::s=>Nat.beq fd.offset k&&(match P.info? fd.type with|some i=> !(Nat.beq i.size 0)&&Nat.beq i.size (C2 n s-k)|none=>false)&&yw P n r s
 |_,_=>false
theorem td{P:Program}{n:Nat}: ∀{fs:List Field} {fo:List Nat},yw P n fs fo=true→(∀f k,nN fo f=some k→ ∃fd,fs[f]? =some fd∧fd.offset=k∧ ∃i,P.info? fd.type=some i∧i.size≠0)∧
  ∃places,fs.mapM (fun f=>(P.info? f.type).map fun i=>(f.offset,i.size))=some places∧ ∀j o k,nN fo j=some o→XS n fo j=some k→places[j]? =some (o,k)
 | [],[],_=>⟨fun f k h=>by simp[nN]at h,[],rfl,fun j o k h=>by simp[nN]at h⟩
 |fd::r,k'::s,hh=>by
  simp only[yw,Bool.and_eq_true]at hh;obtain⟨⟨h1,h2⟩,h3⟩:=hh;obtain⟨q1,places,q2,q3⟩:=td h3;cases hq:P.info? fd.type with
  |none=>simp[hq]at h2
  |some i=>
   simp only[hq,Bool.and_eq_true]at h2;have h4:=Nat.eq_of_beq_eq_true h2.2;have h5:=Nat.eq_of_beq_eq_true h1;refine⟨fun f k h=> ?_,(fd.offset,i.size)::places,?_,fun j o k hj hk=> ?_⟩
   ·cases f with
    |zero=>
     simp only[nN,oI]at h;subst h;refine⟨fd,rfl,h5,i,hq,fun e=> ?_⟩;have:=h2.1;simp[e]at this
    |succ f=>
     obtain⟨x,k1,k2⟩:=q1 f k (by simpa[nN]using h);exact⟨x,by simpa using k1,k2⟩
   ·simp[List.mapM_cons,hq,q2]
   ·cases j with
    |zero=>
     simp only[nN,oI]at hj;subst hj;have hk':XS n (k'::s) 0=some (C2 n s-k'):=by
      cases s with
      |nil=>simp[XS,nN,C2]
      |cons b s=>simp[XS,nN,C2]
     rw[hk']at hk;simp only[oI]at hk;simp[h5,h4,hk]
    |succ j=>
     have:=q3 j o k (by simpa[nN]using hj) (by simpa[XS,nN]using hk);simpa using this
variable(ty:Tag→Nat)
def El(P:Program)(ty:Tag→Nat)(t:Tag):Prop:=(P.info? (ty t)).map (fun i=>(i.zero,i.size,i.bytes))=some (some (eT t),kk t,dN t)
def PR(P:Program)(ty:Tag→Nat)(t:Tag)(e:Nat):Prop:=e=ty t∧El P ty t
def RB(w:World)(lo:Nat):V→Value→List Nat→Prop
 | .lit v,u,fp=>u=v∧v.oneCell'=true∧fp= []
 | .sl t l,u,fp=>iW (kk t) (rd t) lo (ty t) w u l fp
 | .vw _ _ t l,u,fp=>Sl (kk t) (rd t) w u l fp∧Own lo w fp
 |_,_,_=>False
def Rx(w:World)(lo:Nat):List V→List Value→List Nat→Prop
 | [],[],fp=>fp= []
 |V::Vs,u::us,fp=> ∃f g,RB ty w lo V u f∧Rx w lo Vs us g∧fp=f++g
 |_,_,_=>False
def XU(w:World)(lo:Nat):S1→Value→List Nat→Prop
 | .a v,u,fp=>Rx ty w lo [v] [u] fp
 | .agg l,u,fp=> ∃cs,u= .agg cs.toArray∧Rx ty w lo l cs fp
def Vi(w:World)(lo:Nat):List S1→List Value→List Nat→Prop
 | [],[],fp=>fp= []
 |V::Vs,u::us,fp=> ∃f g,XU ty w lo V u f∧Vi w lo Vs us g∧fp=f++g
 |_,_,_=>False
def VJ(w:World)(lo:Nat)(rs:List S1)(u:Value)(fp:List Nat):Prop:=
 match rs with
 | [r]=>XU ty w lo r u fp
 |rs=> ∃us,u= .tuple us.toArray∧Vi ty w lo rs us fp
def PS(w:World)(rs:List S1)(e:Ending)(w':World):Prop:=
 ∃u fp,e= .returned u∧Below w.heap.size w w'∧Own w.heap.size w' fp∧VJ ty w' w.heap.size rs u fp
def FD(w:World):S1→Value→Prop
 | .a v,u=> ∃fp,RI w v u fp
 | .agg l,u=> ∃cs fp,u= .agg cs.toArray∧cq w l cs fp
def Sound(P:Program)(f:FuncId)(as rs:List S1):Prop:=
 (∀(args:Array Value) (w:World),(callFunc f args).run P w= .ok (.enter f args) w)∧
 ∀w us,Cq w→bK (FD w) as us→Calls P f us.toArray w (PS ty w rs)
variable{ty}
theorem L4{tmps:Array Value}{s:Nat}{b:Bool}(h:tmps.getD s undef= .bool b):tmps[s]? =some (.bool b):=by
 rw[Array.getD_eq_getD_getElem?]at h;cases hq:tmps[s]? with
 |none=>rw[hq]at h;simp[undef]at h
 |some v=>rw[hq]at h;simp at h;rw[h]
theorem PT{tmps:Array Value}{q p:List (Nat×Bool)}(h:YL q p=true)(hp:holds tmps p):holds tmps q:=by
 intro e he;simp only[YL,List.all_eq_true,List.any_eq_true,Bool.and_eq_true]at h;obtain⟨f,hf,h1,h2⟩:=h e he;have h1:=Nat.eq_of_beq_eq_true h1;have h2:=eq_of_beq h2;have:=hp f hf;rw[h1,h2];exact this
theorem xd{zb:cD}{st:St}{a:Act}{w:World}{env:Env}(g:Good ty zb st a.tmps w env){p:List (Nat×Bool)}(hp:holds a.tmps p){x:Operand}{v:S1}(h:LM st p x=some v):fD w st.hp env v (a.eval x):=by
 cases x with
 |tmp t=>
  simp only[LM]at h;split at h
  ·rename_i y hy;simp only[oI]at h;subst h;exact g.slot t _ hy
  ·rename_i q y hy;split at h
   ·rename_i hs;simp only[oI]at h;subst h;exact(g.slot t _ hy).1 (PT hs hp)
   ·cases h
  ·cases h
 |const u=>
  simp only[LM]at h;split at h
  ·rename_i hs;simp only[oI]at h;subst h;exact⟨rfl,hs⟩
  ·cases h
 |func f=>
  simp only[LM,oI]at h;subst h;exact⟨rfl,rfl⟩
 |global q=>cases h
theorem e9{zb:cD}{st:St}{a:Act}{w:World}{env:Env}(g:Good ty zb st a.tmps w env){p:List (Nat×Bool)}(hp:holds a.tmps p){x:Operand}{v:S1}(h:gQ st p x=some v):fD w st.hp env v (a.eval x):=by
 unfold gQ at h;split at h
 ·rename_i y hy;simp only[oI]at h;subst h;exact fD.Rm (xd g hp hy)
 ·cases h
theorem RA.lit{w:World}{hp:Hp}{env:Env}{v u:Value}(h:RA w hp env (.lit v) u):u=v:=h.1
theorem fD.lit{w:World}{hp:Hp}{env:Env}{v u:Value}(h:fD w hp env (.a (.lit v)) u):u=v:=h.1
theorem Ry{zb:cD}{st:St}{tmps:Array Value}{w:World}{env:Env}(g:Good ty zb st tmps w env){tg:Option Tag}{v x:V}{u:Value}(hr:RA w st.hp env v u)(h:mL st tg v=some x): ∃fp,RI w x u fp:=by
 cases v with
 |sl t l=>simp only[mL,oI]at h;subst h;obtain⟨fp,h1,_⟩:=hr;exact⟨fp,h1⟩
 |vw n p t l=>simp only[mL,oI]at h;subst h;obtain⟨_,⟨fp,h1,_⟩,_⟩:=hr;exact⟨fp,h1⟩
 |mix n c t l=>simp only[mL,oI]at h;subst h;obtain⟨_,⟨fp,h1,_⟩,_⟩:=hr;exact⟨fp,h1⟩
 |own n=>
  simp only[mL]at h;split at h
  ·rename_i t l hl;simp only[oI]at h;subst h;obtain⟨_,hu⟩:=hr;subst hu;have:=g.obj n _ hl;exact⟨_,RO.sl this⟩
  ·cases h
 |FB n=>
  simp only[mL]at h;obtain⟨_,hu⟩:=hr;subst hu;split at h
  ·rename_i t l hl;simp only[oI]at h;subst h;exact RO.Jb (by intro e;cases e) (by trivial) (g.obj n _ hl)
  ·rename_i t l m hl;simp only[oI]at h;subst h;exact RO.Jb (by intro e;cases e) (by trivial) (g.obj n _ hl)
  ·cases h
 |lit v=>
  obtain⟨rfl,h1⟩:=hr;simp only[mL]at h;split at h
  ·rename_i heq;cases heq
  ·rename_i heq;cases heq
  ·rename_i heq;cases heq
  ·rename_i heq;cases heq
  ·rename_i heq;cases heq
  ·rename_i heq;simp only[V.lit.injEq]at heq;subst heq;split at h
   ·simp only[oI]at h;subst h;exact⟨[],none,0,rfl,Nat.le_refl _,Nat.zero_le _,Or.inl ⟨rfl,rfl,rfl⟩⟩
   ·cases h
  ·cases h
  ·rename_i heq;simp only[V.lit.injEq]at heq;subst heq;simp only[oI]at h;subst h;exact⟨[],rfl,h1,rfl⟩
  ·cases h
 |_=>simp[mL]at h
theorem NM{zb:cD}{st:St}{tmps:Array Value}{w:World}{env:Env}(g:Good ty zb st tmps w env): ∀{vs:List V} {tg:List (Option Tag)} {xs:List V} {us:List Value},bK (RA w st.hp env) vs us→Jn st tg vs=some xs→ ∃fp,cq w xs us fp
 | [],_,xs,us,hr,h=>by
   simp only[Jn,oI]at h;subst h;cases us with
   |nil=>exact⟨[],rfl⟩
   |cons _ _=>exact hr.elim
 |v::r,tg,xs,us,hr,h=>by
  simp only[Jn]at h;split at h
  ·rename_i x y h1 h2;simp only[oI]at h;subst h;cases us with
   |nil=>exact hr.elim
   |cons u us=>
    obtain⟨f,hf⟩:=Ry g hr.1 h1;obtain⟨q,hq⟩:=NM g hr.2 h2;exact⟨f++q,f,q,hf,hq,rfl⟩
  ·cases h
theorem VK{zb:cD}{st:St}{tmps:Array Value}{w:World}{env:Env}(g:Good ty zb st tmps w env){k:TK}{v x:S1}{u:Value}(hr:fD w st.hp env v u)(h:arg1 st k v=some x):FD w x u:=by
 cases v with
 |a v=>
  simp only[arg1]at h;split at h
  ·rename_i y hy;simp only[oI]at h;subst h;exact Ry g hr hy
  ·cases h
 |agg l=>
  simp only[arg1]at h;split at h
  ·rename_i y hy;simp only[oI]at h;subst h;obtain⟨cs,rfl,hl⟩:=hr;obtain⟨fp,jf⟩:=NM g hl hy;exact⟨cs,fp,rfl,jf⟩
  ·cases h
theorem VL{v:S1}(h:YM v=true):v= .a (.lit (.slice none 0 0)):=by
 unfold YM at h;split at h
 ·rfl
 ·cases h
theorem VM{b:Bool}{zb:cD}{st:St}{tmps:Array Value}{w:World}{env:Env}(g:Good ty zb st tmps w env){k:TK}{v x:S1}{u:Value}(hr:fD w st.hp env v u)(h:PM b st k v=some x):FD w x u:=by
 unfold PM at h;split at h
 ·rename_i hb;simp only[Bool.and_eq_true]at hb;obtain rfl:=VL hb.2;simp only[oI]at h;subst h;exact⟨[],hr.1,hr.2,rfl⟩
 ·exact VK g hr h
theorem Ht{b:Bool}{Γ:Nat→TK}{zb:cD}{st:St}{a:Act}{w:World}{env:Env}(g:Good ty zb st a.tmps w env){p:List (Nat×Bool)}(hp:holds a.tmps p): ∀{xs:List Operand} {ts:List Nat} {as:List S1},args b Γ st p xs ts=some as→bK (FD w) as (xs.map a.eval)
 | [],_,as,h=>by
   simp only[args,oI]at h;subst h;trivial
 |x::r,ts,as,h=>by
  simp only[args]at h;split at h
  ·rename_i v hv;split at h
   ·rename_i y ys h1 h2;simp only[oI]at h;subst h;exact⟨VM g (e9 g hp hv) h1,Ht g hp h2⟩
   ·cases h
  ·cases h
theorem Rz{R:V→Value→Prop}{c l:List V}{off k:Nat}{cs:List Value}(h:bK R c cs)(hs:sub c off k=some l):bK R l ((cs.drop off).take k)∧((cs.drop off).take k).length=k:=by
 simp only[sub]at hs;split at hs
 ·rename_i hb;have hb:=Nat.le_of_ble_eq_true hb;simp only[oI]at hs;subst hs;refine⟨(h.drop off).take k,?_⟩;have:=h.len;rw[List.length_take,List.length_drop];omega
 ·cases hs
theorem Hu: ∀{c:List V} {i:Nat} {v:V},yp c i=some v→c[i]? =some v
 |_::_,0,_,h=>by simpa[yp]using h
 |_::r,i+1,v,h=>by rw[List.getElem?_cons_succ];exact Hu (by simpa[yp]using h)
theorem cq.DG{w:World}{hp:Hp}{env:Env}: ∀{Vs:List V} {us:List Value} {fp:List Nat},cq w Vs us fp→(∀b,b∈fp→ ¬Ow hp env b)→bK (RA w hp env) Vs us
 | [],[],_,_,_=>trivial
 |v::Vs,u::us,_,⟨f,q,h1,h2,rfl⟩,h=>by
  refine⟨?_,cq.DG h2 fun b hb=>h b (List.mem_append_right _ hb)⟩;cases v with
  |lit x=>exact⟨h1.1,h1.2.1⟩
  |sl t l=>exact⟨f,h1,fun b hb=>h b (List.mem_append_left _ hb)⟩
  |_=>exact h1.elim
 | [],_::_,_,h,_=>h.elim
 |_::_,[],_,h,_=>h.elim
theorem RC{w:World}{hp:Hp}{env:Env}{t:Tag}{x:T t}{cs:List Value}{fp:List Nat}(hE:rd t w cs x fp)(h: ∀c,c∈fp→ ¬Ow hp env c):bK (RA w hp env) (dec t x) cs:=cq.DG (reads t hE) h
end
section
variable{ty:Tag→Nat}
def AA(ty:Tag→Nat)(st:St)(a:Act)(w:World)(env:Env)(dst:Option Tmp)(v:SV)(os:Hp):Act→World→Prop:=fun a' w'=>
 ∃u env',a'=a.put dst u∧kL (ty:=ty) w w' st.hp os env env'∧qp w' (os++st.hp) env' a.tmps v u
section
variable{P:Program}{zb:cD}{st:St}{a:Act}{w:World}{env:Env}{Q:Exit→Act→World→Prop}{o:Oper}
theorem DH{v:SV}{u:Value}(hr:(execOp a.eval o).run P w= .ok (.value u) w)(hv:qp w st.hp env a.tmps v u):o.wp P a w (AA ty st a w env o.dst v []) Q:=by
 unfold Oper.wp;rw[hr];exact⟨u,env,rfl,kL.none (Below.refl _ _),hv⟩
theorem dx{x:S1}{u:Value}(hr:(execOp a.eval o).run P w= .ok (.value u) w)(hv:fD w st.hp env x u):o.wp P a w (AA ty st a w env o.dst (.one x) []) Q:=DH hr hv
theorem AB{n:Nat}{cs:List Value}{c:List V}{e:TypeId}(hr:(execOp a.eval o).run P w= .ok (.value (.pointer (some ⟨w.heap.size,0,none⟩))) (w.alloc (.cells (Array.mk cs) e (0,0))))
  (g:Good ty zb st a.tmps w env)(hf:fresh st.hp [(n, .box c)]=true)(hc:bK (RA w st.hp env) c cs):
  o.wp P a w (AA ty st a w env o.dst (.one (.a (.ptr n 0))) [(n, .box c)]) Q:=by
 unfold Oper.wp;rw[hr];have hlk:look st.hp n=none:=mM hf n (.box c) (by simp[look]);have hn:kL (ty:=ty) w (w.alloc (.cells (Array.mk cs) e (0,0))) st.hp [(n, .box c)] env (fun m=>if m=n then⟨.pointer (some ⟨w.heap.size,0,none⟩),[w.heap.size]⟩else env m):=by
  have DF:Below w.heap.size w (w.alloc (.cells (Array.mk cs) e (0,0))):=(Below.refl _ _).alloc (Nat.le_refl _) _;have hne: ∀m,look [(n,Obj.box c)] m=none→m≠n:=by
   rintro m hm rfl;simp[look]at hm
  have s:Step (fun _=>True) (fun _=>True) w st.hp env (w.alloc (.cells (Array.mk cs) e (0,0))) ([(n, .box c)]++st.hp) (fun m=>if m=n then⟨.pointer (some ⟨w.heap.size,0,none⟩),[w.heap.size]⟩else env m):=by
   refine⟨fun b hb _=>DF.block b hb,?_,?_,?_⟩
   ·rintro b hb ⟨m,o',h1,h2⟩;by_cases hm:m=n
    ·simp[hm]at h2;omega
    ·simp[hm]at h2;refine⟨m,o',?_,h2⟩;rw[bJ]at h1
     ·exact h1
     ·simp only[look];split
      ·rename_i bI;exact absurd (Nat.eq_of_beq_eq_true bI) hm
      ·rfl
   ·intro m o' _ h1;have hm:m≠n:=by rintro rfl;rw[hlk]at h1;cases h1
    refine⟨o',?_,by cases o'<;>simp[Obj.like],by simp[hm]⟩;rw[bJ]
    ·exact h1
    ·simp only[look];split
     ·rename_i bI;exact absurd (Nat.eq_of_beq_eq_true bI) hm
     ·rfl
   ·intro m t l _ h1;have hm:m≠n:=by rintro rfl;rw[hlk]at h1;cases h1
    refine⟨?_,by simp[hm],fun b hb=>DF.block b ((g.obj m _ h1).blk b hb)⟩;rw[bJ]
    ·exact h1
    ·simp only[look];split
     ·rename_i bI;exact absurd (Nat.eq_of_beq_eq_true bI) hm
     ·rfl
  refine⟨DF,fun m hm=>by simp[hne m hm],?_,?_⟩
  ·intro m o' hl;have hm:m=n:=by
    simp only[look]at hl;split at hl
    ·rename_i bI;exact Nat.eq_of_beq_eq_true bI
    ·cases hl
   subst hm;simp only[look,Nat.beq_refl,oI]at hl;subst hl;refine⟨⟨w.heap.size,cs,e,by simp,kI rfl,hc.mono fun v u _ h=>RA.step s v.eO h⟩,?_⟩;intro b hb;simp at hb;omega
  ·intro m m' o1 o2 YQ h1 h2;have e1:m=n:=by
    simp only[look]at h1;split at h1
    ·rename_i bI;exact Nat.eq_of_beq_eq_true bI
    ·cases h1
   have e2:m'=n:=by
    simp only[look]at h2;split at h2
    ·rename_i bI;exact Nat.eq_of_beq_eq_true bI
    ·cases h2
   exact absurd (e1.trans e2.symm) YQ
 exact⟨_,_,rfl,hn,⟨c,by simp[look]⟩,w.heap.size,by simp,rfl⟩
theorem YR{t:Nat}{k:TK}(h:cT P t k)(h1: ∀z tg fo,k≠ .st z tg fo)(h2:k≠ .other): ∃d,P.underlying t=some d∧d.isRow=false:=by
 cases k with
 |int k=>exact⟨_,h,rfl⟩
 |bool=>exact⟨_,h,rfl⟩
 |str=>exact⟨_,h,rfl⟩
 |sl g e=>exact⟨_,h.1,rfl⟩
 |st z tg fo=>exact absurd rfl (h1 z tg fo)
 |mp=>obtain⟨_,_,h,_⟩:=h;exact⟨_,h,rfl⟩
 |other=>exact absurd rfl h2
theorem Cs{t:Nat}{d:TypeDesc}{ad:Addr}{u:Value}(hu:P.underlying t=some d)(hd:d.isRow=false)(hc:w.cell? ad=some u):(loadVar t ad).run P w= .ok u w:=by
 have adJ:(isAgg t).run P w= .ok false w:=by
  unfold isAgg;rw[Sem.run_bind,run_underlying hu w];cases d<;>simp_all
 simp[loadVar,adJ,hc]
theorem nT{t:Nat}{k:TK}{x:Operand}(ho:o.op= .load t x)(hk:cT P t k)(h1: ∀z tg fo,k≠ .st z tg fo)(h2:k≠ .other){ad:Addr}(hx:a.eval x= .pointer (some ad)){u:Value}(hc:w.cell? ad=some u){v:V}(hv:RA w st.hp env v u):
  o.wp P a w (AA ty st a w env o.dst (.one (.a v)) []) Q:=by
 obtain⟨d,hu,hd⟩:=YR hk h1 h2;refine dx ?_ hv;unfold execOp;simp only[ho,hx,Instr.loadAt,Instr.sureAddr,Sem.run_bind,Sem.run_pure,Result.andThen_ok,Cs hu hd hc]
theorem wp_load_row{t:Nat}{x:Operand}{z:List Value}{tg:List (Option Tag)}{fo:List Nat}(ho:o.op= .load t x)(hk:cT P t (.st z tg fo)){b off:Nat}(hx:a.eval x= .pointer (some ⟨b,off,none⟩)){cs:List Value}(hc:w.rangeAt b off cs)
  (hl:cs.length=z.length){l:List V}(hv:bK (RA w st.hp env) l cs):o.wp P a w (AA ty st a w env o.dst (.one (.agg l)) []) Q:=by
 obtain⟨fs,hu,hi,_⟩:=hk;refine dx (u:= .agg cs.toArray) ?_ ⟨cs,rfl,hv⟩;unfold execOp;have hi':(P.info? t).map (·.size)=some cs.length:=by
  rw[hl];cases hq:P.info? t with
  |none=>simp[hq]at hi
  |some i=>simp[hq]at hi;simp[hi.1]
 simp only[ho,hx,Instr.loadAt,Instr.sureAddr,Sem.run_bind,Sem.run_pure,Result.andThen_ok,run_loadVar_mid w b off t cs _ hc hu rfl hi']
theorem lu{b off k j:Nat}{cs:List Value}(h:w.rangeAt b off cs):w.rangeAt b (off+j) ((cs.drop j).take k):=by
 intro i v hv;rw[List.getElem?_take]at hv;split at hv
 ·rw[List.getElem?_drop]at hv;rw[Nat.add_assoc];exact h _ _ hv
 ·cases hv
theorem lz{b off j:Nat}{cs:List Value}{u:Value}(h:w.rangeAt b off cs)(hu:cs[j]? =some u):w.cell? ⟨b,off+j,none⟩=some u:=h j u hu
theorem YS{op:BinOp}{k:IntKind}{x y:Int}{vc:List Prop}{v:Value}(h:bop op k x y=some (vc,v))(hv: ∀q,q∈vc→q){t:TypeId}{X Y:Operand}:
  (do eqGuard op t X Y (.int k x) (.int k y);binOp op t (.int k x) (.int k y):Sem Value).run P w= .ok v w∧v.oneCell'=true:=by
 cases op<;>simp only[bop,oI,pI,reduceCtorEq]at h<;>obtain⟨rfl,rfl⟩:=h<;>
  first
  | (refine⟨?_,rfl⟩;simp[eqGuard,binOp,Op.intArith,Op.intCmp];done)
  | (refine⟨?_,rfl⟩;simp only[eqGuard,binOp,ne_eq,not_true_eq_false,ite_false,Op.intBits];rfl)
  | (have hy:y≠0:=hv _ (by simp)
     refine⟨?_,rfl⟩;simp[eqGuard,binOp,Op.intDiv,hy])
theorem Jt{t:Nat}{z:List Value}{tg:List (Option Tag)}{fo:List Nat}(hk:cT P t (.st z tg fo)){f k:Nat}(hf:nN fo f=some k)(b off:Nat):
  (Instr.fieldAt t (.pointer (some ⟨b,off,none⟩)) f).run P w= .ok (.pointer (some ⟨b,off+k,none⟩)) w:=by
 obtain⟨fs,hu,_,_,hfo,_⟩:=hk;obtain⟨fd,h1,h2,i,h3,h4⟩:=hfo f k hf;simp[Instr.fieldAt,run_underlying hu,h1,Instr.sureAddr,fieldPlace,sizeOf,typeInfo,h3,h4,h2,Addr.add_mid]
theorem mu{t:Nat}{x:Operand}{z:List Value}{tg:List (Option Tag)}{fo:List Nat}{f k:Nat}(ho:o.op= .fieldAddr t x f)(hk:cT P t (.st z tg fo))(hf:nN fo f=some k){b off:Nat}(hx:a.eval x= .pointer (some ⟨b,off,none⟩)){v:V}
  (hv:RA w st.hp env v (.pointer (some ⟨b,off+k,none⟩))):o.wp P a w (AA ty st a w env o.dst (.one (.a v)) []) Q:=by
 refine dx ?_ hv;unfold execOp;simp only[ho,hx,Sem.run_bind,Jt hk hf b off,Result.andThen_ok,Sem.run_pure]
theorem Ju{t:Nat}{g:Tag}{e:Nat}(hk:cT P t (.sl g e)){b off len cap:Nat}{ik:IntKind}{i:Int}(h0:0≤i)(h1:i<len):
  (Instr.indexAt t (.slice (some ⟨b,off,none⟩) len cap) (.int ik i)).run P w= .ok (.pointer (some ⟨b,off+i.toNat*kk g,none⟩)) w:=by
 obtain⟨hu,hs⟩:=hk;cases hq:P.info? e with
 |none=>simp[hq]at hs
 |some inf=>
  have hsz:inf.size=kk g:=by simpa[hq]using hs
  simp[Instr.indexAt,asIntOf,run_underlying hu,h0,h1,sizeOf,typeInfo,hq,hsz,Addr.add_mid]
theorem qt{t:Nat}{x i:Operand}{g:Tag}{e:Nat}(ho:o.op= .indexAddr t x i)(hk:cT P t (.sl g e)){b off len cap:Nat}{ik:IntKind}{n:Int}(hx:a.eval x= .slice (some ⟨b,off,none⟩) len cap)(hi:a.eval i= .int ik n)(h0:0≤n)(h1:n<len){v:V}
  (hv:RA w st.hp env v (.pointer (some ⟨b,off+n.toNat*kk g,none⟩))):o.wp P a w (AA ty st a w env o.dst (.one (.a v)) []) Q:=by
 refine dx ?_ hv;unfold execOp;simp only[ho,hx,hi,Sem.run_bind,Ju hk h0 h1,Result.andThen_ok,Sem.run_pure]
theorem VN{t:Tag}{l:List (T t)}{u:Value}{n:Int}(h:RA w st.hp env (.sl t l) u)(h0:0≤n)(h1:n<l.length):
  ∃b off len cap,u= .slice (some ⟨b,off,none⟩) len cap∧n<len∧RA w st.hp env (.ip t (l.getD n.toNat (aG t)) 0) (.pointer (some ⟨b,off+n.toNat*kk t,none⟩)):=by
 obtain⟨fp,⟨oa,cap,rfl,hc,hm,h3⟩,hd⟩:=h;have hn:n.toNat<l.length:=by omega
 rcases h3 with⟨rfl,_⟩| ⟨b,off,bX,rfl,hb,rfl,he⟩
 ·simp at hn
 ·have hx:l[n.toNat]? =some (l.getD n.toNat (aG t)):=by rw[List.getD_eq_getElem?_getD,List.getElem?_eq_getElem hn];rfl
  obtain⟨f,hf⟩:=fG he.1 hx;obtain⟨cs,hr,hE⟩:=he.2 _ _ f hx hf;exact⟨b,off,l.length,cap,rfl,h1,b,off+n.toNat*kk t,cs,f,rfl,hb.lt,hr,hE,hd b (by simp),fun c hc=>hd c (List.mem_cons_of_mem _ (cI hf hc))⟩
theorem DI{t:Nat}{x:Operand}{ts:Array TypeId}(ht:ts= #[t])(ho:o.op= .call ⟨.builtin .len,#[x],ts⟩){d:TypeDesc}(hu:P.underlying t=some d){u:Value}(hx:a.eval x=u){n:Int}
  (hn:(∃e oa c m,d= .slice e∧u= .slice oa m c∧n=(m:Int))∨(∃s:ByteArray,d= .string∧u= .string s∧n=(s.size:Int))):
  o.wp P a w (AA ty st a w env o.dst (.one (.a (.lit (.int .i64 n)))) []) Q:=by
 refine dx (u:= .int .i64 n) ?_ ⟨rfl,rfl⟩;subst ht;unfold execOp;rcases hn with⟨e,oa,c,m,rfl,rfl,rfl⟩| ⟨s,rfl,rfl,rfl⟩
 ·simp[ho,resolve,invoke,builtin,Builtin.len_,hx,run_underlying hu,goInt]
 ·simp[ho,resolve,invoke,builtin,Builtin.len_,hx,run_underlying hu,goInt]
end
end
section
variable{ty:Tag→Nat}
def pair:Hp→List CO→List (Nat×CO)
 | (n,_)::r,c::cs=>(n,c)::pair r cs
 |_,_=> []
theorem bB{α:Type}{j n:Nat}{x:α}{r:List (Nat×α)}(h:n≠j):look ((j,x)::r) n=look r n:=by
 simp only[look];split
 ·rename_i hb;exact absurd (Nat.eq_of_beq_eq_true hb) h
 ·rfl
theorem look_eq{α:Type}{j:Nat}{x:α}{r:List (Nat×α)}:look ((j,x)::r) j=some x:=by simp[look]
theorem Jv{R:Nat×Obj→CO→Prop}: ∀{os:Hp} {ce:List CO},kJ os=true→bK R os ce→bK (fun e co=>look os e.1=some e.2∧look (pair os ce) e.1=some co) os ce
 | [],[],_,_=>trivial
 | (n,o)::r,c::cs,hn,⟨_,h2⟩=>by
   simp only[kJ,Bool.and_eq_true]at hn;refine⟨⟨look_eq,look_eq⟩,(Jv hn.2 h2).mono ?_⟩;rintro⟨m,o'⟩ co _ ⟨h3,h4⟩;have hne:m≠n:=by
    rintro rfl;have h3':look r m=some o':=h3;simp[h3']at hn
   exact⟨by rw[bB hne];exact h3,by show look (pair ((n,o)::r) (c::cs)) m=some co;rw[pair,bB hne];exact h4⟩
 | [],_::_,_,h=>h.elim
 |_::_,[],_,h=>h.elim
theorem vk{R:Nat×Obj→CO→Prop}: ∀{os:Hp} {ce:List CO} {n:Nat} {o:Obj},bK R os ce→look os n=some o→ ∃co,look (pair os ce) n=some co∧R (n,o) co
 | (m,o')::r,c::cs,n,o,⟨h1,h2⟩,hl=>by
   by_cases h:n=m
   ·subst h;rw[look_eq]at hl;simp only[oI]at hl;subst hl;exact⟨c,look_eq,h1⟩
   ·rw[bB h]at hl;obtain⟨co,h3,h4⟩:=vk h2 hl;exact⟨co,by rw[pair,bB h];exact h3,h4⟩
 | [],[],_,_,_,hl=>by simp[look]at hl
 | [],_::_,_,_,h,_=>h.elim
 |_::_,[],_,_,h,_=>h.elim
theorem DJ: ∀{os:Hp} {ce:List CO} {n:Nat} {co:CO},look (pair os ce) n=some co→ ∀b,b∈co.fp→b∈ce.flatMap CO.fp
 | (m,o')::r,c::cs,n,co,hl,b,hb=>by
   rw[List.flatMap_cons];by_cases h:n=m
   ·subst h;rw[pair,look_eq]at hl;simp only[oI]at hl;subst hl;exact List.mem_append_left _ hb
   ·rw[pair,bB h]at hl;exact List.mem_append_right _ (DJ hl b hb)
 | [],[],_,_,hl,_,_=>by simp[pair,look]at hl
 | [],_::_,_,_,hl,_,_=>by simp[pair,look]at hl
 |_::_,[],_,_,hl,_,_=>by simp[pair,look]at hl
theorem Jw: ∀{os:Hp} {ce:List CO} {n n':Nat} {co co':CO},(ce.flatMap CO.fp).Nodup→n≠n'→look (pair os ce) n=some co→look (pair os ce) n'=some co'→ ∀b,b∈co.fp→b∉co'.fp
 | (m,o')::r,c::cs,n,n',co,co',hnd,hne,h1,h2,b,hb,hb'=>by
   rw[List.flatMap_cons]at hnd;obtain⟨_,hn2,XV⟩:=List.nodup_append.1 hnd;by_cases h:n=m
   ·subst h;rw[pair,look_eq]at h1;simp only[oI]at h1;subst h1;rw[pair,bB (Ne.symm hne)]at h2;exact XV b hb b (DJ h2 b hb') rfl
   ·rw[pair,bB h]at h1;by_cases h':n'=m
    ·subst h';rw[pair,look_eq]at h2;simp only[oI]at h2;subst h2;exact XV b hb' b (DJ h1 b hb) rfl
    ·rw[pair,bB h']at h2;exact Jw hn2 hne h1 h2 b hb hb'
 | [],[],_,_,_,_,_,_,hl,_,_,_,_=>by simp[pair,look]at hl
 | [],_::_,_,_,_,_,_,_,hl,_,_,_,_=>by simp[pair,look]at hl
 |_::_,[],_,_,_,_,_,_,hl,_,_,_,_=>by simp[pair,look]at hl
theorem kL.list{w w':World}{hp os:Hp}{env:Env}{ce:List CO}(hb:Below w.heap.size w w')(hn:kJ os=true)
  (h:bK (fun e co=>(∀hp' env',RO ty w' hp' env' e.1 e.2 co)∧ ∀b,b∈co.fp→w.heap.size≤b) os ce)(hnd:(ce.flatMap CO.fp).Nodup):
  ∃env',kL (ty:=ty) w w' hp os env env'∧bK (fun e co=>look os e.1=some e.2∧env' e.1=co) os ce:=by
 refine⟨fun n=>match look (pair os ce) n with|some co=>co|_=>env n,⟨hb,?_,?_,?_⟩,?_⟩
 ·intro n hl;cases hq:look (pair os ce) n with
  |none=>simp[hq]
  |some co=>
   exfalso;clear hn hnd;induction os generalizing ce with
   |nil=>cases ce<;>simp[pair,look]at hq
   |cons e r ih=>
    cases ce with
    |nil=>simp[pair,look]at hq
    |cons c cs=>
     obtain⟨m,o⟩:=e;by_cases hm:n=m
     ·subst hm;rw[look_eq]at hl;cases hl
     ·rw[bB hm]at hl;rw[pair,bB hm]at hq;exact ih h.2 hl hq
 ·intro n o hl;obtain⟨co,h1,h2⟩:=vk h hl;simp only[h1];exact⟨h2.1 _ _,h2.2⟩
 ·intro n m o o' hne h1 h2;obtain⟨co,h3,_⟩:=vk h h1;obtain⟨co',h5,_⟩:=vk h h2;simp only[h3,h5];exact Jw hnd hne h3 h5
 ·exact(Jv hn h).mono fun e co _ hh=>⟨hh.1,by simp[hh.2]⟩
theorem DK{w:World}{lo:Nat}: ∀{l:List V} {cs:List Value} {fp:List Nat} (m:Nat),Rx ty w lo l cs fp→ ∃ce:List CO,
  bK (fun e co=>(∀hp env,RO ty w hp env e.1 e.2 co)∧ ∀b,b∈co.fp→lo≤b) (nS m l).2 ce∧ce.flatMap CO.fp=fp∧(∀e,e∈(nS m l).2→ ∃t l,e.2= .arr t l)∧
  ∀hp env,bK (fun e co=>look hp e.1=some e.2∧env e.1=co) (nS m l).2 ce→bK (RA w hp env) (nS m l).1 cs
 | [],[],fp,m,h=>⟨[],trivial,h.symm,by simp[nS],fun _ _ _=>trivial⟩
 |v::r,u::us,fp,m,⟨f,g,h1,h2,e⟩=>by
  obtain⟨ce,k1,k2,k3,k4⟩:=DK (m+1) h2;cases v with
  |lit x=>
   refine⟨ce,k1,by rw[k2,e,h1.2.2];rfl,k3,fun hp env hh=>⟨⟨h1.1,h1.2.1⟩,k4 hp env hh⟩⟩
  |sl t l=>
   refine⟨⟨u,f⟩::ce,⟨⟨fun _ _=>RO.F7 (iW.mono h1 (Nat.zero_le _)),(iW.own h1).ge⟩,k1⟩,by rw[List.flatMap_cons,k2,e],?_,?_⟩
   ·intro e' he;rcases List.mem_cons.1 he with rfl|he
    ·exact⟨t,l,rfl⟩
    ·exact k3 e' he
   ·rintro hp env ⟨⟨q1,q2⟩,hh⟩;exact⟨⟨⟨t,l,q1⟩,by rw[q2]⟩,k4 hp env hh⟩
  |vw _ _ t l=>
   have hge: ∀b,b∈f→lo≤b:=h1.2.ge;have XW:=Ru m;simp only[nS];generalize m+900=m9 at XW ⊢;have hro: ∀hp env,RO ty w hp env m9 (.arr t l) ⟨u,f⟩:=fun _ _=>RO.Rt XW h1.1 (h1.2.mono (Nat.zero_le _));refine⟨⟨u,f⟩::ce,⟨⟨hro,hge⟩,k1⟩,by rw[List.flatMap_cons,k2,e],?_,?_⟩
   ·intro e' he;rcases List.mem_cons.1 he with rfl|he
    ·exact⟨t,l,rfl⟩
    ·exact k3 e' he
   ·rintro hp env ⟨⟨q1,q2⟩,hh⟩;exact⟨⟨⟨t,l,q1⟩,by rw[q2]⟩,k4 hp env hh⟩
  |_=>exact h1.elim
 | [],_::_,_,_,h=>h.elim
 |_::_,[],_,_,h=>h.elim
theorem F8: ∀{l:List V} (m:Nat),(nS m l).1.length=l.length
 | [],_=>rfl
 |v::r,m=>by
  have:=F8 (l:=r) (m+1);cases v<;>simp[nS,this]
theorem F9{w:World}{lo:Nat}{x:S1}{u:Value}{fp:List Nat}(m:Nat)(h:XU ty w lo x u fp): ∃ce:List CO,
  bK (fun e co=>(∀hp env,RO ty w hp env e.1 e.2 co)∧ ∀b,b∈co.fp→lo≤b) (s7 m x).2 ce∧ce.flatMap CO.fp=fp∧(∀e,e∈(s7 m x).2→ ∃t l,e.2= .arr t l)∧
  ∀hp env,bK (fun e co=>look hp e.1=some e.2∧env e.1=co) (s7 m x).2 ce→fD w hp env (s7 m x).1 u:=by
 cases x with
 |a v=>
  obtain⟨ce,k1,k2,k3,k4⟩:=DK m (show Rx ty w lo [v] [u] fp from h);have hl:=F8 (l:= [v]) m;simp only[s7];generalize nS m [v]=q at*;obtain⟨vs,os⟩:=q;match vs,hl with
  | [v'],_=>exact⟨ce,k1,k2,k3,fun hp env hh=>(k4 hp env hh).1⟩
 |agg l=>
  obtain⟨cs,rfl,hh⟩:=h;obtain⟨ce,k1,k2,k3,k4⟩:=DK m hh;exact⟨ce,k1,k2,k3,fun hp env hh=>⟨cs,rfl,k4 hp env hh⟩⟩
theorem bK.RD{α β:Type}{R:α→β→Prop}: ∀{as as':List α} {bs bs':List β},as.length=bs.length→bK R (as++as') (bs++bs')→bK R as bs∧bK R as' bs'
 | [],_,[],_,_,h=>⟨trivial,h⟩
 |_::_,_,_::_,_,hl,⟨h1,h⟩=>⟨⟨h1,(bK.RD (by simpa using hl) h).1⟩,(bK.RD (by simpa using hl) h).2⟩
 | [],_,_::_,_,hl,_=>by simp at hl
 |_::_,_,[],_,hl,_=>by simp at hl
theorem Ga{w:World}{lo:Nat}: ∀{l:List S1} {us:List Value} {fp:List Nat} (m:Nat),Vi ty w lo l us fp→ ∃ce:List CO,
  bK (fun e co=>(∀hp env,RO ty w hp env e.1 e.2 co)∧ ∀b,b∈co.fp→lo≤b) (qo m l).2 ce∧ce.flatMap CO.fp=fp∧(∀e,e∈(qo m l).2→ ∃t l,e.2= .arr t l)∧
  ∀hp env,bK (fun e co=>look hp e.1=some e.2∧env e.1=co) (qo m l).2 ce→bK (fD w hp env) (qo m l).1 us
 | [],[],fp,m,h=>⟨[],trivial,h.symm,by simp[qo],fun _ _ _=>trivial⟩
 |x::r,u::us,fp,m,⟨f,g,h1,h2,e⟩=>by
  obtain⟨c1,k1,k2,k3,k4⟩:=F9 m h1;obtain⟨c2,q1,q2,q3,q4⟩:=Ga (m+20) h2;refine⟨c1++c2,bK.app k1 q1,by rw[List.flatMap_append,k2,q2,e],?_,?_⟩
  ·intro e' he;rcases List.mem_append.1 he with he|he
   ·exact k3 e' he
   ·exact q3 e' he
  ·intro hp env hh;obtain⟨a1,a2⟩:=bK.RD (by have:=k1.len;exact this.symm) hh;exact⟨k4 hp env a1,q4 hp env a2⟩
 | [],_::_,_,_,h=>h.elim
 |_::_,[],_,_,h=>h.elim
theorem Rx.DG{w:World}{lo:Nat}{hp:Hp}{env:Env}: ∀{Vs:List V} {us:List Value} {fp:List Nat},Rx ty w lo Vs us fp→(∀b,b∈fp→ ¬Ow hp env b)→bK (RA w hp env) (Vs.map V.Ay) us
 | [],[],_,_,_=>trivial
 |v::Vs,u::us,_,⟨f,q,h1,h2,rfl⟩,h=>by
  refine⟨?_,Rx.DG h2 fun b hb=>h b (List.mem_append_right _ hb)⟩;cases v with
  |lit x=>exact⟨h1.1,h1.2.1⟩
  |sl t l=>exact⟨f,iW.sl h1,fun b hb=>h b (List.mem_append_left _ hb)⟩
  |vw _ _ t l=>exact⟨f,h1.1,fun b hb=>h b (List.mem_append_left _ hb)⟩
  |_=>exact h1.elim
 | [],_::_,_,h,_=>h.elim
 |_::_,[],_,h,_=>h.elim
theorem XU.rs1{w:World}{lo:Nat}{hp:Hp}{env:Env}{x:S1}{u:Value}{fp:List Nat}(h:XU ty w lo x u fp)(hd: ∀b,b∈fp→ ¬Ow hp env b):fD w hp env x.Ay u:=by
 cases x with
 |a v=>exact(Rx.DG (show Rx ty w lo [v] [u] fp from h) hd).1
 |agg l=>obtain⟨cs,rfl,hh⟩:=h;exact⟨cs,rfl,hh.DG hd⟩
theorem Vi.DG{w:World}{lo:Nat}{hp:Hp}{env:Env}: ∀{Vs:List S1} {us:List Value} {fp:List Nat},Vi ty w lo Vs us fp→(∀b,b∈fp→ ¬Ow hp env b)→bK (fD w hp env) (Vs.map S1.Ay) us
 | [],[],_,_,_=>trivial
 |v::Vs,u::us,_,⟨f,q,h1,h2,rfl⟩,h=>⟨h1.rs1 fun b hb=>h b (List.mem_append_left _ hb),Vi.DG h2 fun b hb=>h b (List.mem_append_right _ hb)⟩
 | [],_::_,_,h,_=>h.elim
 |_::_,[],_,h,_=>h.elim
theorem V.yx{v:V}(h:v.YK=false):v.Ay=v:=by
 cases v<;>first|rfl|cases h
theorem S1.yx{x:S1}(h:x.Jo=true):x.Ay=x:=by
 cases x with
 |a v=>simp only[S1.Jo,Bool.not_eq_true']at h;rw[S1.Ay,V.yx h]
 |agg l=>
  simp only[S1.Jo,List.all_eq_true,Bool.not_eq_true']at h;rw[S1.Ay];congr 1;exact(List.map_congr_left fun v hv=>V.yx (h v hv)).trans (List.map_id' l)
theorem RE{l:List S1}(h:l.all S1.Jo=true):l.map S1.Ay=l:=by
 rw[List.all_eq_true]at h;exact(List.map_congr_left fun v hv=>S1.yx (h v hv)).trans (List.map_id' l)
section
variable{P:Program}{zb:cD}{st:St}{a:Act}{w:World}{env:Env}{Q:Exit→Act→World→Prop}{o:Oper}
theorem NN{f:FuncId}{x0:Operand}{xs:Array Operand}{ts:Array TypeId}(ho:o.op= .call ⟨.value x0,xs,ts⟩)(h0:a.eval x0= .func (.func f) #[] #[]){as rs:List S1}(hS:Sound ty P f as rs)(hA:Cq w)(g:Good ty zb st a.tmps w env)(ha:bK (FD w) as (xs.toList.map a.eval))
  {own:Bool}{m:Nat}{vc:List Prop}{out:Out}(hout:outs m ⟨own,rs⟩ vc=out)(hn:kJ out.o=true):
  o.wp P a w (AA ty st a w env o.dst out.v out.o) Q:=by
 have hrun:(execOp a.eval o).run P w= .ok (.enter f (xs.map a.eval)) w:=by
  unfold execOp;simp[ho,resolve,invoke,Deferred.ofValue,h0,hS.1]
 unfold Oper.wp;rw[hrun];simp only[Oper.upon];have hx:xs.map a.eval=(xs.toList.map a.eval).toArray:=by rw[←List.map_toArray]
 rw[hx];refine(hS.2 w _ hA ha).mono ?_;rintro e w' ⟨u,fp,rfl,hb,hown,hr⟩;have hfr: ∀b,b∈fp→ ¬Ow st.hp env b:=fun b hb' ho'=>by have:=(g.ow ho').2;have:=hown.ge b hb';omega
 cases own with
 |false=>
  simp only[outs]at hout;match rs,hr with
  | [r],hr=>
    have h1:=XU.rs1 (hp:=st.hp) (env:=env) hr hfr;cases hq:r.Jo with
    |true=>
     simp only[hq]at hout;subst hout;rw[S1.yx hq]at h1;exact⟨u,env,rfl,kL.none hb,h1⟩
    |false=>
     simp only[hq]at hout;subst hout;exact⟨u,env,rfl,kL.none hb,h1⟩
  | [],⟨us,hu,hr⟩=>subst hout;exact⟨u,env,rfl,kL.none hb,us,hu,Vi.DG hr hfr⟩
  |r::r'::rr,⟨us,hu,hr⟩=>
   have h1:=Vi.DG (hp:=st.hp) (env:=env) hr hfr;cases hq:(r::r'::rr).all S1.Jo with
   |true=>
    simp only[hq]at hout;subst hout;rw[RE hq]at h1;exact⟨u,env,rfl,kL.none hb,us,hu,h1⟩
   |false=>
    simp only[hq]at hout;subst hout;exact⟨u,env,rfl,kL.none hb,us,hu,h1⟩
 |true=>
  match rs,hr with
  | [r],hr=>
    obtain⟨ce,k1,k2,k3,k4⟩:=F9 m (show XU ty w' w.heap.size r u fp from hr);have:out=⟨vc, .one (s7 m r).1,(s7 m r).2++ []⟩:=by rw[←hout];rfl
    rw[List.append_nil]at this;subst this;obtain⟨env',hN,hl⟩:=kL.list (ty:=ty) (hp:=st.hp) (env:=env) hb hn k1 (by rw[k2];exact hown.nodup);exact⟨u,env',rfl,hN,k4 _ _ (hl.mono fun e co _ hh=>⟨cJ hh.1,hh.2⟩)⟩
  | [],⟨us,hu,hr⟩=>
    subst hout;cases us with
    |nil=>exact⟨u,env,rfl,kL.none hb,[],hu,trivial⟩
    |cons _ _=>exact hr.elim
  |r::r'::rr,⟨us,hu,hr⟩=>
   obtain⟨ce,k1,k2,k3,k4⟩:=Ga m (show Vi ty w' w.heap.size (r::r'::rr) us fp from hr);have:out=⟨vc, .wK (qo m (r::r'::rr)).1,(qo m (r::r'::rr)).2⟩:=by rw[←hout];rfl
   subst this;obtain⟨env',hN,hl⟩:=kL.list (ty:=ty) (hp:=st.hp) (env:=env) hb hn k1 (by rw[k2];exact hown.nodup);exact⟨u,env',rfl,hN,us,hu,k4 _ _ (hl.mono fun e co _ hh=>⟨cJ hh.1,hh.2⟩)⟩
end
end
end Go.Proofs.YtaalpcnbbldlaaaGreatDoor.G
