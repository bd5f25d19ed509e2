/-
  Calls, and all operations that turn nothing.
-/
import Derived.ChangeKeysEq
import Derived.Laws.Tables
import Derived.Test.YtkcegdacbddipaaGreatV5
namespace Go.Proofs.YtkcegdacbddipaaGreat.G
set_option linter.all false
open Go.RowKit L D
section
def cG(P:Program)(t:Nat):TK→Prop
 | .int k=>P.underlying t=some (.int k)
 | .bool=>P.underlying t=some .bool
 | .str=>P.underlying t=some .string
 | .sl g e=>P.underlying t=some (.slice e)∧(P.info? e).map (·.size)=some (kk g)
 | .st z _ fo=> ∃fs,P.underlying t=some (.struct fs)∧(P.info? t).map (fun i=>(i.size,i.zero))=some (z.length,some (.agg z.toArray))∧(∀v,v∈z→v.oneCell'=true)∧
   (∀f k,nF fo f=some k→ ∃fd,fs[f]? =some fd∧fd.offset=k∧ ∃i,P.info? fd.type=some i∧i.size≠0)∧
   ∃places,fs.toList.mapM (fun f=>(P.info? f.type).map fun i=>(f.offset,i.size))=some places∧ ∀j o k,nF fo j=some o→Wl z.length fo j=some k→places[j]? =some (o,k)
 | .mp=> ∃k e,P.underlying t=some (.map k e)∧P.underlying k=some (.int .i64)∧(∀w,(zeroValue e).run P w= .ok (.int .i64 0) w)∧(P.info? t).map (·.size)=some 1
 | .other=>True
def Bz(n:Nat):List Nat→Nat
 | []=>n
 |k::_=>k
def wF(P:Program)(n:Nat):List Field→List Nat→Bool
 | [],[]=>true
 |fd::r,k::s=>Nat.beq fd.offset k&&(match P.info? fd.type with|some i=> !(Nat.beq i.size 0)&&Nat.beq i.size (Bz n s-k)|none=>false)&&wF P n r s
 |_,_=>false
theorem rS{P:Program}{n:Nat}: ∀{fs:List Field} {fo:List Nat},wF P n fs fo=true→(∀f k,nF fo f=some k→ ∃fd,fs[f]? =some fd∧fd.offset=k∧ ∃i,P.info? fd.type=some i∧i.size≠0)∧
  ∃places,fs.mapM (fun f=>(P.info? f.type).map fun i=>(f.offset,i.size))=some places∧ ∀j o k,nF fo j=some o→Wl n fo j=some k→places[j]? =some (o,k)
 | [],[],_=>⟨fun f k h=>by simp[nF]at h,[],rfl,fun j o k h=>by simp[nF]at h⟩
 |fd::r,k'::s,hh=>by
  simp only[wF,Bool.and_eq_true]at hh
  obtain⟨⟨h1,h2⟩,h3⟩:=hh
  obtain⟨q1,places,q2,q3⟩:=rS h3
  cases hq:P.info? fd.type with
  |none=>simp[hq]at h2
  |some i=>
   simp only[hq,Bool.and_eq_true]at h2
   have h4:=Nat.eq_of_beq_eq_true h2.2
   have h5:=Nat.eq_of_beq_eq_true h1
   refine⟨fun f k h=> ?_,(fd.offset,i.size)::places,?_,fun j o k hj hk=> ?_⟩
   ·cases f with
    |zero=>
     simp only[nF,oI]at h
     subst h
     refine⟨fd,rfl,h5,i,hq,fun e=> ?_⟩
     have:=h2.1
     simp[e]at this
    |succ f=>
     obtain⟨x,k1,k2⟩:=q1 f k (by simpa[nF]using h)
     exact⟨x,by simpa using k1,k2⟩
   ·simp[List.mapM_cons,hq,q2]
   ·cases j with
    |zero=>
     simp only[nF,oI]at hj
     subst hj
     have hk':Wl n (k'::s) 0=some (Bz n s-k'):=by
      cases s with
      |nil=>simp[Wl,nF,Bz]
      |cons b s=>simp[Wl,nF,Bz]
     rw[hk']at hk
     simp only[oI]at hk
     simp[h5,h4,hk]
    |succ j=>
     have:=q3 j o k (by simpa[nF]using hj) (by simpa[Wl,nF]using hk)
     simpa using this
variable(ty:Tag→Nat)
def El(P:Program)(ty:Tag→Nat)(t:Tag):Prop:=(P.info? (ty t)).map (fun i=>(i.zero,i.size,i.bytes))=some (some (eF t),kk t,cK t)
def Gb(P:Program)(ty:Tag→Nat)(t:Tag)(e:Nat):Prop:=e=ty t∧El P ty t
def RB(w:World)(lo:Nat):V→Value→List Nat→Prop
 | .lit v,u,fp=>u=v∧v.oneCell'=true∧fp= []
 | .sl t l,u,fp=>ig (kk t) (rd t) lo (ty t) w u l fp
 | .vw _ _ t l,u,fp=>Sl (kk t) (rd t) w u l fp∧Own lo w fp
 |_,_,_=>False
def P7(w:World)(lo:Nat):List V→List Value→List Nat→Prop
 | [],[],fp=>fp= []
 |V::Vs,u::us,fp=> ∃f g,RB ty w lo V u f∧P7 w lo Vs us g∧fp=f++g
 |_,_,_=>False
def Wm(w:World)(lo:Nat):S1→Value→List Nat→Prop
 | .a v,u,fp=>P7 ty w lo [v] [u] fp
 | .agg l,u,fp=> ∃cs,u= .agg cs.toArray∧P7 ty w lo l cs fp
def TL(w:World)(lo:Nat):List S1→List Value→List Nat→Prop
 | [],[],fp=>fp= []
 |V::Vs,u::us,fp=> ∃f g,Wm ty w lo V u f∧TL w lo Vs us g∧fp=f++g
 |_,_,_=>False
def Ua(w:World)(lo:Nat)(rs:List S1)(u:Value)(fp:List Nat):Prop:=
 match rs with
 | [r]=>Wm ty w lo r u fp
 |rs=> ∃us,u= .tuple us.toArray∧TL ty w lo rs us fp
def ZO(w:World)(rs:List S1)(e:Ending)(w':World):Prop:=
 ∃u fp,e= .returned u∧Below w.heap.size w w'∧Own w.heap.size w' fp∧Ua ty w' w.heap.size rs u fp
def Gc(w:World):S1→Value→Prop
 | .a v,u=> ∃fp,RI w v u fp
 | .agg l,u=> ∃cs fp,u= .agg cs.toArray∧bT w l cs fp
def Sound(P:Program)(f:FuncId)(as rs:List S1):Prop:=
 (∀(args:Array Value) (w:World),(callFunc f args).run P w= .ok (.enter f args) w)∧
 ∀w us,F5 w→bA (Gc w) as us→Calls P f us.toArray w (ZO ty w rs)
variable{ty}
theorem Kz{tmps:Array Value}{s:Nat}{b:Bool}(h:tmps.getD s undef= .bool b):tmps[s]? =some (.bool b):=by
 rw[Array.getD_eq_getD_getElem?]at h
 cases hq:tmps[s]? with
 |none=>rw[hq]at h;simp[undef]at h
 |some v=>rw[hq]at h;simp at h;rw[h]
theorem N5{tmps:Array Value}{q p:List (Nat×Bool)}(h:Xj q p=true)(hp:holds tmps p):holds tmps q:=by
 intro e he
 simp only[Xj,List.all_eq_true,List.any_eq_true,Bool.and_eq_true]at h
 obtain⟨f,hf,h1,h2⟩:=h e he
 have h1:=Nat.eq_of_beq_eq_true h1
 have h2:=eq_of_beq h2
 have:=hp f hf
 rw[h1,h2];exact this
theorem vh{zb:cm}{st:St}{a:Act}{w:World}{env:Env}(g:Good ty zb st a.tmps w env){p:List (Nat×Bool)}(hp:holds a.tmps p){x:Operand}{v:S1}(h:Km st p x=some v):eT w st.hp env v (a.eval x):=by
 cases x with
 |tmp t=>
  simp only[Km]at h
  split at h
  ·rename_i y hy
   simp only[oI]at h
   subst h
   exact g.slot t _ hy
  ·rename_i q y hy
   split at h
   ·rename_i hs
    simp only[oI]at h
    subst h
    exact(g.slot t _ hy).1 (N5 hs hp)
   ·cases h
  ·cases h
 |const u=>
  simp only[Km]at h
  split at h
  ·rename_i hs
   simp only[oI]at h
   subst h
   exact⟨rfl,hs⟩
  ·cases h
 |func f=>
  simp only[Km,oI]at h
  subst h
  exact⟨rfl,rfl⟩
 |global q=>cases h
theorem dB{zb:cm}{st:St}{a:Act}{w:World}{env:Env}(g:Good ty zb st a.tmps w env){p:List (Nat×Bool)}(hp:holds a.tmps p){x:Operand}{v:S1}(h:ff st p x=some v):eT w st.hp env v (a.eval x):=by
 unfold ff at h
 split at h
 ·rename_i y hy
  simp only[oI]at h
  subst h
  exact eT.PX (vh g hp hy)
 ·cases h
theorem RA.lit{w:World}{hp:Hp}{env:Env}{v u:Value}(h:RA w hp env (.lit v) u):u=v:=h.1
theorem eT.lit{w:World}{hp:Hp}{env:Env}{v u:Value}(h:eT w hp env (.a (.lit v)) u):u=v:=h.1
theorem P8{zb:cm}{st:St}{tmps:Array Value}{w:World}{env:Env}(g:Good ty zb st tmps w env){tg:Option Tag}{v x:V}{u:Value}(hr:RA w st.hp env v u)(h:mH st tg v=some x): ∃fp,RI w x u fp:=by
 cases v with
 |sl t l=>simp only[mH,oI]at h;subst h;obtain⟨fp,h1,_⟩:=hr;exact⟨fp,h1⟩
 |vw n p t l=>simp only[mH,oI]at h;subst h;obtain⟨_,⟨fp,h1,_⟩,_⟩:=hr;exact⟨fp,h1⟩
 |mix n c t l=>simp only[mH,oI]at h;subst h;obtain⟨_,⟨fp,h1,_⟩,_⟩:=hr;exact⟨fp,h1⟩
 |own n=>
  simp only[mH]at h
  split at h
  ·rename_i t l hl
   simp only[oI]at h
   subst h
   obtain⟨_,hu⟩:=hr
   subst hu
   have:=g.obj n _ hl
   exact⟨_,RO.sl this⟩
  ·cases h
 |tG n=>
  simp only[mH]at h
  obtain⟨_,hu⟩:=hr
  subst hu
  split at h
  ·rename_i t l hl
   simp only[oI]at h
   subst h
   exact RO.Ei (by intro e;cases e) (by trivial) (g.obj n _ hl)
  ·rename_i t l m hl
   simp only[oI]at h
   subst h
   exact RO.Ei (by intro e;cases e) (by trivial) (g.obj n _ hl)
  ·cases h
 |lit v=>
  obtain⟨rfl,h1⟩:=hr
  simp only[mH]at h
  split at h
  ·rename_i heq;cases heq
  ·rename_i heq;cases heq
  ·rename_i heq;cases heq
  ·rename_i heq;cases heq
  ·rename_i heq;cases heq
  ·rename_i heq
   simp only[V.lit.injEq]at heq
   subst heq
   split at h
   ·simp only[oI]at h
    subst h
    exact⟨[],none,0,rfl,Nat.le_refl _,Nat.zero_le _,Or.inl ⟨rfl,rfl,rfl⟩⟩
   ·cases h
  ·cases h
  ·rename_i heq
   simp only[V.lit.injEq]at heq
   subst heq
   simp only[oI]at h
   subst h
   exact⟨[],rfl,h1,rfl⟩
  ·cases h
 |_=>simp[mH]at h
theorem L9{zb:cm}{st:St}{tmps:Array Value}{w:World}{env:Env}(g:Good ty zb st tmps w env): ∀{vs:List V} {tg:List (Option Tag)} {xs:List V} {us:List Value},bA (RA w st.hp env) vs us→HY st tg vs=some xs→ ∃fp,bT w xs us fp
 | [],_,xs,us,hr,h=>by
   simp only[HY,oI]at h
   subst h
   cases us with
   |nil=>exact⟨[],rfl⟩
   |cons _ _=>exact hr.elim
 |v::r,tg,xs,us,hr,h=>by
  simp only[HY]at h
  split at h
  ·rename_i x y h1 h2
   simp only[oI]at h
   subst h
   cases us with
   |nil=>exact hr.elim
   |cons u us=>
    obtain⟨f,hf⟩:=P8 g hr.1 h1
    obtain⟨q,hq⟩:=L9 g hr.2 h2
    exact⟨f++q,f,q,hf,hq,rfl⟩
  ·cases h
theorem Ub{zb:cm}{st:St}{tmps:Array Value}{w:World}{env:Env}(g:Good ty zb st tmps w env){k:TK}{v x:S1}{u:Value}(hr:eT w st.hp env v u)(h:arg1 st k v=some x):Gc w x u:=by
 cases v with
 |a v=>
  simp only[arg1]at h
  split at h
  ·rename_i y hy
   simp only[oI]at h
   subst h
   exact P8 g hr hy
  ·cases h
 |agg l=>
  simp only[arg1]at h
  split at h
  ·rename_i y hy
   simp only[oI]at h
   subst h
   obtain⟨cs,rfl,hl⟩:=hr
   obtain⟨fp,eR⟩:=L9 g hl hy
   exact⟨cs,fp,rfl,eR⟩
  ·cases h
theorem Uc{v:S1}(h:Xk v=true):v= .a (.lit (.slice none 0 0)):=by
 unfold Xk at h;split at h
 ·rfl
 ·cases h
theorem Ud{b:Bool}{zb:cm}{st:St}{tmps:Array Value}{w:World}{env:Env}(g:Good ty zb st tmps w env){k:TK}{v x:S1}{u:Value}(hr:eT w st.hp env v u)(h:N0 b st k v=some x):Gc w x u:=by
 unfold N0 at h
 split at h
 ·rename_i hb
  simp only[Bool.and_eq_true]at hb
  obtain rfl:=Uc hb.2
  simp only[oI]at h
  subst h
  exact⟨[],hr.1,hr.2,rfl⟩
 ·exact Ub g hr h
theorem Gd{b:Bool}{Γ:Nat→TK}{zb:cm}{st:St}{a:Act}{w:World}{env:Env}(g:Good ty zb st a.tmps w env){p:List (Nat×Bool)}(hp:holds a.tmps p): ∀{xs:List Operand} {ts:List Nat} {as:List S1},args b Γ st p xs ts=some as→bA (Gc w) as (xs.map a.eval)
 | [],_,as,h=>by
   simp only[args,oI]at h
   subst h;trivial
 |x::r,ts,as,h=>by
  simp only[args]at h
  split at h
  ·rename_i v hv
   split at h
   ·rename_i y ys h1 h2
    simp only[oI]at h
    subst h
    exact⟨Ud g (dB g hp hv) h1,Gd g hp h2⟩
   ·cases h
  ·cases h
theorem P9{R:V→Value→Prop}{c l:List V}{off k:Nat}{cs:List Value}(h:bA R c cs)(hs:sub c off k=some l):bA R l ((cs.drop off).take k)∧((cs.drop off).take k).length=k:=by
 simp only[sub]at hs
 split at hs
 ·rename_i hb
  have hb:=Nat.le_of_ble_eq_true hb
  simp only[oI]at hs
  subst hs
  refine⟨(h.drop off).take k,?_⟩
  have:=h.len
  rw[List.length_take,List.length_drop];omega
 ·cases hs
theorem Ge: ∀{c:List V} {i:Nat} {v:V},wv c i=some v→c[i]? =some v
 |_::_,0,_,h=>by simpa[wv]using h
 |_::r,i+1,v,h=>by rw[List.getElem?_cons_succ];exact Ge (by simpa[wv]using h)
theorem bT.Cn{w:World}{hp:Hp}{env:Env}: ∀{Vs:List V} {us:List Value} {fp:List Nat},bT w Vs us fp→(∀b,b∈fp→ ¬Ow hp env b)→bA (RA w hp env) Vs us
 | [],[],_,_,_=>trivial
 |v::Vs,u::us,_,⟨f,q,h1,h2,rfl⟩,h=>by
  refine⟨?_,bT.Cn h2 fun b hb=>h b (List.mem_append_right _ hb)⟩
  cases v with
  |lit x=>exact⟨h1.1,h1.2.1⟩
  |sl t l=>exact⟨f,h1,fun b hb=>h b (List.mem_append_left _ hb)⟩
  |_=>exact h1.elim
 | [],_::_,_,h,_=>h.elim
 |_::_,[],_,h,_=>h.elim
theorem Qa{w:World}{hp:Hp}{env:Env}{t:Tag}{x:T t}{cs:List Value}{fp:List Nat}(hE:rd t w cs x fp)(h: ∀c,c∈fp→ ¬Ow hp env c):bA (RA w hp env) (dec t x) cs:=bT.Cn (reads t hE) h
end
section
variable{ty:Tag→Nat}
def wG(ty:Tag→Nat)(st:St)(a:Act)(w:World)(env:Env)(dst:Option Tmp)(v:SV)(os:Hp):Act→World→Prop:=fun a' w'=>
 ∃u env',a'=a.put dst u∧ke (ty:=ty) w w' st.hp os env env'∧nG w' (os++st.hp) env' a.tmps v u
section
variable{P:Program}{zb:cm}{st:St}{a:Act}{w:World}{env:Env}{Q:Exit→Act→World→Prop}{o:Oper}
theorem Co{v:SV}{u:Value}(hr:(execOp a.eval o).run P w= .ok (.value u) w)(hv:nG w st.hp env a.tmps v u):o.wp P a w (wG ty st a w env o.dst v []) Q:=by
 unfold Oper.wp
 rw[hr]
 exact⟨u,env,rfl,ke.none (Below.refl _ _),hv⟩
theorem cP{x:S1}{u:Value}(hr:(execOp a.eval o).run P w= .ok (.value u) w)(hv:eT w st.hp env x u):o.wp P a w (wG ty st a w env o.dst (.one x) []) Q:=Co hr hv
theorem yR{n:Nat}{cs:List Value}{c:List V}{e:TypeId}(hr:(execOp a.eval o).run P w= .ok (.value (.pointer (some ⟨w.heap.size,0,none⟩))) (w.alloc (.cells (Array.mk cs) e (0,0))))
  (g:Good ty zb st a.tmps w env)(hf:fresh st.hp [(n, .box c)]=true)(hc:bA (RA w st.hp env) c cs):
  o.wp P a w (wG ty st a w env o.dst (.one (.a (.ptr n 0))) [(n, .box c)]) Q:=by
 unfold Oper.wp
 rw[hr]
 have hlk:look st.hp n=none:=mJ hf n (.box c) (by simp[look])
 have hn:ke (ty:=ty) w (w.alloc (.cells (Array.mk cs) e (0,0))) st.hp [(n, .box c)] env (fun m=>if m=n then⟨.pointer (some ⟨w.heap.size,0,none⟩),[w.heap.size]⟩else env m):=by
  have Cm:Below w.heap.size w (w.alloc (.cells (Array.mk cs) e (0,0))):=(Below.refl _ _).alloc (Nat.le_refl _) _
  have hne: ∀m,look [(n,Obj.box c)] m=none→m≠n:=by
   rintro m hm rfl
   simp[look]at hm
  have s:Step (fun _=>True) (fun _=>True) w st.hp env (w.alloc (.cells (Array.mk cs) e (0,0))) ([(n, .box c)]++st.hp) (fun m=>if m=n then⟨.pointer (some ⟨w.heap.size,0,none⟩),[w.heap.size]⟩else env m):=by
   refine⟨fun b hb _=>Cm.block b hb,?_,?_,?_⟩
   ·rintro b hb ⟨m,o',h1,h2⟩
    by_cases hm:m=n
    ·simp[hm]at h2;omega
    ·simp[hm]at h2
     refine⟨m,o',?_,h2⟩
     rw[bB]at h1
     ·exact h1
     ·simp only[look]
      split
      ·rename_i bU;exact absurd (Nat.eq_of_beq_eq_true bU) hm
      ·rfl
   ·intro m o' _ h1
    have hm:m≠n:=by rintro rfl;rw[hlk]at h1;cases h1
    refine⟨o',?_,by cases o'<;>simp[Obj.like],by simp[hm]⟩
    rw[bB]
    ·exact h1
    ·simp only[look]
     split
     ·rename_i bU;exact absurd (Nat.eq_of_beq_eq_true bU) hm
     ·rfl
   ·intro m t l _ h1
    have hm:m≠n:=by rintro rfl;rw[hlk]at h1;cases h1
    refine⟨?_,by simp[hm],fun b hb=>Cm.block b ((g.obj m _ h1).va b hb)⟩
    rw[bB]
    ·exact h1
    ·simp only[look]
     split
     ·rename_i bU;exact absurd (Nat.eq_of_beq_eq_true bU) hm
     ·rfl
  refine⟨Cm,fun m hm=>by simp[hne m hm],?_,?_⟩
  ·intro m o' hl
   have hm:m=n:=by
    simp only[look]at hl
    split at hl
    ·rename_i bU;exact Nat.eq_of_beq_eq_true bU
    ·cases hl
   subst hm
   simp only[look,Nat.beq_refl,oI]at hl
   subst hl
   refine⟨⟨w.heap.size,cs,e,by simp,oL rfl,hc.mono fun v u _ h=>RA.step s v.dH h⟩,?_⟩
   intro b hb
   simp at hb
   omega
  ·intro m m' o1 o2 Xo h1 h2
   have e1:m=n:=by
    simp only[look]at h1
    split at h1
    ·rename_i bU;exact Nat.eq_of_beq_eq_true bU
    ·cases h1
   have e2:m'=n:=by
    simp only[look]at h2
    split at h2
    ·rename_i bU;exact Nat.eq_of_beq_eq_true bU
    ·cases h2
   exact absurd (e1.trans e2.symm) Xo
 exact⟨_,_,rfl,hn,⟨c,by simp[look]⟩,w.heap.size,by simp,rfl⟩
theorem Xp{t:Nat}{k:TK}(h:cG P t k)(h1: ∀z tg fo,k≠ .st z tg fo)(h2:k≠ .other): ∃d,P.underlying t=some d∧d.isRow=false:=by
 cases k with
 |int k=>exact⟨_,h,rfl⟩
 |bool=>exact⟨_,h,rfl⟩
 |str=>exact⟨_,h,rfl⟩
 |sl g e=>exact⟨_,h.1,rfl⟩
 |st z tg fo=>exact absurd rfl (h1 z tg fo)
 |mp=>obtain⟨_,_,h,_⟩:=h;exact⟨_,h,rfl⟩
 |other=>exact absurd rfl h2
theorem A7{t:Nat}{d:TypeDesc}{ad:Addr}{u:Value}(hu:P.underlying t=some d)(hd:d.isRow=false)(hc:w.cell? ad=some u):(loadVar t ad).run P w= .ok u w:=by
 have ack:(isAgg t).run P w= .ok false w:=by
  unfold isAgg
  rw[Sem.run_bind,run_underlying hu w]
  cases d<;>simp_all
 simp[loadVar,ack,hc]
theorem nL{t:Nat}{k:TK}{x:Operand}(ho:o.op= .load t x)(hk:cG P t k)(h1: ∀z tg fo,k≠ .st z tg fo)(h2:k≠ .other){ad:Addr}(hx:a.eval x= .pointer (some ad)){u:Value}(hc:w.cell? ad=some u){v:V}(hv:RA w st.hp env v u):
  o.wp P a w (wG ty st a w env o.dst (.one (.a v)) []) Q:=by
 obtain⟨d,hu,hd⟩:=Xp hk h1 h2
 refine cP ?_ hv
 unfold execOp
 simp only[ho,hx,Instr.loadAt,Instr.sureAddr,Sem.run_bind,Sem.run_pure,Result.andThen_ok,A7 hu hd hc]
theorem wp_load_row{t:Nat}{x:Operand}{z:List Value}{tg:List (Option Tag)}{fo:List Nat}(ho:o.op= .load t x)(hk:cG P t (.st z tg fo)){b off:Nat}(hx:a.eval x= .pointer (some ⟨b,off,none⟩)){cs:List Value}(hc:w.rangeAt b off cs)
  (hl:cs.length=z.length){l:List V}(hv:bA (RA w st.hp env) l cs):o.wp P a w (wG ty st a w env o.dst (.one (.agg l)) []) Q:=by
 obtain⟨fs,hu,hi,_⟩:=hk
 refine cP (u:= .agg cs.toArray) ?_ ⟨cs,rfl,hv⟩
 unfold execOp
 have hi':(P.info? t).map (·.size)=some cs.length:=by
  rw[hl]
  cases hq:P.info? t with
  |none=>simp[hq]at hi
  |some i=>simp[hq]at hi;simp[hi.1]
 simp only[ho,hx,Instr.loadAt,Instr.sureAddr,Sem.run_bind,Sem.run_pure,Result.andThen_ok,run_loadVar_mid w b off t cs _ hc hu rfl hi']
theorem k7{b off k j:Nat}{cs:List Value}(h:w.rangeAt b off cs):w.rangeAt b (off+j) ((cs.drop j).take k):=by
 intro i v hv
 rw[List.getElem?_take]at hv
 split at hv
 ·rw[List.getElem?_drop]at hv
  rw[Nat.add_assoc];exact h _ _ hv
 ·cases hv
theorem k8{b off j:Nat}{cs:List Value}{u:Value}(h:w.rangeAt b off cs)(hu:cs[j]? =some u):w.cell? ⟨b,off+j,none⟩=some u:=h j u hu
theorem Xq{op:BinOp}{k:IntKind}{x y:Int}{vc:List Prop}{v:Value}(h:bop op k x y=some (vc,v))(hv: ∀q,q∈vc→q){t:TypeId}{X Y:Operand}:
  (do eqGuard op t X Y (.int k x) (.int k y);binOp op t (.int k x) (.int k y):Sem Value).run P w= .ok v w∧v.oneCell'=true:=by
 cases op<;>simp only[bop,oI,pI,reduceCtorEq]at h<;>obtain⟨rfl,rfl⟩:=h<;>
  first
  | (refine⟨?_,rfl⟩;simp[eqGuard,binOp,Op.intArith,Op.intCmp];done)
  | (refine⟨?_,rfl⟩;simp only[eqGuard,binOp,ne_eq,not_true_eq_false,ite_false,Op.intBits];rfl)
  | (have hy:y≠0:=hv _ (by simp)
     refine⟨?_,rfl⟩;simp[eqGuard,binOp,Op.intDiv,hy])
theorem H9{t:Nat}{z:List Value}{tg:List (Option Tag)}{fo:List Nat}(hk:cG P t (.st z tg fo)){f k:Nat}(hf:nF fo f=some k)(b off:Nat):
  (Instr.fieldAt t (.pointer (some ⟨b,off,none⟩)) f).run P w= .ok (.pointer (some ⟨b,off+k,none⟩)) w:=by
 obtain⟨fs,hu,_,_,hfo,_⟩:=hk
 obtain⟨fd,h1,h2,i,h3,h4⟩:=hfo f k hf
 simp[Instr.fieldAt,run_underlying hu,h1,Instr.sureAddr,fieldPlace,sizeOf,typeInfo,h3,h4,h2,Addr.add_mid]
theorem lZ{t:Nat}{x:Operand}{z:List Value}{tg:List (Option Tag)}{fo:List Nat}{f k:Nat}(ho:o.op= .fieldAddr t x f)(hk:cG P t (.st z tg fo))(hf:nF fo f=some k){b off:Nat}(hx:a.eval x= .pointer (some ⟨b,off,none⟩)){v:V}
  (hv:RA w st.hp env v (.pointer (some ⟨b,off+k,none⟩))):o.wp P a w (wG ty st a w env o.dst (.one (.a v)) []) Q:=by
 refine cP ?_ hv
 unfold execOp
 simp only[ho,hx,Sem.run_bind,H9 hk hf b off,Result.andThen_ok,Sem.run_pure]
theorem Ia{t:Nat}{g:Tag}{e:Nat}(hk:cG P t (.sl g e)){b off len cap:Nat}{ik:IntKind}{i:Int}(h0:0≤i)(h1:i<len):
  (Instr.indexAt t (.slice (some ⟨b,off,none⟩) len cap) (.int ik i)).run P w= .ok (.pointer (some ⟨b,off+i.toNat*kk g,none⟩)) w:=by
 obtain⟨hu,hs⟩:=hk
 cases hq:P.info? e with
 |none=>simp[hq]at hs
 |some inf=>
  have hsz:inf.size=kk g:=by simpa[hq]using hs
  simp[Instr.indexAt,asIntOf,run_underlying hu,h0,h1,sizeOf,typeInfo,hq,hsz,Addr.add_mid]
theorem pZ{t:Nat}{x i:Operand}{g:Tag}{e:Nat}(ho:o.op= .indexAddr t x i)(hk:cG P t (.sl g e)){b off len cap:Nat}{ik:IntKind}{n:Int}(hx:a.eval x= .slice (some ⟨b,off,none⟩) len cap)(hi:a.eval i= .int ik n)(h0:0≤n)(h1:n<len){v:V}
  (hv:RA w st.hp env v (.pointer (some ⟨b,off+n.toNat*kk g,none⟩))):o.wp P a w (wG ty st a w env o.dst (.one (.a v)) []) Q:=by
 refine cP ?_ hv
 unfold execOp
 simp only[ho,hx,hi,Sem.run_bind,Ia hk h0 h1,Result.andThen_ok,Sem.run_pure]
theorem Ue{t:Tag}{l:List (T t)}{u:Value}{n:Int}(h:RA w st.hp env (.sl t l) u)(h0:0≤n)(h1:n<l.length):
  ∃b off len cap,u= .slice (some ⟨b,off,none⟩) len cap∧n<len∧RA w st.hp env (.ip t (l.getD n.toNat (aB t)) 0) (.pointer (some ⟨b,off+n.toNat*kk t,none⟩)):=by
 obtain⟨fp,⟨oa,cap,rfl,hc,hm,h3⟩,hd⟩:=h
 have hn:n.toNat<l.length:=by omega
 rcases h3 with⟨rfl,_⟩| ⟨b,off,bn,rfl,hb,rfl,he⟩
 ·simp at hn
 ·have hx:l[n.toNat]? =some (l.getD n.toNat (aB t)):=by rw[List.getD_eq_getElem?_getD,List.getElem?_eq_getElem hn];rfl
  obtain⟨f,hf⟩:=gd he.1 hx
  obtain⟨cs,hr,hE⟩:=he.2 _ _ f hx hf
  exact⟨b,off,l.length,cap,rfl,h1,b,off+n.toNat*kk t,cs,f,rfl,hb.lt,hr,hE,hd b (by simp),fun c hc=>hd c (List.mem_cons_of_mem _ (bX hf hc))⟩
theorem Cp{t:Nat}{x:Operand}{ts:Array TypeId}(ht:ts= #[t])(ho:o.op= .call ⟨.builtin .len,#[x],ts⟩){d:TypeDesc}(hu:P.underlying t=some d){u:Value}(hx:a.eval x=u){n:Int}
  (hn:(∃e oa c m,d= .slice e∧u= .slice oa m c∧n=(m:Int))∨(∃s:ByteArray,d= .string∧u= .string s∧n=(s.size:Int))):
  o.wp P a w (wG ty st a w env o.dst (.one (.a (.lit (.int .i64 n)))) []) Q:=by
 refine cP (u:= .int .i64 n) ?_ ⟨rfl,rfl⟩
 subst ht
 unfold execOp
 rcases hn with⟨e,oa,c,m,rfl,rfl,rfl⟩| ⟨s,rfl,rfl,rfl⟩
 ·simp[ho,resolve,invoke,builtin,Builtin.len_,hx,run_underlying hu,goInt]
 ·simp[ho,resolve,invoke,builtin,Builtin.len_,hx,run_underlying hu,goInt]
end
end
section
variable{ty:Tag→Nat}
def pair:Hp→List CO→List (Nat×CO)
 | (n,_)::r,c::cs=>(n,c)::pair r cs
 |_,_=> []
theorem aZ{α:Type}{j n:Nat}{x:α}{r:List (Nat×α)}(h:n≠j):look ((j,x)::r) n=look r n:=by
 simp only[look]
 split
 ·rename_i hb;exact absurd (Nat.eq_of_beq_eq_true hb) h
 ·rfl
theorem look_eq{α:Type}{j:Nat}{x:α}{r:List (Nat×α)}:look ((j,x)::r) j=some x:=by simp[look]
theorem Ib{R:Nat×Obj→CO→Prop}: ∀{os:Hp} {ce:List CO},gm os=true→bA R os ce→bA (fun e co=>look os e.1=some e.2∧look (pair os ce) e.1=some co) os ce
 | [],[],_,_=>trivial
 | (n,o)::r,c::cs,hn,⟨_,h2⟩=>by
   simp only[gm,Bool.and_eq_true]at hn
   refine⟨⟨look_eq,look_eq⟩,(Ib hn.2 h2).mono ?_⟩
   rintro⟨m,o'⟩ co _ ⟨h3,h4⟩
   have hne:m≠n:=by
    rintro rfl
    have h3':look r m=some o':=h3
    simp[h3']at hn
   exact⟨by rw[aZ hne];exact h3,by show look (pair ((n,o)::r) (c::cs)) m=some co;rw[pair,aZ hne];exact h4⟩
 | [],_::_,_,h=>h.elim
 |_::_,[],_,h=>h.elim
theorem tK{R:Nat×Obj→CO→Prop}: ∀{os:Hp} {ce:List CO} {n:Nat} {o:Obj},bA R os ce→look os n=some o→ ∃co,look (pair os ce) n=some co∧R (n,o) co
 | (m,o')::r,c::cs,n,o,⟨h1,h2⟩,hl=>by
   by_cases h:n=m
   ·subst h
    rw[look_eq]at hl
    simp only[oI]at hl
    subst hl
    exact⟨c,look_eq,h1⟩
   ·rw[aZ h]at hl
    obtain⟨co,h3,h4⟩:=tK h2 hl
    exact⟨co,by rw[pair,aZ h];exact h3,h4⟩
 | [],[],_,_,_,hl=>by simp[look]at hl
 | [],_::_,_,_,h,_=>h.elim
 |_::_,[],_,_,h,_=>h.elim
theorem Cq: ∀{os:Hp} {ce:List CO} {n:Nat} {co:CO},look (pair os ce) n=some co→ ∀b,b∈co.fp→b∈ce.flatMap CO.fp
 | (m,o')::r,c::cs,n,co,hl,b,hb=>by
   rw[List.flatMap_cons]
   by_cases h:n=m
   ·subst h
    rw[pair,look_eq]at hl
    simp only[oI]at hl
    subst hl
    exact List.mem_append_left _ hb
   ·rw[pair,aZ h]at hl
    exact List.mem_append_right _ (Cq hl b hb)
 | [],[],_,_,hl,_,_=>by simp[pair,look]at hl
 | [],_::_,_,_,hl,_,_=>by simp[pair,look]at hl
 |_::_,[],_,_,hl,_,_=>by simp[pair,look]at hl
theorem Ic: ∀{os:Hp} {ce:List CO} {n n':Nat} {co co':CO},(ce.flatMap CO.fp).Nodup→n≠n'→look (pair os ce) n=some co→look (pair os ce) n'=some co'→ ∀b,b∈co.fp→b∉co'.fp
 | (m,o')::r,c::cs,n,n',co,co',hnd,hne,h1,h2,b,hb,hb'=>by
   rw[List.flatMap_cons]at hnd
   obtain⟨_,hn2,TM⟩:=List.nodup_append.1 hnd
   by_cases h:n=m
   ·subst h
    rw[pair,look_eq]at h1
    simp only[oI]at h1
    subst h1
    rw[pair,aZ (Ne.symm hne)]at h2
    exact TM b hb b (Cq h2 b hb') rfl
   ·rw[pair,aZ h]at h1
    by_cases h':n'=m
    ·subst h'
     rw[pair,look_eq]at h2
     simp only[oI]at h2
     subst h2
     exact TM b hb' b (Cq h1 b hb) rfl
    ·rw[pair,aZ h']at h2
     exact Ic hn2 hne h1 h2 b hb hb'
 | [],[],_,_,_,_,_,_,hl,_,_,_,_=>by simp[pair,look]at hl
 | [],_::_,_,_,_,_,_,_,hl,_,_,_,_=>by simp[pair,look]at hl
 |_::_,[],_,_,_,_,_,_,hl,_,_,_,_=>by simp[pair,look]at hl
theorem ke.list{w w':World}{hp os:Hp}{env:Env}{ce:List CO}(hb:Below w.heap.size w w')(hn:gm os=true)
  (h:bA (fun e co=>(∀gq env',RO ty w' gq env' e.1 e.2 co)∧ ∀b,b∈co.fp→w.heap.size≤b) os ce)(hnd:(ce.flatMap CO.fp).Nodup):
  ∃env',ke (ty:=ty) w w' hp os env env'∧bA (fun e co=>look os e.1=some e.2∧env' e.1=co) os ce:=by
 refine⟨fun n=>match look (pair os ce) n with|some co=>co|_=>env n,⟨hb,?_,?_,?_⟩,?_⟩
 ·intro n hl
  cases hq:look (pair os ce) n with
  |none=>simp[hq]
  |some co=>
   exfalso
   clear hn hnd
   induction os generalizing ce with
   |nil=>cases ce<;>simp[pair,look]at hq
   |cons e r ih=>
    cases ce with
    |nil=>simp[pair,look]at hq
    |cons c cs=>
     obtain⟨m,o⟩:=e
     by_cases hm:n=m
     ·subst hm;rw[look_eq]at hl;cases hl
     ·rw[aZ hm]at hl
      rw[pair,aZ hm]at hq
      exact ih h.2 hl hq
 ·intro n o hl
  obtain⟨co,h1,h2⟩:=tK h hl
  simp only[h1]
  exact⟨h2.1 _ _,h2.2⟩
 ·intro n m o o' hne h1 h2
  obtain⟨co,h3,_⟩:=tK h h1
  obtain⟨co',h5,_⟩:=tK h h2
  simp only[h3,h5]
  exact Ic hnd hne h3 h5
 ·exact(Ib hn h).mono fun e co _ hh=>⟨hh.1,by simp[hh.2]⟩
theorem Cr{w:World}{lo:Nat}: ∀{l:List V} {cs:List Value} {fp:List Nat} (m:Nat),P7 ty w lo l cs fp→ ∃ce:List CO,
  bA (fun e co=>(∀hp env,RO ty w hp env e.1 e.2 co)∧ ∀b,b∈co.fp→lo≤b) (nK m l).2 ce∧ce.flatMap CO.fp=fp∧(∀e,e∈(nK m l).2→ ∃t l,e.2= .arr t l)∧
  ∀hp env,bA (fun e co=>look hp e.1=some e.2∧env e.1=co) (nK m l).2 ce→bA (RA w hp env) (nK m l).1 cs
 | [],[],fp,m,h=>⟨[],trivial,h.symm,by simp[nK],fun _ _ _=>trivial⟩
 |v::r,u::us,fp,m,⟨f,g,h1,h2,e⟩=>by
  obtain⟨ce,k1,k2,k3,k4⟩:=Cr (m+1) h2
  cases v with
  |lit x=>
   refine⟨ce,k1,by rw[k2,e,h1.2.2];rfl,k3,fun hp env hh=>⟨⟨h1.1,h1.2.1⟩,k4 hp env hh⟩⟩
  |sl t l=>
   refine⟨⟨u,f⟩::ce,⟨⟨fun _ _=>RO.EU (ig.mono h1 (Nat.zero_le _)),(ig.own h1).ge⟩,k1⟩,by rw[List.flatMap_cons,k2,e],?_,?_⟩
   ·intro e' he
    rcases List.mem_cons.1 he with rfl|he
    ·exact⟨t,l,rfl⟩
    ·exact k3 e' he
   ·rintro hp env ⟨⟨q1,q2⟩,hh⟩
    exact⟨⟨⟨t,l,q1⟩,by rw[q2]⟩,k4 hp env hh⟩
  |vw _ _ t l=>
   have hge: ∀b,b∈f→lo≤b:=h1.2.ge
   have Wn:=P4 m
   simp only[nK]
   generalize m+900=m9 at Wn ⊢
   have hro: ∀hp env,RO ty w hp env m9 (.arr t l) ⟨u,f⟩:=fun _ _=>RO.P3 Wn h1.1 (h1.2.mono (Nat.zero_le _))
   refine⟨⟨u,f⟩::ce,⟨⟨hro,hge⟩,k1⟩,by rw[List.flatMap_cons,k2,e],?_,?_⟩
   ·intro e' he
    rcases List.mem_cons.1 he with rfl|he
    ·exact⟨t,l,rfl⟩
    ·exact k3 e' he
   ·rintro hp env ⟨⟨q1,q2⟩,hh⟩
    exact⟨⟨⟨t,l,q1⟩,by rw[q2]⟩,k4 hp env hh⟩
  |_=>exact h1.elim
 | [],_::_,_,_,h=>h.elim
 |_::_,[],_,_,h=>h.elim
theorem EV: ∀{l:List V} (m:Nat),(nK m l).1.length=l.length
 | [],_=>rfl
 |v::r,m=>by
  have:=EV (l:=r) (m+1)
  cases v<;>simp[nK,this]
theorem EW{w:World}{lo:Nat}{x:S1}{u:Value}{fp:List Nat}(m:Nat)(h:Wm ty w lo x u fp): ∃ce:List CO,
  bA (fun e co=>(∀hp env,RO ty w hp env e.1 e.2 co)∧ ∀b,b∈co.fp→lo≤b) (rP m x).2 ce∧ce.flatMap CO.fp=fp∧(∀e,e∈(rP m x).2→ ∃t l,e.2= .arr t l)∧
  ∀hp env,bA (fun e co=>look hp e.1=some e.2∧env e.1=co) (rP m x).2 ce→eT w hp env (rP m x).1 u:=by
 cases x with
 |a v=>
  obtain⟨ce,k1,k2,k3,k4⟩:=Cr m (show P7 ty w lo [v] [u] fp from h)
  have hl:=EV (l:= [v]) m
  simp only[rP]
  generalize nK m [v]=q at*
  obtain⟨vs,os⟩:=q
  match vs,hl with
  | [v'],_=>exact⟨ce,k1,k2,k3,fun hp env hh=>(k4 hp env hh).1⟩
 |agg l=>
  obtain⟨cs,rfl,hh⟩:=h
  obtain⟨ce,k1,k2,k3,k4⟩:=Cr m hh
  exact⟨ce,k1,k2,k3,fun hp env hh=>⟨cs,rfl,k4 hp env hh⟩⟩
theorem bA.Qc{α β:Type}{R:α→β→Prop}: ∀{as as':List α} {bs bs':List β},as.length=bs.length→bA R (as++as') (bs++bs')→bA R as bs∧bA R as' bs'
 | [],_,[],_,_,h=>⟨trivial,h⟩
 |_::_,_,_::_,_,hl,⟨h1,h⟩=>⟨⟨h1,(bA.Qc (by simpa using hl) h).1⟩,(bA.Qc (by simpa using hl) h).2⟩
 | [],_,_::_,_,hl,_=>by simp at hl
 |_::_,_,[],_,hl,_=>by simp at hl
theorem EX{w:World}{lo:Nat}: ∀{l:List S1} {us:List Value} {fp:List Nat} (m:Nat),TL ty w lo l us fp→ ∃ce:List CO,
  bA (fun e co=>(∀hp env,RO ty w hp env e.1 e.2 co)∧ ∀b,b∈co.fp→lo≤b) (pY m l).2 ce∧ce.flatMap CO.fp=fp∧(∀e,e∈(pY m l).2→ ∃t l,e.2= .arr t l)∧
  ∀hp env,bA (fun e co=>look hp e.1=some e.2∧env e.1=co) (pY m l).2 ce→bA (eT w hp env) (pY m l).1 us
 | [],[],fp,m,h=>⟨[],trivial,h.symm,by simp[pY],fun _ _ _=>trivial⟩
 |x::r,u::us,fp,m,⟨f,g,h1,h2,e⟩=>by
  obtain⟨c1,k1,k2,k3,k4⟩:=EW m h1
  obtain⟨c2,q1,q2,q3,q4⟩:=EX (m+20) h2
  refine⟨c1++c2,bA.app k1 q1,by rw[List.flatMap_append,k2,q2,e],?_,?_⟩
  ·intro e' he
   rcases List.mem_append.1 he with he|he
   ·exact k3 e' he
   ·exact q3 e' he
  ·intro hp env hh
   obtain⟨a1,a2⟩:=bA.Qc (by have:=k1.len;exact this.symm) hh
   exact⟨k4 hp env a1,q4 hp env a2⟩
 | [],_::_,_,_,h=>h.elim
 |_::_,[],_,_,h=>h.elim
theorem P7.Cn{w:World}{lo:Nat}{hp:Hp}{env:Env}: ∀{Vs:List V} {us:List Value} {fp:List Nat},P7 ty w lo Vs us fp→(∀b,b∈fp→ ¬Ow hp env b)→bA (RA w hp env) (Vs.map V.yO) us
 | [],[],_,_,_=>trivial
 |v::Vs,u::us,_,⟨f,q,h1,h2,rfl⟩,h=>by
  refine⟨?_,P7.Cn h2 fun b hb=>h b (List.mem_append_right _ hb)⟩
  cases v with
  |lit x=>exact⟨h1.1,h1.2.1⟩
  |sl t l=>exact⟨f,ig.sl h1,fun b hb=>h b (List.mem_append_left _ hb)⟩
  |vw _ _ t l=>exact⟨f,h1.1,fun b hb=>h b (List.mem_append_left _ hb)⟩
  |_=>exact h1.elim
 | [],_::_,_,h,_=>h.elim
 |_::_,[],_,h,_=>h.elim
theorem Wm.rs1{w:World}{lo:Nat}{hp:Hp}{env:Env}{x:S1}{u:Value}{fp:List Nat}(h:Wm ty w lo x u fp)(hd: ∀b,b∈fp→ ¬Ow hp env b):eT w hp env x.yO u:=by
 cases x with
 |a v=>exact(P7.Cn (show P7 ty w lo [v] [u] fp from h) hd).1
 |agg l=>obtain⟨cs,rfl,hh⟩:=h;exact⟨cs,rfl,hh.Cn hd⟩
theorem TL.Cn{w:World}{lo:Nat}{hp:Hp}{env:Env}: ∀{Vs:List S1} {us:List Value} {fp:List Nat},TL ty w lo Vs us fp→(∀b,b∈fp→ ¬Ow hp env b)→bA (eT w hp env) (Vs.map S1.yO) us
 | [],[],_,_,_=>trivial
 |v::Vs,u::us,_,⟨f,q,h1,h2,rfl⟩,h=>⟨h1.rs1 fun b hb=>h b (List.mem_append_left _ hb),TL.Cn h2 fun b hb=>h b (List.mem_append_right _ hb)⟩
 | [],_::_,_,h,_=>h.elim
 |_::_,[],_,h,_=>h.elim
theorem V.wH{v:V}(h:v.Xi=false):v.yO=v:=by
 cases v<;>first|rfl|cases h
theorem S1.wH{x:S1}(h:x.HZ=true):x.yO=x:=by
 cases x with
 |a v=>simp only[S1.HZ,Bool.not_eq_true']at h;rw[S1.yO,V.wH h]
 |agg l=>
  simp only[S1.HZ,List.all_eq_true,Bool.not_eq_true']at h
  rw[S1.yO]
  congr 1
  exact(List.map_congr_left fun v hv=>V.wH (h v hv)).trans (List.map_id' l)
theorem Qd{l:List S1}(h:l.all S1.HZ=true):l.map S1.yO=l:=by
 rw[List.all_eq_true]at h
 exact(List.map_congr_left fun v hv=>S1.wH (h v hv)).trans (List.map_id' l)
section
variable{P:Program}{zb:cm}{st:St}{a:Act}{w:World}{env:Env}{Q:Exit→Act→World→Prop}{o:Oper}
theorem Ma{f:FuncId}{x0:Operand}{xs:Array Operand}{ts:Array TypeId}(ho:o.op= .call ⟨.value x0,xs,ts⟩)(h0:a.eval x0= .func (.func f) #[] #[]){as rs:List S1}(hS:Sound ty P f as rs)(hA:F5 w)(g:Good ty zb st a.tmps w env)(ha:bA (Gc w) as (xs.toList.map a.eval))
  {own:Bool}{m:Nat}{vc:List Prop}{out:Out}(hout:outs m ⟨own,rs⟩ vc=out)(hn:gm out.o=true):
  o.wp P a w (wG ty st a w env o.dst out.v out.o) Q:=by
 have hrun:(execOp a.eval o).run P w= .ok (.enter f (xs.map a.eval)) w:=by
  unfold execOp
  simp[ho,resolve,invoke,Deferred.ofValue,h0,hS.1]
 unfold Oper.wp
 rw[hrun]
 simp only[Oper.upon]
 have hx:xs.map a.eval=(xs.toList.map a.eval).toArray:=by rw[←List.map_toArray]
 rw[hx]
 refine(hS.2 w _ hA ha).mono ?_
 rintro e w' ⟨u,fp,rfl,hb,hown,hr⟩
 have hfr: ∀b,b∈fp→ ¬Ow st.hp env b:=fun b hb' ho'=>by have:=(g.ow ho').2;have:=hown.ge b hb';omega
 cases own with
 |false=>
  simp only[outs]at hout
  match rs,hr with
  | [r],hr=>
    have h1:=Wm.rs1 (hp:=st.hp) (env:=env) hr hfr
    cases hq:r.HZ with
    |true=>
     simp only[hq]at hout
     subst hout
     rw[S1.wH hq]at h1
     exact⟨u,env,rfl,ke.none hb,h1⟩
    |false=>
     simp only[hq]at hout
     subst hout
     exact⟨u,env,rfl,ke.none hb,h1⟩
  | [],⟨us,hu,hr⟩=>subst hout;exact⟨u,env,rfl,ke.none hb,us,hu,TL.Cn hr hfr⟩
  |r::r'::rr,⟨us,hu,hr⟩=>
   have h1:=TL.Cn (hp:=st.hp) (env:=env) hr hfr
   cases hq:(r::r'::rr).all S1.HZ with
   |true=>
    simp only[hq]at hout
    subst hout
    rw[Qd hq]at h1
    exact⟨u,env,rfl,ke.none hb,us,hu,h1⟩
   |false=>
    simp only[hq]at hout
    subst hout
    exact⟨u,env,rfl,ke.none hb,us,hu,h1⟩
 |true=>
  match rs,hr with
  | [r],hr=>
    obtain⟨ce,k1,k2,k3,k4⟩:=EW m (show Wm ty w' w.heap.size r u fp from hr)
    have:out=⟨vc, .one (rP m r).1,(rP m r).2++ []⟩:=by rw[←hout];rfl
    rw[List.append_nil]at this
    subst this
    obtain⟨env',hN,hl⟩:=ke.list (ty:=ty) (hp:=st.hp) (env:=env) hb hn k1 (by rw[k2];exact hown.nodup)
    exact⟨u,env',rfl,hN,k4 _ _ (hl.mono fun e co _ hh=>⟨cz hh.1,hh.2⟩)⟩
  | [],⟨us,hu,hr⟩=>
    subst hout
    cases us with
    |nil=>exact⟨u,env,rfl,ke.none hb,[],hu,trivial⟩
    |cons _ _=>exact hr.elim
  |r::r'::rr,⟨us,hu,hr⟩=>
   obtain⟨ce,k1,k2,k3,k4⟩:=EX m (show TL ty w' w.heap.size (r::r'::rr) us fp from hr)
   have:out=⟨vc, .uQ (pY m (r::r'::rr)).1,(pY m (r::r'::rr)).2⟩:=by rw[←hout];rfl
   subst this
   obtain⟨env',hN,hl⟩:=ke.list (ty:=ty) (hp:=st.hp) (env:=env) hb hn k1 (by rw[k2];exact hown.nodup)
   exact⟨u,env',rfl,hN,us,hu,k4 _ _ (hl.mono fun e co _ hh=>⟨cz hh.1,hh.2⟩)⟩
end
end
end Go.Proofs.YtkcegdacbddipaaGreat.G
