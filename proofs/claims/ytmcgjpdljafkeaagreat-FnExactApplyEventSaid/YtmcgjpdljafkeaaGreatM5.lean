/-
  Calls, and all operations that turn nothing.
-/
import Derived.ChangeKeysEq
import Derived.Laws.Tables
import Derived.Test.YtmcgjpdljafkeaaGreatM4
namespace Go.Proofs.YtmcgjpdljafkeaaGreat.G
set_option linter.all false
open Go.RowKit L D
section
def cw(P:Program)(t:Nat):TK→Prop
 | .int k=>P.underlying t=some (.int k)
 | .bool=>P.underlying t=some .bool
 | .str=>P.underlying t=some .string
 | .sl g e=>P.underlying t=some (.slice e)∧(P.info? e).map (·.size)=some (kk g)
 | .st z _ fo=> ∃fs,P.underlying t=some (.struct fs)∧(P.info? t).map (fun i=>(i.size,i.zero))=some (z.length,some (.agg z.toArray))∧(∀v,v∈z→v.oneCell'=true)∧
   (∀f k,nu fo f=some k→ ∃fd,fs[f]? =some fd∧fd.offset=k∧ ∃i,P.info? fd.type=some i∧i.size≠0)∧
   ∃places,fs.toList.mapM (fun f=>(P.info? f.type).map fun i=>(f.offset,i.size))=some places∧ ∀j o k,nu fo j=some o→Tf z.length fo j=some k→places[j]? =some (o,k)
 | .other=>True
def A4(n:Nat):List Nat→Nat
 | []=>n
 |k::_=>k
def wv(P:Program)(n:Nat):List Field→List Nat→Bool
 | [],[]=>true
 |fd::r,k::s=>Nat.beq fd.offset k&&(match P.info? fd.type with|some i=> !(Nat.beq i.size 0)&&Nat.beq i.size (A4 n s-k)|none=>false)&&wv P n r s
 |_,_=>false
theorem rG{P:Program}{n:Nat}: ∀{fs:List Field} {fo:List Nat},wv P n fs fo=true→(∀f k,nu fo f=some k→ ∃fd,fs[f]? =some fd∧fd.offset=k∧ ∃i,P.info? fd.type=some i∧i.size≠0)∧
  ∃places,fs.mapM (fun f=>(P.info? f.type).map fun i=>(f.offset,i.size))=some places∧ ∀j o k,nu fo j=some o→Tf n fo j=some k→places[j]? =some (o,k)
 | [],[],_=>⟨fun f k h=>by simp[nu]at h,[],rfl,fun j o k h=>by simp[nu]at h⟩
 |fd::r,k'::s,hh=>by
  simp only[wv,Bool.and_eq_true]at hh
  obtain⟨⟨h1,h2⟩,h3⟩:=hh
  obtain⟨q1,places,q2,q3⟩:=rG h3
  cases hq:P.info? fd.type with
  |none=>simp[hq]at h2
  |some i=>
   simp only[hq,Bool.and_eq_true]at h2
   have h4:=Nat.eq_of_beq_eq_true h2.2
   have h5:=Nat.eq_of_beq_eq_true h1
   refine⟨fun f k h=> ?_,(fd.offset,i.size)::places,?_,fun j o k hj hk=> ?_⟩
   ·cases f with
    |zero=>
     simp only[nu,Option.some.injEq]at h
     subst h
     refine⟨fd,rfl,h5,i,hq,fun e=> ?_⟩
     have:=h2.1
     simp[e]at this
    |succ f=>
     obtain⟨x,k1,k2⟩:=q1 f k (by simpa[nu]using h)
     exact⟨x,by simpa using k1,k2⟩
   ·simp[List.mapM_cons,hq,q2]
   ·cases j with
    |zero=>
     simp only[nu,Option.some.injEq]at hj
     subst hj
     have hk':Tf n (k'::s) 0=some (A4 n s-k'):=by
      cases s with
      |nil=>simp[Tf,nu,A4]
      |cons b s=>simp[Tf,nu,A4]
     rw[hk']at hk
     simp only[Option.some.injEq]at hk
     simp[h5,h4,hk]
    |succ j=>
     have:=q3 j o k (by simpa[nu]using hj) (by simpa[Tf,nu]using hk)
     simpa using this
variable(ty:Tag→Nat)
def El(P:Program)(ty:Tag→Nat)(t:Tag):Prop:=(P.info? (ty t)).map (fun i=>(i.zero,i.size,i.bytes))=some (some (eM t),kk t,cN t)
def Jc(P:Program)(ty:Tag→Nat)(t:Tag)(e:Nat):Prop:=e=ty t∧El P ty t
def RB(w:World)(lo:Nat):V→Value→List Nat→Prop
 | .lit v,u,fp=>u=v∧v.oneCell'=true∧fp= []
 | .sl t l,u,fp=>iR (kk t) (rd t) lo (ty t) w u l fp
 | .vw _ _ t l,u,fp=>Sl (kk t) (rd t) w u l fp∧Own lo w fp
 |_,_,_=>False
def Oi(w:World)(lo:Nat):List V→List Value→List Nat→Prop
 | [],[],fp=>fp= []
 |V::Vs,u::us,fp=> ∃f g,RB ty w lo V u f∧Oi w lo Vs us g∧fp=f++g
 |_,_,_=>False
def Tg(w:World)(lo:Nat):S1→Value→List Nat→Prop
 | .a v,u,fp=>Oi ty w lo [v] [u] fp
 | .agg l,u,fp=> ∃cs,u= .agg cs.toArray∧Oi ty w lo l cs fp
def Rk(w:World)(lo:Nat):List S1→List Value→List Nat→Prop
 | [],[],fp=>fp= []
 |V::Vs,u::us,fp=> ∃f g,Tg ty w lo V u f∧Rk w lo Vs us g∧fp=f++g
 |_,_,_=>False
def RG(w:World)(lo:Nat)(rs:List S1)(u:Value)(fp:List Nat):Prop:=
 match rs with
 | [r]=>Tg ty w lo r u fp
 |rs=> ∃us,u= .tuple us.toArray∧Rk ty w lo rs us fp
def V8(w:World)(rs:List S1)(e:Ending)(w':World):Prop:=
 ∃u fp,e= .returned u∧Below w.heap.size w w'∧Own w.heap.size w' fp∧RG ty w' w.heap.size rs u fp
def BO(w:World):S1→Value→Prop
 | .a v,u=> ∃fp,RI w v u fp
 | .agg l,u=> ∃cs fp,u= .agg cs.toArray∧bR w l cs fp
def Sound(P:Program)(f:FuncId)(as rs:List S1):Prop:=
 (∀(args:Array Value) (w:World),(callFunc f args).run P w= .ok (.enter f args) w)∧
 ∀w us,D6 w→bn (BO w) as us→Calls P f us.toArray w (V8 ty w rs)
variable{ty}
theorem Jx{tmps:Array Value}{s:Nat}{b:Bool}(h:tmps.getD s undef= .bool b):tmps[s]? =some (.bool b):=by
 rw[Array.getD_eq_getD_getElem?]at h
 cases hq:tmps[s]? with
 |none=>rw[hq]at h;simp[undef]at h
 |some v=>rw[hq]at h;simp at h;rw[h]
theorem MH{tmps:Array Value}{q p:List (Nat×Bool)}(h:T0 q p=true)(hp:holds tmps p):holds tmps q:=by
 intro e he
 simp only[T0,List.all_eq_true,List.any_eq_true,Bool.and_eq_true]at h
 obtain⟨f,hf,h1,h2⟩:=h e he
 have h1:=Nat.eq_of_beq_eq_true h1
 have h2:=eq_of_beq h2
 have:=hp f hf
 rw[h1,h2];exact this
theorem eg{zb:cA}{st:St}{a:Act}{w:World}{env:Env}(g:Good ty zb st a.tmps w env){p:List (Nat×Bool)}(hp:holds a.tmps p){x:Operand}{v:S1}(h:gf st p x=some v):fG w st.hp env v (a.eval x):=by
 cases x with
 |tmp t=>
  simp only[gf]at h
  split at h
  ·rename_i y hy
   simp only[Option.some.injEq]at h
   subst h
   exact g.slot t _ hy
  ·rename_i q y hy
   split at h
   ·rename_i hs
    simp only[Option.some.injEq]at h
    subst h
    exact(g.slot t _ hy).1 (MH hs hp)
   ·cases h
  ·cases h
 |const u=>
  simp only[gf]at h
  split at h
  ·rename_i hs
   simp only[Option.some.injEq]at h
   subst h
   exact⟨rfl,hs⟩
  ·cases h
 |func f=>
  simp only[gf,Option.some.injEq]at h
  subst h
  exact⟨rfl,rfl⟩
 |global q=>cases h
theorem RA.lit{w:World}{hp:Hp}{env:Env}{v u:Value}(h:RA w hp env (.lit v) u):u=v:=h.1
theorem fG.lit{w:World}{hp:Hp}{env:Env}{v u:Value}(h:fG w hp env (.a (.lit v)) u):u=v:=h.1
theorem Oj{zb:cA}{st:St}{tmps:Array Value}{w:World}{env:Env}(g:Good ty zb st tmps w env){tg:Option Tag}{v x:V}{u:Value}(hr:RA w st.hp env v u)(h:nZ st tg v=some x): ∃fp,RI w x u fp:=by
 cases v with
 |sl t l=>simp only[nZ,Option.some.injEq]at h;subst h;obtain⟨fp,h1,_⟩:=hr;exact⟨fp,h1⟩
 |vw n p t l=>simp only[nZ,Option.some.injEq]at h;subst h;obtain⟨_,⟨fp,h1,_⟩,_⟩:=hr;exact⟨fp,h1⟩
 |mix n c t l=>simp only[nZ,Option.some.injEq]at h;subst h;obtain⟨_,⟨fp,h1,_⟩,_⟩:=hr;exact⟨fp,h1⟩
 |own n=>
  simp only[nZ]at h
  split at h
  ·rename_i t l hl
   simp only[Option.some.injEq]at h
   subst h
   obtain⟨_,hu⟩:=hr
   subst hu
   have:=g.obj n _ hl
   exact⟨_,RO.sl this⟩
  ·cases h
 |yu n=>
  simp only[nZ]at h
  obtain⟨_,hu⟩:=hr
  subst hu
  split at h
  ·rename_i t l hl
   simp only[Option.some.injEq]at h
   subst h
   exact RO.AX (by intro e;cases e) (g.obj n _ hl)
  ·rename_i t l m hl
   simp only[Option.some.injEq]at h
   subst h
   exact RO.AX (by intro e;cases e) (g.obj n _ hl)
  ·cases h
 |lit v=>
  obtain⟨rfl,h1⟩:=hr
  simp only[nZ]at h
  split at h
  ·rename_i heq;cases heq
  ·rename_i heq;cases heq
  ·rename_i heq;cases heq
  ·rename_i heq;cases heq
  ·rename_i heq;cases heq
  ·rename_i heq
   simp only[V.lit.injEq]at heq
   subst heq
   split at h
   ·simp only[Option.some.injEq]at h
    subst h
    exact⟨[],none,0,rfl,Nat.le_refl _,Nat.zero_le _,Or.inl ⟨rfl,rfl,fun _=>rfl⟩⟩
   ·cases h
  ·cases h
  ·rename_i heq
   simp only[V.lit.injEq]at heq
   subst heq
   simp only[Option.some.injEq]at h
   subst h
   exact⟨[],rfl,h1,rfl⟩
  ·cases h
 |_=>simp[nZ]at h
theorem KO{zb:cA}{st:St}{tmps:Array Value}{w:World}{env:Env}(g:Good ty zb st tmps w env): ∀{vs:List V} {tg:List (Option Tag)} {xs:List V} {us:List Value},bn (RA w st.hp env) vs us→GU st tg vs=some xs→ ∃fp,bR w xs us fp
 | [],_,xs,us,hr,h=>by
   simp only[GU,Option.some.injEq]at h
   subst h
   cases us with
   |nil=>exact⟨[],rfl⟩
   |cons _ _=>exact hr.elim
 |v::r,tg,xs,us,hr,h=>by
  simp only[GU]at h
  split at h
  ·rename_i x y h1 h2
   simp only[Option.some.injEq]at h
   subst h
   cases us with
   |nil=>exact hr.elim
   |cons u us=>
    obtain⟨f,hf⟩:=Oj g hr.1 h1
    obtain⟨q,hq⟩:=KO g hr.2 h2
    exact⟨f++q,f,q,hf,hq,rfl⟩
  ·cases h
theorem RH{zb:cA}{st:St}{tmps:Array Value}{w:World}{env:Env}(g:Good ty zb st tmps w env){k:TK}{v x:S1}{u:Value}(hr:fG w st.hp env v u)(h:arg1 st k v=some x):BO w x u:=by
 cases v with
 |a v=>
  simp only[arg1]at h
  split at h
  ·rename_i y hy
   simp only[Option.some.injEq]at h
   subst h
   exact Oj g hr hy
  ·cases h
 |agg l=>
  simp only[arg1]at h
  split at h
  ·rename_i y hy
   simp only[Option.some.injEq]at h
   subst h
   obtain⟨cs,rfl,hl⟩:=hr
   obtain⟨fp,gA⟩:=KO g hl hy
   exact⟨cs,fp,rfl,gA⟩
  ·cases h
theorem RJ{v:S1}(h:T1 v=true):v= .a (.lit (.slice none 0 0)):=by
 unfold T1 at h;split at h
 ·rfl
 ·cases h
theorem RK{b:Bool}{zb:cA}{st:St}{tmps:Array Value}{w:World}{env:Env}(g:Good ty zb st tmps w env){k:TK}{v x:S1}{u:Value}(hr:fG w st.hp env v u)(h:ME b st k v=some x):BO w x u:=by
 unfold ME at h
 split at h
 ·rename_i hb
  simp only[Bool.and_eq_true]at hb
  obtain rfl:=RJ hb.2
  simp only[Option.some.injEq]at h
  subst h
  exact⟨[],hr.1,hr.2,rfl⟩
 ·exact RH g hr h
theorem Fq{b:Bool}{Γ:Nat→TK}{zb:cA}{st:St}{a:Act}{w:World}{env:Env}(g:Good ty zb st a.tmps w env){p:List (Nat×Bool)}(hp:holds a.tmps p): ∀{xs:List Operand} {ts:List Nat} {as:List S1},args b Γ st p xs ts=some as→bn (BO w) as (xs.map a.eval)
 | [],_,as,h=>by
   simp only[args,Option.some.injEq]at h
   subst h;trivial
 |x::r,ts,as,h=>by
  simp only[args]at h
  split at h
  ·rename_i v hv
   split at h
   ·rename_i y ys h1 h2
    simp only[Option.some.injEq]at h
    subst h
    exact⟨RK g (eg g hp hv) h1,Fq g hp h2⟩
   ·cases h
  ·cases h
theorem Ok{R:V→Value→Prop}{c l:List V}{off k:Nat}{cs:List Value}(h:bn R c cs)(hs:sub c off k=some l):bn R l ((cs.drop off).take k)∧((cs.drop off).take k).length=k:=by
 simp only[sub]at hs
 split at hs
 ·rename_i hb
  have hb:=Nat.le_of_ble_eq_true hb
  simp only[Option.some.injEq]at hs
  subst hs
  refine⟨(h.drop off).take k,?_⟩
  have:=h.len
  rw[List.length_take,List.length_drop];omega
 ·cases hs
theorem Ft: ∀{c:List V} {i:Nat} {v:V},wm c i=some v→c[i]? =some v
 |_::_,0,_,h=>by simpa[wm]using h
 |_::r,i+1,v,h=>by rw[List.getElem?_cons_succ];exact Ft (by simpa[wm]using h)
theorem bR.BP{w:World}{hp:Hp}{env:Env}: ∀{Vs:List V} {us:List Value} {fp:List Nat},bR w Vs us fp→(∀b,b∈fp→ ¬Ow hp env b)→bn (RA w hp env) Vs us
 | [],[],_,_,_=>trivial
 |v::Vs,u::us,_,⟨f,q,h1,h2,rfl⟩,h=>by
  refine⟨?_,bR.BP h2 fun b hb=>h b (List.mem_append_right _ hb)⟩
  cases v with
  |lit x=>exact⟨h1.1,h1.2.1⟩
  |sl t l=>exact⟨f,h1,fun b hb=>h b (List.mem_append_left _ hb)⟩
  |_=>exact h1.elim
 | [],_::_,_,h,_=>h.elim
 |_::_,[],_,h,_=>h.elim
theorem Ol{w:World}{hp:Hp}{env:Env}{t:Tag}{x:T t}{cs:List Value}{fp:List Nat}(hE:rd t w cs x fp)(h: ∀c,c∈fp→ ¬Ow hp env c):bn (RA w hp env) (dec t x) cs:=bR.BP (reads t hE) h
end
section
variable{ty:Tag→Nat}
def yC(ty:Tag→Nat)(st:St)(a:Act)(w:World)(env:Env)(dst:Option Tmp)(v:SV)(os:Hp):Act→World→Prop:=fun a' w'=>
 ∃u env',a'=a.put dst u∧lf (ty:=ty) w w' st.hp os env env'∧oC w' (os++st.hp) env' a.tmps v u
section
variable{P:Program}{zb:cA}{st:St}{a:Act}{w:World}{env:Env}{Q:Exit→Act→World→Prop}{o:Oper}
theorem BQ{v:SV}{u:Value}(hr:(execOp a.eval o).run P w= .ok (.value u) w)(hv:oC w st.hp env a.tmps v u):o.wp P a w (yC ty st a w env o.dst v []) Q:=by
 unfold Oper.wp
 rw[hr]
 exact⟨u,env,rfl,lf.none (Below.refl _ _),hv⟩
theorem dh{x:S1}{u:Value}(hr:(execOp a.eval o).run P w= .ok (.value u) w)(hv:fG w st.hp env x u):o.wp P a w (yC ty st a w env o.dst (.one x) []) Q:=BQ hr hv
theorem yD{n:Nat}{cs:List Value}{c:List V}{e:TypeId}(hr:(execOp a.eval o).run P w= .ok (.value (.pointer (some ⟨w.heap.size,0,none⟩))) (w.alloc (.cells (Array.mk cs) e (0,0))))
  (g:Good ty zb st a.tmps w env)(hf:fresh st.hp [(n, .box c)]=true)(hc:bn (RA w st.hp env) c cs):
  o.wp P a w (yC ty st a w env o.dst (.one (.a (.ptr n 0))) [(n, .box c)]) Q:=by
 unfold Oper.wp
 rw[hr]
 have hlk:look st.hp n=none:=mG hf n (.box c) (by simp[look])
 have hn:lf (ty:=ty) w (w.alloc (.cells (Array.mk cs) e (0,0))) st.hp [(n, .box c)] env (fun m=>if m=n then⟨.pointer (some ⟨w.heap.size,0,none⟩),[w.heap.size]⟩else env m):=by
  have DA:Below w.heap.size w (w.alloc (.cells (Array.mk cs) e (0,0))):=(Below.refl _ _).alloc (Nat.le_refl _) _
  have hne: ∀m,look [(n,Obj.box c)] m=none→m≠n:=by
   rintro m hm rfl
   simp[look]at hm
  have s:Step (fun _=>True) (fun _=>True) w st.hp env (w.alloc (.cells (Array.mk cs) e (0,0))) ([(n, .box c)]++st.hp) (fun m=>if m=n then⟨.pointer (some ⟨w.heap.size,0,none⟩),[w.heap.size]⟩else env m):=by
   refine⟨fun b hb _=>DA.block b hb,?_,?_,?_⟩
   ·rintro b hb ⟨m,o',h1,h2⟩
    by_cases hm:m=n
    ·simp[hm]at h2;omega
    ·simp[hm]at h2
     refine⟨m,o',?_,h2⟩
     rw[aQ]at h1
     ·exact h1
     ·simp only[look]
      split
      ·rename_i aR;exact absurd (Nat.eq_of_beq_eq_true aR) hm
      ·rfl
   ·intro m o' _ h1
    have hm:m≠n:=by rintro rfl;rw[hlk]at h1;cases h1
    refine⟨o',?_,by cases o'<;>simp[Obj.like],by simp[hm]⟩
    rw[aQ]
    ·exact h1
    ·simp only[look]
     split
     ·rename_i aR;exact absurd (Nat.eq_of_beq_eq_true aR) hm
     ·rfl
   ·intro m t l _ h1
    have hm:m≠n:=by rintro rfl;rw[hlk]at h1;cases h1
    refine⟨?_,by simp[hm],fun b hb=>DA.block b ((g.obj m _ h1).uV b hb)⟩
    rw[aQ]
    ·exact h1
    ·simp only[look]
     split
     ·rename_i aR;exact absurd (Nat.eq_of_beq_eq_true aR) hm
     ·rfl
  refine⟨DA,fun m hm=>by simp[hne m hm],?_,?_⟩
  ·intro m o' hl
   have hm:m=n:=by
    simp only[look]at hl
    split at hl
    ·rename_i aR;exact Nat.eq_of_beq_eq_true aR
    ·cases hl
   subst hm
   simp only[look,Nat.beq_refl,Option.some.injEq]at hl
   subst hl
   refine⟨⟨w.heap.size,cs,e,by simp,oz rfl,hc.mono fun v u _ h=>RA.step s v.eD h⟩,?_⟩
   intro b hb
   simp at hb
   omega
  ·intro m m' o1 o2 T5 h1 h2
   have e1:m=n:=by
    simp only[look]at h1
    split at h1
    ·rename_i aR;exact Nat.eq_of_beq_eq_true aR
    ·cases h1
   have e2:m'=n:=by
    simp only[look]at h2
    split at h2
    ·rename_i aR;exact Nat.eq_of_beq_eq_true aR
    ·cases h2
   exact absurd (e1.trans e2.symm) T5
 exact⟨_,_,rfl,hn,⟨c,by simp[look]⟩,w.heap.size,by simp,rfl⟩
theorem T6{t:Nat}{k:TK}(h:cw P t k)(h1: ∀z tg fo,k≠ .st z tg fo)(h2:k≠ .other): ∃d,P.underlying t=some d∧d.isRow=false:=by
 cases k with
 |int k=>exact⟨_,h,rfl⟩
 |bool=>exact⟨_,h,rfl⟩
 |str=>exact⟨_,h,rfl⟩
 |sl g e=>exact⟨_,h.1,rfl⟩
 |st z tg fo=>exact absurd rfl (h1 z tg fo)
 |other=>exact absurd rfl h2
theorem Ax{t:Nat}{d:TypeDesc}{ad:Addr}{u:Value}(hu:P.underlying t=some d)(hd:d.isRow=false)(hc:w.cell? ad=some u):(loadVar t ad).run P w= .ok u w:=by
 have Yh:(isAgg t).run P w= .ok false w:=by
  unfold isAgg
  rw[Sem.run_bind,run_underlying hu w]
  cases d<;>simp_all
 simp[loadVar,Yh,hc]
theorem nA{t:Nat}{k:TK}{x:Operand}(ho:o.op= .load t x)(hk:cw P t k)(h1: ∀z tg fo,k≠ .st z tg fo)(h2:k≠ .other){ad:Addr}(hx:a.eval x= .pointer (some ad)){u:Value}(hc:w.cell? ad=some u){v:V}(hv:RA w st.hp env v u):
  o.wp P a w (yC ty st a w env o.dst (.one (.a v)) []) Q:=by
 obtain⟨d,hu,hd⟩:=T6 hk h1 h2
 refine dh ?_ hv
 unfold execOp
 simp only[ho,hx,Instr.loadAt,Instr.sureAddr,Sem.run_bind,Sem.run_pure,Result.andThen_ok,Ax hu hd hc]
theorem wp_load_row{t:Nat}{x:Operand}{z:List Value}{tg:List (Option Tag)}{fo:List Nat}(ho:o.op= .load t x)(hk:cw P t (.st z tg fo)){b off:Nat}(hx:a.eval x= .pointer (some ⟨b,off,none⟩)){cs:List Value}(hc:w.rangeAt b off cs)
  (hl:cs.length=z.length){l:List V}(hv:bn (RA w st.hp env) l cs):o.wp P a w (yC ty st a w env o.dst (.one (.agg l)) []) Q:=by
 obtain⟨fs,hu,hi,_⟩:=hk
 refine dh (u:= .agg cs.toArray) ?_ ⟨cs,rfl,hv⟩
 unfold execOp
 have hi':(P.info? t).map (·.size)=some cs.length:=by
  rw[hl]
  cases hq:P.info? t with
  |none=>simp[hq]at hi
  |some i=>simp[hq]at hi;simp[hi.1]
 simp only[ho,hx,Instr.loadAt,Instr.sureAddr,Sem.run_bind,Sem.run_pure,Result.andThen_ok,run_loadVar_mid w b off t cs _ hc hu rfl hi']
theorem lg{b off k j:Nat}{cs:List Value}(h:w.rangeAt b off cs):w.rangeAt b (off+j) ((cs.drop j).take k):=by
 intro i v hv
 rw[List.getElem?_take]at hv
 split at hv
 ·rw[List.getElem?_drop]at hv
  rw[Nat.add_assoc];exact h _ _ hv
 ·cases hv
theorem lp{b off j:Nat}{cs:List Value}{u:Value}(h:w.rangeAt b off cs)(hu:cs[j]? =some u):w.cell? ⟨b,off+j,none⟩=some u:=h j u hu
theorem T7{op:BinOp}{k:IntKind}{x y:Int}{vc:List Prop}{v:Value}(h:XR op k x y=some (vc,v))(hv: ∀q,q∈vc→q){t:TypeId}{X Y:Operand}:
  (do eqGuard op t X Y (.int k x) (.int k y);binOp op t (.int k x) (.int k y):Sem Value).run P w= .ok v w∧v.oneCell'=true:=by
 cases op<;>simp only[XR,Option.some.injEq,Prod.mk.injEq,reduceCtorEq]at h<;>obtain⟨rfl,rfl⟩:=h<;>
  first
  | (refine⟨?_,rfl⟩;simp[eqGuard,binOp,Op.intArith,Op.intCmp];done)
  | (refine⟨?_,rfl⟩;simp only[eqGuard,binOp,ne_eq,not_true_eq_false,ite_false,Op.intBits];rfl)
  | (have hy:y≠0:=hv _ (by simp)
     refine⟨?_,rfl⟩;simp[eqGuard,binOp,Op.intDiv,hy])
theorem GZ{t:Nat}{z:List Value}{tg:List (Option Tag)}{fo:List Nat}(hk:cw P t (.st z tg fo)){f k:Nat}(hf:nu fo f=some k)(b off:Nat):
  (Instr.fieldAt t (.pointer (some ⟨b,off,none⟩)) f).run P w= .ok (.pointer (some ⟨b,off+k,none⟩)) w:=by
 obtain⟨fs,hu,_,_,hfo,_⟩:=hk
 obtain⟨fd,h1,h2,i,h3,h4⟩:=hfo f k hf
 simp[Instr.fieldAt,run_underlying hu,h1,Instr.sureAddr,fieldPlace,sizeOf,typeInfo,h3,h4,h2,Addr.add_mid]
theorem mj{t:Nat}{x:Operand}{z:List Value}{tg:List (Option Tag)}{fo:List Nat}{f k:Nat}(ho:o.op= .fieldAddr t x f)(hk:cw P t (.st z tg fo))(hf:nu fo f=some k){b off:Nat}(hx:a.eval x= .pointer (some ⟨b,off,none⟩)){v:V}
  (hv:RA w st.hp env v (.pointer (some ⟨b,off+k,none⟩))):o.wp P a w (yC ty st a w env o.dst (.one (.a v)) []) Q:=by
 refine dh ?_ hv
 unfold execOp
 simp only[ho,hx,Sem.run_bind,GZ hk hf b off,Result.andThen_ok,Sem.run_pure]
theorem G0{t:Nat}{g:Tag}{e:Nat}(hk:cw P t (.sl g e)){b off len cap:Nat}{ik:IntKind}{i:Int}(h0:0≤i)(h1:i<len):
  (Instr.indexAt t (.slice (some ⟨b,off,none⟩) len cap) (.int ik i)).run P w= .ok (.pointer (some ⟨b,off+i.toNat*kk g,none⟩)) w:=by
 obtain⟨hu,hs⟩:=hk
 cases hq:P.info? e with
 |none=>simp[hq]at hs
 |some inf=>
  have hsz:inf.size=kk g:=by simpa[hq]using hs
  simp[Instr.indexAt,asIntOf,run_underlying hu,h0,h1,sizeOf,typeInfo,hq,hsz,Addr.add_mid]
theorem pT{t:Nat}{x i:Operand}{g:Tag}{e:Nat}(ho:o.op= .indexAddr t x i)(hk:cw P t (.sl g e)){b off len cap:Nat}{ik:IntKind}{n:Int}(hx:a.eval x= .slice (some ⟨b,off,none⟩) len cap)(hi:a.eval i= .int ik n)(h0:0≤n)(h1:n<len){v:V}
  (hv:RA w st.hp env v (.pointer (some ⟨b,off+n.toNat*kk g,none⟩))):o.wp P a w (yC ty st a w env o.dst (.one (.a v)) []) Q:=by
 refine dh ?_ hv
 unfold execOp
 simp only[ho,hx,hi,Sem.run_bind,G0 hk h0 h1,Result.andThen_ok,Sem.run_pure]
theorem RL{t:Tag}{l:List (T t)}{u:Value}{n:Int}(h:RA w st.hp env (.sl t l) u)(h0:0≤n)(h1:n<l.length):
  ∃b off len cap,u= .slice (some ⟨b,off,none⟩) len cap∧n<len∧RA w st.hp env (.ip t (l.getD n.toNat (av t)) 0) (.pointer (some ⟨b,off+n.toNat*kk t,none⟩)):=by
 obtain⟨fp,⟨oa,cap,rfl,hc,hm,h3⟩,hd⟩:=h
 have hn:n.toNat<l.length:=by omega
 rcases h3 with⟨rfl,_⟩| ⟨b,off,bk,rfl,hb,rfl,he⟩
 ·simp at hn
 ·have hx:l[n.toNat]? =some (l.getD n.toNat (av t)):=by rw[List.getD_eq_getElem?_getD,List.getElem?_eq_getElem hn];rfl
  obtain⟨f,hf⟩:=iz he.1 hx
  obtain⟨cs,hr,hE⟩:=he.2 _ _ f hx hf
  exact⟨b,off,l.length,cap,rfl,h1,b,off+n.toNat*kk t,cs,f,rfl,hb,hr,hE,hd b (by simp),fun c hc=>hd c (List.mem_cons_of_mem _ (b9 hf hc))⟩
theorem BR{t:Nat}{x:Operand}{ts:Array TypeId}(ht:ts= #[t])(ho:o.op= .call ⟨.builtin .len,#[x],ts⟩){d:TypeDesc}(hu:P.underlying t=some d){u:Value}(hx:a.eval x=u){n:Int}
  (hn:(∃e oa c m,d= .slice e∧u= .slice oa m c∧n=(m:Int))∨(∃s:ByteArray,d= .string∧u= .string s∧n=(s.size:Int))):
  o.wp P a w (yC ty st a w env o.dst (.one (.a (.lit (.int .i64 n)))) []) Q:=by
 refine dh (u:= .int .i64 n) ?_ ⟨rfl,rfl⟩
 subst ht
 unfold execOp
 rcases hn with⟨e,oa,c,m,rfl,rfl,rfl⟩| ⟨s,rfl,rfl,rfl⟩
 ·simp[ho,resolve,invoke,builtin,Builtin.len_,hx,run_underlying hu,goInt]
 ·simp[ho,resolve,invoke,builtin,Builtin.len_,hx,run_underlying hu,goInt]
end
end
section
variable{ty:Tag→Nat}
def pair:Hp→List CO→List (Nat×CO)
 | (n,_)::r,c::cs=>(n,c)::pair r cs
 |_,_=> []
theorem aW{α:Type}{j n:Nat}{x:α}{r:List (Nat×α)}(h:n≠j):look ((j,x)::r) n=look r n:=by
 simp only[look]
 split
 ·rename_i hb;exact absurd (Nat.eq_of_beq_eq_true hb) h
 ·rfl
theorem look_eq{α:Type}{j:Nat}{x:α}{r:List (Nat×α)}:look ((j,x)::r) j=some x:=by simp[look]
theorem G1{R:Nat×Obj→CO→Prop}: ∀{os:Hp} {ce:List CO},gb os=true→bn R os ce→bn (fun e co=>look os e.1=some e.2∧look (pair os ce) e.1=some co) os ce
 | [],[],_,_=>trivial
 | (n,o)::r,c::cs,hn,⟨_,h2⟩=>by
   simp only[gb,Bool.and_eq_true]at hn
   refine⟨⟨look_eq,look_eq⟩,(G1 hn.2 h2).mono ?_⟩
   rintro⟨m,o'⟩ co _ ⟨h3,h4⟩
   have hne:m≠n:=by
    rintro rfl
    have h3':look r m=some o':=h3
    simp[h3']at hn
   exact⟨by rw[aW hne];exact h3,by show look (pair ((n,o)::r) (c::cs)) m=some co;rw[pair,aW hne];exact h4⟩
 | [],_::_,_,h=>h.elim
 |_::_,[],_,h=>h.elim
theorem tF{R:Nat×Obj→CO→Prop}: ∀{os:Hp} {ce:List CO} {n:Nat} {o:Obj},bn R os ce→look os n=some o→ ∃co,look (pair os ce) n=some co∧R (n,o) co
 | (m,o')::r,c::cs,n,o,⟨h1,h2⟩,hl=>by
   by_cases h:n=m
   ·subst h
    rw[look_eq]at hl
    simp only[Option.some.injEq]at hl
    subst hl
    exact⟨c,look_eq,h1⟩
   ·rw[aW h]at hl
    obtain⟨co,h3,h4⟩:=tF h2 hl
    exact⟨co,by rw[pair,aW h];exact h3,h4⟩
 | [],[],_,_,_,hl=>by simp[look]at hl
 | [],_::_,_,_,h,_=>h.elim
 |_::_,[],_,_,h,_=>h.elim
theorem BS: ∀{os:Hp} {ce:List CO} {n:Nat} {co:CO},look (pair os ce) n=some co→ ∀b,b∈co.fp→b∈ce.flatMap CO.fp
 | (m,o')::r,c::cs,n,co,hl,b,hb=>by
   rw[List.flatMap_cons]
   by_cases h:n=m
   ·subst h
    rw[pair,look_eq]at hl
    simp only[Option.some.injEq]at hl
    subst hl
    exact List.mem_append_left _ hb
   ·rw[pair,aW h]at hl
    exact List.mem_append_right _ (BS hl b hb)
 | [],[],_,_,hl,_,_=>by simp[pair,look]at hl
 | [],_::_,_,_,hl,_,_=>by simp[pair,look]at hl
 |_::_,[],_,_,hl,_,_=>by simp[pair,look]at hl
theorem G2: ∀{os:Hp} {ce:List CO} {n n':Nat} {co XS:CO},(ce.flatMap CO.fp).Nodup→n≠n'→look (pair os ce) n=some co→look (pair os ce) n'=some XS→ ∀b,b∈co.fp→b∉XS.fp
 | (m,o')::r,c::cs,n,n',co,XS,hnd,hne,h1,h2,b,hb,hb'=>by
   rw[List.flatMap_cons]at hnd
   obtain⟨_,hn2,RM⟩:=List.nodup_append.1 hnd
   by_cases h:n=m
   ·subst h
    rw[pair,look_eq]at h1
    simp only[Option.some.injEq]at h1
    subst h1
    rw[pair,aW (Ne.symm hne)]at h2
    exact RM b hb b (BS h2 b hb') rfl
   ·rw[pair,aW h]at h1
    by_cases h':n'=m
    ·subst h'
     rw[pair,look_eq]at h2
     simp only[Option.some.injEq]at h2
     subst h2
     exact RM b hb' b (BS h1 b hb) rfl
    ·rw[pair,aW h']at h2
     exact G2 hn2 hne h1 h2 b hb hb'
 | [],[],_,_,_,_,_,_,hl,_,_,_,_=>by simp[pair,look]at hl
 | [],_::_,_,_,_,_,_,_,hl,_,_,_,_=>by simp[pair,look]at hl
 |_::_,[],_,_,_,_,_,_,hl,_,_,_,_=>by simp[pair,look]at hl
theorem lf.list{w w':World}{hp os:Hp}{env:Env}{ce:List CO}(hb:Below w.heap.size w w')(hn:gb os=true)
  (h:bn (fun e co=>(∀iB env',RO ty w' iB env' e.1 e.2 co)∧ ∀b,b∈co.fp→w.heap.size≤b) os ce)(hnd:(ce.flatMap CO.fp).Nodup):
  ∃env',lf (ty:=ty) w w' hp os env env'∧bn (fun e co=>look os e.1=some e.2∧env' e.1=co) os ce:=by
 refine⟨fun n=>match look (pair os ce) n with|some co=>co|_=>env n,⟨hb,?_,?_,?_⟩,?_⟩
 ·intro n hl
  cases hq:look (pair os ce) n with
  |none=>simp[hq]
  |some co=>
   exfalso
   clear hn hnd
   induction os generalizing ce with
   |nil=>cases ce<;>simp[pair,look]at hq
   |cons e r ih=>
    cases ce with
    |nil=>simp[pair,look]at hq
    |cons c cs=>
     obtain⟨m,o⟩:=e
     by_cases hm:n=m
     ·subst hm;rw[look_eq]at hl;cases hl
     ·rw[aW hm]at hl
      rw[pair,aW hm]at hq
      exact ih h.2 hl hq
 ·intro n o hl
  obtain⟨co,h1,h2⟩:=tF h hl
  simp only[h1]
  exact⟨h2.1 _ _,h2.2⟩
 ·intro n m o o' hne h1 h2
  obtain⟨co,h3,_⟩:=tF h h1
  obtain⟨XS,h5,_⟩:=tF h h2
  simp only[h3,h5]
  exact G2 hnd hne h3 h5
 ·exact(G1 hn h).mono fun e co _ hh=>⟨hh.1,by simp[hh.2]⟩
theorem BT{w:World}{lo:Nat}: ∀{l:List V} {cs:List Value} {fp:List Nat} (m:Nat),Oi ty w lo l cs fp→ ∃ce:List CO,
  bn (fun e co=>(∀hp env,RO ty w hp env e.1 e.2 co)∧ ∀b,b∈co.fp→lo≤b) (ny m l).2 ce∧ce.flatMap CO.fp=fp∧(∀e,e∈(ny m l).2→ ∃t l,e.2= .arr t l)∧
  ∀hp env,bn (fun e co=>look hp e.1=some e.2∧env e.1=co) (ny m l).2 ce→bn (RA w hp env) (ny m l).1 cs
 | [],[],fp,m,h=>⟨[],trivial,h.symm,by simp[ny],fun _ _ _=>trivial⟩
 |v::r,u::us,fp,m,⟨f,g,h1,h2,e⟩=>by
  obtain⟨ce,k1,k2,k3,k4⟩:=BT (m+1) h2
  cases v with
  |lit x=>
   refine⟨ce,k1,by rw[k2,e,h1.2.2];rfl,k3,fun hp env hh=>⟨⟨h1.1,h1.2.1⟩,k4 hp env hh⟩⟩
  |sl t l=>
   refine⟨⟨u,f⟩::ce,⟨⟨fun _ _=>RO.D8 (iR.mono h1 (Nat.zero_le _)),(iR.own h1).ge⟩,k1⟩,by rw[List.flatMap_cons,k2,e],?_,?_⟩
   ·intro e' he
    rcases List.mem_cons.1 he with rfl|he
    ·exact⟨t,l,rfl⟩
    ·exact k3 e' he
   ·rintro hp env ⟨⟨q1,q2⟩,hh⟩
    exact⟨⟨⟨t,l,q1⟩,by rw[q2]⟩,k4 hp env hh⟩
  |vw _ _ t l=>
   have hge: ∀b,b∈f→lo≤b:=h1.2.ge
   have Th:=Og m
   simp only[ny]
   generalize m+900=m9 at Th ⊢
   have hro: ∀hp env,RO ty w hp env m9 (.arr t l) ⟨u,f⟩:=fun _ _=>RO.Of Th h1.1 (h1.2.mono (Nat.zero_le _))
   refine⟨⟨u,f⟩::ce,⟨⟨hro,hge⟩,k1⟩,by rw[List.flatMap_cons,k2,e],?_,?_⟩
   ·intro e' he
    rcases List.mem_cons.1 he with rfl|he
    ·exact⟨t,l,rfl⟩
    ·exact k3 e' he
   ·rintro hp env ⟨⟨q1,q2⟩,hh⟩
    exact⟨⟨⟨t,l,q1⟩,by rw[q2]⟩,k4 hp env hh⟩
  |_=>exact h1.elim
 | [],_::_,_,_,h=>h.elim
 |_::_,[],_,_,h=>h.elim
theorem D9: ∀{l:List V} (m:Nat),(ny m l).1.length=l.length
 | [],_=>rfl
 |v::r,m=>by
  have:=D9 (l:=r) (m+1)
  cases v<;>simp[ny,this]
theorem Ea{w:World}{lo:Nat}{x:S1}{u:Value}{fp:List Nat}(m:Nat)(h:Tg ty w lo x u fp): ∃ce:List CO,
  bn (fun e co=>(∀hp env,RO ty w hp env e.1 e.2 co)∧ ∀b,b∈co.fp→lo≤b) (rD m x).2 ce∧ce.flatMap CO.fp=fp∧(∀e,e∈(rD m x).2→ ∃t l,e.2= .arr t l)∧
  ∀hp env,bn (fun e co=>look hp e.1=some e.2∧env e.1=co) (rD m x).2 ce→fG w hp env (rD m x).1 u:=by
 cases x with
 |a v=>
  obtain⟨ce,k1,k2,k3,k4⟩:=BT m (show Oi ty w lo [v] [u] fp from h)
  have hl:=D9 (l:= [v]) m
  simp only[rD]
  generalize ny m [v]=q at*
  obtain⟨vs,os⟩:=q
  match vs,hl with
  | [v'],_=>exact⟨ce,k1,k2,k3,fun hp env hh=>(k4 hp env hh).1⟩
 |agg l=>
  obtain⟨cs,rfl,hh⟩:=h
  obtain⟨ce,k1,k2,k3,k4⟩:=BT m hh
  exact⟨ce,k1,k2,k3,fun hp env hh=>⟨cs,rfl,k4 hp env hh⟩⟩
theorem bn.Om{α β:Type}{R:α→β→Prop}: ∀{as as':List α} {bs bs':List β},as.length=bs.length→bn R (as++as') (bs++bs')→bn R as bs∧bn R as' bs'
 | [],_,[],_,_,h=>⟨trivial,h⟩
 |_::_,_,_::_,_,hl,⟨h1,h⟩=>⟨⟨h1,(bn.Om (by simpa using hl) h).1⟩,(bn.Om (by simpa using hl) h).2⟩
 | [],_,_::_,_,hl,_=>by simp at hl
 |_::_,_,[],_,hl,_=>by simp at hl
theorem Eb{w:World}{lo:Nat}: ∀{l:List S1} {us:List Value} {fp:List Nat} (m:Nat),Rk ty w lo l us fp→ ∃ce:List CO,
  bn (fun e co=>(∀hp env,RO ty w hp env e.1 e.2 co)∧ ∀b,b∈co.fp→lo≤b) (pS m l).2 ce∧ce.flatMap CO.fp=fp∧(∀e,e∈(pS m l).2→ ∃t l,e.2= .arr t l)∧
  ∀hp env,bn (fun e co=>look hp e.1=some e.2∧env e.1=co) (pS m l).2 ce→bn (fG w hp env) (pS m l).1 us
 | [],[],fp,m,h=>⟨[],trivial,h.symm,by simp[pS],fun _ _ _=>trivial⟩
 |x::r,u::us,fp,m,⟨f,g,h1,h2,e⟩=>by
  obtain⟨c1,k1,k2,k3,k4⟩:=Ea m h1
  obtain⟨c2,q1,q2,q3,q4⟩:=Eb (m+20) h2
  refine⟨c1++c2,bn.app k1 q1,by rw[List.flatMap_append,k2,q2,e],?_,?_⟩
  ·intro e' he
   rcases List.mem_append.1 he with he|he
   ·exact k3 e' he
   ·exact q3 e' he
  ·intro hp env hh
   obtain⟨a1,a2⟩:=bn.Om (by have:=k1.len;exact this.symm) hh
   exact⟨k4 hp env a1,q4 hp env a2⟩
 | [],_::_,_,_,h=>h.elim
 |_::_,[],_,_,h=>h.elim
theorem Oi.BP{w:World}{lo:Nat}{hp:Hp}{env:Env}: ∀{Vs:List V} {us:List Value} {fp:List Nat},Oi ty w lo Vs us fp→(∀b,b∈fp→ ¬Ow hp env b)→bn (RA w hp env) (Vs.map V.yA) us
 | [],[],_,_,_=>trivial
 |v::Vs,u::us,_,⟨f,q,h1,h2,rfl⟩,h=>by
  refine⟨?_,Oi.BP h2 fun b hb=>h b (List.mem_append_right _ hb)⟩
  cases v with
  |lit x=>exact⟨h1.1,h1.2.1⟩
  |sl t l=>exact⟨f,iR.sl h1,fun b hb=>h b (List.mem_append_left _ hb)⟩
  |vw _ _ t l=>exact⟨f,h1.1,fun b hb=>h b (List.mem_append_left _ hb)⟩
  |_=>exact h1.elim
 | [],_::_,_,h,_=>h.elim
 |_::_,[],_,h,_=>h.elim
theorem Tg.XT{w:World}{lo:Nat}{hp:Hp}{env:Env}{x:S1}{u:Value}{fp:List Nat}(h:Tg ty w lo x u fp)(hd: ∀b,b∈fp→ ¬Ow hp env b):fG w hp env x.yA u:=by
 cases x with
 |a v=>exact(Oi.BP (show Oi ty w lo [v] [u] fp from h) hd).1
 |agg l=>obtain⟨cs,rfl,hh⟩:=h;exact⟨cs,rfl,hh.BP hd⟩
theorem Rk.BP{w:World}{lo:Nat}{hp:Hp}{env:Env}: ∀{Vs:List S1} {us:List Value} {fp:List Nat},Rk ty w lo Vs us fp→(∀b,b∈fp→ ¬Ow hp env b)→bn (fG w hp env) (Vs.map S1.yA) us
 | [],[],_,_,_=>trivial
 |v::Vs,u::us,_,⟨f,q,h1,h2,rfl⟩,h=>⟨h1.XT fun b hb=>h b (List.mem_append_left _ hb),Rk.BP h2 fun b hb=>h b (List.mem_append_right _ hb)⟩
 | [],_::_,_,h,_=>h.elim
 |_::_,[],_,h,_=>h.elim
theorem V.wz{v:V}(h:v.TZ=false):v.yA=v:=by
 cases v<;>first|rfl|cases h
theorem S1.wz{x:S1}(h:x.GV=true):x.yA=x:=by
 cases x with
 |a v=>simp only[S1.GV,Bool.not_eq_true']at h;rw[S1.yA,V.wz h]
 |agg l=>
  simp only[S1.GV,List.all_eq_true,Bool.not_eq_true']at h
  rw[S1.yA]
  congr 1
  exact(List.map_congr_left fun v hv=>V.wz (h v hv)).trans (List.map_id' l)
theorem On{l:List S1}(h:l.all S1.GV=true):l.map S1.yA=l:=by
 rw[List.all_eq_true]at h
 exact(List.map_congr_left fun v hv=>S1.wz (h v hv)).trans (List.map_id' l)
section
variable{P:Program}{zb:cA}{st:St}{a:Act}{w:World}{env:Env}{Q:Exit→Act→World→Prop}{o:Oper}
theorem KP{f:FuncId}{x0:Operand}{xs:Array Operand}{ts:Array TypeId}(ho:o.op= .call ⟨.value x0,xs,ts⟩)(h0:a.eval x0= .func (.func f) #[] #[]){as rs:List S1}(hS:Sound ty P f as rs)(hA:D6 w)(g:Good ty zb st a.tmps w env)(ha:bn (BO w) as (xs.toList.map a.eval))
  {own:Bool}{m:Nat}{vc:List Prop}{out:Out}(hout:outs m ⟨own,rs⟩ vc=out)(hn:gb out.o=true):
  o.wp P a w (yC ty st a w env o.dst out.v out.o) Q:=by
 have hrun:(execOp a.eval o).run P w= .ok (.enter f (xs.map a.eval)) w:=by
  unfold execOp
  simp[ho,resolve,invoke,Deferred.ofValue,h0,hS.1]
 unfold Oper.wp
 rw[hrun]
 simp only[Oper.upon]
 have hx:xs.map a.eval=(xs.toList.map a.eval).toArray:=by rw[←List.map_toArray]
 rw[hx]
 refine(hS.2 w _ hA ha).mono ?_
 rintro e w' ⟨u,fp,rfl,hb,hown,hr⟩
 have hfr: ∀b,b∈fp→ ¬Ow st.hp env b:=fun b hb' ho'=>by have:=(g.ow ho').2;have:=hown.ge b hb';omega
 cases own with
 |false=>
  simp only[outs]at hout
  match rs,hr with
  | [r],hr=>
    have h1:=Tg.XT (hp:=st.hp) (env:=env) hr hfr
    cases hq:r.GV with
    |true=>
     simp only[hq]at hout
     subst hout
     rw[S1.wz hq]at h1
     exact⟨u,env,rfl,lf.none hb,h1⟩
    |false=>
     simp only[hq]at hout
     subst hout
     exact⟨u,env,rfl,lf.none hb,h1⟩
  | [],⟨us,hu,hr⟩=>subst hout;exact⟨u,env,rfl,lf.none hb,us,hu,Rk.BP hr hfr⟩
  |r::r'::rr,⟨us,hu,hr⟩=>
   have h1:=Rk.BP (hp:=st.hp) (env:=env) hr hfr
   cases hq:(r::r'::rr).all S1.GV with
   |true=>
    simp only[hq]at hout
    subst hout
    rw[On hq]at h1
    exact⟨u,env,rfl,lf.none hb,us,hu,h1⟩
   |false=>
    simp only[hq]at hout
    subst hout
    exact⟨u,env,rfl,lf.none hb,us,hu,h1⟩
 |true=>
  match rs,hr with
  | [r],hr=>
    obtain⟨ce,k1,k2,k3,k4⟩:=Ea m (show Tg ty w' w.heap.size r u fp from hr)
    have:out=⟨vc, .one (rD m r).1,(rD m r).2++ []⟩:=by rw[←hout];rfl
    rw[List.append_nil]at this
    subst this
    obtain⟨env',hN,hl⟩:=lf.list (ty:=ty) (hp:=st.hp) (env:=env) hb hn k1 (by rw[k2];exact hown.nodup)
    exact⟨u,env',rfl,hN,k4 _ _ (hl.mono fun e co _ hh=>⟨bG hh.1,hh.2⟩)⟩
  | [],⟨us,hu,hr⟩=>
    subst hout
    cases us with
    |nil=>exact⟨u,env,rfl,lf.none hb,[],hu,trivial⟩
    |cons _ _=>exact hr.elim
  |r::r'::rr,⟨us,hu,hr⟩=>
   obtain⟨ce,k1,k2,k3,k4⟩:=Eb m (show Rk ty w' w.heap.size (r::r'::rr) us fp from hr)
   have:out=⟨vc, .rC (pS m (r::r'::rr)).1,(pS m (r::r'::rr)).2⟩:=by rw[←hout];rfl
   subst this
   obtain⟨env',hN,hl⟩:=lf.list (ty:=ty) (hp:=st.hp) (env:=env) hb hn k1 (by rw[k2];exact hown.nodup)
   exact⟨u,env',rfl,hN,us,hu,k4 _ _ (hl.mono fun e co _ hh=>⟨bG hh.1,hh.2⟩)⟩
end
end
end Go.Proofs.YtmcgjpdljafkeaaGreat.G
