/- Steps. -/
import Derived.ChangeKeysEq
import Derived.Laws.Tables
import Derived.Test.YtaalpcnbbldlaaaGreatDoorR6
open Bool renaming and_eq_true→an,not_eq_true'→bO
open Go.Instr renaming fieldAt→UQ,indexAt→UR,loadAt→XV,sureAddr→qz
open Go.Result renaming andThen_ok→cC
open Go.Sem renaming run_bind→dS,run_pure→eu
open List renaming all_eq_true→bE,flatMap_cons→fP,map_congr_left→gD,map_id'→Mq,mem_append_left→bl,mem_append_right→aW,mem_cons→bh
open Nat renaming beq→bH,eq_of_beq_eq_true→aG,le_refl→aS,zero_le→aY
namespace Go.Proofs.YtaalpcnbbldlaaaGreatDoor.G
set_option linter.all false
open Go.RowKit L D
section
variable{tmps:Array Value}{p:List (Nat×Bool)}{zb:fG}{st:St}{w:World}{env:Env}{v:S1}{hp:Hp}{u:Value}
def gO(P:Program)(t:Nat):TK→Prop
 | .int k=>P.underlying t=some (.int k)
 | .bool=>P.underlying t=some .bool
 | .str=>P.underlying t=some .string
 | .sl g e=>P.underlying t=some (.slice e)∧(P.info? e).map (·.size)=some (kk g)
 | .st z _ fo=> ∃fs,P.underlying t=some (.struct fs)∧(P.info? t).map (fun i=>(i.size,i.zero))=some (z.length,some (.agg z.toArray))∧(∀v,v∈z→v.oneCell'=true)∧
   (∀f k,yw fo f=some k→ ∃fd,fs[f]? =some fd∧fd.offset=k∧ ∃i,P.info? fd.type=some i∧i.size≠0)∧
   ∃places,fs.toList.mapM (fun f=>(P.info? f.type).map fun i=>(f.offset,i.size))=some places∧ ∀j o k,yw fo j=some o→fsz z.length fo j=some k→places[j]? =some (o,k)
 | .mp=> ∃k e,P.underlying t=some (.map k e)∧P.underlying k=some (.int .i64)∧(∀w,(zeroValue e).run P w= .ok (.int .i64 0) w)∧(P.info? t).map (·.size)=some 1
 | .other=>True
def NX(n:Nat):List Nat→Nat
 | []=>n
 |k::_=>k
def Ii(P:Program)(n:Nat):List Field→List Nat→Bool
 | [],[]=>true
 |fd::r,k::s=>bH fd.offset k&&(match P.info? fd.type with|some i=> !(bH i.size 0)&&bH i.size (NX n s-k)|none=>false)&&Ii P n r s
 |_,_=>false
theorem Dc{P:Program}{n:Nat}: ∀{fs:List Field} {fo:List Nat},Ii P n fs fo=true→(∀f k,yw fo f=some k→ ∃fd,fs[f]? =some fd∧fd.offset=k∧ ∃i,P.info? fd.type=some i∧i.size≠0)∧
  ∃places,fs.mapM (fun f=>(P.info? f.type).map fun i=>(f.offset,i.size))=some places∧ ∀j o k,yw fo j=some o→fsz n fo j=some k→places[j]? =some (o,k)
 | [],[],_=>⟨fun f k h=>by simp[yw]at h,[],rfl,fun j o k h=>by simp[yw]at h⟩
 |fd::r,k'::s,hh=>by
  simp only[Ii,an]at hh;obtain⟨⟨h1,h2⟩,h3⟩:=hh;obtain⟨q1,places,q2,q3⟩:=Dc h3;cases hq:P.info? fd.type with
  |none=>simp[hq]at h2
  |some i=>
   simp only[hq,an]at h2;have h4:=aG h2.2;have h5:=aG h1;refine⟨fun f k h=> ?_,(fd.offset,i.size)::places,?_,fun j o k hj hk=> ?_⟩
   ·cases f with
    |zero=>
     simp only[yw,oI]at h;subst h;refine⟨fd,rfl,h5,i,hq,fun e=> ?_⟩;have:=h2.1;simp[e]at this
    |succ f=>
     obtain⟨x,k1,k2⟩:=q1 f k (by simpa[yw]using h);exact⟨x,by simpa using k1,k2⟩
   ·simp[List.mapM_cons,hq,q2]
   ·cases j with
    |zero=>
     simp only[yw,oI]at hj;subst hj;have hk':fsz n (k'::s) 0=some (NX n s-k'):=by
      cases s with
      |nil=>simp[fsz,yw,NX]
      |cons b s=>simp[fsz,yw,NX]
     rw[hk']at hk;simp only[oI]at hk;simp[h5,h4,hk]
    |succ j=>
     have:=q3 j o k (by simpa[yw]using hj) (by simpa[fsz,yw]using hk);simpa using this
variable(ty:Tag→Nat)
def El(P:Program)(ty:Tag→Nat)(t:Tag):Prop:=(P.info? (ty t)).map (fun i=>(i.zero,i.size,i.bytes))=some (some (oL t),kk t,vI t)
def Elt(P:Program)(ty:Tag→Nat)(t:Tag)(e:Nat):Prop:=e=ty t∧El P ty t
def RB(w:World)(lo:Nat):V→Value→List Nat→Prop
 | .lit v,u,fp=>u=v∧v.oneCell'=true∧fp= []
 | .sl t l,u,fp=>qN (kk t) (rd t) lo (ty t) w u l fp
 | .vw _ _ t l,u,fp=>Sl (kk t) (rd t) w u l fp∧Own lo w fp
 |_,_,_=>False
def RBs(w:World)(lo:Nat):List V→List Value→List Nat→Prop
 | [],[],fp=>fp= []
 |V::Vs,u::us,fp=> ∃f g,RB ty w lo V u f∧RBs w lo Vs us g∧fp=f++g
 |_,_,_=>False
def RB1(w:World)(lo:Nat):S1→Value→List Nat→Prop
 | .a v,u,fp=>RBs ty w lo [v] [u] fp
 | .agg l,u,fp=> ∃cs,u= .agg cs.toArray∧RBs ty w lo l cs fp
def RBl(w:World)(lo:Nat):List S1→List Value→List Nat→Prop
 | [],[],fp=>fp= []
 |V::Vs,u::us,fp=> ∃f g,RB1 ty w lo V u f∧RBl w lo Vs us g∧fp=f++g
 |_,_,_=>False
def arz(w:World)(lo:Nat)(rs:List S1)(u:Value)(fp:List Nat):Prop:=
 match rs with
 | [r]=>RB1 ty w lo r u fp
 |rs=> ∃us,u= .tuple us.toArray∧RBl ty w lo rs us fp
def Ret(w:World)(rs:List S1)(e:Ending)(w':World):Prop:=
 ∃u fp,e= .returned u∧Below w.heap.size w w'∧Own w.heap.size w' fp∧arz ty w' w.heap.size rs u fp
def R1(w:World):S1→Value→Prop
 | .a v,u=> ∃fp,RI w v u fp
 | .agg l,u=> ∃cs fp,u= .agg cs.toArray∧fH w l cs fp
def Sound(P:Program)(f:FuncId)(as rs:List S1):Prop:=
 (∀(args:Array Value) (w:World),(callFunc f args).run P w= .ok (.enter f args) w)∧
 ∀w us,Nc w→dG (R1 w) as us→Calls P f us.toArray w (Ret ty w rs)
variable{ty}
theorem abK{s:Nat}{b:Bool}(h:tmps.getD s undef= .bool b):tmps[s]? =some (.bool b):=by
 rw[Array.getD_eq_getD_getElem?]at h;cases hq:tmps[s]? with
 |none=>rw[hq]at h;simp[undef]at h
 |some v=>rw[hq]at h;simp at h;rw[h]
theorem ahu{q:List (Nat×Bool)}(h:axI q p=true)(hp:holds tmps p):holds tmps q:=by
 intro e he;simp only[axI,bE,List.any_eq_true,an]at h;obtain⟨f,hf,h1,h2⟩:=h e he;have h1:=aG h1;have h2:=eq_of_beq h2;have:=hp f hf;rw[h1,h2];exact this
theorem GJ{a:Act}(g:Good ty zb st a.tmps w env)(hp:holds a.tmps p){x:Operand}(h:opr st p x=some v):mG w st.hp env v (a.eval x):=by
 cases x with
 |tmp t=>
  simp only[opr]at h;split at h
  ·rename_i y hy;simp only[oI]at h;subst h;exact g.slot t _ hy
  ·rename_i q y hy;split at h
   ·rename_i hs;simp only[oI]at h;subst h;exact(g.slot t _ hy).1 (ahu hs hp)
   ·cases h
  ·cases h
 |const u=>
  simp only[opr]at h;split at h
  ·rename_i hs;simp only[oI]at h;subst h;exact⟨rfl,hs⟩
  ·cases h
 |func f=>
  simp only[opr,oI]at h;subst h;exact⟨rfl,rfl⟩
 |global q=>cases h
theorem lX{a:Act}(g:Good ty zb st a.tmps w env)(hp:holds a.tmps p){x:Operand}(h:oH st p x=some v):mG w st.hp env v (a.eval x):=by
 unfold oH at h;split at h
 ·rename_i y hy;simp only[oI]at h;subst h;exact mG.unl (GJ g hp hy)
 ·cases h
theorem RA.lit{v:Value}(h:RA w hp env (.lit v) u):u=v:=h.1
theorem mG.lit{v:Value}(h:mG w hp env (.a (.lit v)) u):u=v:=h.1
theorem akL(g:Good ty zb st tmps w env){tg:Option Tag}{v x:V}(hr:RA w st.hp env v u)(h:xp st tg v=some x): ∃fp,RI w x u fp:=by
 cases v with
 |sl t l=>simp only[xp,oI]at h;subst h;obtain⟨fp,h1,_⟩:=hr;exact⟨fp,h1⟩
 |vw n p t l=>simp only[xp,oI]at h;subst h;obtain⟨_,⟨fp,h1,_⟩,_⟩:=hr;exact⟨fp,h1⟩
 |mix n c t l=>simp only[xp,oI]at h;subst h;obtain⟨_,⟨fp,h1,_⟩,_⟩:=hr;exact⟨fp,h1⟩
 |own n=>
  simp only[xp]at h;split at h
  ·rename_i t l hl;simp only[oI]at h;subst h;obtain⟨_,hu⟩:=hr;subst hu;have:=g.obj n _ hl;exact⟨_,RO.sl this⟩
  ·cases h
 |RX n=>
  simp only[xp]at h;obtain⟨_,hu⟩:=hr;subst hu;split at h
  ·rename_i t l hl;simp only[oI]at h;subst h;exact RO.Xc (by intro e;cases e) gA (g.obj n _ hl)
  ·rename_i t l m hl;simp only[oI]at h;subst h;exact RO.Xc (by intro e;cases e) gA (g.obj n _ hl)
  ·cases h
 |lit v=>
  obtain⟨rfl,h1⟩:=hr;simp only[xp]at h;split at h
  ·rename_i heq;cases heq
  ·rename_i heq;cases heq
  ·rename_i heq;cases heq
  ·rename_i heq;cases heq
  ·rename_i heq;cases heq
  ·rename_i heq;simp only[V.lit.injEq]at heq;subst heq;split at h
   ·simp only[oI]at h;subst h;exact⟨[],none,0,rfl,aS _,aY _,Or.inl ⟨rfl,rfl,rfl⟩⟩
   ·cases h
  ·cases h
  ·rename_i heq;simp only[V.lit.injEq]at heq;subst heq;simp only[oI]at h;subst h;exact⟨[],rfl,h1,rfl⟩
  ·cases h
 |_=>simp[xp]at h
theorem ad2{zb:fG}{st:St}{tmps:Array Value}{w:World}{env:Env}(g:Good ty zb st tmps w env): ∀{vs:List V} {tg:List (Option Tag)} {xs:List V} {us:List Value},dG (RA w st.hp env) vs us→XP st tg vs=some xs→ ∃fp,fH w xs us fp
 | [],_,xs,us,hr,h=>by
   simp only[XP,oI]at h;subst h;cases us with
   |nil=>exact⟨[],rfl⟩
   |cons _ _=>exact hr.elim
 |v::r,tg,xs,us,hr,h=>by
  simp only[XP]at h;split at h
  ·rename_i x y h1 h2;simp only[oI]at h;subst h;cases us with
   |nil=>exact hr.elim
   |cons u us=>
    obtain⟨f,hf⟩:=akL g hr.1 h1;obtain⟨q,hq⟩:=ad2 g hr.2 h2;exact⟨f++q,f,q,hf,hq,rfl⟩
  ·cases h
theorem arA(g:Good ty zb st tmps w env){k:TK}{x:S1}(hr:mG w st.hp env v u)(h:arg1 st k v=some x):R1 w x u:=by
 cases v with
 |a v=>
  simp only[arg1]at h;split at h
  ·rename_i y hy;simp only[oI]at h;subst h;exact akL g hr hy
  ·cases h
 |agg l=>
  simp only[arg1]at h;split at h
  ·rename_i y hy;simp only[oI]at h;subst h;obtain⟨cs,rfl,hl⟩:=hr;obtain⟨fp,qx⟩:=ad2 g hl hy;exact⟨cs,fp,rfl,qx⟩
  ·cases h
theorem arB(h:axJ v=true):v= .a (.lit (.slice none 0 0)):=by
 unfold axJ at h;split at h
 ·rfl
 ·cases h
theorem arC{b:Bool}(g:Good ty zb st tmps w env){k:TK}{x:S1}(hr:mG w st.hp env v u)(h:ahp b st k v=some x):R1 w x u:=by
 unfold ahp at h;split at h
 ·rename_i hb;simp only[an]at hb;obtain rfl:=arB hb.2;simp only[oI]at h;subst h;exact⟨[],hr.1,hr.2,rfl⟩
 ·exact arA g hr h
theorem UO{b:Bool}{Γ:Nat→TK}{zb:fG}{st:St}{a:Act}{w:World}{env:Env}(g:Good ty zb st a.tmps w env){p:List (Nat×Bool)}(hp:holds a.tmps p): ∀{xs:List Operand} {ts:List Nat} {as:List S1},args b Γ st p xs ts=some as→dG (R1 w) as (xs.map a.eval)
 | [],_,as,h=>by
   simp only[args,oI]at h;subst h;trivial
 |x::r,ts,as,h=>by
  simp only[args]at h;split at h
  ·rename_i v hv;split at h
   ·rename_i y ys h1 h2;simp only[oI]at h;subst h;exact⟨arC g (lX g hp hv) h1,UO g hp h2⟩
   ·cases h
  ·cases h
theorem akM{R:V→Value→Prop}{c l:List V}{off k:Nat}{cs:List Value}(h:dG R c cs)(hs:sub c off k=some l):dG R l ((cs.drop off).take k)∧((cs.drop off).take k).length=k:=by
 simp only[sub]at hs;split at hs
 ·rename_i hb;have hb:=Nat.le_of_ble_eq_true hb;simp only[oI]at hs;subst hs;refine⟨(h.drop off).take k,?_⟩;have:=h.len;rw[List.length_take,List.length_drop];omega
 ·cases hs
theorem UP: ∀{c:List V} {i:Nat} {v:V},Ic c i=some v→c[i]? =some v
 |_::_,0,_,h=>by simpa[Ic]using h
 |_::r,i+1,v,h=>by rw[List.getElem?_cons_succ];exact UP (by simpa[Ic]using h)
theorem fH.O6: ∀{Vs:List V} {us:List Value} {fp:List Nat},fH w Vs us fp→(∀b,b∈fp→ ¬Ow hp env b)→dG (RA w hp env) Vs us
 | [],[],_,_,_=>trivial
 |v::Vs,u::us,_,⟨f,q,h1,h2,rfl⟩,h=>by
  refine⟨?_,fH.O6 h2 fun b hb=>h b (aW _ hb)⟩;cases v with
  |lit x=>exact⟨h1.1,h1.2.1⟩
  |sl t l=>exact⟨f,h1,fun b hb=>h b (bl _ hb)⟩
  |_=>exact h1.elim
 | [],_::_,_,h,_=>h.elim
 |_::_,[],_,h,_=>h.elim
theorem akN{t:Tag}{x:T t}{cs:List Value}{fp:List Nat}(hE:rd t w cs x fp)(h: ∀c,c∈fp→ ¬Ow hp env c):dG (RA w hp env) (dec t x) cs:=fH.O6 (reads t hE) h
end
section
variable{v:V}{u:Value}{x:Operand}{n:Int}{t k b off:Nat}{z:List Value}{tg:List (Option Tag)}{ty:Tag→Nat}
def KA(ty:Tag→Nat)(st:St)(a:Act)(w:World)(env:Env)(dst:Option Tmp)(v:SV)(os:Hp):Act→World→Prop:=fun a' w'=>
 ∃u env',a'=a.put dst u∧tX (ty:=ty) w w' st.hp os env env'∧AR w' (os++st.hp) env' a.tmps v u
section
variable{P:Program}{zb:fG}{st:St}{a:Act}{w:World}{env:Env}{Q:Exit→Act→World→Prop}{o:Oper}
theorem O7{v:SV}(hr:(execOp a.eval o).run P w= .ok (.value u) w)(hv:AR w st.hp env a.tmps v u):o.wp P a w (KA ty st a w env o.dst v []) Q:=by
 unfold Oper.wp;rw[hr];exact⟨u,env,rfl,tX.none (Below.refl _ _),hv⟩
theorem iP{x:S1}(hr:(execOp a.eval o).run P w= .ok (.value u) w)(hv:mG w st.hp env x u):o.wp P a w (KA ty st a w env o.dst (.one x) []) Q:=O7 hr hv
theorem KB{n:Nat}{cs:List Value}{c:List V}{e:TypeId}(hr:(execOp a.eval o).run P w= .ok (.value (.pointer (some ⟨w.heap.size,0,none⟩))) (w.alloc (.cells (Array.mk cs) e (0,0))))
  (g:Good ty zb st a.tmps w env)(hf:fresh st.hp [(n, .box c)]=true)(hc:dG (RA w st.hp env) c cs):
  o.wp P a w (KA ty st a w env o.dst (.one (.a (.ptr n 0))) [(n, .box c)]) Q:=by
 unfold Oper.wp;rw[hr];have hlk:look st.hp n=none:=xq hf n (.box c) (by simp[look]);have hn:tX (ty:=ty) w (w.alloc (.cells (Array.mk cs) e (0,0))) st.hp [(n, .box c)] env (fun m=>if m=n then⟨.pointer (some ⟨w.heap.size,0,none⟩),[w.heap.size]⟩else env m):=by
  have Ng:Below w.heap.size w (w.alloc (.cells (Array.mk cs) e (0,0))):=(Below.refl _ _).alloc (aS _) _;have hne: ∀m,look [(n,Obj.box c)] m=none→m≠n:=by
   rintro m hm rfl;simp[look]at hm
  have s:Step (fun _=>True) (fun _=>True) w st.hp env (w.alloc (.cells (Array.mk cs) e (0,0))) ([(n, .box c)]++st.hp) (fun m=>if m=n then⟨.pointer (some ⟨w.heap.size,0,none⟩),[w.heap.size]⟩else env m):=by
   refine⟨fun b hb _=>Ng.block b hb,?_,?_,?_⟩
   ·rintro b hb ⟨m,o',h1,h2⟩;by_cases hm:m=n
    ·simp[hm]at h2;omega
    ·simp[hm]at h2;refine⟨m,o',?_,h2⟩;rw[dD]at h1
     ·exact h1
     ·simp only[look];split
      ·rename_i fu;exact absurd (aG fu) hm
      ·rfl
   ·intro m o' _ h1;have hm:m≠n:=by rintro rfl;rw[hlk]at h1;cases h1
    refine⟨o',?_,by cases o'<;>simp[Obj.like],by simp[hm]⟩;rw[dD]
    ·exact h1
    ·simp only[look];split
     ·rename_i fu;exact absurd (aG fu) hm
     ·rfl
   ·intro m t l _ h1;have hm:m≠n:=by rintro rfl;rw[hlk]at h1;cases h1
    refine⟨?_,by simp[hm],fun b hb=>Ng.block b ((g.obj m _ h1).blk b hb)⟩;rw[dD]
    ·exact h1
    ·simp only[look];split
     ·rename_i fu;exact absurd (aG fu) hm
     ·rfl
  refine⟨Ng,fun m hm=>by simp[hne m hm],?_,?_⟩
  ·intro m o' hl;have hm:m=n:=by
    simp only[look]at hl;split at hl
    ·rename_i fu;exact aG fu
    ·cases hl
   subst hm;simp only[look,Nat.beq_refl,oI]at hl;subst hl;refine⟨⟨w.heap.size,cs,e,by simp,tV rfl,hc.mono fun v u _ h=>RA.step s v.lp h⟩,?_⟩;intro b hb;simp at hb;omega
  ·intro m m' o1 o2 axN h1 h2;have e1:m=n:=by
    simp only[look]at h1;split at h1
    ·rename_i fu;exact aG fu
    ·cases h1
   have e2:m'=n:=by
    simp only[look]at h2;split at h2
    ·rename_i fu;exact aG fu
    ·cases h2
   exact absurd (e1.trans e2.symm) axN
 exact⟨_,_,rfl,hn,⟨c,by simp[look]⟩,w.heap.size,by simp,rfl⟩
theorem axO{k:TK}(h:gO P t k)(h1: ∀z tg fo,k≠ .st z tg fo)(h2:k≠ .other): ∃d,P.underlying t=some d∧d.isRow=false:=by
 cases k with
 |int k=>exact⟨_,h,rfl⟩
 |bool=>exact⟨_,h,rfl⟩
 |str=>exact⟨_,h,rfl⟩
 |sl g e=>exact⟨_,h.1,rfl⟩
 |st z tg fo=>exact absurd rfl (h1 z tg fo)
 |mp=>obtain⟨_,_,h,_⟩:=h;exact⟨_,h,rfl⟩
 |other=>exact absurd rfl h2
theorem Nh{d:TypeDesc}{ad:Addr}(hu:P.underlying t=some d)(hd:d.isRow=false)(hc:w.cell? ad=some u):(loadVar t ad).run P w= .ok u w:=by
 have aF6:(isAgg t).run P w= .ok false w:=by
  unfold isAgg;rw[dS,run_underlying hu w];cases d<;>simp_all
 simp[loadVar,aF6,hc]
theorem yE{k:TK}(ho:o.op= .load t x)(hk:gO P t k)(h1: ∀z tg fo,k≠ .st z tg fo)(h2:k≠ .other){ad:Addr}(hx:a.eval x= .pointer (some ad))(hc:w.cell? ad=some u)(hv:RA w st.hp env v u):
  o.wp P a w (KA ty st a w env o.dst (.one (.a v)) []) Q:=by
 obtain⟨d,hu,hd⟩:=axO hk h1 h2;refine iP ?_ hv;unfold execOp;simp only[ho,hx,XV,qz,dS,eu,cC,Nh hu hd hc]
theorem wp_load_row{fo:List Nat}(ho:o.op= .load t x)(hk:gO P t (.st z tg fo))(hx:a.eval x= .pointer (some ⟨b,off,none⟩)){cs:List Value}(hc:w.rangeAt b off cs)
  (hl:cs.length=z.length){l:List V}(hv:dG (RA w st.hp env) l cs):o.wp P a w (KA ty st a w env o.dst (.one (.agg l)) []) Q:=by
 obtain⟨fs,hu,hi,_⟩:=hk;refine iP (u:= .agg cs.toArray) ?_ ⟨cs,rfl,hv⟩;unfold execOp;have hi':(P.info? t).map (·.size)=some cs.length:=by
  rw[hl];cases hq:P.info? t with
  |none=>simp[hq]at hi
  |some i=>simp[hq]at hi;simp[hi.1]
 simp only[ho,hx,XV,qz,dS,eu,cC,run_loadVar_mid w b off t cs _ hc hu rfl hi']
theorem uT{j:Nat}{cs:List Value}(h:w.rangeAt b off cs):w.rangeAt b (off+j) ((cs.drop j).take k):=by
 intro i v hv;rw[List.getElem?_take]at hv;split at hv
 ·rw[List.getElem?_drop]at hv;rw[Nat.add_assoc];exact h _ _ hv
 ·cases hv
theorem uU{j:Nat}{cs:List Value}(h:w.rangeAt b off cs)(hu:cs[j]? =some u):w.cell? ⟨b,off+j,none⟩=some u:=h j u hu
theorem axP{op:BinOp}{k:IntKind}{x y:Int}{vc:List Prop}{v:Value}(h:bop op k x y=some (vc,v))(hv: ∀q,q∈vc→q){t:TypeId}{X Y:Operand}:
  (do eqGuard op t X Y (.int k x) (.int k y);binOp op t (.int k x) (.int k y):Sem Value).run P w= .ok v w∧v.oneCell'=true:=by
 cases op<;>simp only[bop,oI,pI,reduceCtorEq]at h<;>obtain⟨rfl,rfl⟩:=h<;>
  first
  | (refine⟨?_,rfl⟩;simp[eqGuard,binOp,Op.intArith,Op.intCmp];done)
  | (refine⟨?_,rfl⟩;simp only[eqGuard,binOp,ne_eq,not_true_eq_false,ite_false,Op.intBits];rfl)
  | (have hy:y≠0:=hv _ fI
     refine⟨?_,rfl⟩;simp[eqGuard,binOp,Op.intDiv,hy])
theorem XW{fo:List Nat}(hk:gO P t (.st z tg fo)){f:Nat}(hf:yw fo f=some k)(b off:Nat):
  (UQ t (.pointer (some ⟨b,off,none⟩)) f).run P w= .ok (.pointer (some ⟨b,off+k,none⟩)) w:=by
 obtain⟨fs,hu,_,_,hfo,_⟩:=hk;obtain⟨fd,h1,h2,i,h3,h4⟩:=hfo f k hf;simp[UQ,run_underlying hu,h1,qz,fieldPlace,sizeOf,typeInfo,h3,h4,h2,Addr.add_mid]
theorem wM{fo:List Nat}{f:Nat}(ho:o.op= .fieldAddr t x f)(hk:gO P t (.st z tg fo))(hf:yw fo f=some k)(hx:a.eval x= .pointer (some ⟨b,off,none⟩))
  (hv:RA w st.hp env v (.pointer (some ⟨b,off+k,none⟩))):o.wp P a w (KA ty st a w env o.dst (.one (.a v)) []) Q:=by
 refine iP ?_ hv;unfold execOp;simp only[ho,hx,dS,XW hk hf b off,cC,eu]
theorem XX{g:Tag}{e:Nat}(hk:gO P t (.sl g e)){len cap:Nat}{ik:IntKind}{i:Int}(h0:0≤i)(h1:i<len):
  (UR t (.slice (some ⟨b,off,none⟩) len cap) (.int ik i)).run P w= .ok (.pointer (some ⟨b,off+i.toNat*kk g,none⟩)) w:=by
 obtain⟨hu,hs⟩:=hk;cases hq:P.info? e with
 |none=>simp[hq]at hs
 |some inf=>
  have hsz:inf.size=kk g:=by simpa[hq]using hs
  simp[UR,asIntOf,run_underlying hu,h0,h1,sizeOf,typeInfo,hq,hsz,Addr.add_mid]
theorem AS{i:Operand}{g:Tag}{e:Nat}(ho:o.op= .indexAddr t x i)(hk:gO P t (.sl g e)){len cap:Nat}{ik:IntKind}(hx:a.eval x= .slice (some ⟨b,off,none⟩) len cap)(hi:a.eval i= .int ik n)(h0:0≤n)(h1:n<len)
  (hv:RA w st.hp env v (.pointer (some ⟨b,off+n.toNat*kk g,none⟩))):o.wp P a w (KA ty st a w env o.dst (.one (.a v)) []) Q:=by
 refine iP ?_ hv;unfold execOp;simp only[ho,hx,hi,dS,XX hk h0 h1,cC,eu]
theorem arD{t:Tag}{l:List (T t)}(h:RA w st.hp env (.sl t l) u)(h0:0≤n)(h1:n<l.length):
  ∃b off len cap,u= .slice (some ⟨b,off,none⟩) len cap∧n<len∧RA w st.hp env (.ip t (l.getD n.toNat (aO t)) 0) (.pointer (some ⟨b,off+n.toNat*kk t,none⟩)):=by
 obtain⟨fp,⟨oa,cap,rfl,hc,hm,h3⟩,hd⟩:=h;have hn:n.toNat<l.length:=by omega
 rcases h3 with⟨rfl,_⟩| ⟨b,off,eS,rfl,hb,rfl,he⟩
 ·simp at hn
 ·have hx:l[n.toNat]? =some (l.getD n.toNat (aO t)):=by rw[List.getD_eq_getElem?_getD,List.getElem?_eq_getElem hn];rfl
  obtain⟨f,hf⟩:=mQ he.1 hx;obtain⟨cs,hr,hE⟩:=he.2 _ _ f hx hf;exact⟨b,off,l.length,cap,rfl,h1,b,off+n.toNat*kk t,cs,f,rfl,hb.lt,hr,hE,hd b fI,fun c hc=>hd c (List.mem_cons_of_mem _ (gB hf hc))⟩
theorem O8{ts:Array TypeId}(ht:ts= #[t])(ho:o.op= .call ⟨.builtin .len,#[x],ts⟩){d:TypeDesc}(hu:P.underlying t=some d)(hx:a.eval x=u)
  (hn:(∃e oa c m,d= .slice e∧u= .slice oa m c∧n=(m:Int))∨(∃s:ByteArray,d= .string∧u= .string s∧n=(s.size:Int))):
  o.wp P a w (KA ty st a w env o.dst (.one (.a (.lit (.int .i64 n)))) []) Q:=by
 refine iP (u:= .int .i64 n) ?_ ⟨rfl,rfl⟩;subst ht;unfold execOp;rcases hn with⟨e,oa,c,m,rfl,rfl,rfl⟩| ⟨s,rfl,rfl,rfl⟩
 ·simp[ho,resolve,invoke,builtin,Builtin.len_,hx,run_underlying hu,goInt]
 ·simp[ho,resolve,invoke,builtin,Builtin.len_,hx,run_underlying hu,goInt]
end
end
section
variable{α:Type}{hp:Hp}{lo:Nat}{x:S1}{ty:Tag→Nat}
def pair:Hp→List CO→List (Nat×CO)
 | (n,_)::r,c::cs=>(n,c)::pair r cs
 |_,_=> []
theorem cR{j n:Nat}{x:α}{r:List (Nat×α)}(h:n≠j):look ((j,x)::r) n=look r n:=by
 simp only[look];split
 ·rename_i hb;exact absurd (aG hb) h
 ·rfl
theorem look_eq{j:Nat}{x:α}{r:List (Nat×α)}:look ((j,x)::r) j=some x:=by simp[look]
theorem XZ{R:Nat×Obj→CO→Prop}: ∀{os:Hp} {ce:List CO},tW os=true→dG R os ce→dG (fun e co=>look os e.1=some e.2∧look (pair os ce) e.1=some co) os ce
 | [],[],_,_=>trivial
 | (n,o)::r,c::cs,hn,⟨_,h2⟩=>by
   simp only[tW,an]at hn;refine⟨⟨look_eq,look_eq⟩,(XZ hn.2 h2).mono ?_⟩;rintro⟨m,o'⟩ co _ ⟨h3,h4⟩;have hne:m≠n:=by
    rintro rfl;have h3':look r m=some o':=h3;simp[h3']at hn
   exact⟨by rw[cR hne];exact h3,by show look (pair ((n,o)::r) (c::cs)) m=some co;rw[pair,cR hne];exact h4⟩
 | [],_::_,_,h=>h.elim
 |_::_,[],_,h=>h.elim
theorem E4{R:Nat×Obj→CO→Prop}: ∀{os:Hp} {ce:List CO} {n:Nat} {o:Obj},dG R os ce→look os n=some o→ ∃co,look (pair os ce) n=some co∧R (n,o) co
 | (m,o')::r,c::cs,n,o,⟨h1,h2⟩,hl=>by
   by_cases h:n=m
   ·subst h;rw[look_eq]at hl;simp only[oI]at hl;subst hl;exact⟨c,look_eq,h1⟩
   ·rw[cR h]at hl;obtain⟨co,h3,h4⟩:=E4 h2 hl;exact⟨co,by rw[pair,cR h];exact h3,h4⟩
 | [],[],_,_,_,hl=>by simp[look]at hl
 | [],_::_,_,_,h,_=>h.elim
 |_::_,[],_,_,h,_=>h.elim
theorem O9: ∀{os:Hp} {ce:List CO} {n:Nat} {co:CO},look (pair os ce) n=some co→ ∀b,b∈co.fp→b∈ce.flatMap CO.fp
 | (m,o')::r,c::cs,n,co,hl,b,hb=>by
   rw[fP];by_cases h:n=m
   ·subst h;rw[pair,look_eq]at hl;simp only[oI]at hl;subst hl;exact bl _ hb
   ·rw[pair,cR h]at hl;exact aW _ (O9 hl b hb)
 | [],[],_,_,hl,_,_=>by simp[pair,look]at hl
 | [],_::_,_,_,hl,_,_=>by simp[pair,look]at hl
 |_::_,[],_,_,hl,_,_=>by simp[pair,look]at hl
theorem X0: ∀{os:Hp} {ce:List CO} {n n':Nat} {co co':CO},(ce.flatMap CO.fp).Nodup→n≠n'→look (pair os ce) n=some co→look (pair os ce) n'=some co'→ ∀b,b∈co.fp→b∉co'.fp
 | (m,o')::r,c::cs,n,n',co,co',hnd,hne,h1,h2,b,hb,hb'=>by
   rw[fP]at hnd;obtain⟨_,hn2,hn3⟩:=List.nodup_append.1 hnd;by_cases h:n=m
   ·subst h;rw[pair,look_eq]at h1;simp only[oI]at h1;subst h1;rw[pair,cR (Ne.symm hne)]at h2;exact hn3 b hb b (O9 h2 b hb') rfl
   ·rw[pair,cR h]at h1;by_cases h':n'=m
    ·subst h';rw[pair,look_eq]at h2;simp only[oI]at h2;subst h2;exact hn3 b hb' b (O9 h1 b hb) rfl
    ·rw[pair,cR h']at h2;exact X0 hn2 hne h1 h2 b hb hb'
 | [],[],_,_,_,_,_,_,hl,_,_,_,_=>by simp[pair,look]at hl
 | [],_::_,_,_,_,_,_,_,hl,_,_,_,_=>by simp[pair,look]at hl
 |_::_,[],_,_,_,_,_,_,hl,_,_,_,_=>by simp[pair,look]at hl
theorem tX.list{w w':World}{os:Hp}{env:Env}{ce:List CO}(hb:Below w.heap.size w w')(hn:tW os=true)
  (h:dG (fun e co=>(∀hp' env',RO ty w' hp' env' e.1 e.2 co)∧ ∀b,b∈co.fp→w.heap.size≤b) os ce)(hnd:(ce.flatMap CO.fp).Nodup):
  ∃env',tX (ty:=ty) w w' hp os env env'∧dG (fun e co=>look os e.1=some e.2∧env' e.1=co) os ce:=by
 refine⟨fun n=>match look (pair os ce) n with|some co=>co|_=>env n,⟨hb,?_,?_,?_⟩,?_⟩
 ·intro n hl;cases hq:look (pair os ce) n with
  |none=>simp[hq]
  |some co=>
   exfalso;clear hn hnd;induction os generalizing ce with
   |nil=>cases ce<;>simp[pair,look]at hq
   |cons e r ih=>
    cases ce with
    |nil=>simp[pair,look]at hq
    |cons c cs=>
     obtain⟨m,o⟩:=e;by_cases hm:n=m
     ·subst hm;rw[look_eq]at hl;cases hl
     ·rw[cR hm]at hl;rw[pair,cR hm]at hq;exact ih h.2 hl hq
 ·intro n o hl;obtain⟨co,h1,h2⟩:=E4 h hl;simp only[h1];exact⟨h2.1 _ _,h2.2⟩
 ·intro n m o o' hne h1 h2;obtain⟨co,h3,_⟩:=E4 h h1;obtain⟨co',h5,_⟩:=E4 h h2;simp only[h3,h5];exact X0 hnd hne h3 h5
 ·exact(XZ hn h).mono fun e co _ hh=>⟨hh.1,by simp[hh.2]⟩
theorem Pc{w:World}{lo:Nat}: ∀{l:List V} {cs:List Value} {fp:List Nat} (m:Nat),RBs ty w lo l cs fp→ ∃ce:List CO,
  dG (fun e co=>(∀hp env,RO ty w hp env e.1 e.2 co)∧ ∀b,b∈co.fp→lo≤b) (yC m l).2 ce∧ce.flatMap CO.fp=fp∧(∀e,e∈(yC m l).2→ ∃t l,e.2= .arr t l)∧
  ∀hp env,dG (fun e co=>look hp e.1=some e.2∧env e.1=co) (yC m l).2 ce→dG (RA w hp env) (yC m l).1 cs
 | [],[],fp,m,h=>⟨[],trivial,h.symm,by simp[yC],fun _ _ _=>trivial⟩
 |v::r,u::us,fp,m,⟨f,g,h1,h2,e⟩=>by
  obtain⟨ce,k1,k2,k3,k4⟩:=Pc (m+1) h2;cases v with
  |lit x=>
   refine⟨ce,k1,by rw[k2,e,h1.2.2];rfl,k3,fun hp env hh=>⟨⟨h1.1,h1.2.1⟩,k4 hp env hh⟩⟩
  |sl t l=>
   refine⟨⟨u,f⟩::ce,⟨⟨fun _ _=>RO.S7 (qN.mono h1 (aY _)),(qN.own h1).ge⟩,k1⟩,by rw[fP,k2,e],?_,?_⟩
   ·intro e' he;rcases bh.1 he with rfl|he
    ·exact⟨t,l,rfl⟩
    ·exact k3 e' he
   ·rintro hp env ⟨⟨q1,q2⟩,hh⟩;exact⟨⟨⟨t,l,q1⟩,by rw[q2]⟩,k4 hp env hh⟩
  |vw _ _ t l=>
   have hge: ∀b,b∈f→lo≤b:=h1.2.ge;have hsf:=akH m;simp only[yC];generalize m+900=m9 at hsf ⊢;have hro: ∀hp env,RO ty w hp env m9 (.arr t l) ⟨u,f⟩:=fun _ _=>RO.akG hsf h1.1 (h1.2.mono (aY _));refine⟨⟨u,f⟩::ce,⟨⟨hro,hge⟩,k1⟩,by rw[fP,k2,e],?_,?_⟩
   ·intro e' he;rcases bh.1 he with rfl|he
    ·exact⟨t,l,rfl⟩
    ·exact k3 e' he
   ·rintro hp env ⟨⟨q1,q2⟩,hh⟩;exact⟨⟨⟨t,l,q1⟩,by rw[q2]⟩,k4 hp env hh⟩
  |_=>exact h1.elim
 | [],_::_,_,_,h=>h.elim
 |_::_,[],_,_,h=>h.elim
theorem S8: ∀{l:List V} (m:Nat),(yC m l).1.length=l.length
 | [],_=>rfl
 |v::r,m=>by
  have:=S8 (l:=r) (m+1);cases v<;>simp[yC,this]
theorem S9{w:World}{u:Value}{fp:List Nat}(m:Nat)(h:RB1 ty w lo x u fp): ∃ce:List CO,
  dG (fun e co=>(∀hp env,RO ty w hp env e.1 e.2 co)∧ ∀b,b∈co.fp→lo≤b) (C9 m x).2 ce∧ce.flatMap CO.fp=fp∧(∀e,e∈(C9 m x).2→ ∃t l,e.2= .arr t l)∧
  ∀hp env,dG (fun e co=>look hp e.1=some e.2∧env e.1=co) (C9 m x).2 ce→mG w hp env (C9 m x).1 u:=by
 cases x with
 |a v=>
  obtain⟨ce,k1,k2,k3,k4⟩:=Pc m (show RBs ty w lo [v] [u] fp from h);have hl:=S8 (l:= [v]) m;simp only[C9];generalize yC m [v]=q at*;obtain⟨vs,os⟩:=q;match vs,hl with
  | [v'],_=>exact⟨ce,k1,k2,k3,fun hp env hh=>(k4 hp env hh).1⟩
 |agg l=>
  obtain⟨cs,rfl,hh⟩:=h;obtain⟨ce,k1,k2,k3,k4⟩:=Pc m hh;exact⟨ce,k1,k2,k3,fun hp env hh=>⟨cs,rfl,k4 hp env hh⟩⟩
theorem dG.akO{β:Type}{R:α→β→Prop}: ∀{as as':List α} {bs bs':List β},as.length=bs.length→dG R (as++as') (bs++bs')→dG R as bs∧dG R as' bs'
 | [],_,[],_,_,h=>⟨trivial,h⟩
 |_::_,_,_::_,_,hl,⟨h1,h⟩=>⟨⟨h1,(dG.akO ag8 h).1⟩,(dG.akO ag8 h).2⟩
 | [],_,_::_,_,hl,_=>by simp at hl
 |_::_,_,[],_,hl,_=>by simp at hl
theorem Ta{w:World}{lo:Nat}: ∀{l:List S1} {us:List Value} {fp:List Nat} (m:Nat),RBl ty w lo l us fp→ ∃ce:List CO,
  dG (fun e co=>(∀hp env,RO ty w hp env e.1 e.2 co)∧ ∀b,b∈co.fp→lo≤b) (AQ m l).2 ce∧ce.flatMap CO.fp=fp∧(∀e,e∈(AQ m l).2→ ∃t l,e.2= .arr t l)∧
  ∀hp env,dG (fun e co=>look hp e.1=some e.2∧env e.1=co) (AQ m l).2 ce→dG (mG w hp env) (AQ m l).1 us
 | [],[],fp,m,h=>⟨[],trivial,h.symm,by simp[AQ],fun _ _ _=>trivial⟩
 |x::r,u::us,fp,m,⟨f,g,h1,h2,e⟩=>by
  obtain⟨c1,k1,k2,k3,k4⟩:=S9 m h1;obtain⟨c2,q1,q2,q3,q4⟩:=Ta (m+20) h2;refine⟨c1++c2,dG.app k1 q1,by rw[List.flatMap_append,k2,q2,e],?_,?_⟩
  ·intro e' he;rcases List.mem_append.1 he with he|he
   ·exact k3 e' he
   ·exact q3 e' he
  ·intro hp env hh;obtain⟨a1,a2⟩:=dG.akO (by have:=k1.len;exact this.symm) hh;exact⟨k4 hp env a1,q4 hp env a2⟩
 | [],_::_,_,_,h=>h.elim
 |_::_,[],_,_,h=>h.elim
theorem RBs.O6{w:World}{env:Env}: ∀{Vs:List V} {us:List Value} {fp:List Nat},RBs ty w lo Vs us fp→(∀b,b∈fp→ ¬Ow hp env b)→dG (RA w hp env) (Vs.map V.Ky) us
 | [],[],_,_,_=>trivial
 |v::Vs,u::us,_,⟨f,q,h1,h2,rfl⟩,h=>by
  refine⟨?_,RBs.O6 h2 fun b hb=>h b (aW _ hb)⟩;cases v with
  |lit x=>exact⟨h1.1,h1.2.1⟩
  |sl t l=>exact⟨f,qN.sl h1,fun b hb=>h b (bl _ hb)⟩
  |vw _ _ t l=>exact⟨f,h1.1,fun b hb=>h b (bl _ hb)⟩
  |_=>exact h1.elim
 | [],_::_,_,h,_=>h.elim
 |_::_,[],_,h,_=>h.elim
theorem RB1.rs1{w:World}{env:Env}{u:Value}{fp:List Nat}(h:RB1 ty w lo x u fp)(hd: ∀b,b∈fp→ ¬Ow hp env b):mG w hp env x.Ky u:=by
 cases x with
 |a v=>exact(RBs.O6 (show RBs ty w lo [v] [u] fp from h) hd).1
 |agg l=>obtain⟨cs,rfl,hh⟩:=h;exact⟨cs,rfl,hh.O6 hd⟩
theorem RBl.O6{w:World}{env:Env}: ∀{Vs:List S1} {us:List Value} {fp:List Nat},RBl ty w lo Vs us fp→(∀b,b∈fp→ ¬Ow hp env b)→dG (mG w hp env) (Vs.map S1.Ky) us
 | [],[],_,_,_=>trivial
 |v::Vs,u::us,_,⟨f,q,h1,h2,rfl⟩,h=>⟨h1.rs1 fun b hb=>h b (bl _ hb),RBl.O6 h2 fun b hb=>h b (aW _ hb)⟩
 | [],_::_,_,h,_=>h.elim
 |_::_,[],_,h,_=>h.elim
theorem V.Ij{v:V}(h:v.axH=false):v.Ky=v:=by
 cases v<;>first|rfl|cases h
theorem S1.Ij(h:x.XQ=true):x.Ky=x:=by
 cases x with
 |a v=>simp only[S1.XQ,bO]at h;rw[S1.Ky,V.Ij h]
 |agg l=>
  simp only[S1.XQ,bE,bO]at h;rw[S1.Ky];congr 1;exact(gD fun v hv=>V.Ij (h v hv)).trans (Mq l)
theorem akP{l:List S1}(h:l.all S1.XQ=true):l.map S1.Ky=l:=by
 rw[bE]at h;exact(gD fun v hv=>S1.Ij (h v hv)).trans (Mq l)
section
variable{P:Program}{zb:fG}{st:St}{a:Act}{w:World}{env:Env}{Q:Exit→Act→World→Prop}{o:Oper}
theorem ad3{f:FuncId}{x0:Operand}{xs:Array Operand}{ts:Array TypeId}(ho:o.op= .call ⟨.value x0,xs,ts⟩)(h0:a.eval x0= .func (.func f) #[] #[]){as rs:List S1}(hS:Sound ty P f as rs)(hA:Nc w)(g:Good ty zb st a.tmps w env)(ha:dG (R1 w) as (xs.toList.map a.eval))
  {own:Bool}{m:Nat}{vc:List Prop}{out:Out}(hout:outs m ⟨own,rs⟩ vc=out)(hn:tW out.o=true):
  o.wp P a w (KA ty st a w env o.dst out.v out.o) Q:=by
 have hrun:(execOp a.eval o).run P w= .ok (.enter f (xs.map a.eval)) w:=by
  unfold execOp;simp[ho,resolve,invoke,Deferred.ofValue,h0,hS.1]
 unfold Oper.wp;rw[hrun];simp only[Oper.upon];have hx:xs.map a.eval=(xs.toList.map a.eval).toArray:=by rw[←List.map_toArray]
 rw[hx];refine(hS.2 w _ hA ha).mono ?_;rintro e w' ⟨u,fp,rfl,hb,hown,hr⟩;have hfr: ∀b,b∈fp→ ¬Ow st.hp env b:=fun b hb' ho'=>by have:=(g.ow ho').2;have:=hown.ge b hb';omega
 cases own with
 |false=>
  simp only[outs]at hout;match rs,hr with
  | [r],hr=>
    have h1:=RB1.rs1 (hp:=st.hp) (env:=env) hr hfr;cases hq:r.XQ with
    |true=>
     simp only[hq]at hout;subst hout;rw[S1.Ij hq]at h1;exact⟨u,env,rfl,tX.none hb,h1⟩
    |false=>
     simp only[hq]at hout;subst hout;exact⟨u,env,rfl,tX.none hb,h1⟩
  | [],⟨us,hu,hr⟩=>subst hout;exact⟨u,env,rfl,tX.none hb,us,hu,RBl.O6 hr hfr⟩
  |r::r'::rr,⟨us,hu,hr⟩=>
   have h1:=RBl.O6 (hp:=st.hp) (env:=env) hr hfr;cases hq:(r::r'::rr).all S1.XQ with
   |true=>
    simp only[hq]at hout;subst hout;rw[akP hq]at h1;exact⟨u,env,rfl,tX.none hb,us,hu,h1⟩
   |false=>
    simp only[hq]at hout;subst hout;exact⟨u,env,rfl,tX.none hb,us,hu,h1⟩
 |true=>
  match rs,hr with
  | [r],hr=>
    obtain⟨ce,k1,k2,k3,k4⟩:=S9 m (show RB1 ty w' w.heap.size r u fp from hr);have:out=⟨vc, .one (C9 m r).1,(C9 m r).2++ []⟩:=by rw[←hout];rfl
    rw[List.append_nil]at this;subst this;obtain⟨env',hN,hl⟩:=tX.list (ty:=ty) (hp:=st.hp) (env:=env) hb hn k1 (by rw[k2];exact hown.nodup);exact⟨u,env',rfl,hN,k4 _ _ (hl.mono fun e co _ hh=>⟨gm hh.1,hh.2⟩)⟩
  | [],⟨us,hu,hr⟩=>
    subst hout;cases us with
    |nil=>exact⟨u,env,rfl,tX.none hb,[],hu,trivial⟩
    |cons _ _=>exact hr.elim
  |r::r'::rr,⟨us,hu,hr⟩=>
   obtain⟨ce,k1,k2,k3,k4⟩:=Ta m (show RBl ty w' w.heap.size (r::r'::rr) us fp from hr);have:out=⟨vc, .Gf (AQ m (r::r'::rr)).1,(AQ m (r::r'::rr)).2⟩:=by rw[←hout];rfl
   subst this;obtain⟨env',hN,hl⟩:=tX.list (ty:=ty) (hp:=st.hp) (env:=env) hb hn k1 (by rw[k2];exact hown.nodup);exact⟨u,env',rfl,hN,us,hu,k4 _ _ (hl.mono fun e co _ hh=>⟨gm hh.1,hh.2⟩)⟩
end
end
end Go.Proofs.YtaalpcnbbldlaaaGreatDoor.G
