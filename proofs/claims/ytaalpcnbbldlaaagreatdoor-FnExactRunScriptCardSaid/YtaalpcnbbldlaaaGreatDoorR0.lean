/-
  The data of the program: structures, and how cells read as them.
-/
import Derived.Deep.MidRow
import Derived.Deep.Slices
import Derived.Lib.Hide
import Derived.WalkKit
import Derived.WalkLawsBesides
import Derived.WalkSpells
namespace Go.Proofs.YtaalpcnbbldlaaaGreatDoor.L
set_option linter.all false
open Go.RowKit
section
theorem oI.{u}{α:Type u}(a b:α):(some a=some b)=(a=b):=Option.some.injEq a b
theorem pI.{u,v}{α:Type u}{β:Type v}(a:α)(b:β)(c:α)(d:β):((a,b)=(c,d))=(a=c∧b=d):=Prod.mk.injEq a b c d
abbrev ER(α:Type):=World→List Value→α→List Nat→Prop
def Agree(w w':World)(fp:List Nat):Prop:= ∀b,b∈fp→w'.heap[b]? =w.heap[b]?
theorem Agree.cell{w w':World}{fp:List Nat}(h:Agree w w' fp){b:Nat}(hb:b∈fp)(o:Nat):w'.cell? ⟨b,o,none⟩=w.cell? ⟨b,o,none⟩:=
 World.cell?_of_block (w:=w) (a:=⟨b,o,none⟩) (h b hb)
theorem Agree.range{w w':World}{fp:List Nat}(h:Agree w w' fp){b:Nat}(hb:b∈fp){o:Nat}{cs:List Value}(hr:w.rangeAt b o cs):w'.rangeAt b o cs:=
 fun j v hv=>by rw[h.cell hb];exact hr j v hv
theorem Agree.sub{w w':World}{fp gC:List Nat}(h:Agree w w' fp)(hs: ∀b,b∈gC→b∈fp):Agree w w' gC:=fun b hb=>h b (hs b hb)
theorem Agree.trans{a b c:World}{fp:List Nat}(h:Agree a b fp)(k:Agree b c fp):Agree a c fp:=fun x hx=>(k x hx).trans (h x hx)
theorem Agree.refl(w:World)(fp:List Nat):Agree w w fp:=fun _ _=>rfl
theorem lq{B:Nat}{w w':World}{fp:List Nat}(hb:Below B w w')(hf: ∀b,b∈fp→b<B):Agree w w' fp:=fun b h=>hb.block b (hf b h)
structure fN{α:Type}(k:Nat)(E:ER α):Prop where
 agree: ∀{w w':World} {cs x fp},E w cs x fp→Agree w w' fp→E w' cs x fp
 lt: ∀{w:World} {cs x fp},E w cs x fp→ ∀b,b∈fp→b<w.heap.size
 len: ∀{w:World} {cs x fp},E w cs x fp→cs.length=k
 one: ∀{w:World} {cs x fp},E w cs x fp→ ∀u,u∈cs→u.oneCell'=true
def rB{α:Type}(k:Nat)(E:ER α)(w:World)(b off:Nat)(l:List α)(bX:List (List Nat)):Prop:=
 bX.length=l.length∧ ∀i x f,l[i]? =some x→bX[i]? =some f→ ∃cs,w.rangeAt b (off+i*k) cs∧E w cs x f
def Fit(w:World)(b m:Nat):Prop:= ∃c e fz,w.heap[b]? =some (.cells c e fz)∧m≤c.size
theorem Fit.lt{w:World}{b m:Nat}(h:Fit w b m):b<w.heap.size:=by
 obtain⟨c,e,fz,hc,_⟩:=h;exact(Array.getElem?_eq_some_iff.1 hc).1
theorem Fit.agree{w w':World}{b m:Nat}(h:Fit w b m)(ha:w'.heap[b]? =w.heap[b]?):Fit w' b m:=by
 obtain⟨c,e,fz,hc,hm⟩:=h;exact⟨c,e,fz,by rw[ha];exact hc,hm⟩
theorem Fit.mono{w:World}{b m m':Nat}(h:Fit w b m)(hm:m'≤m):Fit w b m':=by
 obtain⟨c,e,fz,hc,h1⟩:=h;exact⟨c,e,fz,hc,Nat.le_trans hm h1⟩
def Sl{α:Type}(k:Nat)(E:ER α)(w:World)(v:Value)(l:List α)(fp:List Nat):Prop:=
 ∃oa cap,v= .slice oa l.length cap∧l.length≤cap∧cap≤maxLen∧
  ((l= []∧fp= []∧cap=0)∨ ∃b off bX,oa=some ⟨b,off,none⟩∧Fit w b (off+cap*k)∧fp=b::bX.flatten∧rB k E w b off l bX)
def ESl{α:Type}(k:Nat)(E:ER α):ER (List α):=fun w cs l fp=> ∃v,cs= [v]∧Sl k E w v l fp
def Q0:ER Int:=fun _ cs n fp=>cs= [.int .i64 n]∧fp= []
def NB:ER UInt8:=fun _ cs n fp=>cs= [.int .u8 n.toNat]∧fp= []
def Q1:ER (List UInt8):=fun _ cs s fp=>cs= [.string ⟨s.toArray⟩]∧s.length≤maxLen∧fp= []
theorem sV:fN 1 Q0:=⟨fun h _=>h,by rintro w cs x fp ⟨rfl,rfl⟩ b hb;simp at hb,by rintro w cs x fp ⟨rfl,rfl⟩;rfl,by rintro w cs x fp ⟨rfl,rfl⟩ u hu;simp at hu;subst hu;rfl⟩
theorem hY:fN 1 NB:=⟨fun h _=>h,by rintro w cs x fp ⟨rfl,rfl⟩ b hb;simp at hb,by rintro w cs x fp ⟨rfl,rfl⟩;rfl,by rintro w cs x fp ⟨rfl,rfl⟩ u hu;simp at hu;subst hu;rfl⟩
theorem Q2:fN 1 Q1:=⟨fun h _=>h,by rintro w cs x fp ⟨rfl,_,rfl⟩ b hb;simp at hb,by rintro w cs x fp ⟨rfl,_,rfl⟩;rfl,by rintro w cs x fp ⟨rfl,_,rfl⟩ u hu;simp at hu;subst hu;rfl⟩
theorem cI{l:List (List Nat)}{i:Nat}{f:List Nat}(h:l[i]? =some f){b:Nat}(hb:b∈f):b∈l.flatten:=
 List.mem_flatten.2 ⟨f,List.mem_of_getElem? h,hb⟩
theorem fG{α:Type}{l:List α}{bX:List (List Nat)}(h:bX.length=l.length){i:Nat}{x:α}(hx:l[i]? =some x): ∃f,bX[i]? =some f:=by
 have:i<l.length:=(List.getElem?_eq_some_iff.1 hx).1;exact⟨bX[i],List.getElem?_eq_getElem (by omega)⟩
section
variable{α:Type}{k:Nat}{E:ER α}(G:fN k E)
include G
theorem rB.agree{w w':World}{b off:Nat}{l:List α}{bX:List (List Nat)}(h:rB k E w b off l bX)(hb:w'.heap[b]? =w.heap[b]?)(ha:Agree w w' bX.flatten):rB k E w' b off l bX:=by
 refine⟨h.1,fun i x f hx hf=> ?_⟩;obtain⟨cs,hr,he⟩:=h.2 i x f hx hf;refine⟨cs,fun j v hv=> ?_,G.agree he (ha.sub fun _ hm=>cI hf hm)⟩;rw[World.cell?_of_block (w:=w) (a:=⟨b,_,none⟩) hb];exact hr j v hv
theorem Sl.agree{w w':World}{v:Value}{l:List α}{fp:List Nat}(h:Sl k E w v l fp)(ha:Agree w w' fp):Sl k E w' v l fp:=by
 obtain⟨oa,cap,rfl,h1,h2,h3⟩:=h;refine⟨oa,cap,rfl,h1,h2,?_⟩;rcases h3 with h3| ⟨b,off,bX,rfl,hb,rfl,he⟩
 ·exact Or.inl h3
 ·have hbk:=ha b (by simp);exact Or.inr ⟨b,off,bX,rfl,hb.agree hbk,rfl,rB.agree G he hbk (ha.sub (fun _ hm=>List.mem_cons_of_mem _ hm))⟩
theorem Sl.lt{w:World}{v:Value}{l:List α}{fp:List Nat}(h:Sl k E w v l fp): ∀b,b∈fp→b<w.heap.size:=by
 obtain⟨oa,cap,rfl,h1,h2,h3⟩:=h;rcases h3 with⟨_,rfl,_⟩| ⟨b,off,bX,rfl,hb,rfl,he⟩
 ·simp
 ·intro c hc;rcases List.mem_cons.1 hc with rfl|hc
  ·exact hb.lt
  ·obtain⟨f,hf,hcf⟩:=List.mem_flatten.1 hc;obtain⟨i,hi⟩:=List.getElem?_of_mem hf;have hil:i<l.length:=by have:=(List.getElem?_eq_some_iff.1 hi).1;have:=he.1;omega
   obtain⟨cs,_,hE⟩:=he.2 i l[i] f (List.getElem?_eq_getElem hil) hi;exact G.lt hE c hcf
theorem qh:fN 1 (ESl k E):=
 ⟨by rintro w w' cs x fp ⟨v,rfl,h⟩ ha;exact⟨v,rfl,Sl.agree G h ha⟩,by rintro w cs x fp ⟨v,rfl,h⟩;exact Sl.lt G h,
  by rintro w cs x fp ⟨v,rfl,h⟩;rfl,by rintro w cs x fp ⟨v,rfl,oa,cap,rfl,h⟩ u hu;simp at hu;subst hu;rfl⟩
theorem Sl.below{w w':World}{v:Value}{l:List α}{fp:List Nat}(h:Sl k E w v l fp)(hb:Below w.heap.size w w'):Sl k E w' v l fp:=Sl.agree G h (lq hb (Sl.lt G h))
end
theorem Sl.at{α:Type}{k:Nat}{E:ER α}{w:World}{oa:Option Addr}{n cap:Nat}{l:List α}{fp:List Nat}(h:Sl k E w (.slice oa n cap) l fp){i:Nat}{x:α}(hx:l[i]? =some x):
  ∃b off f cs,oa=some ⟨b,off,none⟩∧w.rangeAt b (off+i*k) cs∧E w cs x f∧(∀y,y∈f→y∈fp):=by
 obtain⟨XQ,cap',hv,h1,h2,h3⟩:=h;simp only[Value.slice.injEq]at hv;obtain⟨rfl,_,rfl⟩:=hv;rcases h3 with⟨rfl,_⟩| ⟨b,off,bX,rfl,hb,rfl,he⟩
 ·simp at hx
 ·obtain⟨f,hf⟩:=fG he.1 hx;obtain⟨cs,hr,hE⟩:=he.2 i x f hx hf;exact⟨b,off,f,cs,rfl,hr,hE,fun y hy=>List.mem_cons_of_mem _ (cI hf hy)⟩
structure Own(lo:Nat)(w:World)(fp:List Nat):Prop where
 nodup:fp.Nodup
 ge: ∀b,b∈fp→lo≤b
 kind: ∀b,b∈fp→ ∃c e,w.heap[b]? =some (.cells c e (0,0))
theorem Own.agree{lo:Nat}{w w':World}{fp:List Nat}(h:Own lo w fp)(ha:Agree w w' fp):Own lo w' fp:=⟨h.nodup,h.ge,fun b hb=>by rw[ha b hb];exact h.kind b hb⟩
theorem Own.lt{lo:Nat}{w:World}{fp:List Nat}(h:Own lo w fp): ∀b,b∈fp→b<w.heap.size:=fun b hb=>by
 obtain⟨c,e,hk⟩:=h.kind b hb;exact(Array.getElem?_eq_some_iff.1 hk).1
theorem Own.nil(lo:Nat)(w:World):Own lo w []:=⟨List.nodup_nil,by simp,by simp⟩
theorem Own.mono{lo lo':Nat}{w:World}{fp:List Nat}(h:Own lo w fp)(hl:lo'≤lo):Own lo' w fp:=⟨h.nodup,fun b hb=>Nat.le_trans hl (h.ge b hb),h.kind⟩
theorem Own.below{lo:Nat}{w w':World}{fp:List Nat}(h:Own lo w fp)(hb:Below w.heap.size w w'):Own lo w' fp:=h.agree (lq hb h.lt)
theorem Co{α:Type}{k:Nat}{E:ER α}{w:World}{b o:Nat}{l:List α}{xs:List Value}{bX:List (List Nat)}(hf:bX.length=l.length)
  (hx: ∀j u,xs[j]? =some u→w.cell? ⟨b,o+j,none⟩=some u)(h: ∀i x f,l[i]? =some x→bX[i]? =some f→E w ((xs.drop (i*k)).take k) x f):rB k E w b o l bX:=by
 refine⟨hf,fun i x f hi hfi=>⟨_,fun j v hv=> ?_,h i x f hi hfi⟩⟩;rw[Nat.add_assoc];refine hx _ _ ?_;rw[List.getElem?_take,]at hv;split at hv
 ·rw[List.getElem?_drop]at hv;exact hv
 ·simp at hv
theorem He{α:Type}{k:Nat}{E:ER α}{w:World}{b:Nat}{l:List α}{xs:List Value}{bX:List (List Nat)}(hf:bX.length=l.length)
  (hx: ∀j u,xs[j]? =some u→w.cell? ⟨b,j,none⟩=some u)(h: ∀i x f,l[i]? =some x→bX[i]? =some f→E w ((xs.drop (i*k)).take k) x f):rB k E w b 0 l bX:=by
 refine⟨hf,fun i x f hi hfi=>⟨_,fun j v hv=> ?_,h i x f hi hfi⟩⟩;rw[Nat.zero_add];refine hx _ _ ?_;have:=List.getElem?_eq_some_iff.1 hv;rw[List.getElem?_take,]at hv;split at hv
 ·rw[List.getElem?_drop]at hv;exact hv
 ·simp at hv
end
end Go.Proofs.YtaalpcnbbldlaaaGreatDoor.L
namespace Go.Proofs.YtaalpcnbbldlaaaGreatDoor.D
set_option linter.all false
open Go.RowKit L
section
def lV(n:Int):Prop:= -9223372036854775808≤n∧n≤9223372036854775807
theorem Sl.one{α:Type}{k:Nat}{E:ER α}{w:World}{v:Value}{l:List α}{fp:List Nat}(h:Sl k E w v l fp):v.oneCell'=true:=by
 obtain⟨oa,cap,rfl,_⟩:=h;rfl
theorem gP: ∀u,u∈([]:List Value)→u.oneCell'=true:=by simp
theorem bM{v:Value}{l:List Value}(h:v.oneCell'=true)(r: ∀u,u∈l→u.oneCell'=true): ∀u,u∈v::l→u.oneCell'=true:=by
 intro u hu;rcases List.mem_cons.1 hu with rfl|hu
 ·exact h
 ·exact r u hu
theorem sW{a b:List Value}(h: ∀u,u∈a→u.oneCell'=true)(r: ∀u,u∈b→u.oneCell'=true): ∀u,u∈a++b→u.oneCell'=true:=by
 intro u hu;rcases List.mem_append.1 hu with hu|hu
 ·exact h u hu
 ·exact r u hu
abbrev RB:=Sl 1 NB
structure DB where
 rows:(List (List UInt8))
instance:Inhabited DB:=⟨⟨[]⟩⟩
def aaW(x:DB):Prop:=(fun l=> ∀x,x∈l→(fun l=> ∀x,x∈l→(fun _=>True) x) x) x.rows
def EDB:ER DB:=fun w cs x fp=> ∃(Q6:Value) (Q7:List Nat),cs= [Q6]∧Sl 1 (ESl 1 NB) w Q6 x.rows Q7∧fp=Q7
theorem mq:fN 1 EDB where
 agree:=by rintro w w' cs x fp ⟨v0,f0,rfl,h0,rfl⟩ ha;exact⟨v0,_,rfl,(Sl.agree (qh hY) h0 (ha.sub fun b hb=>by simp[hb])),rfl⟩
 lt:=by rintro w cs x fp ⟨v0,f0,rfl,h0,rfl⟩ b hb;exact Sl.lt (qh hY) h0 b hb
 len:=by rintro w cs x fp ⟨v0,f0,rfl,h0,rfl⟩;rfl
 one:=by rintro w cs x fp ⟨v0,f0,rfl,h0,rfl⟩;exact(bM (Sl.one h0) gP)
structure aT where
 client:Int
 share:DB
instance:Inhabited aT:=⟨⟨0,default⟩⟩
def yg:ER aT:=fun w cs x fp=> ∃(ND:List Value) (NF:List Nat),cs= [.int .i64 x.client]++ND∧EDB w ND x.share NF∧fp=NF
theorem sX:fN 2 yg where
 agree:=by rintro w w' cs x fp ⟨v0,f0,rfl,h0,rfl⟩ ha;exact⟨v0,_,rfl,(mq.agree h0 (ha.sub fun b hb=>by simp[hb])),rfl⟩
 lt:=by rintro w cs x fp ⟨v0,f0,rfl,h0,rfl⟩ b hb;exact mq.lt h0 b hb
 len:=by rintro w cs x fp ⟨v0,f0,rfl,h0,rfl⟩;simp[mq.len h0]
 one:=by rintro w cs x fp ⟨v0,f0,rfl,h0,rfl⟩;exact(sW (bM rfl gP) (mq.one h0))
structure bp where
 id:Int
 rows:Int
 round:Int
 received:(List aT)
 behavior:Int
instance:Inhabited bp:=⟨⟨0,0,0,[],0⟩⟩
def Q8:ER bp:=fun w cs x fp=> ∃(Dn:Value) (Dp:List Nat),cs= [.int .i64 x.id, .int .i64 x.rows, .int .i64 x.round,Dn, .int .i64 x.behavior]∧Sl 2 yg w Dn x.received Dp∧fp=Dp
theorem Dq:fN 5 Q8 where
 agree:=by rintro w w' cs x fp ⟨v0,f0,rfl,h0,rfl⟩ ha;exact⟨v0,_,rfl,(Sl.agree sX h0 (ha.sub fun b hb=>by simp[hb])),rfl⟩
 lt:=by rintro w cs x fp ⟨v0,f0,rfl,h0,rfl⟩ b hb;exact Sl.lt sX h0 b hb
 len:=by rintro w cs x fp ⟨v0,f0,rfl,h0,rfl⟩;rfl
 one:=by rintro w cs x fp ⟨v0,f0,rfl,h0,rfl⟩;exact(bM rfl (bM rfl (bM rfl (bM (Sl.one h0) (bM rfl gP)))))
structure aJ where
 round:Int
 db:DB
instance:Inhabited aJ:=⟨⟨0,default⟩⟩
def FW(x:aJ):Prop:=(lV) x.round∧(aaW) x.db
def yh:ER aJ:=fun w cs x fp=> ∃(aaX:List Value) (aaY:List Nat),cs= [.int .i64 x.round]++aaX∧EDB w aaX x.db aaY∧fp=aaY
theorem sY:fN 2 yh where
 agree:=by rintro w w' cs x fp ⟨v0,f0,rfl,h0,rfl⟩ ha;exact⟨v0,_,rfl,(mq.agree h0 (ha.sub fun b hb=>by simp[hb])),rfl⟩
 lt:=by rintro w cs x fp ⟨v0,f0,rfl,h0,rfl⟩ b hb;exact mq.lt h0 b hb
 len:=by rintro w cs x fp ⟨v0,f0,rfl,h0,rfl⟩;simp[mq.len h0]
 one:=by rintro w cs x fp ⟨v0,f0,rfl,h0,rfl⟩;exact(sW (bM rfl gP) (mq.one h0))
structure gZ where
 rows:Int
 rounds:(List aJ)
instance:Inhabited gZ:=⟨⟨0,[]⟩⟩
def LX(x:gZ):Prop:=(lV) x.rows∧(fun l=> ∀x,x∈l→(FW) x) x.rounds
def Q9:ER gZ:=fun w cs x fp=> ∃(Ji:Value) (Jj:List Nat),cs= [.int .i64 x.rows,Ji]∧Sl 2 yh w Ji x.rounds Jj∧fp=Jj
theorem sZ:fN 2 Q9 where
 agree:=by rintro w w' cs x fp ⟨v0,f0,rfl,h0,rfl⟩ ha;exact⟨v0,_,rfl,(Sl.agree sY h0 (ha.sub fun b hb=>by simp[hb])),rfl⟩
 lt:=by rintro w cs x fp ⟨v0,f0,rfl,h0,rfl⟩ b hb;exact Sl.lt sY h0 b hb
 len:=by rintro w cs x fp ⟨v0,f0,rfl,h0,rfl⟩;rfl
 one:=by rintro w cs x fp ⟨v0,f0,rfl,h0,rfl⟩;exact(bM rfl (bM (Sl.one h0) gP))
structure dF where
 id:Int
 cU:Int
 key:Int
 seed:Int
 aM:(List (List UInt8))
 sent:Int
 inbox:(List (List UInt8))
 next:Int
instance:Inhabited dF:=⟨⟨0,0,0,0,[],0,[],0⟩⟩
def PB:ER dF:=fun w cs x fp=> ∃(BS:Value) (NG:Value) (BT NH:List Nat),cs= [.int .i64 x.id, .int .i64 x.cU, .int .i64 x.key, .int .i64 x.seed,BS, .int .i64 x.sent,NG, .int .i64 x.next]∧Sl 1 (ESl 1 NB) w BS x.aM BT∧Sl 1 (ESl 1 NB) w NG x.inbox NH∧fp=BT++NH
theorem jP:fN 8 PB where
 agree:=by rintro w w' cs x fp ⟨v0,v1,f0,f1,rfl,h0,h1,rfl⟩ ha;exact⟨v0,v1,_,_,rfl,(Sl.agree (qh hY) h0 (ha.sub fun b hb=>by simp[hb])),(Sl.agree (qh hY) h1 (ha.sub fun b hb=>by simp[hb])),rfl⟩
 lt:=by
  rintro w cs x fp ⟨v0,v1,f0,f1,rfl,h0,h1,rfl⟩ b hb;simp only[List.mem_append]at hb;rcases hb with hb|hb
  ·exact Sl.lt (qh hY) h0 b hb
  ·exact Sl.lt (qh hY) h1 b hb
 len:=by rintro w cs x fp ⟨v0,v1,f0,f1,rfl,h0,h1,rfl⟩;rfl
 one:=by rintro w cs x fp ⟨v0,v1,f0,f1,rfl,h0,h1,rfl⟩;exact(bM rfl (bM rfl (bM rfl (bM rfl (bM (Sl.one h0) (bM rfl (bM (Sl.one h1) (bM rfl gP))))))))
structure aZ where
 live:dF
 saved:dF
instance:Inhabited aZ:=⟨⟨default,default⟩⟩
def Ra:ER aZ:=fun w cs x fp=> ∃(Rb:List Value) (NI:List Value) (Rc NJ:List Nat),cs=Rb++NI∧PB w Rb x.live Rc∧PB w NI x.saved NJ∧fp=Rc++NJ
theorem Dr:fN 16 Ra where
 agree:=by rintro w w' cs x fp ⟨v0,v1,f0,f1,rfl,h0,h1,rfl⟩ ha;exact⟨v0,v1,_,_,rfl,(jP.agree h0 (ha.sub fun b hb=>by simp[hb])),(jP.agree h1 (ha.sub fun b hb=>by simp[hb])),rfl⟩
 lt:=by
  rintro w cs x fp ⟨v0,v1,f0,f1,rfl,h0,h1,rfl⟩ b hb;simp only[List.mem_append]at hb;rcases hb with hb|hb
  ·exact jP.lt h0 b hb
  ·exact jP.lt h1 b hb
 len:=by rintro w cs x fp ⟨v0,v1,f0,f1,rfl,h0,h1,rfl⟩;simp[jP.len h0,jP.len h1]
 one:=by rintro w cs x fp ⟨v0,v1,f0,f1,rfl,h0,h1,rfl⟩;exact(sW (jP.one h0) (jP.one h1))
structure aW where
 rows:Int
 az:(List bp)
 af:(List aZ)
 aB:gZ
 bn:Int
 seed:Int
 round:Int
 replaced:(List Int)
 cancelled:Int
instance:Inhabited aW:=⟨⟨0,[],[],default,0,0,0,[],0⟩⟩
def VB:ER aW:=fun w cs x fp=> ∃(FX:Value) (FY:Value) (FZ:List Value) (Ds:Value) (F0 F1 F2 Dt:List Nat),cs= [.int .i64 x.rows,FX,FY]++FZ++ [.int .i64 x.bn, .int .i64 x.seed, .int .i64 x.round,Ds, .int .i64 x.cancelled]∧Sl 5 Q8 w FX x.az F0∧Sl 16 Ra w FY x.af F1∧Q9 w FZ x.aB F2∧Sl 1 Q0 w Ds x.replaced Dt∧fp=F0++F1++F2++Dt
theorem Rd:fN 10 VB where
 agree:=by rintro w w' cs x fp ⟨v0,v1,v2,v3,f0,f1,f2,f3,rfl,h0,h1,h2,h3,rfl⟩ ha;exact⟨v0,v1,v2,v3,_,_,_,_,rfl,(Sl.agree Dq h0 (ha.sub fun b hb=>by simp[hb])),(Sl.agree Dr h1 (ha.sub fun b hb=>by simp[hb])),(sZ.agree h2 (ha.sub fun b hb=>by simp[hb])),(Sl.agree sV h3 (ha.sub fun b hb=>by simp[hb])),rfl⟩
 lt:=by
  rintro w cs x fp ⟨v0,v1,v2,v3,f0,f1,f2,f3,rfl,h0,h1,h2,h3,rfl⟩ b hb;simp only[List.mem_append]at hb;rcases hb with((hb|hb)|hb)|hb
  ·exact Sl.lt Dq h0 b hb
  ·exact Sl.lt Dr h1 b hb
  ·exact sZ.lt h2 b hb
  ·exact Sl.lt sV h3 b hb
 len:=by rintro w cs x fp ⟨v0,v1,v2,v3,f0,f1,f2,f3,rfl,h0,h1,h2,h3,rfl⟩;simp[sZ.len h2]
 one:=by rintro w cs x fp ⟨v0,v1,v2,v3,f0,f1,f2,f3,rfl,h0,h1,h2,h3,rfl⟩;exact(sW (sW (bM rfl (bM (Sl.one h0) (bM (Sl.one h1) gP))) (sZ.one h2)) (bM rfl (bM rfl (bM rfl (bM (Sl.one h3) (bM rfl gP))))))
structure Ev where
 kind:Int
 node:Int
 value:Int
 body:(List UInt8)
instance:Inhabited Ev:=⟨⟨0,0,0,[]⟩⟩
def EEv:ER Ev:=fun w cs x fp=> ∃(Du:Value) (Dv:List Nat),cs= [.int .i64 x.kind, .int .i64 x.node, .int .i64 x.value,Du]∧Sl 1 NB w Du x.body Dv∧fp=Dv
theorem VC:fN 4 EEv where
 agree:=by rintro w w' cs x fp ⟨v0,f0,rfl,h0,rfl⟩ ha;exact⟨v0,_,rfl,(Sl.agree hY h0 (ha.sub fun b hb=>by simp[hb])),rfl⟩
 lt:=by rintro w cs x fp ⟨v0,f0,rfl,h0,rfl⟩ b hb;exact Sl.lt hY h0 b hb
 len:=by rintro w cs x fp ⟨v0,f0,rfl,h0,rfl⟩;rfl
 one:=by rintro w cs x fp ⟨v0,f0,rfl,h0,rfl⟩;exact(bM rfl (bM rfl (bM rfl (bM (Sl.one h0) gP))))
structure eZ where
 fr:Int
 to:Int
 bytes:Int
instance:Inhabited eZ:=⟨⟨0,0,0⟩⟩
def Re:ER eZ:=fun _ cs x fp=>cs= [.int .i64 x.fr, .int .i64 x.to, .int .i64 x.bytes]∧fp= []
theorem Rf:fN 3 Re where
 agree:=fun h _=>h
 lt:=by rintro w cs x fp ⟨rfl,rfl⟩ b hb;simp at hb
 len:=by rintro w cs x fp ⟨rfl,rfl⟩;rfl
 one:=by rintro w cs x fp ⟨rfl,rfl⟩ u hu;simp at hu;rcases hu with rfl|rfl|rfl<;>rfl
structure dY where
 server:Int
 client:Int
 round:Int
 mJ:Int
 LK:Int
instance:Inhabited dY:=⟨⟨0,0,0,0,0⟩⟩
def Rg:ER dY:=fun _ cs x fp=>cs= [.int .i64 x.server, .int .i64 x.client, .int .i64 x.round, .int .i64 x.mJ, .int .i64 x.LK]∧fp= []
theorem Rh:fN 5 Rg where
 agree:=fun h _=>h
 lt:=by rintro w cs x fp ⟨rfl,rfl⟩ b hb;simp at hb
 len:=by rintro w cs x fp ⟨rfl,rfl⟩;rfl
 one:=by rintro w cs x fp ⟨rfl,rfl⟩ u hu;simp at hu;rcases hu with rfl|rfl|rfl|rfl|rfl<;>rfl
structure Plain where
 kind:Int
 body:(List UInt8)
instance:Inhabited Plain:=⟨⟨0,[]⟩⟩
def Hg:ER Plain:=fun w cs x fp=> ∃(Du:Value) (Dv:List Nat),cs= [.int .i64 x.kind,Du]∧Sl 1 NB w Du x.body Dv∧fp=Dv
theorem LY:fN 2 Hg where
 agree:=by rintro w w' cs x fp ⟨v0,f0,rfl,h0,rfl⟩ ha;exact⟨v0,_,rfl,(Sl.agree hY h0 (ha.sub fun b hb=>by simp[hb])),rfl⟩
 lt:=by rintro w cs x fp ⟨v0,f0,rfl,h0,rfl⟩ b hb;exact Sl.lt hY h0 b hb
 len:=by rintro w cs x fp ⟨v0,f0,rfl,h0,rfl⟩;rfl
 one:=by rintro w cs x fp ⟨v0,f0,rfl,h0,rfl⟩;exact(bM rfl (bM (Sl.one h0) gP))
structure cM where
 server:Int
 round:Int
 selection:(List Int)
 data:(List UInt8)
 LK:Int
instance:Inhabited cM:=⟨⟨0,0,[],[],0⟩⟩
def NK:ER cM:=fun w cs x fp=> ∃(BU:Value) (Ri:Value) (BV Rj:List Nat),cs= [.int .i64 x.server, .int .i64 x.round,BU,Ri, .int .i64 x.LK]∧Sl 1 Q0 w BU x.selection BV∧Sl 1 NB w Ri x.data Rj∧fp=BV++Rj
theorem PC:fN 5 NK where
 agree:=by rintro w w' cs x fp ⟨v0,v1,f0,f1,rfl,h0,h1,rfl⟩ ha;exact⟨v0,v1,_,_,rfl,(Sl.agree sV h0 (ha.sub fun b hb=>by simp[hb])),(Sl.agree hY h1 (ha.sub fun b hb=>by simp[hb])),rfl⟩
 lt:=by
  rintro w cs x fp ⟨v0,v1,f0,f1,rfl,h0,h1,rfl⟩ b hb;simp only[List.mem_append]at hb;rcases hb with hb|hb
  ·exact Sl.lt sV h0 b hb
  ·exact Sl.lt hY h1 b hb
 len:=by rintro w cs x fp ⟨v0,v1,f0,f1,rfl,h0,h1,rfl⟩;rfl
 one:=by rintro w cs x fp ⟨v0,v1,f0,f1,rfl,h0,h1,rfl⟩;exact(bM rfl (bM rfl (bM (Sl.one h0) (bM (Sl.one h1) (bM rfl gP)))))
end
end Go.Proofs.YtaalpcnbbldlaaaGreatDoor.D
