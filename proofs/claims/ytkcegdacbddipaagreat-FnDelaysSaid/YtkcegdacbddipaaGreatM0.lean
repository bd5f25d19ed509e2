/-
  The data of the program: structures, and how cells read as them.
-/
import Derived.Deep.MidRow
import Derived.Deep.Slices
import Derived.Lib.Hide
import Derived.WalkKit
import Derived.WalkLawsBesides
import Derived.WalkSpells
open Array renaming getElem?_eq_some_iff→cY
open List renaming getElem?_drop→cJ,getElem?_eq_getElem→au,getElem?_eq_some_iff→aI,getElem?_take→cE,mem_append→aK,mem_cons→aW,mem_cons_of_mem→aJ,mem_flatten→mg
namespace Go.Proofs.YtkcegdacbddipaaGreat.L
set_option linter.all false
open Go.RowKit
section
theorem oI.{u}{α:Type u}(a b:α):(some a=some b)=(a=b):=Option.some.injEq a b
theorem pI.{u,v}{α:Type u}{β:Type v}(a:α)(b:β)(c:α)(d:β):((a,b)=(c,d))=(a=c∧b=d):=Prod.mk.injEq a b c d
abbrev ER(α:Type):=World→List Value→α→List Nat→Prop
def Agree(w w':World)(fp:List Nat):Prop:= ∀b,b∈fp→w'.heap[b]? =w.heap[b]?
theorem Agree.cell{w w':World}{fp:List Nat}(h:Agree w w' fp){b:Nat}(hb:b∈fp)(o:Nat):w'.cell? ⟨b,o,none⟩=w.cell? ⟨b,o,none⟩:=
 World.cell?_of_block (w:=w) (a:=⟨b,o,none⟩) (h b hb)
theorem Agree.range{w w':World}{fp:List Nat}(h:Agree w w' fp){b:Nat}(hb:b∈fp){o:Nat}{cs:List Value}(hr:w.rangeAt b o cs):w'.rangeAt b o cs:=
 fun j v hv=>by rw[h.cell hb];exact hr j v hv
theorem Agree.sub{w w':World}{fp je:List Nat}(h:Agree w w' fp)(hs: ∀b,b∈je→b∈fp):Agree w w' je:=fun b hb=>h b (hs b hb)
theorem Agree.trans{a b c:World}{fp:List Nat}(h:Agree a b fp)(k:Agree b c fp):Agree a c fp:=fun x hx=>(k x hx).trans (h x hx)
theorem Agree.refl(w:World)(fp:List Nat):Agree w w fp:=fun _ _=>rfl
theorem pF{B:Nat}{w w':World}{fp:List Nat}(hb:Below B w w')(hf: ∀b,b∈fp→b<B):Agree w w' fp:=fun b h=>hb.block b (hf b h)
structure jA{α:Type}(k:Nat)(E:ER α):Prop where
 agree: ∀{w w':World} {cs x fp},E w cs x fp→Agree w w' fp→E w' cs x fp
 lt: ∀{w:World} {cs x fp},E w cs x fp→ ∀b,b∈fp→b<w.heap.size
 len: ∀{w:World} {cs x fp},E w cs x fp→cs.length=k
 one: ∀{w:World} {cs x fp},E w cs x fp→ ∀u,u∈cs→u.oneCell'=true
def sM{α:Type}(k:Nat)(E:ER α)(w:World)(b off:Nat)(l:List α)(cu:List (List Nat)):Prop:=
 cu.length=l.length∧ ∀i x f,l[i]? =some x→cu[i]? =some f→ ∃cs,w.rangeAt b (off+i*k) cs∧E w cs x f
def Fit(w:World)(b m:Nat):Prop:= ∃c e fz,w.heap[b]? =some (.cells c e fz)∧m≤c.size
theorem Fit.lt{w:World}{b m:Nat}(h:Fit w b m):b<w.heap.size:=by
 obtain⟨c,e,fz,hc,_⟩:=h
 exact(cY.1 hc).1
theorem Fit.agree{w w':World}{b m:Nat}(h:Fit w b m)(ha:w'.heap[b]? =w.heap[b]?):Fit w' b m:=by
 obtain⟨c,e,fz,hc,hm⟩:=h
 exact⟨c,e,fz,by rw[ha];exact hc,hm⟩
theorem Fit.mono{w:World}{b m m':Nat}(h:Fit w b m)(hm:m'≤m):Fit w b m':=by
 obtain⟨c,e,fz,hc,h1⟩:=h
 exact⟨c,e,fz,hc,Nat.le_trans hm h1⟩
def Sl{α:Type}(k:Nat)(E:ER α)(w:World)(v:Value)(l:List α)(fp:List Nat):Prop:=
 ∃oa cap,v= .slice oa l.length cap∧l.length≤cap∧cap≤maxLen∧
  ((l= []∧fp= []∧cap=0)∨ ∃b off cu,oa=some ⟨b,off,none⟩∧Fit w b (off+cap*k)∧fp=b::cu.flatten∧sM k E w b off l cu)
def ESl{α:Type}(k:Nat)(E:ER α):ER (List α):=fun w cs l fp=> ∃v,cs= [v]∧Sl k E w v l fp
def Vg:ER Int:=fun _ cs n fp=>cs= [.int .i64 n]∧fp= []
def QL:ER UInt8:=fun _ cs n fp=>cs= [.int .u8 n.toNat]∧fp= []
def adu:ER (List UInt8):=fun _ cs s fp=>cs= [.string ⟨s.toArray⟩]∧s.length≤maxLen∧fp= []
theorem wO:jA 1 Vg:=⟨fun h _=>h,by rintro w cs x fp ⟨rfl,rfl⟩ b hb;simp at hb,by rintro w cs x fp ⟨rfl,rfl⟩;rfl,by rintro w cs x fp ⟨rfl,rfl⟩ u hu;simp at hu;subst hu;rfl⟩
theorem lq:jA 1 QL:=⟨fun h _=>h,by rintro w cs x fp ⟨rfl,rfl⟩ b hb;simp at hb,by rintro w cs x fp ⟨rfl,rfl⟩;rfl,by rintro w cs x fp ⟨rfl,rfl⟩ u hu;simp at hu;subst hu;rfl⟩
theorem Vh:jA 1 adu:=⟨fun h _=>h,by rintro w cs x fp ⟨rfl,_,rfl⟩ b hb;simp at hb,by rintro w cs x fp ⟨rfl,_,rfl⟩;rfl,by rintro w cs x fp ⟨rfl,_,rfl⟩ u hu;simp at hu;subst hu;rfl⟩
theorem dU{l:List (List Nat)}{i:Nat}{f:List Nat}(h:l[i]? =some f){b:Nat}(hb:b∈f):b∈l.flatten:=
 mg.2 ⟨f,List.mem_of_getElem? h,hb⟩
theorem kG{α:Type}{l:List α}{cu:List (List Nat)}(h:cu.length=l.length){i:Nat}{x:α}(hx:l[i]? =some x): ∃f,cu[i]? =some f:=by
 have:i<l.length:=(aI.1 hx).1
 exact⟨cu[i],au (by omega)⟩
section
variable{α:Type}{k:Nat}{E:ER α}(G:jA k E)
include G
theorem sM.agree{w w':World}{b off:Nat}{l:List α}{cu:List (List Nat)}(h:sM k E w b off l cu)(hb:w'.heap[b]? =w.heap[b]?)(ha:Agree w w' cu.flatten):sM k E w' b off l cu:=by
 refine⟨h.1,fun i x f hx hf=> ?_⟩
 obtain⟨cs,hr,he⟩:=h.2 i x f hx hf
 refine⟨cs,fun j v hv=> ?_,G.agree he (ha.sub fun _ hm=>dU hf hm)⟩
 rw[World.cell?_of_block (w:=w) (a:=⟨b,_,none⟩) hb];exact hr j v hv
theorem Sl.agree{w w':World}{v:Value}{l:List α}{fp:List Nat}(h:Sl k E w v l fp)(ha:Agree w w' fp):Sl k E w' v l fp:=by
 obtain⟨oa,cap,rfl,h1,h2,h3⟩:=h
 refine⟨oa,cap,rfl,h1,h2,?_⟩
 rcases h3 with h3| ⟨b,off,cu,rfl,hb,rfl,he⟩
 ·exact Or.inl h3
 ·have hbk:=ha b (by simp)
  exact Or.inr ⟨b,off,cu,rfl,hb.agree hbk,rfl,sM.agree G he hbk (ha.sub (fun _ hm=>aJ _ hm))⟩
theorem Sl.lt{w:World}{v:Value}{l:List α}{fp:List Nat}(h:Sl k E w v l fp): ∀b,b∈fp→b<w.heap.size:=by
 obtain⟨oa,cap,rfl,h1,h2,h3⟩:=h
 rcases h3 with⟨_,rfl,_⟩| ⟨b,off,cu,rfl,hb,rfl,he⟩
 ·simp
 ·intro c hc
  rcases aW.1 hc with rfl|hc
  ·exact hb.lt
  ·obtain⟨f,hf,hcf⟩:=mg.1 hc
   obtain⟨i,hi⟩:=List.getElem?_of_mem hf
   have hil:i<l.length:=by have:=(aI.1 hi).1;have:=he.1;omega
   obtain⟨cs,_,hE⟩:=he.2 i l[i] f (au hil) hi
   exact G.lt hE c hcf
theorem uP:jA 1 (ESl k E):=
 ⟨by rintro w w' cs x fp ⟨v,rfl,h⟩ ha;exact⟨v,rfl,Sl.agree G h ha⟩,by rintro w cs x fp ⟨v,rfl,h⟩;exact Sl.lt G h,
  by rintro w cs x fp ⟨v,rfl,h⟩;rfl,by rintro w cs x fp ⟨v,rfl,oa,cap,rfl,h⟩ u hu;simp at hu;subst hu;rfl⟩
theorem Sl.below{w w':World}{v:Value}{l:List α}{fp:List Nat}(h:Sl k E w v l fp)(hb:Below w.heap.size w w'):Sl k E w' v l fp:=Sl.agree G h (pF hb (Sl.lt G h))
end
theorem Sl.at{α:Type}{k:Nat}{E:ER α}{w:World}{oa:Option Addr}{n cap:Nat}{l:List α}{fp:List Nat}(h:Sl k E w (.slice oa n cap) l fp){i:Nat}{x:α}(hx:l[i]? =some x):
  ∃b off f cs,oa=some ⟨b,off,none⟩∧w.rangeAt b (off+i*k) cs∧E w cs x f∧(∀y,y∈f→y∈fp):=by
 obtain⟨Zm,cap',hv,h1,h2,h3⟩:=h
 simp only[Value.slice.injEq]at hv
 obtain⟨rfl,_,rfl⟩:=hv
 rcases h3 with⟨rfl,_⟩| ⟨b,off,cu,rfl,hb,rfl,he⟩
 ·simp at hx
 ·obtain⟨f,hf⟩:=kG he.1 hx
  obtain⟨cs,hr,hE⟩:=he.2 i x f hx hf
  exact⟨b,off,f,cs,rfl,hr,hE,fun y hy=>aJ _ (dU hf hy)⟩
structure Own(lo:Nat)(w:World)(fp:List Nat):Prop where
 nodup:fp.Nodup
 ge: ∀b,b∈fp→lo≤b
 kind: ∀b,b∈fp→ ∃c e,w.heap[b]? =some (.cells c e (0,0))
theorem Own.agree{lo:Nat}{w w':World}{fp:List Nat}(h:Own lo w fp)(ha:Agree w w' fp):Own lo w' fp:=⟨h.nodup,h.ge,fun b hb=>by rw[ha b hb];exact h.kind b hb⟩
theorem Own.lt{lo:Nat}{w:World}{fp:List Nat}(h:Own lo w fp): ∀b,b∈fp→b<w.heap.size:=fun b hb=>by
 obtain⟨c,e,hk⟩:=h.kind b hb
 exact(cY.1 hk).1
theorem Own.nil(lo:Nat)(w:World):Own lo w []:=⟨List.nodup_nil,by simp,by simp⟩
theorem Own.mono{lo lo':Nat}{w:World}{fp:List Nat}(h:Own lo w fp)(hl:lo'≤lo):Own lo' w fp:=⟨h.nodup,fun b hb=>Nat.le_trans hl (h.ge b hb),h.kind⟩
theorem Own.below{lo:Nat}{w w':World}{fp:List Nat}(h:Own lo w fp)(hb:Below w.heap.size w w'):Own lo w' fp:=h.agree (pF hb h.lt)
theorem qh{α:Type}{k:Nat}{E:ER α}{w:World}{b o:Nat}{l:List α}{xs:List Value}{cu:List (List Nat)}(hf:cu.length=l.length)
  (hx: ∀j u,xs[j]? =some u→w.cell? ⟨b,o+j,none⟩=some u)(h: ∀i x f,l[i]? =some x→cu[i]? =some f→E w ((xs.drop (i*k)).take k) x f):sM k E w b o l cu:=by
 refine⟨hf,fun i x f hi S4=>⟨_,fun j v hv=> ?_,h i x f hi S4⟩⟩
 rw[Nat.add_assoc]
 refine hx _ _ ?_
 rw[cE,]at hv
 split at hv
 ·rw[cJ]at hv;exact hv
 ·simp at hv
theorem Kb{α:Type}{k:Nat}{E:ER α}{w:World}{b:Nat}{l:List α}{xs:List Value}{cu:List (List Nat)}(hf:cu.length=l.length)
  (hx: ∀j u,xs[j]? =some u→w.cell? ⟨b,j,none⟩=some u)(h: ∀i x f,l[i]? =some x→cu[i]? =some f→E w ((xs.drop (i*k)).take k) x f):sM k E w b 0 l cu:=by
 refine⟨hf,fun i x f hi S4=>⟨_,fun j v hv=> ?_,h i x f hi S4⟩⟩
 rw[Nat.zero_add]
 refine hx _ _ ?_
 have:=aI.1 hv
 rw[cE,]at hv
 split at hv
 ·rw[cJ]at hv;exact hv
 ·simp at hv
end
end Go.Proofs.YtkcegdacbddipaaGreat.L
namespace Go.Proofs.YtkcegdacbddipaaGreat.D
set_option linter.all false
open Go.RowKit L
section
theorem Sl.one{α:Type}{k:Nat}{E:ER α}{w:World}{v:Value}{l:List α}{fp:List Nat}(h:Sl k E w v l fp):v.oneCell'=true:=by
 obtain⟨oa,cap,rfl,_⟩:=h;rfl
theorem kI: ∀u,u∈([]:List Value)→u.oneCell'=true:=by simp
theorem cT{v:Value}{l:List Value}(h:v.oneCell'=true)(r: ∀u,u∈l→u.oneCell'=true): ∀u,u∈v::l→u.oneCell'=true:=by
 intro u hu
 rcases aW.1 hu with rfl|hu
 ·exact h
 ·exact r u hu
theorem wS{a b:List Value}(h: ∀u,u∈a→u.oneCell'=true)(r: ∀u,u∈b→u.oneCell'=true): ∀u,u∈a++b→u.oneCell'=true:=by
 intro u hu
 rcases aK.1 hu with hu|hu
 ·exact h u hu
 ·exact r u hu
abbrev RB:=Sl 1 QL
structure DB where
 rows:(List (List UInt8))
instance:Inhabited DB:=⟨⟨[]⟩⟩
def EDB:ER DB:=fun w cs x fp=> ∃(Vj:Value) (Vk:List Nat),cs= [Vj]∧Sl 1 (ESl 1 QL) w Vj x.rows Vk∧fp=Vk
theorem qB:jA 1 EDB where
 agree:=by rintro w w' cs x fp ⟨v0,f0,rfl,h0,rfl⟩ ha;exact⟨v0,_,rfl,(Sl.agree (uP lq) h0 (ha.sub fun b hb=>by simp[hb])),rfl⟩
 lt:=by rintro w cs x fp ⟨v0,f0,rfl,h0,rfl⟩ b hb;exact Sl.lt (uP lq) h0 b hb
 len:=by rintro w cs x fp ⟨v0,f0,rfl,h0,rfl⟩;rfl
 one:=by rintro w cs x fp ⟨v0,f0,rfl,h0,rfl⟩;exact(cT (Sl.one h0) kI)
structure bC where
 client:Int
 share:DB
instance:Inhabited bC:=⟨⟨0,default⟩⟩
def AY:ER bC:=fun w cs x fp=> ∃(QS:List Value) (QT:List Nat),cs= [.int .i64 x.client]++QS∧EDB w QS x.share QT∧fp=QT
theorem wT:jA 2 AY where
 agree:=by rintro w w' cs x fp ⟨v0,f0,rfl,h0,rfl⟩ ha;exact⟨v0,_,rfl,(qB.agree h0 (ha.sub fun b hb=>by simp[hb])),rfl⟩
 lt:=by rintro w cs x fp ⟨v0,f0,rfl,h0,rfl⟩ b hb;exact qB.lt h0 b hb
 len:=by rintro w cs x fp ⟨v0,f0,rfl,h0,rfl⟩;simp[qB.len h0]
 one:=by rintro w cs x fp ⟨v0,f0,rfl,h0,rfl⟩;exact(wS (cT rfl kI) (qB.one h0))
structure cg where
 id:Int
 rows:Int
 round:Int
 received:(List bC)
 behavior:Int
instance:Inhabited cg:=⟨⟨0,0,0,[],0⟩⟩
def Vl:ER cg:=fun w cs x fp=> ∃(FY:Value) (FZ:List Nat),cs= [.int .i64 x.id, .int .i64 x.rows, .int .i64 x.round,FY, .int .i64 x.behavior]∧Sl 2 AY w FY x.received FZ∧fp=FZ
theorem F0:jA 5 Vl where
 agree:=by rintro w w' cs x fp ⟨v0,f0,rfl,h0,rfl⟩ ha;exact⟨v0,_,rfl,(Sl.agree wT h0 (ha.sub fun b hb=>by simp[hb])),rfl⟩
 lt:=by rintro w cs x fp ⟨v0,f0,rfl,h0,rfl⟩ b hb;exact Sl.lt wT h0 b hb
 len:=by rintro w cs x fp ⟨v0,f0,rfl,h0,rfl⟩;rfl
 one:=by rintro w cs x fp ⟨v0,f0,rfl,h0,rfl⟩;exact(cT rfl (cT rfl (cT rfl (cT (Sl.one h0) (cT rfl kI)))))
structure bt where
 round:Int
 db:DB
instance:Inhabited bt:=⟨⟨0,default⟩⟩
def AZ:ER bt:=fun w cs x fp=> ∃(af6:List Value) (af7:List Nat),cs= [.int .i64 x.round]++af6∧EDB w af6 x.db af7∧fp=af7
theorem wU:jA 2 AZ where
 agree:=by rintro w w' cs x fp ⟨v0,f0,rfl,h0,rfl⟩ ha;exact⟨v0,_,rfl,(qB.agree h0 (ha.sub fun b hb=>by simp[hb])),rfl⟩
 lt:=by rintro w cs x fp ⟨v0,f0,rfl,h0,rfl⟩ b hb;exact qB.lt h0 b hb
 len:=by rintro w cs x fp ⟨v0,f0,rfl,h0,rfl⟩;simp[qB.len h0]
 one:=by rintro w cs x fp ⟨v0,f0,rfl,h0,rfl⟩;exact(wS (cT rfl kI) (qB.one h0))
structure mj where
 rows:Int
 rounds:(List bt)
instance:Inhabited mj:=⟨⟨0,[]⟩⟩
def Vm:ER mj:=fun w cs x fp=> ∃(Mf:Value) (Mg:List Nat),cs= [.int .i64 x.rows,Mf]∧Sl 2 AZ w Mf x.rounds Mg∧fp=Mg
theorem wV:jA 2 Vm where
 agree:=by rintro w w' cs x fp ⟨v0,f0,rfl,h0,rfl⟩ ha;exact⟨v0,_,rfl,(Sl.agree wU h0 (ha.sub fun b hb=>by simp[hb])),rfl⟩
 lt:=by rintro w cs x fp ⟨v0,f0,rfl,h0,rfl⟩ b hb;exact Sl.lt wU h0 b hb
 len:=by rintro w cs x fp ⟨v0,f0,rfl,h0,rfl⟩;rfl
 one:=by rintro w cs x fp ⟨v0,f0,rfl,h0,rfl⟩;exact(cT rfl (cT (Sl.one h0) kI))
structure gS where
 id:Int
 gZ:Int
 key:Int
 seed:Int
 bz:(List (List UInt8))
 sent:Int
 inbox:(List (List UInt8))
 next:Int
instance:Inhabited gS:=⟨⟨0,0,0,0,[],0,[],0⟩⟩
def S7:ER gS:=fun w cs x fp=> ∃(D2:Value) (QU:Value) (D3 QV:List Nat),cs= [.int .i64 x.id, .int .i64 x.gZ, .int .i64 x.key, .int .i64 x.seed,D2, .int .i64 x.sent,QU, .int .i64 x.next]∧Sl 1 (ESl 1 QL) w D2 x.bz D3∧Sl 1 (ESl 1 QL) w QU x.inbox QV∧fp=D3++QV
theorem nj:jA 8 S7 where
 agree:=by rintro w w' cs x fp ⟨v0,v1,f0,f1,rfl,h0,h1,rfl⟩ ha;exact⟨v0,v1,_,_,rfl,(Sl.agree (uP lq) h0 (ha.sub fun b hb=>by simp[hb])),(Sl.agree (uP lq) h1 (ha.sub fun b hb=>by simp[hb])),rfl⟩
 lt:=by
  rintro w cs x fp ⟨v0,v1,f0,f1,rfl,h0,h1,rfl⟩ b hb
  simp only[aK]at hb
  rcases hb with hb|hb
  ·exact Sl.lt (uP lq) h0 b hb
  ·exact Sl.lt (uP lq) h1 b hb
 len:=by rintro w cs x fp ⟨v0,v1,f0,f1,rfl,h0,h1,rfl⟩;rfl
 one:=by rintro w cs x fp ⟨v0,v1,f0,f1,rfl,h0,h1,rfl⟩;exact(cT rfl (cT rfl (cT rfl (cT rfl (cT (Sl.one h0) (cT rfl (cT (Sl.one h1) (cT rfl kI))))))))
structure cD where
 live:gS
 saved:gS
instance:Inhabited cD:=⟨⟨default,default⟩⟩
def Vn:ER cD:=fun w cs x fp=> ∃(Vo:List Value) (QW:List Value) (Vp QX:List Nat),cs=Vo++QW∧S7 w Vo x.live Vp∧S7 w QW x.saved QX∧fp=Vp++QX
theorem F1:jA 16 Vn where
 agree:=by rintro w w' cs x fp ⟨v0,v1,f0,f1,rfl,h0,h1,rfl⟩ ha;exact⟨v0,v1,_,_,rfl,(nj.agree h0 (ha.sub fun b hb=>by simp[hb])),(nj.agree h1 (ha.sub fun b hb=>by simp[hb])),rfl⟩
 lt:=by
  rintro w cs x fp ⟨v0,v1,f0,f1,rfl,h0,h1,rfl⟩ b hb
  simp only[aK]at hb
  rcases hb with hb|hb
  ·exact nj.lt h0 b hb
  ·exact nj.lt h1 b hb
 len:=by rintro w cs x fp ⟨v0,v1,f0,f1,rfl,h0,h1,rfl⟩;simp[nj.len h0,nj.len h1]
 one:=by rintro w cs x fp ⟨v0,v1,f0,f1,rfl,h0,h1,rfl⟩;exact(wS (nj.one h0) (nj.one h1))
structure cm where
 rows:Int
 aC:(List cg)
 aq:(List cD)
 aN:mj
 bZ:Int
 seed:Int
 round:Int
 replaced:(List Int)
 cancelled:Int
instance:Inhabited cm:=⟨⟨0,[],[],default,0,0,0,[],0⟩⟩
def ZM:ER cm:=fun w cs x fp=> ∃(I7:Value) (I8:Value) (I9:List Value) (F2:Value) (Ja Jb Jc F3:List Nat),cs= [.int .i64 x.rows,I7,I8]++I9++ [.int .i64 x.bZ, .int .i64 x.seed, .int .i64 x.round,F2, .int .i64 x.cancelled]∧Sl 5 Vl w I7 x.aC Ja∧Sl 16 Vn w I8 x.aq Jb∧Vm w I9 x.aN Jc∧Sl 1 Vg w F2 x.replaced F3∧fp=Ja++Jb++Jc++F3
theorem Vq:jA 10 ZM where
 agree:=by rintro w w' cs x fp ⟨v0,v1,v2,v3,f0,f1,f2,f3,rfl,h0,h1,h2,h3,rfl⟩ ha;exact⟨v0,v1,v2,v3,_,_,_,_,rfl,(Sl.agree F0 h0 (ha.sub fun b hb=>by simp[hb])),(Sl.agree F1 h1 (ha.sub fun b hb=>by simp[hb])),(wV.agree h2 (ha.sub fun b hb=>by simp[hb])),(Sl.agree wO h3 (ha.sub fun b hb=>by simp[hb])),rfl⟩
 lt:=by
  rintro w cs x fp ⟨v0,v1,v2,v3,f0,f1,f2,f3,rfl,h0,h1,h2,h3,rfl⟩ b hb
  simp only[aK]at hb
  rcases hb with((hb|hb)|hb)|hb
  ·exact Sl.lt F0 h0 b hb
  ·exact Sl.lt F1 h1 b hb
  ·exact wV.lt h2 b hb
  ·exact Sl.lt wO h3 b hb
 len:=by rintro w cs x fp ⟨v0,v1,v2,v3,f0,f1,f2,f3,rfl,h0,h1,h2,h3,rfl⟩;simp[wV.len h2]
 one:=by rintro w cs x fp ⟨v0,v1,v2,v3,f0,f1,f2,f3,rfl,h0,h1,h2,h3,rfl⟩;exact(wS (wS (cT rfl (cT (Sl.one h0) (cT (Sl.one h1) kI))) (wV.one h2)) (cT rfl (cT rfl (cT rfl (cT (Sl.one h3) (cT rfl kI))))))
structure Ev where
 kind:Int
 node:Int
 value:Int
 body:(List UInt8)
instance:Inhabited Ev:=⟨⟨0,0,0,[]⟩⟩
def EEv:ER Ev:=fun w cs x fp=> ∃(F4:Value) (F5:List Nat),cs= [.int .i64 x.kind, .int .i64 x.node, .int .i64 x.value,F4]∧Sl 1 QL w F4 x.body F5∧fp=F5
theorem ZN:jA 4 EEv where
 agree:=by rintro w w' cs x fp ⟨v0,f0,rfl,h0,rfl⟩ ha;exact⟨v0,_,rfl,(Sl.agree lq h0 (ha.sub fun b hb=>by simp[hb])),rfl⟩
 lt:=by rintro w cs x fp ⟨v0,f0,rfl,h0,rfl⟩ b hb;exact Sl.lt lq h0 b hb
 len:=by rintro w cs x fp ⟨v0,f0,rfl,h0,rfl⟩;rfl
 one:=by rintro w cs x fp ⟨v0,f0,rfl,h0,rfl⟩;exact(cT rfl (cT rfl (cT rfl (cT (Sl.one h0) kI))))
structure Cy where
 fr:Int
 to:Int
 bytes:Int
instance:Inhabited Cy:=⟨⟨0,0,0⟩⟩
def Vr:ER Cy:=fun _ cs x fp=>cs= [.int .i64 x.fr, .int .i64 x.to, .int .i64 x.bytes]∧fp= []
theorem Vt:jA 3 Vr where
 agree:=fun h _=>h
 lt:=by rintro w cs x fp ⟨rfl,rfl⟩ b hb;simp at hb
 len:=by rintro w cs x fp ⟨rfl,rfl⟩;rfl
 one:=by rintro w cs x fp ⟨rfl,rfl⟩ u hu;simp at hu;rcases hu with rfl|rfl|rfl<;>rfl
structure gB where
 server:Int
 client:Int
 round:Int
 qZ:Int
 OJ:Int
instance:Inhabited gB:=⟨⟨0,0,0,0,0⟩⟩
def Vu:ER gB:=fun _ cs x fp=>cs= [.int .i64 x.server, .int .i64 x.client, .int .i64 x.round, .int .i64 x.qZ, .int .i64 x.OJ]∧fp= []
theorem Vv:jA 5 Vu where
 agree:=fun h _=>h
 lt:=by rintro w cs x fp ⟨rfl,rfl⟩ b hb;simp at hb
 len:=by rintro w cs x fp ⟨rfl,rfl⟩;rfl
 one:=by rintro w cs x fp ⟨rfl,rfl⟩ u hu;simp at hu;rcases hu with rfl|rfl|rfl|rfl|rfl<;>rfl
structure Plain where
 kind:Int
 body:(List UInt8)
instance:Inhabited Plain:=⟨⟨0,[]⟩⟩
def Kg:ER Plain:=fun w cs x fp=> ∃(F4:Value) (F5:List Nat),cs= [.int .i64 x.kind,F4]∧Sl 1 QL w F4 x.body F5∧fp=F5
theorem O3:jA 2 Kg where
 agree:=by rintro w w' cs x fp ⟨v0,f0,rfl,h0,rfl⟩ ha;exact⟨v0,_,rfl,(Sl.agree lq h0 (ha.sub fun b hb=>by simp[hb])),rfl⟩
 lt:=by rintro w cs x fp ⟨v0,f0,rfl,h0,rfl⟩ b hb;exact Sl.lt lq h0 b hb
 len:=by rintro w cs x fp ⟨v0,f0,rfl,h0,rfl⟩;rfl
 one:=by rintro w cs x fp ⟨v0,f0,rfl,h0,rfl⟩;exact(cT rfl (cT (Sl.one h0) kI))
structure eN where
 server:Int
 round:Int
 selection:(List Int)
 data:(List UInt8)
 OJ:Int
instance:Inhabited eN:=⟨⟨0,0,[],[],0⟩⟩
def QY:ER eN:=fun w cs x fp=> ∃(D4:Value) (Vw:Value) (D5 Vx:List Nat),cs= [.int .i64 x.server, .int .i64 x.round,D4,Vw, .int .i64 x.OJ]∧Sl 1 Vg w D4 x.selection D5∧Sl 1 QL w Vw x.data Vx∧fp=D5++Vx
theorem S8:jA 5 QY where
 agree:=by rintro w w' cs x fp ⟨v0,v1,f0,f1,rfl,h0,h1,rfl⟩ ha;exact⟨v0,v1,_,_,rfl,(Sl.agree wO h0 (ha.sub fun b hb=>by simp[hb])),(Sl.agree lq h1 (ha.sub fun b hb=>by simp[hb])),rfl⟩
 lt:=by
  rintro w cs x fp ⟨v0,v1,f0,f1,rfl,h0,h1,rfl⟩ b hb
  simp only[aK]at hb
  rcases hb with hb|hb
  ·exact Sl.lt wO h0 b hb
  ·exact Sl.lt lq h1 b hb
 len:=by rintro w cs x fp ⟨v0,v1,f0,f1,rfl,h0,h1,rfl⟩;rfl
 one:=by rintro w cs x fp ⟨v0,v1,f0,f1,rfl,h0,h1,rfl⟩;exact(cT rfl (cT rfl (cT (Sl.one h0) (cT (Sl.one h1) (cT rfl kI)))))
end
end Go.Proofs.YtkcegdacbddipaaGreat.D
