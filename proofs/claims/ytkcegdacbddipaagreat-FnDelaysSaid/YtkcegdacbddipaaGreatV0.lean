/-
  The data of the program: structures, and how cells read as them.
-/
import Derived.Deep.MidRow
import Derived.Deep.Slices
import Derived.Lib.Hide
import Derived.WalkKit
import Derived.WalkLawsBesides
import Derived.WalkSpells
namespace Go.Proofs.YtkcegdacbddipaaGreat.L
set_option linter.all false
open Go.RowKit
section
theorem oI.{u}{α:Type u}(a b:α):(some a=some b)=(a=b):=Option.some.injEq a b
theorem pI.{u,v}{α:Type u}{β:Type v}(a:α)(b:β)(c:α)(d:β):((a,b)=(c,d))=(a=c∧b=d):=Prod.mk.injEq a b c d
abbrev ER(α:Type):=World→List Value→α→List Nat→Prop
def Agree(w w':World)(fp:List Nat):Prop:= ∀b,b∈fp→w'.heap[b]? =w.heap[b]?
theorem Agree.cell{w w':World}{fp:List Nat}(h:Agree w w' fp){b:Nat}(hb:b∈fp)(o:Nat):w'.cell? ⟨b,o,none⟩=w.cell? ⟨b,o,none⟩:=
 World.cell?_of_block (w:=w) (a:=⟨b,o,none⟩) (h b hb)
theorem Agree.range{w w':World}{fp:List Nat}(h:Agree w w' fp){b:Nat}(hb:b∈fp){o:Nat}{cs:List Value}(hr:w.rangeAt b o cs):w'.rangeAt b o cs:=
 fun j v hv=>by rw[h.cell hb];exact hr j v hv
theorem Agree.sub{w w':World}{fp e9:List Nat}(h:Agree w w' fp)(hs: ∀b,b∈e9→b∈fp):Agree w w' e9:=fun b hb=>h b (hs b hb)
theorem Agree.trans{a b c:World}{fp:List Nat}(h:Agree a b fp)(k:Agree b c fp):Agree a c fp:=fun x hx=>(k x hx).trans (h x hx)
theorem Agree.refl(w:World)(fp:List Nat):Agree w w fp:=fun _ _=>rfl
theorem kX{B:Nat}{w w':World}{fp:List Nat}(hb:Below B w w')(hf: ∀b,b∈fp→b<B):Agree w w' fp:=fun b h=>hb.block b (hf b h)
structure fJ{α:Type}(k:Nat)(E:ER α):Prop where
 agree: ∀{w w':World} {cs x fp},E w cs x fp→Agree w w' fp→E w' cs x fp
 lt: ∀{w:World} {cs x fp},E w cs x fp→ ∀b,b∈fp→b<w.heap.size
 len: ∀{w:World} {cs x fp},E w cs x fp→cs.length=k
 one: ∀{w:World} {cs x fp},E w cs x fp→ ∀u,u∈cs→u.oneCell'=true
def nJ{α:Type}(k:Nat)(E:ER α)(w:World)(b off:Nat)(l:List α)(bn:List (List Nat)):Prop:=
 bn.length=l.length∧ ∀i x f,l[i]? =some x→bn[i]? =some f→ ∃cs,w.rangeAt b (off+i*k) cs∧E w cs x f
def Fit(w:World)(b m:Nat):Prop:= ∃c e fz,w.heap[b]? =some (.cells c e fz)∧m≤c.size
theorem Fit.lt{w:World}{b m:Nat}(h:Fit w b m):b<w.heap.size:=by
 obtain⟨c,e,fz,hc,_⟩:=h
 exact(Array.getElem?_eq_some_iff.1 hc).1
theorem Fit.agree{w w':World}{b m:Nat}(h:Fit w b m)(ha:w'.heap[b]? =w.heap[b]?):Fit w' b m:=by
 obtain⟨c,e,fz,hc,hm⟩:=h
 exact⟨c,e,fz,by rw[ha];exact hc,hm⟩
theorem Fit.mono{w:World}{b m m':Nat}(h:Fit w b m)(hm:m'≤m):Fit w b m':=by
 obtain⟨c,e,fz,hc,h1⟩:=h
 exact⟨c,e,fz,hc,Nat.le_trans hm h1⟩
def Sl{α:Type}(k:Nat)(E:ER α)(w:World)(v:Value)(l:List α)(fp:List Nat):Prop:=
 ∃oa cap,v= .slice oa l.length cap∧l.length≤cap∧cap≤maxLen∧
  ((l= []∧fp= []∧cap=0)∨ ∃b off bn,oa=some ⟨b,off,none⟩∧Fit w b (off+cap*k)∧fp=b::bn.flatten∧nJ k E w b off l bn)
def Zs{α:Type}(k:Nat)(E:ER α):ER (List α):=fun w cs l fp=> ∃v,cs= [v]∧Sl k E w v l fp
def Py:ER Int:=fun _ cs n fp=>cs= [.int .i64 n]∧fp= []
def Kr:ER UInt8:=fun _ cs n fp=>cs= [.int .u8 n.toNat]∧fp= []
def T2:ER (List UInt8):=fun _ cs s fp=>cs= [.string ⟨s.toArray⟩]∧s.length≤maxLen∧fp= []
theorem rK:fJ 1 Py:=⟨fun h _=>h,by rintro w cs x fp ⟨rfl,rfl⟩ b hb;simp at hb,by rintro w cs x fp ⟨rfl,rfl⟩;rfl,by rintro w cs x fp ⟨rfl,rfl⟩ u hu;simp at hu;subst hu;rfl⟩
theorem gP:fJ 1 Kr:=⟨fun h _=>h,by rintro w cs x fp ⟨rfl,rfl⟩ b hb;simp at hb,by rintro w cs x fp ⟨rfl,rfl⟩;rfl,by rintro w cs x fp ⟨rfl,rfl⟩ u hu;simp at hu;subst hu;rfl⟩
theorem Pz:fJ 1 T2:=⟨fun h _=>h,by rintro w cs x fp ⟨rfl,_,rfl⟩ b hb;simp at hb,by rintro w cs x fp ⟨rfl,_,rfl⟩;rfl,by rintro w cs x fp ⟨rfl,_,rfl⟩ u hu;simp at hu;subst hu;rfl⟩
theorem bX{l:List (List Nat)}{i:Nat}{f:List Nat}(h:l[i]? =some f){b:Nat}(hb:b∈f):b∈l.flatten:=
 List.mem_flatten.2 ⟨f,List.mem_of_getElem? h,hb⟩
theorem gd{α:Type}{l:List α}{bn:List (List Nat)}(h:bn.length=l.length){i:Nat}{x:α}(hx:l[i]? =some x): ∃f,bn[i]? =some f:=by
 have:i<l.length:=(List.getElem?_eq_some_iff.1 hx).1
 exact⟨bn[i],List.getElem?_eq_getElem (by omega)⟩
section
variable{α:Type}{k:Nat}{E:ER α}(G:fJ k E)
include G
theorem nJ.agree{w w':World}{b off:Nat}{l:List α}{bn:List (List Nat)}(h:nJ k E w b off l bn)(hb:w'.heap[b]? =w.heap[b]?)(ha:Agree w w' bn.flatten):nJ k E w' b off l bn:=by
 refine⟨h.1,fun i x f hx hf=> ?_⟩
 obtain⟨cs,hr,he⟩:=h.2 i x f hx hf
 refine⟨cs,fun j v hv=> ?_,G.agree he (ha.sub fun _ hm=>bX hf hm)⟩
 rw[World.cell?_of_block (w:=w) (a:=⟨b,_,none⟩) hb];exact hr j v hv
theorem Sl.agree{w w':World}{v:Value}{l:List α}{fp:List Nat}(h:Sl k E w v l fp)(ha:Agree w w' fp):Sl k E w' v l fp:=by
 obtain⟨oa,cap,rfl,h1,h2,h3⟩:=h
 refine⟨oa,cap,rfl,h1,h2,?_⟩
 rcases h3 with h3| ⟨b,off,bn,rfl,hb,rfl,he⟩
 ·exact Or.inl h3
 ·have hbk:=ha b (by simp)
  exact Or.inr ⟨b,off,bn,rfl,hb.agree hbk,rfl,nJ.agree G he hbk (ha.sub (fun _ hm=>List.mem_cons_of_mem _ hm))⟩
theorem Sl.lt{w:World}{v:Value}{l:List α}{fp:List Nat}(h:Sl k E w v l fp): ∀b,b∈fp→b<w.heap.size:=by
 obtain⟨oa,cap,rfl,h1,h2,h3⟩:=h
 rcases h3 with⟨_,rfl,_⟩| ⟨b,off,bn,rfl,hb,rfl,he⟩
 ·simp
 ·intro c hc
  rcases List.mem_cons.1 hc with rfl|hc
  ·exact hb.lt
  ·obtain⟨f,hf,hcf⟩:=List.mem_flatten.1 hc
   obtain⟨i,hi⟩:=List.getElem?_of_mem hf
   have hil:i<l.length:=by have:=(List.getElem?_eq_some_iff.1 hi).1;have:=he.1;omega
   obtain⟨cs,_,hE⟩:=he.2 i l[i] f (List.getElem?_eq_getElem hil) hi
   exact G.lt hE c hcf
theorem pR:fJ 1 (Zs k E):=
 ⟨by rintro w w' cs x fp ⟨v,rfl,h⟩ ha;exact⟨v,rfl,Sl.agree G h ha⟩,by rintro w cs x fp ⟨v,rfl,h⟩;exact Sl.lt G h,
  by rintro w cs x fp ⟨v,rfl,h⟩;rfl,by rintro w cs x fp ⟨v,rfl,oa,cap,rfl,h⟩ u hu;simp at hu;subst hu;rfl⟩
theorem Sl.below{w w':World}{v:Value}{l:List α}{fp:List Nat}(h:Sl k E w v l fp)(hb:Below w.heap.size w w'):Sl k E w' v l fp:=Sl.agree G h (kX hb (Sl.lt G h))
end
theorem Sl.at{α:Type}{k:Nat}{E:ER α}{w:World}{oa:Option Addr}{n cap:Nat}{l:List α}{fp:List Nat}(h:Sl k E w (.slice oa n cap) l fp){i:Nat}{x:α}(hx:l[i]? =some x):
  ∃b off f cs,oa=some ⟨b,off,none⟩∧w.rangeAt b (off+i*k) cs∧E w cs x f∧(∀y,y∈f→y∈fp):=by
 obtain⟨TH,cap',hv,h1,h2,h3⟩:=h
 simp only[Value.slice.injEq]at hv
 obtain⟨rfl,_,rfl⟩:=hv
 rcases h3 with⟨rfl,_⟩| ⟨b,off,bn,rfl,hb,rfl,he⟩
 ·simp at hx
 ·obtain⟨f,hf⟩:=gd he.1 hx
  obtain⟨cs,hr,hE⟩:=he.2 i x f hx hf
  exact⟨b,off,f,cs,rfl,hr,hE,fun y hy=>List.mem_cons_of_mem _ (bX hf hy)⟩
structure Own(lo:Nat)(w:World)(fp:List Nat):Prop where
 nodup:fp.Nodup
 ge: ∀b,b∈fp→lo≤b
 kind: ∀b,b∈fp→ ∃c e,w.heap[b]? =some (.cells c e (0,0))
theorem Own.agree{lo:Nat}{w w':World}{fp:List Nat}(h:Own lo w fp)(ha:Agree w w' fp):Own lo w' fp:=⟨h.nodup,h.ge,fun b hb=>by rw[ha b hb];exact h.kind b hb⟩
theorem Own.lt{lo:Nat}{w:World}{fp:List Nat}(h:Own lo w fp): ∀b,b∈fp→b<w.heap.size:=fun b hb=>by
 obtain⟨c,e,hk⟩:=h.kind b hb
 exact(Array.getElem?_eq_some_iff.1 hk).1
theorem Own.nil(lo:Nat)(w:World):Own lo w []:=⟨List.nodup_nil,by simp,by simp⟩
theorem Own.mono{lo lo':Nat}{w:World}{fp:List Nat}(h:Own lo w fp)(hl:lo'≤lo):Own lo' w fp:=⟨h.nodup,fun b hb=>Nat.le_trans hl (h.ge b hb),h.kind⟩
theorem Own.below{lo:Nat}{w w':World}{fp:List Nat}(h:Own lo w fp)(hb:Below w.heap.size w w'):Own lo w' fp:=h.agree (kX hb h.lt)
theorem lI{α:Type}{k:Nat}{E:ER α}{w:World}{b o:Nat}{l:List α}{xs:List Value}{bn:List (List Nat)}(hf:bn.length=l.length)
  (hx: ∀j u,xs[j]? =some u→w.cell? ⟨b,o+j,none⟩=some u)(h: ∀i x f,l[i]? =some x→bn[i]? =some f→E w ((xs.drop (i*k)).take k) x f):nJ k E w b o l bn:=by
 refine⟨hf,fun i x f hi NO=>⟨_,fun j v hv=> ?_,h i x f hi NO⟩⟩
 rw[Nat.add_assoc]
 refine hx _ _ ?_
 rw[List.getElem?_take,]at hv
 split at hv
 ·rw[List.getElem?_drop]at hv;exact hv
 ·simp at hv
theorem FV{α:Type}{k:Nat}{E:ER α}{w:World}{b:Nat}{l:List α}{xs:List Value}{bn:List (List Nat)}(hf:bn.length=l.length)
  (hx: ∀j u,xs[j]? =some u→w.cell? ⟨b,j,none⟩=some u)(h: ∀i x f,l[i]? =some x→bn[i]? =some f→E w ((xs.drop (i*k)).take k) x f):nJ k E w b 0 l bn:=by
 refine⟨hf,fun i x f hi NO=>⟨_,fun j v hv=> ?_,h i x f hi NO⟩⟩
 rw[Nat.zero_add]
 refine hx _ _ ?_
 have:=List.getElem?_eq_some_iff.1 hv
 rw[List.getElem?_take,]at hv
 split at hv
 ·rw[List.getElem?_drop]at hv;exact hv
 ·simp at hv
end
end Go.Proofs.YtkcegdacbddipaaGreat.L
namespace Go.Proofs.YtkcegdacbddipaaGreat.D
set_option linter.all false
open Go.RowKit L
section
theorem Sl.one{α:Type}{k:Nat}{E:ER α}{w:World}{v:Value}{l:List α}{fp:List Nat}(h:Sl k E w v l fp):v.oneCell'=true:=by
 obtain⟨oa,cap,rfl,_⟩:=h;rfl
theorem gB: ∀u,u∈([]:List Value)→u.oneCell'=true:=by simp
theorem bF{v:Value}{l:List Value}(h:v.oneCell'=true)(r: ∀u,u∈l→u.oneCell'=true): ∀u,u∈v::l→u.oneCell'=true:=by
 intro u hu
 rcases List.mem_cons.1 hu with rfl|hu
 ·exact h
 ·exact r u hu
theorem rL{a b:List Value}(h: ∀u,u∈a→u.oneCell'=true)(r: ∀u,u∈b→u.oneCell'=true): ∀u,u∈a++b→u.oneCell'=true:=by
 intro u hu
 rcases List.mem_append.1 hu with hu|hu
 ·exact h u hu
 ·exact r u hu
abbrev RB:=Sl 1 Kr
structure DB where
 rows:(List (List UInt8))
instance:Inhabited DB:=⟨⟨[]⟩⟩
def Zt:ER DB:=fun w cs x fp=> ∃(PB:Value) (PC:List Nat),cs= [PB]∧Sl 1 (Zs 1 Kr) w PB x.rows PC∧fp=PC
theorem lY:fJ 1 Zt where
 agree:=by rintro w w' cs x fp ⟨v0,f0,rfl,h0,rfl⟩ ha;exact⟨v0,_,rfl,(Sl.agree (pR gP) h0 (ha.sub fun b hb=>by simp[hb])),rfl⟩
 lt:=by rintro w cs x fp ⟨v0,f0,rfl,h0,rfl⟩ b hb;exact Sl.lt (pR gP) h0 b hb
 len:=by rintro w cs x fp ⟨v0,f0,rfl,h0,rfl⟩;rfl
 one:=by rintro w cs x fp ⟨v0,f0,rfl,h0,rfl⟩;exact(bF (Sl.one h0) gB)
structure aM where
 client:Int
 share:DB
instance:Inhabited aM:=⟨⟨0,default⟩⟩
def wj:ER aM:=fun w cs x fp=> ∃(L1:List Value) (L2:List Nat),cs= [.int .i64 x.client]++L1∧Zt w L1 x.share L2∧fp=L2
theorem rM:fJ 2 wj where
 agree:=by rintro w w' cs x fp ⟨v0,f0,rfl,h0,rfl⟩ ha;exact⟨v0,_,rfl,(lY.agree h0 (ha.sub fun b hb=>by simp[hb])),rfl⟩
 lt:=by rintro w cs x fp ⟨v0,f0,rfl,h0,rfl⟩ b hb;exact lY.lt h0 b hb
 len:=by rintro w cs x fp ⟨v0,f0,rfl,h0,rfl⟩;simp[lY.len h0]
 one:=by rintro w cs x fp ⟨v0,f0,rfl,h0,rfl⟩;exact(rL (bF rfl gB) (lY.one h0))
structure aX where
 id:Int
 rows:Int
 round:Int
 received:(List aM)
 behavior:Int
instance:Inhabited aX:=⟨⟨0,0,0,[],0⟩⟩
def PD:ER aX:=fun w cs x fp=> ∃(B0:Value) (B3:List Nat),cs= [.int .i64 x.id, .int .i64 x.rows, .int .i64 x.round,B0, .int .i64 x.behavior]∧Sl 2 wj w B0 x.received B3∧fp=B3
theorem B4:fJ 5 PD where
 agree:=by rintro w w' cs x fp ⟨v0,f0,rfl,h0,rfl⟩ ha;exact⟨v0,_,rfl,(Sl.agree rM h0 (ha.sub fun b hb=>by simp[hb])),rfl⟩
 lt:=by rintro w cs x fp ⟨v0,f0,rfl,h0,rfl⟩ b hb;exact Sl.lt rM h0 b hb
 len:=by rintro w cs x fp ⟨v0,f0,rfl,h0,rfl⟩;rfl
 one:=by rintro w cs x fp ⟨v0,f0,rfl,h0,rfl⟩;exact(bF rfl (bF rfl (bF rfl (bF (Sl.one h0) (bF rfl gB)))))
structure aJ where
 round:Int
 db:DB
instance:Inhabited aJ:=⟨⟨0,default⟩⟩
def wk:ER aJ:=fun w cs x fp=> ∃(ZK:List Value) (ZL:List Nat),cs= [.int .i64 x.round]++ZK∧Zt w ZK x.db ZL∧fp=ZL
theorem rN:fJ 2 wk where
 agree:=by rintro w w' cs x fp ⟨v0,f0,rfl,h0,rfl⟩ ha;exact⟨v0,_,rfl,(lY.agree h0 (ha.sub fun b hb=>by simp[hb])),rfl⟩
 lt:=by rintro w cs x fp ⟨v0,f0,rfl,h0,rfl⟩ b hb;exact lY.lt h0 b hb
 len:=by rintro w cs x fp ⟨v0,f0,rfl,h0,rfl⟩;simp[lY.len h0]
 one:=by rintro w cs x fp ⟨v0,f0,rfl,h0,rfl⟩;exact(rL (bF rfl gB) (lY.one h0))
structure iC where
 rows:Int
 rounds:(List aJ)
instance:Inhabited iC:=⟨⟨0,[]⟩⟩
def PE:ER iC:=fun w cs x fp=> ∃(HR:Value) (HS:List Nat),cs= [.int .i64 x.rows,HR]∧Sl 2 wk w HR x.rounds HS∧fp=HS
theorem rO:fJ 2 PE where
 agree:=by rintro w w' cs x fp ⟨v0,f0,rfl,h0,rfl⟩ ha;exact⟨v0,_,rfl,(Sl.agree rN h0 (ha.sub fun b hb=>by simp[hb])),rfl⟩
 lt:=by rintro w cs x fp ⟨v0,f0,rfl,h0,rfl⟩ b hb;exact Sl.lt rN h0 b hb
 len:=by rintro w cs x fp ⟨v0,f0,rfl,h0,rfl⟩;rfl
 one:=by rintro w cs x fp ⟨v0,f0,rfl,h0,rfl⟩;exact(bF rfl (bF (Sl.one h0) gB))
structure dK where
 id:Int
 dz:Int
 key:Int
 seed:Int
 aI:(List (List UInt8))
 sent:Int
 inbox:(List (List UInt8))
 next:Int
instance:Inhabited dK:=⟨⟨0,0,0,0,[],0,[],0⟩⟩
def NR:ER dK:=fun w cs x fp=> ∃(Aw:Value) (L3:Value) (Ax L4:List Nat),cs= [.int .i64 x.id, .int .i64 x.dz, .int .i64 x.key, .int .i64 x.seed,Aw, .int .i64 x.sent,L3, .int .i64 x.next]∧Sl 1 (Zs 1 Kr) w Aw x.aI Ax∧Sl 1 (Zs 1 Kr) w L3 x.inbox L4∧fp=Ax++L4
theorem jk:fJ 8 NR where
 agree:=by rintro w w' cs x fp ⟨v0,v1,f0,f1,rfl,h0,h1,rfl⟩ ha;exact⟨v0,v1,_,_,rfl,(Sl.agree (pR gP) h0 (ha.sub fun b hb=>by simp[hb])),(Sl.agree (pR gP) h1 (ha.sub fun b hb=>by simp[hb])),rfl⟩
 lt:=by
  rintro w cs x fp ⟨v0,v1,f0,f1,rfl,h0,h1,rfl⟩ b hb
  simp only[List.mem_append]at hb
  rcases hb with hb|hb
  ·exact Sl.lt (pR gP) h0 b hb
  ·exact Sl.lt (pR gP) h1 b hb
 len:=by rintro w cs x fp ⟨v0,v1,f0,f1,rfl,h0,h1,rfl⟩;rfl
 one:=by rintro w cs x fp ⟨v0,v1,f0,f1,rfl,h0,h1,rfl⟩;exact(bF rfl (bF rfl (bF rfl (bF rfl (bF (Sl.one h0) (bF rfl (bF (Sl.one h1) (bF rfl gB))))))))
structure bg where
 live:dK
 saved:dK
instance:Inhabited bg:=⟨⟨default,default⟩⟩
def PF:ER bg:=fun w cs x fp=> ∃(PG:List Value) (L5:List Value) (PI L6:List Nat),cs=PG++L5∧NR w PG x.live PI∧NR w L5 x.saved L6∧fp=PI++L6
theorem B5:fJ 16 PF where
 agree:=by rintro w w' cs x fp ⟨v0,v1,f0,f1,rfl,h0,h1,rfl⟩ ha;exact⟨v0,v1,_,_,rfl,(jk.agree h0 (ha.sub fun b hb=>by simp[hb])),(jk.agree h1 (ha.sub fun b hb=>by simp[hb])),rfl⟩
 lt:=by
  rintro w cs x fp ⟨v0,v1,f0,f1,rfl,h0,h1,rfl⟩ b hb
  simp only[List.mem_append]at hb
  rcases hb with hb|hb
  ·exact jk.lt h0 b hb
  ·exact jk.lt h1 b hb
 len:=by rintro w cs x fp ⟨v0,v1,f0,f1,rfl,h0,h1,rfl⟩;simp[jk.len h0,jk.len h1]
 one:=by rintro w cs x fp ⟨v0,v1,f0,f1,rfl,h0,h1,rfl⟩;exact(rL (jk.one h0) (jk.one h1))
structure aV where
 rows:Int
 aj:(List aX)
 aa:(List bg)
 az:iC
 aT:Int
 seed:Int
 round:Int
 replaced:(List Int)
 cancelled:Int
instance:Inhabited aV:=⟨⟨0,[],[],default,0,0,0,[],0⟩⟩
def T4:ER aV:=fun w cs x fp=> ∃(EJ:Value) (EK:Value) (EL:List Value) (B6:Value) (EM EN EO B7:List Nat),cs= [.int .i64 x.rows,EJ,EK]++EL++ [.int .i64 x.aT, .int .i64 x.seed, .int .i64 x.round,B6, .int .i64 x.cancelled]∧Sl 5 PD w EJ x.aj EM∧Sl 16 PF w EK x.aa EN∧PE w EL x.az EO∧Sl 1 Py w B6 x.replaced B7∧fp=EM++EN++EO++B7
theorem PJ:fJ 10 T4 where
 agree:=by rintro w w' cs x fp ⟨v0,v1,v2,v3,f0,f1,f2,f3,rfl,h0,h1,h2,h3,rfl⟩ ha;exact⟨v0,v1,v2,v3,_,_,_,_,rfl,(Sl.agree B4 h0 (ha.sub fun b hb=>by simp[hb])),(Sl.agree B5 h1 (ha.sub fun b hb=>by simp[hb])),(rO.agree h2 (ha.sub fun b hb=>by simp[hb])),(Sl.agree rK h3 (ha.sub fun b hb=>by simp[hb])),rfl⟩
 lt:=by
  rintro w cs x fp ⟨v0,v1,v2,v3,f0,f1,f2,f3,rfl,h0,h1,h2,h3,rfl⟩ b hb
  simp only[List.mem_append]at hb
  rcases hb with((hb|hb)|hb)|hb
  ·exact Sl.lt B4 h0 b hb
  ·exact Sl.lt B5 h1 b hb
  ·exact rO.lt h2 b hb
  ·exact Sl.lt rK h3 b hb
 len:=by rintro w cs x fp ⟨v0,v1,v2,v3,f0,f1,f2,f3,rfl,h0,h1,h2,h3,rfl⟩;simp[rO.len h2]
 one:=by rintro w cs x fp ⟨v0,v1,v2,v3,f0,f1,f2,f3,rfl,h0,h1,h2,h3,rfl⟩;exact(rL (rL (bF rfl (bF (Sl.one h0) (bF (Sl.one h1) gB))) (rO.one h2)) (bF rfl (bF rfl (bF rfl (bF (Sl.one h3) (bF rfl gB))))))
structure Ev where
 kind:Int
 node:Int
 value:Int
 body:(List UInt8)
instance:Inhabited Ev:=⟨⟨0,0,0,[]⟩⟩
def EEv:ER Ev:=fun w cs x fp=> ∃(B8:Value) (B9:List Nat),cs= [.int .i64 x.kind, .int .i64 x.node, .int .i64 x.value,B8]∧Sl 1 Kr w B8 x.body B9∧fp=B9
theorem T5:fJ 4 EEv where
 agree:=by rintro w w' cs x fp ⟨v0,f0,rfl,h0,rfl⟩ ha;exact⟨v0,_,rfl,(Sl.agree gP h0 (ha.sub fun b hb=>by simp[hb])),rfl⟩
 lt:=by rintro w cs x fp ⟨v0,f0,rfl,h0,rfl⟩ b hb;exact Sl.lt gP h0 b hb
 len:=by rintro w cs x fp ⟨v0,f0,rfl,h0,rfl⟩;rfl
 one:=by rintro w cs x fp ⟨v0,f0,rfl,h0,rfl⟩;exact(bF rfl (bF rfl (bF rfl (bF (Sl.one h0) gB))))
structure yH where
 fr:Int
 to:Int
 bytes:Int
instance:Inhabited yH:=⟨⟨0,0,0⟩⟩
def PK:ER yH:=fun _ cs x fp=>cs= [.int .i64 x.fr, .int .i64 x.to, .int .i64 x.bytes]∧fp= []
theorem PL:fJ 3 PK where
 agree:=fun h _=>h
 lt:=by rintro w cs x fp ⟨rfl,rfl⟩ b hb;simp at hb
 len:=by rintro w cs x fp ⟨rfl,rfl⟩;rfl
 one:=by rintro w cs x fp ⟨rfl,rfl⟩ u hu;simp at hu;rcases hu with rfl|rfl|rfl<;>rfl
structure dG where
 server:Int
 client:Int
 round:Int
 mF:Int
 Kl:Int
instance:Inhabited dG:=⟨⟨0,0,0,0,0⟩⟩
def PM:ER dG:=fun _ cs x fp=>cs= [.int .i64 x.server, .int .i64 x.client, .int .i64 x.round, .int .i64 x.mF, .int .i64 x.Kl]∧fp= []
theorem PN:fJ 5 PM where
 agree:=fun h _=>h
 lt:=by rintro w cs x fp ⟨rfl,rfl⟩ b hb;simp at hb
 len:=by rintro w cs x fp ⟨rfl,rfl⟩;rfl
 one:=by rintro w cs x fp ⟨rfl,rfl⟩ u hu;simp at hu;rcases hu with rfl|rfl|rfl|rfl|rfl<;>rfl
structure Plain where
 kind:Int
 body:(List UInt8)
instance:Inhabited Plain:=⟨⟨0,[]⟩⟩
def FX:ER Plain:=fun w cs x fp=> ∃(B8:Value) (B9:List Nat),cs= [.int .i64 x.kind,B8]∧Sl 1 Kr w B8 x.body B9∧fp=B9
theorem Kt:fJ 2 FX where
 agree:=by rintro w w' cs x fp ⟨v0,f0,rfl,h0,rfl⟩ ha;exact⟨v0,_,rfl,(Sl.agree gP h0 (ha.sub fun b hb=>by simp[hb])),rfl⟩
 lt:=by rintro w cs x fp ⟨v0,f0,rfl,h0,rfl⟩ b hb;exact Sl.lt gP h0 b hb
 len:=by rintro w cs x fp ⟨v0,f0,rfl,h0,rfl⟩;rfl
 one:=by rintro w cs x fp ⟨v0,f0,rfl,h0,rfl⟩;exact(bF rfl (bF (Sl.one h0) gB))
structure cA where
 server:Int
 round:Int
 selection:(List Int)
 data:(List UInt8)
 Kl:Int
instance:Inhabited cA:=⟨⟨0,0,[],[],0⟩⟩
def L7:ER cA:=fun w cs x fp=> ∃(Ay:Value) (PO:Value) (Az PR:List Nat),cs= [.int .i64 x.server, .int .i64 x.round,Ay,PO, .int .i64 x.Kl]∧Sl 1 Py w Ay x.selection Az∧Sl 1 Kr w PO x.data PR∧fp=Az++PR
theorem NS:fJ 5 L7 where
 agree:=by rintro w w' cs x fp ⟨v0,v1,f0,f1,rfl,h0,h1,rfl⟩ ha;exact⟨v0,v1,_,_,rfl,(Sl.agree rK h0 (ha.sub fun b hb=>by simp[hb])),(Sl.agree gP h1 (ha.sub fun b hb=>by simp[hb])),rfl⟩
 lt:=by
  rintro w cs x fp ⟨v0,v1,f0,f1,rfl,h0,h1,rfl⟩ b hb
  simp only[List.mem_append]at hb
  rcases hb with hb|hb
  ·exact Sl.lt rK h0 b hb
  ·exact Sl.lt gP h1 b hb
 len:=by rintro w cs x fp ⟨v0,v1,f0,f1,rfl,h0,h1,rfl⟩;rfl
 one:=by rintro w cs x fp ⟨v0,v1,f0,f1,rfl,h0,h1,rfl⟩;exact(bF rfl (bF rfl (bF (Sl.one h0) (bF (Sl.one h1) (bF rfl gB)))))
end
end Go.Proofs.YtkcegdacbddipaaGreat.D
