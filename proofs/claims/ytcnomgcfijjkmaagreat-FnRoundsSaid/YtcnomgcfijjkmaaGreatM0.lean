/-
  The data of the program: structures, and how cells read as them.
-/
import Derived.Deep.MidRow
import Derived.Deep.Slices
import Derived.Lib.Hide
import Derived.WalkKit
import Derived.WalkLawsBesides
import Derived.WalkSpells
namespace Go.Proofs.YtcnomgcfijjkmaaGreat.L
set_option linter.all false
open Go.RowKit
section
theorem oI.{u}{α:Type u}(a b:α):(some a=some b)=(a=b):=Option.some.injEq a b
theorem pI.{u,v}{α:Type u}{β:Type v}(a:α)(b:β)(c:α)(d:β):((a,b)=(c,d))=(a=c∧b=d):=Prod.mk.injEq a b c d
abbrev ER(α:Type):=World→List Value→α→List Nat→Prop
def eU(w w':World)(fp:List Nat):Prop:= ∀b,b∈fp→w'.heap[b]? =w.heap[b]?
theorem eU.cell{w w':World}{fp:List Nat}(h:eU w w' fp){b:Nat}(hb:b∈fp)(o:Nat):w'.cell? ⟨b,o,none⟩=w.cell? ⟨b,o,none⟩:=
 World.cell?_of_block (w:=w) (a:=⟨b,o,none⟩) (h b hb)
theorem eU.range{w w':World}{fp:List Nat}(h:eU w w' fp){b:Nat}(hb:b∈fp){o:Nat}{cs:List Value}(hr:w.rangeAt b o cs):w'.rangeAt b o cs:=
 fun j v hv=>by rw[h.cell hb];exact hr j v hv
theorem eU.sub{w w':World}{fp fI:List Nat}(h:eU w w' fp)(hs: ∀b,b∈fI→b∈fp):eU w w' fI:=fun b hb=>h b (hs b hb)
theorem eU.trans{a b c:World}{fp:List Nat}(h:eU a b fp)(k:eU b c fp):eU a c fp:=fun x hx=>(k x hx).trans (h x hx)
theorem eU.refl(w:World)(fp:List Nat):eU w w fp:=fun _ _=>rfl
theorem mg{B:Nat}{w w':World}{fp:List Nat}(hb:Below B w w')(hf: ∀b,b∈fp→b<B):eU w w' fp:=fun b h=>hb.block b (hf b h)
structure fX{α:Type}(k:Nat)(E:ER α):Prop where
 bI: ∀{w w':World} {cs x fp},E w cs x fp→eU w w' fp→E w' cs x fp
 lt: ∀{w:World} {cs x fp},E w cs x fp→ ∀b,b∈fp→b<w.heap.size
 len: ∀{w:World} {cs x fp},E w cs x fp→cs.length=k
 one: ∀{w:World} {cs x fp},E w cs x fp→ ∀u,u∈cs→u.oneCell'=true
def qn{α:Type}(k:Nat)(E:ER α)(w:World)(b off:Nat)(l:List α)(bA:List (List Nat)):Prop:=
 bA.length=l.length∧ ∀i x f,l[i]? =some x→bA[i]? =some f→ ∃cs,w.rangeAt b (off+i*k) cs∧E w cs x f
def Fit(w:World)(b m:Nat):Prop:= ∃c e fz,w.heap[b]? =some (.cells c e fz)∧m≤c.size
theorem Fit.lt{w:World}{b m:Nat}(h:Fit w b m):b<w.heap.size:=by
 obtain⟨c,e,fz,hc,_⟩:=h
 exact(Array.getElem?_eq_some_iff.1 hc).1
theorem Fit.bI{w w':World}{b m:Nat}(h:Fit w b m)(ha:w'.heap[b]? =w.heap[b]?):Fit w' b m:=by
 obtain⟨c,e,fz,hc,hm⟩:=h
 exact⟨c,e,fz,by rw[ha];exact hc,hm⟩
theorem Fit.mono{w:World}{b m m':Nat}(h:Fit w b m)(hm:m'≤m):Fit w b m':=by
 obtain⟨c,e,fz,hc,h1⟩:=h
 exact⟨c,e,fz,hc,Nat.le_trans hm h1⟩
def Sl{α:Type}(k:Nat)(E:ER α)(w:World)(v:Value)(l:List α)(fp:List Nat):Prop:=
 ∃oa cap,v= .slice oa l.length cap∧l.length≤cap∧cap≤maxLen∧
  ((l= []∧fp= []∧cap=0)∨ ∃b off bA,oa=some ⟨b,off,none⟩∧Fit w b (off+cap*k)∧fp=b::bA.flatten∧qn k E w b off l bA)
def ESl{α:Type}(k:Nat)(E:ER α):ER (List α):=fun w cs l fp=> ∃v,cs= [v]∧Sl k E w v l fp
def QJ:ER Int:=fun _ cs n fp=>cs= [.int .i64 n]∧fp= []
def LC:ER UInt8:=fun _ cs n fp=>cs= [.int .u8 n.toNat]∧fp= []
def YP:ER (List UInt8):=fun _ cs s fp=>cs= [.string ⟨s.toArray⟩]∧s.length≤maxLen∧fp= []
theorem tS:fX 1 QJ:=⟨fun h _=>h,by rintro w cs x fp ⟨rfl,rfl⟩ b hb;simp at hb,by rintro w cs x fp ⟨rfl,rfl⟩;rfl,by rintro w cs x fp ⟨rfl,rfl⟩ u hu;simp at hu;subst hu;rfl⟩
theorem iQ:fX 1 LC:=⟨fun h _=>h,by rintro w cs x fp ⟨rfl,rfl⟩ b hb;simp at hb,by rintro w cs x fp ⟨rfl,rfl⟩;rfl,by rintro w cs x fp ⟨rfl,rfl⟩ u hu;simp at hu;subst hu;rfl⟩
theorem QK:fX 1 YP:=⟨fun h _=>h,by rintro w cs x fp ⟨rfl,_,rfl⟩ b hb;simp at hb,by rintro w cs x fp ⟨rfl,_,rfl⟩;rfl,by rintro w cs x fp ⟨rfl,_,rfl⟩ u hu;simp at hu;subst hu;rfl⟩
theorem cX{l:List (List Nat)}{i:Nat}{f:List Nat}(h:l[i]? =some f){b:Nat}(hb:b∈f):b∈l.flatten:=
 List.mem_flatten.2 ⟨f,List.mem_of_getElem? h,hb⟩
theorem jx{α:Type}{l:List α}{bA:List (List Nat)}(h:bA.length=l.length){i:Nat}{x:α}(hx:l[i]? =some x): ∃f,bA[i]? =some f:=by
 have:i<l.length:=(List.getElem?_eq_some_iff.1 hx).1
 exact⟨bA[i],List.getElem?_eq_getElem (by omega)⟩
section
variable{α:Type}{k:Nat}{E:ER α}(G:fX k E)
include G
theorem qn.bI{w w':World}{b off:Nat}{l:List α}{bA:List (List Nat)}(h:qn k E w b off l bA)(hb:w'.heap[b]? =w.heap[b]?)(ha:eU w w' bA.flatten):qn k E w' b off l bA:=by
 refine⟨h.1,fun i x f hx hf=> ?_⟩
 obtain⟨cs,hr,he⟩:=h.2 i x f hx hf
 refine⟨cs,fun j v hv=> ?_,G.bI he (ha.sub fun _ hm=>cX hf hm)⟩
 rw[World.cell?_of_block (w:=w) (a:=⟨b,_,none⟩) hb];exact hr j v hv
theorem Sl.bI{w w':World}{v:Value}{l:List α}{fp:List Nat}(h:Sl k E w v l fp)(ha:eU w w' fp):Sl k E w' v l fp:=by
 obtain⟨oa,cap,rfl,h1,h2,h3⟩:=h
 refine⟨oa,cap,rfl,h1,h2,?_⟩
 rcases h3 with h3| ⟨b,off,bA,rfl,hb,rfl,he⟩
 ·exact Or.inl h3
 ·have hbk:=ha b (by simp)
  exact Or.inr ⟨b,off,bA,rfl,hb.bI hbk,rfl,qn.bI G he hbk (ha.sub (fun _ hm=>List.mem_cons_of_mem _ hm))⟩
theorem Sl.lt{w:World}{v:Value}{l:List α}{fp:List Nat}(h:Sl k E w v l fp): ∀b,b∈fp→b<w.heap.size:=by
 obtain⟨oa,cap,rfl,h1,h2,h3⟩:=h
 rcases h3 with⟨_,rfl,_⟩| ⟨b,off,bA,rfl,hb,rfl,he⟩
 ·simp
 ·intro c hc
  rcases List.mem_cons.1 hc with rfl|hc
  ·exact hb.lt
  ·obtain⟨f,hf,hcf⟩:=List.mem_flatten.1 hc
   obtain⟨i,hi⟩:=List.getElem?_of_mem hf
   have hil:i<l.length:=by have:=(List.getElem?_eq_some_iff.1 hi).1;have:=he.1;omega
   obtain⟨cs,_,hE⟩:=he.2 i l[i] f (List.getElem?_eq_getElem hil) hi
   exact G.lt hE c hcf
theorem rE:fX 1 (ESl k E):=
 ⟨by rintro w w' cs x fp ⟨v,rfl,h⟩ ha;exact⟨v,rfl,Sl.bI G h ha⟩,by rintro w cs x fp ⟨v,rfl,h⟩;exact Sl.lt G h,
  by rintro w cs x fp ⟨v,rfl,h⟩;rfl,by rintro w cs x fp ⟨v,rfl,oa,cap,rfl,h⟩ u hu;simp at hu;subst hu;rfl⟩
theorem Sl.below{w w':World}{v:Value}{l:List α}{fp:List Nat}(h:Sl k E w v l fp)(hb:Below w.heap.size w w'):Sl k E w' v l fp:=Sl.bI G h (mg hb (Sl.lt G h))
end
theorem Sl.at{α:Type}{k:Nat}{E:ER α}{w:World}{oa:Option Addr}{n cap:Nat}{l:List α}{fp:List Nat}(h:Sl k E w (.slice oa n cap) l fp){i:Nat}{x:α}(hx:l[i]? =some x):
  ∃b off f cs,oa=some ⟨b,off,none⟩∧w.rangeAt b (off+i*k) cs∧E w cs x f∧(∀y,y∈f→y∈fp):=by
 obtain⟨VA,cap',hv,h1,h2,h3⟩:=h
 simp only[Value.slice.injEq]at hv
 obtain⟨rfl,_,rfl⟩:=hv
 rcases h3 with⟨rfl,_⟩| ⟨b,off,bA,rfl,hb,rfl,he⟩
 ·simp at hx
 ·obtain⟨f,hf⟩:=jx he.1 hx
  obtain⟨cs,hr,hE⟩:=he.2 i x f hx hf
  exact⟨b,off,f,cs,rfl,hr,hE,fun y hy=>List.mem_cons_of_mem _ (cX hf hy)⟩
structure Own(lo:Nat)(w:World)(fp:List Nat):Prop where
 nodup:fp.Nodup
 ge: ∀b,b∈fp→lo≤b
 kind: ∀b,b∈fp→ ∃c e,w.heap[b]? =some (.cells c e (0,0))
theorem Own.bI{lo:Nat}{w w':World}{fp:List Nat}(h:Own lo w fp)(ha:eU w w' fp):Own lo w' fp:=⟨h.nodup,h.ge,fun b hb=>by rw[ha b hb];exact h.kind b hb⟩
theorem Own.lt{lo:Nat}{w:World}{fp:List Nat}(h:Own lo w fp): ∀b,b∈fp→b<w.heap.size:=fun b hb=>by
 obtain⟨c,e,hk⟩:=h.kind b hb
 exact(Array.getElem?_eq_some_iff.1 hk).1
theorem Own.nil(lo:Nat)(w:World):Own lo w []:=⟨List.nodup_nil,by simp,by simp⟩
theorem Own.mono{lo lo':Nat}{w:World}{fp:List Nat}(h:Own lo w fp)(hl:lo'≤lo):Own lo' w fp:=⟨h.nodup,fun b hb=>Nat.le_trans hl (h.ge b hb),h.kind⟩
theorem Own.below{lo:Nat}{w w':World}{fp:List Nat}(h:Own lo w fp)(hb:Below w.heap.size w w'):Own lo w' fp:=h.bI (mg hb h.lt)
theorem B8{α:Type}{k:Nat}{E:ER α}{w:World}{b o:Nat}{l:List α}{xs:List Value}{bA:List (List Nat)}(hf:bA.length=l.length)
  (hx: ∀j u,xs[j]? =some u→w.cell? ⟨b,o+j,none⟩=some u)(h: ∀i x f,l[i]? =some x→bA[i]? =some f→E w ((xs.drop (i*k)).take k) x f):qn k E w b o l bA:=by
 refine⟨hf,fun i x f hi XI=>⟨_,fun j v hv=> ?_,h i x f hi XI⟩⟩
 rw[Nat.add_assoc]
 refine hx _ _ ?_
 rw[List.getElem?_take,]at hv
 split at hv
 ·rw[List.getElem?_drop]at hv;exact hv
 ·simp at hv
theorem Hj{α:Type}{k:Nat}{E:ER α}{w:World}{b:Nat}{l:List α}{xs:List Value}{bA:List (List Nat)}(hf:bA.length=l.length)
  (hx: ∀j u,xs[j]? =some u→w.cell? ⟨b,j,none⟩=some u)(h: ∀i x f,l[i]? =some x→bA[i]? =some f→E w ((xs.drop (i*k)).take k) x f):qn k E w b 0 l bA:=by
 refine⟨hf,fun i x f hi XI=>⟨_,fun j v hv=> ?_,h i x f hi XI⟩⟩
 rw[Nat.zero_add]
 refine hx _ _ ?_
 have:=List.getElem?_eq_some_iff.1 hv
 rw[List.getElem?_take,]at hv
 split at hv
 ·rw[List.getElem?_drop]at hv;exact hv
 ·simp at hv
end
end Go.Proofs.YtcnomgcfijjkmaaGreat.L
namespace Go.Proofs.YtcnomgcfijjkmaaGreat.D
set_option linter.all false
open Go.RowKit L
section
theorem Sl.one{α:Type}{k:Nat}{E:ER α}{w:World}{v:Value}{l:List α}{fp:List Nat}(h:Sl k E w v l fp):v.oneCell'=true:=by
 obtain⟨oa,cap,rfl,_⟩:=h;rfl
theorem iw: ∀u,u∈([]:List Value)→u.oneCell'=true:=by simp
theorem bT{v:Value}{l:List Value}(h:v.oneCell'=true)(r: ∀u,u∈l→u.oneCell'=true): ∀u,u∈v::l→u.oneCell'=true:=by
 intro u hu
 rcases List.mem_cons.1 hu with rfl|hu
 ·exact h
 ·exact r u hu
theorem tT{a b:List Value}(h: ∀u,u∈a→u.oneCell'=true)(r: ∀u,u∈b→u.oneCell'=true): ∀u,u∈a++b→u.oneCell'=true:=by
 intro u hu
 rcases List.mem_append.1 hu with hu|hu
 ·exact h u hu
 ·exact r u hu
abbrev RB:=Sl 1 LC
structure DB where
 rows:(List (List UInt8))
instance:Inhabited DB:=⟨⟨[]⟩⟩
def EDB:ER DB:=fun w cs x fp=> ∃(QN:Value) (QO:List Nat),cs= [QN]∧Sl 1 (ESl 1 LC) w QN x.rows QO∧fp=QO
theorem mY:fX 1 EDB where
 bI:=by rintro w w' cs x fp ⟨v0,f0,rfl,h0,rfl⟩ ha;exact⟨v0,_,rfl,(Sl.bI (rE iQ) h0 (ha.sub fun b hb=>by simp[hb])),rfl⟩
 lt:=by rintro w cs x fp ⟨v0,f0,rfl,h0,rfl⟩ b hb;exact Sl.lt (rE iQ) h0 b hb
 len:=by rintro w cs x fp ⟨v0,f0,rfl,h0,rfl⟩;rfl
 one:=by rintro w cs x fp ⟨v0,f0,rfl,h0,rfl⟩;exact(bT (Sl.one h0) iw)
structure aR where
 client:Int
 share:DB
instance:Inhabited aR:=⟨⟨0,default⟩⟩
def yz:ER aR:=fun w cs x fp=> ∃(Nn:List Value) (No:List Nat),cs= [.int .i64 x.client]++Nn∧EDB w Nn x.share No∧fp=No
theorem tU:fX 2 yz where
 bI:=by rintro w w' cs x fp ⟨v0,f0,rfl,h0,rfl⟩ ha;exact⟨v0,_,rfl,(mY.bI h0 (ha.sub fun b hb=>by simp[hb])),rfl⟩
 lt:=by rintro w cs x fp ⟨v0,f0,rfl,h0,rfl⟩ b hb;exact mY.lt h0 b hb
 len:=by rintro w cs x fp ⟨v0,f0,rfl,h0,rfl⟩;simp[mY.len h0]
 one:=by rintro w cs x fp ⟨v0,f0,rfl,h0,rfl⟩;exact(tT (bT rfl iw) (mY.one h0))
structure bw where
 id:Int
 rows:Int
 round:Int
 received:(List aR)
 behavior:Int
instance:Inhabited bw:=⟨⟨0,0,0,[],0⟩⟩
def QS:ER bw:=fun w cs x fp=> ∃(Dk:Value) (Dl:List Nat),cs= [.int .i64 x.id, .int .i64 x.rows, .int .i64 x.round,Dk, .int .i64 x.behavior]∧Sl 2 yz w Dk x.received Dl∧fp=Dl
theorem Dm:fX 5 QS where
 bI:=by rintro w w' cs x fp ⟨v0,f0,rfl,h0,rfl⟩ ha;exact⟨v0,_,rfl,(Sl.bI tU h0 (ha.sub fun b hb=>by simp[hb])),rfl⟩
 lt:=by rintro w cs x fp ⟨v0,f0,rfl,h0,rfl⟩ b hb;exact Sl.lt tU h0 b hb
 len:=by rintro w cs x fp ⟨v0,f0,rfl,h0,rfl⟩;rfl
 one:=by rintro w cs x fp ⟨v0,f0,rfl,h0,rfl⟩;exact(bT rfl (bT rfl (bT rfl (bT (Sl.one h0) (bT rfl iw)))))
structure aN where
 round:Int
 db:DB
instance:Inhabited aN:=⟨⟨0,default⟩⟩
def yA:ER aN:=fun w cs x fp=> ∃(abu:List Value) (abv:List Nat),cs= [.int .i64 x.round]++abu∧EDB w abu x.db abv∧fp=abv
theorem tV:fX 2 yA where
 bI:=by rintro w w' cs x fp ⟨v0,f0,rfl,h0,rfl⟩ ha;exact⟨v0,_,rfl,(mY.bI h0 (ha.sub fun b hb=>by simp[hb])),rfl⟩
 lt:=by rintro w cs x fp ⟨v0,f0,rfl,h0,rfl⟩ b hb;exact mY.lt h0 b hb
 len:=by rintro w cs x fp ⟨v0,f0,rfl,h0,rfl⟩;simp[mY.len h0]
 one:=by rintro w cs x fp ⟨v0,f0,rfl,h0,rfl⟩;exact(tT (bT rfl iw) (mY.one h0))
structure iP where
 rows:Int
 rounds:(List aN)
instance:Inhabited iP:=⟨⟨0,[]⟩⟩
def QT:ER iP:=fun w cs x fp=> ∃(Jc:Value) (Jd:List Nat),cs= [.int .i64 x.rows,Jc]∧Sl 2 yA w Jc x.rounds Jd∧fp=Jd
theorem tW:fX 2 QT where
 bI:=by rintro w w' cs x fp ⟨v0,f0,rfl,h0,rfl⟩ ha;exact⟨v0,_,rfl,(Sl.bI tV h0 (ha.sub fun b hb=>by simp[hb])),rfl⟩
 lt:=by rintro w cs x fp ⟨v0,f0,rfl,h0,rfl⟩ b hb;exact Sl.lt tV h0 b hb
 len:=by rintro w cs x fp ⟨v0,f0,rfl,h0,rfl⟩;rfl
 one:=by rintro w cs x fp ⟨v0,f0,rfl,h0,rfl⟩;exact(bT rfl (bT (Sl.one h0) iw))
structure eg where
 id:Int
 ct:Int
 key:Int
 seed:Int
 aJ:(List (List UInt8))
 sent:Int
 inbox:(List (List UInt8))
 next:Int
instance:Inhabited eg:=⟨⟨0,0,0,0,[],0,[],0⟩⟩
def O9:ER eg:=fun w cs x fp=> ∃(BJ:Value) (Np:Value) (BK Nq:List Nat),cs= [.int .i64 x.id, .int .i64 x.ct, .int .i64 x.key, .int .i64 x.seed,BJ, .int .i64 x.sent,Np, .int .i64 x.next]∧Sl 1 (ESl 1 LC) w BJ x.aJ BK∧Sl 1 (ESl 1 LC) w Np x.inbox Nq∧fp=BK++Nq
theorem kC:fX 8 O9 where
 bI:=by rintro w w' cs x fp ⟨v0,v1,f0,f1,rfl,h0,h1,rfl⟩ ha;exact⟨v0,v1,_,_,rfl,(Sl.bI (rE iQ) h0 (ha.sub fun b hb=>by simp[hb])),(Sl.bI (rE iQ) h1 (ha.sub fun b hb=>by simp[hb])),rfl⟩
 lt:=by
  rintro w cs x fp ⟨v0,v1,f0,f1,rfl,h0,h1,rfl⟩ b hb
  simp only[List.mem_append]at hb
  rcases hb with hb|hb
  ·exact Sl.lt (rE iQ) h0 b hb
  ·exact Sl.lt (rE iQ) h1 b hb
 len:=by rintro w cs x fp ⟨v0,v1,f0,f1,rfl,h0,h1,rfl⟩;rfl
 one:=by rintro w cs x fp ⟨v0,v1,f0,f1,rfl,h0,h1,rfl⟩;exact(bT rfl (bT rfl (bT rfl (bT rfl (bT (Sl.one h0) (bT rfl (bT (Sl.one h1) (bT rfl iw))))))))
structure bC where
 live:eg
 saved:eg
instance:Inhabited bC:=⟨⟨default,default⟩⟩
def QU:ER bC:=fun w cs x fp=> ∃(QV:List Value) (Nr:List Value) (QW Ns:List Nat),cs=QV++Nr∧O9 w QV x.live QW∧O9 w Nr x.saved Ns∧fp=QW++Ns
theorem Dn:fX 16 QU where
 bI:=by rintro w w' cs x fp ⟨v0,v1,f0,f1,rfl,h0,h1,rfl⟩ ha;exact⟨v0,v1,_,_,rfl,(kC.bI h0 (ha.sub fun b hb=>by simp[hb])),(kC.bI h1 (ha.sub fun b hb=>by simp[hb])),rfl⟩
 lt:=by
  rintro w cs x fp ⟨v0,v1,f0,f1,rfl,h0,h1,rfl⟩ b hb
  simp only[List.mem_append]at hb
  rcases hb with hb|hb
  ·exact kC.lt h0 b hb
  ·exact kC.lt h1 b hb
 len:=by rintro w cs x fp ⟨v0,v1,f0,f1,rfl,h0,h1,rfl⟩;simp[kC.len h0,kC.len h1]
 one:=by rintro w cs x fp ⟨v0,v1,f0,f1,rfl,h0,h1,rfl⟩;exact(tT (kC.one h0) (kC.one h1))
structure bp where
 rows:Int
 av:(List bw)
 ak:(List bC)
 aB:iP
 aX:Int
 seed:Int
 round:Int
 replaced:(List Int)
 cancelled:Int
instance:Inhabited bp:=⟨⟨0,[],[],default,0,0,0,[],0⟩⟩
def VD:ER bp:=fun w cs x fp=> ∃(F6:Value) (F7:Value) (F8:List Value) (Dp:Value) (F9 Ga Gb Dq:List Nat),cs= [.int .i64 x.rows,F6,F7]++F8++ [.int .i64 x.aX, .int .i64 x.seed, .int .i64 x.round,Dp, .int .i64 x.cancelled]∧Sl 5 QS w F6 x.av F9∧Sl 16 QU w F7 x.ak Ga∧QT w F8 x.aB Gb∧Sl 1 QJ w Dp x.replaced Dq∧fp=F9++Ga++Gb++Dq
theorem QX:fX 10 VD where
 bI:=by rintro w w' cs x fp ⟨v0,v1,v2,v3,f0,f1,f2,f3,rfl,h0,h1,h2,h3,rfl⟩ ha;exact⟨v0,v1,v2,v3,_,_,_,_,rfl,(Sl.bI Dm h0 (ha.sub fun b hb=>by simp[hb])),(Sl.bI Dn h1 (ha.sub fun b hb=>by simp[hb])),(tW.bI h2 (ha.sub fun b hb=>by simp[hb])),(Sl.bI tS h3 (ha.sub fun b hb=>by simp[hb])),rfl⟩
 lt:=by
  rintro w cs x fp ⟨v0,v1,v2,v3,f0,f1,f2,f3,rfl,h0,h1,h2,h3,rfl⟩ b hb
  simp only[List.mem_append]at hb
  rcases hb with((hb|hb)|hb)|hb
  ·exact Sl.lt Dm h0 b hb
  ·exact Sl.lt Dn h1 b hb
  ·exact tW.lt h2 b hb
  ·exact Sl.lt tS h3 b hb
 len:=by rintro w cs x fp ⟨v0,v1,v2,v3,f0,f1,f2,f3,rfl,h0,h1,h2,h3,rfl⟩;simp[tW.len h2]
 one:=by rintro w cs x fp ⟨v0,v1,v2,v3,f0,f1,f2,f3,rfl,h0,h1,h2,h3,rfl⟩;exact(tT (tT (bT rfl (bT (Sl.one h0) (bT (Sl.one h1) iw))) (tW.one h2)) (bT rfl (bT rfl (bT rfl (bT (Sl.one h3) (bT rfl iw))))))
structure Ev where
 kind:Int
 node:Int
 value:Int
 body:(List UInt8)
instance:Inhabited Ev:=⟨⟨0,0,0,[]⟩⟩
def EEv:ER Ev:=fun w cs x fp=> ∃(Dr:Value) (Ds:List Nat),cs= [.int .i64 x.kind, .int .i64 x.node, .int .i64 x.value,Dr]∧Sl 1 LC w Dr x.body Ds∧fp=Ds
theorem VE:fX 4 EEv where
 bI:=by rintro w w' cs x fp ⟨v0,f0,rfl,h0,rfl⟩ ha;exact⟨v0,_,rfl,(Sl.bI iQ h0 (ha.sub fun b hb=>by simp[hb])),rfl⟩
 lt:=by rintro w cs x fp ⟨v0,f0,rfl,h0,rfl⟩ b hb;exact Sl.lt iQ h0 b hb
 len:=by rintro w cs x fp ⟨v0,f0,rfl,h0,rfl⟩;rfl
 one:=by rintro w cs x fp ⟨v0,f0,rfl,h0,rfl⟩;exact(bT rfl (bT rfl (bT rfl (bT (Sl.one h0) iw))))
structure gB where
 fr:Int
 to:Int
 bytes:Int
instance:Inhabited gB:=⟨⟨0,0,0⟩⟩
def QY:ER gB:=fun _ cs x fp=>cs= [.int .i64 x.fr, .int .i64 x.to, .int .i64 x.bytes]∧fp= []
theorem QZ:fX 3 QY where
 bI:=fun h _=>h
 lt:=by rintro w cs x fp ⟨rfl,rfl⟩ b hb;simp at hb
 len:=by rintro w cs x fp ⟨rfl,rfl⟩;rfl
 one:=by rintro w cs x fp ⟨rfl,rfl⟩ u hu;simp at hu;rcases hu with rfl|rfl|rfl<;>rfl
structure eD where
 server:Int
 client:Int
 round:Int
 nI:Int
 Ls:Int
instance:Inhabited eD:=⟨⟨0,0,0,0,0⟩⟩
def Q0:ER eD:=fun _ cs x fp=>cs= [.int .i64 x.server, .int .i64 x.client, .int .i64 x.round, .int .i64 x.nI, .int .i64 x.Ls]∧fp= []
theorem Q1:fX 5 Q0 where
 bI:=fun h _=>h
 lt:=by rintro w cs x fp ⟨rfl,rfl⟩ b hb;simp at hb
 len:=by rintro w cs x fp ⟨rfl,rfl⟩;rfl
 one:=by rintro w cs x fp ⟨rfl,rfl⟩ u hu;simp at hu;rcases hu with rfl|rfl|rfl|rfl|rfl<;>rfl
structure Plain where
 kind:Int
 body:(List UInt8)
instance:Inhabited Plain:=⟨⟨0,[]⟩⟩
def Ho:ER Plain:=fun w cs x fp=> ∃(Dr:Value) (Ds:List Nat),cs= [.int .i64 x.kind,Dr]∧Sl 1 LC w Dr x.body Ds∧fp=Ds
theorem LF:fX 2 Ho where
 bI:=by rintro w w' cs x fp ⟨v0,f0,rfl,h0,rfl⟩ ha;exact⟨v0,_,rfl,(Sl.bI iQ h0 (ha.sub fun b hb=>by simp[hb])),rfl⟩
 lt:=by rintro w cs x fp ⟨v0,f0,rfl,h0,rfl⟩ b hb;exact Sl.lt iQ h0 b hb
 len:=by rintro w cs x fp ⟨v0,f0,rfl,h0,rfl⟩;rfl
 one:=by rintro w cs x fp ⟨v0,f0,rfl,h0,rfl⟩;exact(bT rfl (bT (Sl.one h0) iw))
structure cY where
 server:Int
 round:Int
 selection:(List Int)
 data:(List UInt8)
 Ls:Int
instance:Inhabited cY:=⟨⟨0,0,[],[],0⟩⟩
def Nt:ER cY:=fun w cs x fp=> ∃(BL:Value) (Q2:Value) (BM Q3:List Nat),cs= [.int .i64 x.server, .int .i64 x.round,BL,Q2, .int .i64 x.Ls]∧Sl 1 QJ w BL x.selection BM∧Sl 1 LC w Q2 x.data Q3∧fp=BM++Q3
theorem Pa:fX 5 Nt where
 bI:=by rintro w w' cs x fp ⟨v0,v1,f0,f1,rfl,h0,h1,rfl⟩ ha;exact⟨v0,v1,_,_,rfl,(Sl.bI tS h0 (ha.sub fun b hb=>by simp[hb])),(Sl.bI iQ h1 (ha.sub fun b hb=>by simp[hb])),rfl⟩
 lt:=by
  rintro w cs x fp ⟨v0,v1,f0,f1,rfl,h0,h1,rfl⟩ b hb
  simp only[List.mem_append]at hb
  rcases hb with hb|hb
  ·exact Sl.lt tS h0 b hb
  ·exact Sl.lt iQ h1 b hb
 len:=by rintro w cs x fp ⟨v0,v1,f0,f1,rfl,h0,h1,rfl⟩;rfl
 one:=by rintro w cs x fp ⟨v0,v1,f0,f1,rfl,h0,h1,rfl⟩;exact(bT rfl (bT rfl (bT (Sl.one h0) (bT (Sl.one h1) (bT rfl iw)))))
end
end Go.Proofs.YtcnomgcfijjkmaaGreat.D
