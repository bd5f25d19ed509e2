/-
  The data of the program: structures, and how cells read as them.
-/
import Derived.Deep.MidRow
import Derived.Deep.Slices
import Derived.Lib.Hide
import Derived.WalkKit
import Derived.WalkLawsBesides
import Derived.WalkSpells
open Array renaming getElem?_eq_some_iff→dj
open List renaming getElem?_drop→cN,getElem?_eq_getElem→au,getElem?_eq_some_iff→aI,getElem?_take→cH,mem_append→aL,mem_cons→bh,mem_cons_of_mem→aK,mem_flatten→mM
namespace Go.Proofs.YtkcegdacbddipaaGreat.L
set_option linter.all false
open Go.RowKit
section
theorem oI.{u}{α:Type u}(a b:α):(some a=some b)=(a=b):=Option.some.injEq a b
theorem pI.{u,v}{α:Type u}{β:Type v}(a:α)(b:β)(c:α)(d:β):((a,b)=(c,d))=(a=c∧b=d):=Prod.mk.injEq a b c d
abbrev ER(α:Type):=World→List Value→α→List Nat→Prop
def Agree(w w':World)(fp:List Nat):Prop:= ∀b,b∈fp→w'.heap[b]? =w.heap[b]?
theorem Agree.cell{w w':World}{fp:List Nat}(h:Agree w w' fp){b:Nat}(hb:b∈fp)(o:Nat):w'.cell? ⟨b,o,none⟩=w.cell? ⟨b,o,none⟩:=
 World.cell?_of_block (w:=w) (a:=⟨b,o,none⟩) (h b hb)
theorem Agree.range{w w':World}{fp:List Nat}(h:Agree w w' fp){b:Nat}(hb:b∈fp){o:Nat}{cs:List Value}(hr:w.rangeAt b o cs):w'.rangeAt b o cs:=
 fun j v hv=>by rw[h.cell hb];exact hr j v hv
theorem Agree.sub{w w':World}{fp jD:List Nat}(h:Agree w w' fp)(hs: ∀b,b∈jD→b∈fp):Agree w w' jD:=fun b hb=>h b (hs b hb)
theorem Agree.trans{a b c:World}{fp:List Nat}(h:Agree a b fp)(k:Agree b c fp):Agree a c fp:=fun x hx=>(k x hx).trans (h x hx)
theorem Agree.refl(w:World)(fp:List Nat):Agree w w fp:=fun _ _=>rfl
theorem qc{B:Nat}{w w':World}{fp:List Nat}(hb:Below B w w')(hf: ∀b,b∈fp→b<B):Agree w w' fp:=fun b h=>hb.block b (hf b h)
structure j0{α:Type}(k:Nat)(E:ER α):Prop where
 agree: ∀{w w':World} {cs x fp},E w cs x fp→Agree w w' fp→E w' cs x fp
 lt: ∀{w:World} {cs x fp},E w cs x fp→ ∀b,b∈fp→b<w.heap.size
 len: ∀{w:World} {cs x fp},E w cs x fp→cs.length=k
 one: ∀{w:World} {cs x fp},E w cs x fp→ ∀u,u∈cs→u.oneCell'=true
def tJ{α:Type}(k:Nat)(E:ER α)(w:World)(b off:Nat)(l:List α)(cB:List (List Nat)):Prop:=
 cB.length=l.length∧ ∀i x f,l[i]? =some x→cB[i]? =some f→ ∃cs,w.rangeAt b (off+i*k) cs∧E w cs x f
def Fit(w:World)(b m:Nat):Prop:= ∃c e fz,w.heap[b]? =some (.cells c e fz)∧m≤c.size
theorem Fit.lt{w:World}{b m:Nat}(h:Fit w b m):b<w.heap.size:=by
 obtain⟨c,e,fz,hc,_⟩:=h
 exact(dj.1 hc).1
theorem Fit.agree{w w':World}{b m:Nat}(h:Fit w b m)(ha:w'.heap[b]? =w.heap[b]?):Fit w' b m:=by
 obtain⟨c,e,fz,hc,hm⟩:=h
 exact⟨c,e,fz,by rw[ha];exact hc,hm⟩
theorem Fit.mono{w:World}{b m m':Nat}(h:Fit w b m)(hm:m'≤m):Fit w b m':=by
 obtain⟨c,e,fz,hc,h1⟩:=h
 exact⟨c,e,fz,hc,Nat.le_trans hm h1⟩
def Sl{α:Type}(k:Nat)(E:ER α)(w:World)(v:Value)(l:List α)(fp:List Nat):Prop:=
 ∃oa cap,v= .slice oa l.length cap∧l.length≤cap∧cap≤maxLen∧
  ((l= []∧fp= []∧cap=0)∨ ∃b off cB,oa=some ⟨b,off,none⟩∧Fit w b (off+cap*k)∧fp=b::cB.flatten∧tJ k E w b off l cB)
def ESl{α:Type}(k:Nat)(E:ER α):ER (List α):=fun w cs l fp=> ∃v,cs= [v]∧Sl k E w v l fp
def WU:ER Int:=fun _ cs n fp=>cs= [.int .i64 n]∧fp= []
def R8:ER UInt8:=fun _ cs n fp=>cs= [.int .u8 n.toNat]∧fp= []
def abw:ER (List UInt8):=fun _ cs s fp=>cs= [.string ⟨s.toArray⟩]∧s.length≤maxLen∧fp= []
theorem xF:j0 1 WU:=⟨fun h _=>h,by rintro w cs x fp ⟨rfl,rfl⟩ b hb;simp at hb,by rintro w cs x fp ⟨rfl,rfl⟩;rfl,by rintro w cs x fp ⟨rfl,rfl⟩ u hu;simp at hu;subst hu;rfl⟩
theorem lW:j0 1 R8:=⟨fun h _=>h,by rintro w cs x fp ⟨rfl,rfl⟩ b hb;simp at hb,by rintro w cs x fp ⟨rfl,rfl⟩;rfl,by rintro w cs x fp ⟨rfl,rfl⟩ u hu;simp at hu;subst hu;rfl⟩
theorem WV:j0 1 abw:=⟨fun h _=>h,by rintro w cs x fp ⟨rfl,_,rfl⟩ b hb;simp at hb,by rintro w cs x fp ⟨rfl,_,rfl⟩;rfl,by rintro w cs x fp ⟨rfl,_,rfl⟩ u hu;simp at hu;subst hu;rfl⟩
theorem eo{l:List (List Nat)}{i:Nat}{f:List Nat}(h:l[i]? =some f){b:Nat}(hb:b∈f):b∈l.flatten:=
 mM.2 ⟨f,List.mem_of_getElem? h,hb⟩
theorem kI{α:Type}{l:List α}{cB:List (List Nat)}(h:cB.length=l.length){i:Nat}{x:α}(hx:l[i]? =some x): ∃f,cB[i]? =some f:=by
 have:i<l.length:=(aI.1 hx).1
 exact⟨cB[i],au (by omega)⟩
section
variable{α:Type}{k:Nat}{E:ER α}(G:j0 k E)
include G
theorem tJ.agree{w w':World}{b off:Nat}{l:List α}{cB:List (List Nat)}(h:tJ k E w b off l cB)(hb:w'.heap[b]? =w.heap[b]?)(ha:Agree w w' cB.flatten):tJ k E w' b off l cB:=by
 refine⟨h.1,fun i x f hx hf=> ?_⟩
 obtain⟨cs,hr,he⟩:=h.2 i x f hx hf
 refine⟨cs,fun j v hv=> ?_,G.agree he (ha.sub fun _ hm=>eo hf hm)⟩
 rw[World.cell?_of_block (w:=w) (a:=⟨b,_,none⟩) hb];exact hr j v hv
theorem Sl.agree{w w':World}{v:Value}{l:List α}{fp:List Nat}(h:Sl k E w v l fp)(ha:Agree w w' fp):Sl k E w' v l fp:=by
 obtain⟨oa,cap,rfl,h1,h2,h3⟩:=h
 refine⟨oa,cap,rfl,h1,h2,?_⟩
 rcases h3 with h3| ⟨b,off,cB,rfl,hb,rfl,he⟩
 ·exact Or.inl h3
 ·have hbk:=ha b (by simp)
  exact Or.inr ⟨b,off,cB,rfl,hb.agree hbk,rfl,tJ.agree G he hbk (ha.sub (fun _ hm=>aK _ hm))⟩
theorem Sl.lt{w:World}{v:Value}{l:List α}{fp:List Nat}(h:Sl k E w v l fp): ∀b,b∈fp→b<w.heap.size:=by
 obtain⟨oa,cap,rfl,h1,h2,h3⟩:=h
 rcases h3 with⟨_,rfl,_⟩| ⟨b,off,cB,rfl,hb,rfl,he⟩
 ·simp
 ·intro c hc
  rcases bh.1 hc with rfl|hc
  ·exact hb.lt
  ·obtain⟨f,hf,hcf⟩:=mM.1 hc
   obtain⟨i,hi⟩:=List.getElem?_of_mem hf
   have hil:i<l.length:=by have:=(aI.1 hi).1;have:=he.1;omega
   obtain⟨cs,_,hE⟩:=he.2 i l[i] f (au hil) hi
   exact G.lt hE c hcf
theorem vC:j0 1 (ESl k E):=
 ⟨by rintro w w' cs x fp ⟨v,rfl,h⟩ ha;exact⟨v,rfl,Sl.agree G h ha⟩,by rintro w cs x fp ⟨v,rfl,h⟩;exact Sl.lt G h,
  by rintro w cs x fp ⟨v,rfl,h⟩;rfl,by rintro w cs x fp ⟨v,rfl,oa,cap,rfl,h⟩ u hu;simp at hu;subst hu;rfl⟩
theorem Sl.below{w w':World}{v:Value}{l:List α}{fp:List Nat}(h:Sl k E w v l fp)(hb:Below w.heap.size w w'):Sl k E w' v l fp:=Sl.agree G h (qc hb (Sl.lt G h))
end
theorem Sl.at{α:Type}{k:Nat}{E:ER α}{w:World}{oa:Option Addr}{n cap:Nat}{l:List α}{fp:List Nat}(h:Sl k E w (.slice oa n cap) l fp){i:Nat}{x:α}(hx:l[i]? =some x):
  ∃b off f cs,oa=some ⟨b,off,none⟩∧w.rangeAt b (off+i*k) cs∧E w cs x f∧(∀y,y∈f→y∈fp):=by
 obtain⟨oa',cap',hv,h1,h2,h3⟩:=h
 simp only[Value.slice.injEq]at hv
 obtain⟨rfl,_,rfl⟩:=hv
 rcases h3 with⟨rfl,_⟩| ⟨b,off,cB,rfl,hb,rfl,he⟩
 ·simp at hx
 ·obtain⟨f,hf⟩:=kI he.1 hx
  obtain⟨cs,hr,hE⟩:=he.2 i x f hx hf
  exact⟨b,off,f,cs,rfl,hr,hE,fun y hy=>aK _ (eo hf hy)⟩
structure Own(lo:Nat)(w:World)(fp:List Nat):Prop where
 nodup:fp.Nodup
 ge: ∀b,b∈fp→lo≤b
 kind: ∀b,b∈fp→ ∃c e,w.heap[b]? =some (.cells c e (0,0))
theorem Own.agree{lo:Nat}{w w':World}{fp:List Nat}(h:Own lo w fp)(ha:Agree w w' fp):Own lo w' fp:=⟨h.nodup,h.ge,fun b hb=>by rw[ha b hb];exact h.kind b hb⟩
theorem Own.lt{lo:Nat}{w:World}{fp:List Nat}(h:Own lo w fp): ∀b,b∈fp→b<w.heap.size:=fun b hb=>by
 obtain⟨c,e,hk⟩:=h.kind b hb
 exact(dj.1 hk).1
theorem Own.nil(lo:Nat)(w:World):Own lo w []:=⟨List.nodup_nil,by simp,by simp⟩
theorem Own.mono{lo lo':Nat}{w:World}{fp:List Nat}(h:Own lo w fp)(hl:lo'≤lo):Own lo' w fp:=⟨h.nodup,fun b hb=>Nat.le_trans hl (h.ge b hb),h.kind⟩
theorem Own.below{lo:Nat}{w w':World}{fp:List Nat}(h:Own lo w fp)(hb:Below w.heap.size w w'):Own lo w' fp:=h.agree (qc hb h.lt)
theorem qI{α:Type}{k:Nat}{E:ER α}{w:World}{b o:Nat}{l:List α}{xs:List Value}{cB:List (List Nat)}(hf:cB.length=l.length)
  (hx: ∀j u,xs[j]? =some u→w.cell? ⟨b,o+j,none⟩=some u)(h: ∀i x f,l[i]? =some x→cB[i]? =some f→E w ((xs.drop (i*k)).take k) x f):tJ k E w b o l cB:=by
 refine⟨hf,fun i x f hi Ut=>⟨_,fun j v hv=> ?_,h i x f hi Ut⟩⟩
 rw[Nat.add_assoc]
 refine hx _ _ ?_
 rw[cH,]at hv
 split at hv
 ·rw[cN]at hv;exact hv
 ·simp at hv
theorem Le{α:Type}{k:Nat}{E:ER α}{w:World}{b:Nat}{l:List α}{xs:List Value}{cB:List (List Nat)}(hf:cB.length=l.length)
  (hx: ∀j u,xs[j]? =some u→w.cell? ⟨b,j,none⟩=some u)(h: ∀i x f,l[i]? =some x→cB[i]? =some f→E w ((xs.drop (i*k)).take k) x f):tJ k E w b 0 l cB:=by
 refine⟨hf,fun i x f hi Ut=>⟨_,fun j v hv=> ?_,h i x f hi Ut⟩⟩
 rw[Nat.zero_add]
 refine hx _ _ ?_
 have:=aI.1 hv
 rw[cH,]at hv
 split at hv
 ·rw[cN]at hv;exact hv
 ·simp at hv
end
end Go.Proofs.YtkcegdacbddipaaGreat.L
namespace Go.Proofs.YtkcegdacbddipaaGreat.D
set_option linter.all false
open Go.RowKit L
section
theorem Sl.one{α:Type}{k:Nat}{E:ER α}{w:World}{v:Value}{l:List α}{fp:List Nat}(h:Sl k E w v l fp):v.oneCell'=true:=by
 obtain⟨oa,cap,rfl,_⟩:=h;rfl
theorem lz: ∀u,u∈([]:List Value)→u.oneCell'=true:=by simp
theorem cY{v:Value}{l:List Value}(h:v.oneCell'=true)(r: ∀u,u∈l→u.oneCell'=true): ∀u,u∈v::l→u.oneCell'=true:=by
 intro u hu
 rcases bh.1 hu with rfl|hu
 ·exact h
 ·exact r u hu
theorem xI{a b:List Value}(h: ∀u,u∈a→u.oneCell'=true)(r: ∀u,u∈b→u.oneCell'=true): ∀u,u∈a++b→u.oneCell'=true:=by
 intro u hu
 rcases aL.1 hu with hu|hu
 ·exact h u hu
 ·exact r u hu
abbrev RB:=Sl 1 R8
structure DB where
 rows:(List (List UInt8))
instance:Inhabited DB:=⟨⟨[]⟩⟩
def EDB:ER DB:=fun w cs x fp=> ∃(WX:Value) (WY:List Nat),cs= [WX]∧Sl 1 (ESl 1 R8) w WX x.rows WY∧fp=WY
theorem rm:j0 1 EDB where
 agree:=by rintro w w' cs x fp ⟨v0,f0,rfl,h0,rfl⟩ ha;exact⟨v0,_,rfl,(Sl.agree (vC lW) h0 (ha.sub fun b hb=>by simp[hb])),rfl⟩
 lt:=by rintro w cs x fp ⟨v0,f0,rfl,h0,rfl⟩ b hb;exact Sl.lt (vC lW) h0 b hb
 len:=by rintro w cs x fp ⟨v0,f0,rfl,h0,rfl⟩;rfl
 one:=by rintro w cs x fp ⟨v0,f0,rfl,h0,rfl⟩;exact(cY (Sl.one h0) lz)
structure bE where
 client:Int
 share:DB
instance:Inhabited bE:=⟨⟨0,default⟩⟩
def BB:ER bE:=fun w cs x fp=> ∃(Sc:List Value) (Sd:List Nat),cs= [.int .i64 x.client]++Sc∧EDB w Sc x.share Sd∧fp=Sd
theorem xJ:j0 2 BB where
 agree:=by rintro w w' cs x fp ⟨v0,f0,rfl,h0,rfl⟩ ha;exact⟨v0,_,rfl,(rm.agree h0 (ha.sub fun b hb=>by simp[hb])),rfl⟩
 lt:=by rintro w cs x fp ⟨v0,f0,rfl,h0,rfl⟩ b hb;exact rm.lt h0 b hb
 len:=by rintro w cs x fp ⟨v0,f0,rfl,h0,rfl⟩;simp[rm.len h0]
 one:=by rintro w cs x fp ⟨v0,f0,rfl,h0,rfl⟩;exact(xI (cY rfl lz) (rm.one h0))
structure bZ where
 id:Int
 rows:Int
 round:Int
 received:(List bE)
 behavior:Int
instance:Inhabited bZ:=⟨⟨0,0,0,[],0⟩⟩
def WZ:ER bZ:=fun w cs x fp=> ∃(GS:Value) (GU:List Nat),cs= [.int .i64 x.id, .int .i64 x.rows, .int .i64 x.round,GS, .int .i64 x.behavior]∧Sl 2 BB w GS x.received GU∧fp=GU
theorem GV:j0 5 WZ where
 agree:=by rintro w w' cs x fp ⟨v0,f0,rfl,h0,rfl⟩ ha;exact⟨v0,_,rfl,(Sl.agree xJ h0 (ha.sub fun b hb=>by simp[hb])),rfl⟩
 lt:=by rintro w cs x fp ⟨v0,f0,rfl,h0,rfl⟩ b hb;exact Sl.lt xJ h0 b hb
 len:=by rintro w cs x fp ⟨v0,f0,rfl,h0,rfl⟩;rfl
 one:=by rintro w cs x fp ⟨v0,f0,rfl,h0,rfl⟩;exact(cY rfl (cY rfl (cY rfl (cY (Sl.one h0) (cY rfl lz)))))
structure bz where
 round:Int
 db:DB
instance:Inhabited bz:=⟨⟨0,default⟩⟩
def BC:ER bz:=fun w cs x fp=> ∃(aiJ:List Value) (aiK:List Nat),cs= [.int .i64 x.round]++aiJ∧EDB w aiJ x.db aiK∧fp=aiK
theorem xK:j0 2 BC where
 agree:=by rintro w w' cs x fp ⟨v0,f0,rfl,h0,rfl⟩ ha;exact⟨v0,_,rfl,(rm.agree h0 (ha.sub fun b hb=>by simp[hb])),rfl⟩
 lt:=by rintro w cs x fp ⟨v0,f0,rfl,h0,rfl⟩ b hb;exact rm.lt h0 b hb
 len:=by rintro w cs x fp ⟨v0,f0,rfl,h0,rfl⟩;simp[rm.len h0]
 one:=by rintro w cs x fp ⟨v0,f0,rfl,h0,rfl⟩;exact(xI (cY rfl lz) (rm.one h0))
structure mE where
 rows:Int
 rounds:(List bz)
instance:Inhabited mE:=⟨⟨0,[]⟩⟩
def W0:ER mE:=fun w cs x fp=> ∃(No:Value) (Np:List Nat),cs= [.int .i64 x.rows,No]∧Sl 2 BC w No x.rounds Np∧fp=Np
theorem xL:j0 2 W0 where
 agree:=by rintro w w' cs x fp ⟨v0,f0,rfl,h0,rfl⟩ ha;exact⟨v0,_,rfl,(Sl.agree xK h0 (ha.sub fun b hb=>by simp[hb])),rfl⟩
 lt:=by rintro w cs x fp ⟨v0,f0,rfl,h0,rfl⟩ b hb;exact Sl.lt xK h0 b hb
 len:=by rintro w cs x fp ⟨v0,f0,rfl,h0,rfl⟩;rfl
 one:=by rintro w cs x fp ⟨v0,f0,rfl,h0,rfl⟩;exact(cY rfl (cY (Sl.one h0) lz))
structure gQ where
 id:Int
 gE:Int
 key:Int
 seed:Int
 bu:(List (List UInt8))
 sent:Int
 inbox:(List (List UInt8))
 next:Int
instance:Inhabited gQ:=⟨⟨0,0,0,0,[],0,[],0⟩⟩
def Uw:ER gQ:=fun w cs x fp=> ∃(E1:Value) (Se:Value) (E2 Sf:List Nat),cs= [.int .i64 x.id, .int .i64 x.gE, .int .i64 x.key, .int .i64 x.seed,E1, .int .i64 x.sent,Se, .int .i64 x.next]∧Sl 1 (ESl 1 R8) w E1 x.bu E2∧Sl 1 (ESl 1 R8) w Se x.inbox Sf∧fp=E2++Sf
theorem nM:j0 8 Uw where
 agree:=by rintro w w' cs x fp ⟨v0,v1,f0,f1,rfl,h0,h1,rfl⟩ ha;exact⟨v0,v1,_,_,rfl,(Sl.agree (vC lW) h0 (ha.sub fun b hb=>by simp[hb])),(Sl.agree (vC lW) h1 (ha.sub fun b hb=>by simp[hb])),rfl⟩
 lt:=by
  rintro w cs x fp ⟨v0,v1,f0,f1,rfl,h0,h1,rfl⟩ b hb
  simp only[aL]at hb
  rcases hb with hb|hb
  ·exact Sl.lt (vC lW) h0 b hb
  ·exact Sl.lt (vC lW) h1 b hb
 len:=by rintro w cs x fp ⟨v0,v1,f0,f1,rfl,h0,h1,rfl⟩;rfl
 one:=by rintro w cs x fp ⟨v0,v1,f0,f1,rfl,h0,h1,rfl⟩;exact(cY rfl (cY rfl (cY rfl (cY rfl (cY (Sl.one h0) (cY rfl (cY (Sl.one h1) (cY rfl lz))))))))
structure cz where
 live:gQ
 saved:gQ
instance:Inhabited cz:=⟨⟨default,default⟩⟩
def W1:ER cz:=fun w cs x fp=> ∃(W2:List Value) (Sg:List Value) (W3 Sh:List Nat),cs=W2++Sg∧Uw w W2 x.live W3∧Uw w Sg x.saved Sh∧fp=W3++Sh
theorem GW:j0 16 W1 where
 agree:=by rintro w w' cs x fp ⟨v0,v1,f0,f1,rfl,h0,h1,rfl⟩ ha;exact⟨v0,v1,_,_,rfl,(nM.agree h0 (ha.sub fun b hb=>by simp[hb])),(nM.agree h1 (ha.sub fun b hb=>by simp[hb])),rfl⟩
 lt:=by
  rintro w cs x fp ⟨v0,v1,f0,f1,rfl,h0,h1,rfl⟩ b hb
  simp only[aL]at hb
  rcases hb with hb|hb
  ·exact nM.lt h0 b hb
  ·exact nM.lt h1 b hb
 len:=by rintro w cs x fp ⟨v0,v1,f0,f1,rfl,h0,h1,rfl⟩;simp[nM.len h0,nM.len h1]
 one:=by rintro w cs x fp ⟨v0,v1,f0,f1,rfl,h0,h1,rfl⟩;exact(xI (nM.one h0) (nM.one h1))
structure ck where
 rows:Int
 av:(List bZ)
 af:(List cz)
 aJ:mE
 bS:Int
 seed:Int
 round:Int
 replaced:(List Int)
 cancelled:Int
instance:Inhabited ck:=⟨⟨0,[],[],default,0,0,0,[],0⟩⟩
def abz:ER ck:=fun w cs x fp=> ∃(J8:Value) (J9:Value) (Ka:List Value) (GX:Value) (Kb Kc Ke GY:List Nat),cs= [.int .i64 x.rows,J8,J9]++Ka++ [.int .i64 x.bS, .int .i64 x.seed, .int .i64 x.round,GX, .int .i64 x.cancelled]∧Sl 5 WZ w J8 x.av Kb∧Sl 16 W1 w J9 x.af Kc∧W0 w Ka x.aJ Ke∧Sl 1 WU w GX x.replaced GY∧fp=Kb++Kc++Ke++GY
theorem W4:j0 10 abz where
 agree:=by rintro w w' cs x fp ⟨v0,v1,v2,v3,f0,f1,f2,f3,rfl,h0,h1,h2,h3,rfl⟩ ha;exact⟨v0,v1,v2,v3,_,_,_,_,rfl,(Sl.agree GV h0 (ha.sub fun b hb=>by simp[hb])),(Sl.agree GW h1 (ha.sub fun b hb=>by simp[hb])),(xL.agree h2 (ha.sub fun b hb=>by simp[hb])),(Sl.agree xF h3 (ha.sub fun b hb=>by simp[hb])),rfl⟩
 lt:=by
  rintro w cs x fp ⟨v0,v1,v2,v3,f0,f1,f2,f3,rfl,h0,h1,h2,h3,rfl⟩ b hb
  simp only[aL]at hb
  rcases hb with((hb|hb)|hb)|hb
  ·exact Sl.lt GV h0 b hb
  ·exact Sl.lt GW h1 b hb
  ·exact xL.lt h2 b hb
  ·exact Sl.lt xF h3 b hb
 len:=by rintro w cs x fp ⟨v0,v1,v2,v3,f0,f1,f2,f3,rfl,h0,h1,h2,h3,rfl⟩;simp[xL.len h2]
 one:=by rintro w cs x fp ⟨v0,v1,v2,v3,f0,f1,f2,f3,rfl,h0,h1,h2,h3,rfl⟩;exact(xI (xI (cY rfl (cY (Sl.one h0) (cY (Sl.one h1) lz))) (xL.one h2)) (cY rfl (cY rfl (cY rfl (cY (Sl.one h3) (cY rfl lz))))))
structure Ev where
 kind:Int
 node:Int
 value:Int
 body:(List UInt8)
instance:Inhabited Ev:=⟨⟨0,0,0,[]⟩⟩
def EEv:ER Ev:=fun w cs x fp=> ∃(GZ:Value) (G0:List Nat),cs= [.int .i64 x.kind, .int .i64 x.node, .int .i64 x.value,GZ]∧Sl 1 R8 w GZ x.body G0∧fp=G0
theorem abA:j0 4 EEv where
 agree:=by rintro w w' cs x fp ⟨v0,f0,rfl,h0,rfl⟩ ha;exact⟨v0,_,rfl,(Sl.agree lW h0 (ha.sub fun b hb=>by simp[hb])),rfl⟩
 lt:=by rintro w cs x fp ⟨v0,f0,rfl,h0,rfl⟩ b hb;exact Sl.lt lW h0 b hb
 len:=by rintro w cs x fp ⟨v0,f0,rfl,h0,rfl⟩;rfl
 one:=by rintro w cs x fp ⟨v0,f0,rfl,h0,rfl⟩;exact(cY rfl (cY rfl (cY rfl (cY (Sl.one h0) lz))))
structure Ds where
 fr:Int
 to:Int
 bytes:Int
instance:Inhabited Ds:=⟨⟨0,0,0⟩⟩
def W5:ER Ds:=fun _ cs x fp=>cs= [.int .i64 x.fr, .int .i64 x.to, .int .i64 x.bytes]∧fp= []
theorem W6:j0 3 W5 where
 agree:=fun h _=>h
 lt:=by rintro w cs x fp ⟨rfl,rfl⟩ b hb;simp at hb
 len:=by rintro w cs x fp ⟨rfl,rfl⟩;rfl
 one:=by rintro w cs x fp ⟨rfl,rfl⟩ u hu;simp at hu;rcases hu with rfl|rfl|rfl<;>rfl
structure gK where
 server:Int
 client:Int
 round:Int
 rY:Int
 P5:Int
instance:Inhabited gK:=⟨⟨0,0,0,0,0⟩⟩
def W7:ER gK:=fun _ cs x fp=>cs= [.int .i64 x.server, .int .i64 x.client, .int .i64 x.round, .int .i64 x.rY, .int .i64 x.P5]∧fp= []
theorem W8:j0 5 W7 where
 agree:=fun h _=>h
 lt:=by rintro w cs x fp ⟨rfl,rfl⟩ b hb;simp at hb
 len:=by rintro w cs x fp ⟨rfl,rfl⟩;rfl
 one:=by rintro w cs x fp ⟨rfl,rfl⟩ u hu;simp at hu;rcases hu with rfl|rfl|rfl|rfl|rfl<;>rfl
structure Plain where
 kind:Int
 body:(List UInt8)
instance:Inhabited Plain:=⟨⟨0,[]⟩⟩
def Lh:ER Plain:=fun w cs x fp=> ∃(GZ:Value) (G0:List Nat),cs= [.int .i64 x.kind,GZ]∧Sl 1 R8 w GZ x.body G0∧fp=G0
theorem Qj:j0 2 Lh where
 agree:=by rintro w w' cs x fp ⟨v0,f0,rfl,h0,rfl⟩ ha;exact⟨v0,_,rfl,(Sl.agree lW h0 (ha.sub fun b hb=>by simp[hb])),rfl⟩
 lt:=by rintro w cs x fp ⟨v0,f0,rfl,h0,rfl⟩ b hb;exact Sl.lt lW h0 b hb
 len:=by rintro w cs x fp ⟨v0,f0,rfl,h0,rfl⟩;rfl
 one:=by rintro w cs x fp ⟨v0,f0,rfl,h0,rfl⟩;exact(cY rfl (cY (Sl.one h0) lz))
structure eU where
 server:Int
 round:Int
 selection:(List Int)
 data:(List UInt8)
 P5:Int
instance:Inhabited eU:=⟨⟨0,0,[],[],0⟩⟩
def Si:ER eU:=fun w cs x fp=> ∃(E3:Value) (W9:Value) (E4 Xa:List Nat),cs= [.int .i64 x.server, .int .i64 x.round,E3,W9, .int .i64 x.P5]∧Sl 1 WU w E3 x.selection E4∧Sl 1 R8 w W9 x.data Xa∧fp=E4++Xa
theorem Ux:j0 5 Si where
 agree:=by rintro w w' cs x fp ⟨v0,v1,f0,f1,rfl,h0,h1,rfl⟩ ha;exact⟨v0,v1,_,_,rfl,(Sl.agree xF h0 (ha.sub fun b hb=>by simp[hb])),(Sl.agree lW h1 (ha.sub fun b hb=>by simp[hb])),rfl⟩
 lt:=by
  rintro w cs x fp ⟨v0,v1,f0,f1,rfl,h0,h1,rfl⟩ b hb
  simp only[aL]at hb
  rcases hb with hb|hb
  ·exact Sl.lt xF h0 b hb
  ·exact Sl.lt lW h1 b hb
 len:=by rintro w cs x fp ⟨v0,v1,f0,f1,rfl,h0,h1,rfl⟩;rfl
 one:=by rintro w cs x fp ⟨v0,v1,f0,f1,rfl,h0,h1,rfl⟩;exact(cY rfl (cY rfl (cY (Sl.one h0) (cY (Sl.one h1) (cY rfl lz)))))
end
end Go.Proofs.YtkcegdacbddipaaGreat.D
