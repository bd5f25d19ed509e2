/-
  The data of the program: structures, and how cells read as them.
-/
import Derived.WalkKit
import Derived.WalkSpells
import Derived.WalkLawsBesides
import Derived.Deep.MidRow
import Derived.Deep.Slices
import Derived.Lib.Hide
namespace Go.Proofs.YtjcojocjlglglaaGreat.L
set_option linter.all false
open Go.RowKit
abbrev ER(α:Type):=World→List Value→α→List Nat→Prop
def cL(w w':World)(fp:List Nat):Prop:= ∀b,b∈fp→w'.heap[b]? =w.heap[b]?
theorem cL.cell{w w':World}{fp:List Nat}(h:cL w w' fp){b:Nat}(hb:b∈fp)(o:Nat):w'.cell? ⟨b,o,none⟩=w.cell? ⟨b,o,none⟩:=
 World.cell?_of_block (w:=w) (a:=⟨b,o,none⟩) (h b hb)
theorem cL.range{w w':World}{fp:List Nat}(h:cL w w' fp){b:Nat}(hb:b∈fp){o:Nat}{cs:List Value}(hr:w.rangeAt b o cs):w'.rangeAt b o cs:=
 fun j v hv=>by rw[h.cell hb];exact hr j v hv
theorem cL.sub{w w':World}{fp dZ:List Nat}(h:cL w w' fp)(hs: ∀b,b∈dZ→b∈fp):cL w w' dZ:=fun b hb=>h b (hs b hb)
theorem cL.trans{a b c:World}{fp:List Nat}(h:cL a b fp)(k:cL b c fp):cL a c fp:=fun x hx=>(k x hx).trans (h x hx)
theorem cL.refl(w:World)(fp:List Nat):cL w w fp:=fun _ _=>rfl
theorem gM{B:Nat}{w w':World}{fp:List Nat}(hb:Below B w w')(hf: ∀b,b∈fp→b<B):cL w w' fp:=fun b h=>hb.block b (hf b h)
structure dK{α:Type}(k:Nat)(E:ER α):Prop where
 aS: ∀{w w':World} {cs x fp},E w cs x fp→cL w w' fp→E w' cs x fp
 lt: ∀{w:World} {cs x fp},E w cs x fp→ ∀b,b∈fp→b<w.heap.size
 len: ∀{w:World} {cs x fp},E w cs x fp→cs.length=k
 one: ∀{w:World} {cs x fp},E w cs x fp→ ∀u,u∈cs→u.oneCell'=true
def nS{α:Type}(k:Nat)(E:ER α)(w:World)(b off:Nat)(l:List α)(aQ:List (List Nat)):Prop:=
 aQ.length=l.length∧ ∀i x f,l[i]? =some x→aQ[i]? =some f→ ∃cs,w.rangeAt b (off+i*k) cs∧E w cs x f
def Sl{α:Type}(k:Nat)(E:ER α)(w:World)(v:Value)(l:List α)(fp:List Nat):Prop:=
 ∃oa cap,v= .slice oa l.length cap∧l.length≤cap∧cap≤maxLen∧
  ((l= []∧fp= []∧(oa=none→cap=0))∨ ∃b off aQ,oa=some ⟨b,off,none⟩∧b<w.heap.size∧fp=b::aQ.flatten∧nS k E w b off l aQ)
def zV{α:Type}(k:Nat)(E:ER α):ER (List α):=fun w cs l fp=> ∃v,cs= [v]∧Sl k E w v l fp
def iq:ER Int:=fun _ cs n fp=>cs= [.int .i64 n]∧fp= []
def Bz:ER UInt8:=fun _ cs n fp=>cs= [.int .u8 n.toNat]∧fp= []
def Kp:ER (List UInt8):=fun _ cs s fp=>cs= [.string ⟨s.toArray⟩]∧s.length≤maxLen∧fp= []
theorem lW:dK 1 iq:=⟨fun h _=>h,by rintro w cs x fp ⟨rfl,rfl⟩ b hb;simp at hb,by rintro w cs x fp ⟨rfl,rfl⟩;rfl,by rintro w cs x fp ⟨rfl,rfl⟩ u hu;simp at hu;subst hu;rfl⟩
theorem eL:dK 1 Bz:=⟨fun h _=>h,by rintro w cs x fp ⟨rfl,rfl⟩ b hb;simp at hb,by rintro w cs x fp ⟨rfl,rfl⟩;rfl,by rintro w cs x fp ⟨rfl,rfl⟩ u hu;simp at hu;subst hu;rfl⟩
theorem Fj:dK 1 Kp:=⟨fun h _=>h,by rintro w cs x fp ⟨rfl,_,rfl⟩ b hb;simp at hb,by rintro w cs x fp ⟨rfl,_,rfl⟩;rfl,by rintro w cs x fp ⟨rfl,_,rfl⟩ u hu;simp at hu;subst hu;rfl⟩
theorem bE{l:List (List Nat)}{i:Nat}{f:List Nat}(h:l[i]? =some f){b:Nat}(hb:b∈f):b∈l.flatten:=
 List.mem_flatten.2 ⟨f,List.mem_of_getElem? h,hb⟩
theorem e9{α:Type}{l:List α}{aQ:List (List Nat)}(h:aQ.length=l.length){i:Nat}{x:α}(hx:l[i]? =some x): ∃f,aQ[i]? =some f:=by
 have:i<l.length:=(List.getElem?_eq_some_iff.1 hx).1
 exact⟨aQ[i],List.getElem?_eq_getElem (by omega)⟩
section
variable{α:Type}{k:Nat}{E:ER α}(G:dK k E)
include G
theorem nS.aS{w w':World}{b off:Nat}{l:List α}{aQ:List (List Nat)}(h:nS k E w b off l aQ)(hb:w'.heap[b]? =w.heap[b]?)(ha:cL w w' aQ.flatten):nS k E w' b off l aQ:=by
 refine⟨h.1,fun i x f hx hf=> ?_⟩
 obtain⟨cs,hr,he⟩:=h.2 i x f hx hf
 refine⟨cs,fun j v hv=> ?_,G.aS he (ha.sub fun _ hm=>bE hf hm)⟩
 rw[World.cell?_of_block (w:=w) (a:=⟨b,_,none⟩) hb];exact hr j v hv
theorem Sl.aS{w w':World}{v:Value}{l:List α}{fp:List Nat}(h:Sl k E w v l fp)(ha:cL w w' fp):Sl k E w' v l fp:=by
 obtain⟨oa,cap,rfl,h1,h2,h3⟩:=h
 refine⟨oa,cap,rfl,h1,h2,?_⟩
 rcases h3 with h3| ⟨b,off,aQ,rfl,hb,rfl,he⟩
 ·exact Or.inl h3
 ·have hbk:=ha b (by simp)
  refine Or.inr ⟨b,off,aQ,rfl,?_,rfl,nS.aS G he hbk (ha.sub (fun _ hm=>List.mem_cons_of_mem _ hm))⟩
  have:w.heap[b]? =some w.heap[b]:=by simp[hb]
  rw[this]at hbk
  exact(Array.getElem?_eq_some_iff.1 hbk).1
theorem Sl.lt{w:World}{v:Value}{l:List α}{fp:List Nat}(h:Sl k E w v l fp): ∀b,b∈fp→b<w.heap.size:=by
 obtain⟨oa,cap,rfl,h1,h2,h3⟩:=h
 rcases h3 with⟨_,rfl,_⟩| ⟨b,off,aQ,rfl,hb,rfl,he⟩
 ·simp
 ·intro c hc
  rcases List.mem_cons.1 hc with rfl|hc
  ·exact hb
  ·obtain⟨f,hf,N3⟩:=List.mem_flatten.1 hc
   obtain⟨i,hi⟩:=List.getElem?_of_mem hf
   have hil:i<l.length:=by have:=(List.getElem?_eq_some_iff.1 hi).1;have:=he.1;omega
   obtain⟨cs,_,hE⟩:=he.2 i l[i] f (List.getElem?_eq_getElem hil) hi
   exact G.lt hE c N3
theorem kJ:dK 1 (zV k E):=
 ⟨by rintro w w' cs x fp ⟨v,rfl,h⟩ ha;exact⟨v,rfl,Sl.aS G h ha⟩,by rintro w cs x fp ⟨v,rfl,h⟩;exact Sl.lt G h,
  by rintro w cs x fp ⟨v,rfl,h⟩;rfl,by rintro w cs x fp ⟨v,rfl,oa,cap,rfl,h⟩ u hu;simp at hu;subst hu;rfl⟩
theorem Sl.below{w w':World}{v:Value}{l:List α}{fp:List Nat}(h:Sl k E w v l fp)(hb:Below w.heap.size w w'):Sl k E w' v l fp:=Sl.aS G h (gM hb (Sl.lt G h))
end
theorem Sl.at{α:Type}{k:Nat}{E:ER α}{w:World}{oa:Option Addr}{n cap:Nat}{l:List α}{fp:List Nat}(h:Sl k E w (.slice oa n cap) l fp){i:Nat}{x:α}(hx:l[i]? =some x):
  ∃b off f cs,oa=some ⟨b,off,none⟩∧w.rangeAt b (off+i*k) cs∧E w cs x f∧(∀y,y∈f→y∈fp):=by
 obtain⟨Kq,cap',hv,h1,h2,h3⟩:=h
 simp only[Value.slice.injEq]at hv
 obtain⟨rfl,_,rfl⟩:=hv
 rcases h3 with⟨rfl,_⟩| ⟨b,off,aQ,rfl,hb,rfl,he⟩
 ·simp at hx
 ·obtain⟨f,hf⟩:=e9 he.1 hx
  obtain⟨cs,hr,hE⟩:=he.2 i x f hx hf
  exact⟨b,off,f,cs,rfl,hr,hE,fun y hy=>List.mem_cons_of_mem _ (bE hf hy)⟩
structure Own(lo:Nat)(w:World)(fp:List Nat):Prop where
 nodup:fp.Nodup
 ge: ∀b,b∈fp→lo≤b
 kind: ∀b,b∈fp→ ∃c e,w.heap[b]? =some (.cells c e (0,0))
theorem Own.aS{lo:Nat}{w w':World}{fp:List Nat}(h:Own lo w fp)(ha:cL w w' fp):Own lo w' fp:=⟨h.nodup,h.ge,fun b hb=>by rw[ha b hb];exact h.kind b hb⟩
theorem Own.lt{lo:Nat}{w:World}{fp:List Nat}(h:Own lo w fp): ∀b,b∈fp→b<w.heap.size:=fun b hb=>by
 obtain⟨c,e,hk⟩:=h.kind b hb
 exact(Array.getElem?_eq_some_iff.1 hk).1
theorem Own.nil(lo:Nat)(w:World):Own lo w []:=⟨List.nodup_nil,by simp,by simp⟩
theorem Own.mono{lo lo':Nat}{w:World}{fp:List Nat}(h:Own lo w fp)(hl:lo'≤lo):Own lo' w fp:=⟨h.nodup,fun b hb=>Nat.le_trans hl (h.ge b hb),h.kind⟩
theorem Own.below{lo:Nat}{w w':World}{fp:List Nat}(h:Own lo w fp)(hb:Below w.heap.size w w'):Own lo w' fp:=h.aS (gM hb h.lt)
theorem yA{α:Type}{k:Nat}{E:ER α}{w:World}{b:Nat}{l:List α}{xs:List Value}{aQ:List (List Nat)}(hf:aQ.length=l.length)
  (hx: ∀j u,xs[j]? =some u→w.cell? ⟨b,j,none⟩=some u)(h: ∀i x f,l[i]? =some x→aQ[i]? =some f→E w ((xs.drop (i*k)).take k) x f):nS k E w b 0 l aQ:=by
 refine⟨hf,fun i x f hi L8=>⟨_,fun j v hv=> ?_,h i x f hi L8⟩⟩
 rw[Nat.zero_add]
 refine hx _ _ ?_
 have:=List.getElem?_eq_some_iff.1 hv
 rw[List.getElem?_take,]at hv
 split at hv
 ·rw[List.getElem?_drop]at hv;exact hv
 ·simp at hv
end Go.Proofs.YtjcojocjlglglaaGreat.L
namespace Go.Proofs.YtjcojocjlglglaaGreat.D
set_option linter.all false
open Go.RowKit L
def wJ(n:Int):Prop:= -9223372036854775808≤n∧n≤9223372036854775807
theorem Sl.one{α:Type}{k:Nat}{E:ER α}{w:World}{v:Value}{l:List α}{fp:List Nat}(h:Sl k E w v l fp):v.oneCell'=true:=by
 obtain⟨oa,cap,rfl,_⟩:=h;rfl
theorem ez: ∀u,u∈([]:List Value)→u.oneCell'=true:=by simp
theorem aT{v:Value}{l:List Value}(h:v.oneCell'=true)(r: ∀u,u∈l→u.oneCell'=true): ∀u,u∈v::l→u.oneCell'=true:=by
 intro u hu
 rcases List.mem_cons.1 hu with rfl|hu
 ·exact h
 ·exact r u hu
theorem lX{a b:List Value}(h: ∀u,u∈a→u.oneCell'=true)(r: ∀u,u∈b→u.oneCell'=true): ∀u,u∈a++b→u.oneCell'=true:=by
 intro u hu
 rcases List.mem_append.1 hu with hu|hu
 ·exact h u hu
 ·exact r u hu
abbrev RB:=Sl 1 Bz
structure DB where
 rows:(List (List UInt8))
instance:Inhabited DB:=⟨⟨[]⟩⟩
def Fl(x:DB):Prop:=(fun l=> ∀x,x∈l→(fun l=> ∀x,x∈l→(fun _=>True) x) x) x.rows
def Im:ER DB:=fun w cs x fp=> ∃(Fm:Value) (Fo:List Nat),cs= [Fm]∧Sl 1 (zV 1 Bz) w Fm x.rows Fo∧fp=Fo
theorem iF:dK 1 Im where
 aS:=by rintro w w' cs x fp ⟨v0,f0,rfl,h0,rfl⟩ ha;exact⟨v0,_,rfl,(Sl.aS (kJ eL) h0 (ha.sub fun b hb=>by simp[hb])),rfl⟩
 lt:=by rintro w cs x fp ⟨v0,f0,rfl,h0,rfl⟩ b hb;exact Sl.lt (kJ eL) h0 b hb
 len:=by rintro w cs x fp ⟨v0,f0,rfl,h0,rfl⟩;rfl
 one:=by rintro w cs x fp ⟨v0,f0,rfl,h0,rfl⟩;exact(aT (Sl.one h0) ez)
structure aE where
 client:Int
 share:DB
instance:Inhabited aE:=⟨⟨0,default⟩⟩
def xm(x:aE):Prop:=(wJ) x.client∧(Fl) x.share
def kK:ER aE:=fun w cs x fp=> ∃(CU:List Value) (CV:List Nat),cs= [.int .i64 x.client]++CU∧Im w CU x.share CV∧fp=CV
theorem lY:dK 2 kK where
 aS:=by rintro w w' cs x fp ⟨v0,f0,rfl,h0,rfl⟩ ha;exact⟨v0,_,rfl,(iF.aS h0 (ha.sub fun b hb=>by simp[hb])),rfl⟩
 lt:=by rintro w cs x fp ⟨v0,f0,rfl,h0,rfl⟩ b hb;exact iF.lt h0 b hb
 len:=by rintro w cs x fp ⟨v0,f0,rfl,h0,rfl⟩;simp[iF.len h0]
 one:=by rintro w cs x fp ⟨v0,f0,rfl,h0,rfl⟩;exact(lX (aT rfl ez) (iF.one h0))
structure bO where
 id:Int
 rows:Int
 round:Int
 received:(List aE)
 behavior:Int
instance:Inhabited bO:=⟨⟨0,0,0,[],0⟩⟩
def Fp(x:bO):Prop:=(wJ) x.id∧(wJ) x.rows∧(wJ) x.round∧(fun l=> ∀x,x∈l→(xm) x) x.received∧(wJ) x.behavior
def BM:ER bO:=fun w cs x fp=> ∃(uq:Value) (ur:List Nat),cs= [.int .i64 x.id, .int .i64 x.rows, .int .i64 x.round,uq, .int .i64 x.behavior]∧Sl 2 kK w uq x.received ur∧fp=ur
theorem uu:dK 5 BM where
 aS:=by rintro w w' cs x fp ⟨v0,f0,rfl,h0,rfl⟩ ha;exact⟨v0,_,rfl,(Sl.aS lY h0 (ha.sub fun b hb=>by simp[hb])),rfl⟩
 lt:=by rintro w cs x fp ⟨v0,f0,rfl,h0,rfl⟩ b hb;exact Sl.lt lY h0 b hb
 len:=by rintro w cs x fp ⟨v0,f0,rfl,h0,rfl⟩;rfl
 one:=by rintro w cs x fp ⟨v0,f0,rfl,h0,rfl⟩;exact(aT rfl (aT rfl (aT rfl (aT (Sl.one h0) (aT rfl ez)))))
structure az where
 round:Int
 db:DB
instance:Inhabited az:=⟨⟨0,default⟩⟩
def xp(x:az):Prop:=(wJ) x.round∧(Fl) x.db
def kL:ER az:=fun w cs x fp=> ∃(Mk:List Value) (Ml:List Nat),cs= [.int .i64 x.round]++Mk∧Im w Mk x.db Ml∧fp=Ml
theorem lZ:dK 2 kL where
 aS:=by rintro w w' cs x fp ⟨v0,f0,rfl,h0,rfl⟩ ha;exact⟨v0,_,rfl,(iF.aS h0 (ha.sub fun b hb=>by simp[hb])),rfl⟩
 lt:=by rintro w cs x fp ⟨v0,f0,rfl,h0,rfl⟩ b hb;exact iF.lt h0 b hb
 len:=by rintro w cs x fp ⟨v0,f0,rfl,h0,rfl⟩;simp[iF.len h0]
 one:=by rintro w cs x fp ⟨v0,f0,rfl,h0,rfl⟩;exact(lX (aT rfl ez) (iF.one h0))
structure gJ where
 rows:Int
 rounds:(List az)
instance:Inhabited gJ:=⟨⟨0,[]⟩⟩
def Fq(x:gJ):Prop:=(wJ) x.rows∧(fun l=> ∀x,x∈l→(xp) x) x.rounds
def BN:ER gJ:=fun w cs x fp=> ∃(zW:Value) (zX:List Nat),cs= [.int .i64 x.rows,zW]∧Sl 2 kL w zW x.rounds zX∧fp=zX
theorem l5:dK 2 BN where
 aS:=by rintro w w' cs x fp ⟨v0,f0,rfl,h0,rfl⟩ ha;exact⟨v0,_,rfl,(Sl.aS lZ h0 (ha.sub fun b hb=>by simp[hb])),rfl⟩
 lt:=by rintro w cs x fp ⟨v0,f0,rfl,h0,rfl⟩ b hb;exact Sl.lt lZ h0 b hb
 len:=by rintro w cs x fp ⟨v0,f0,rfl,h0,rfl⟩;rfl
 one:=by rintro w cs x fp ⟨v0,f0,rfl,h0,rfl⟩;exact(aT rfl (aT (Sl.one h0) ez))
structure dL where
 id:Int
 dD:Int
 key:Int
 seed:Int
 aj:(List (List UInt8))
 sent:Int
 inbox:(List (List UInt8))
 next:Int
instance:Inhabited dL:=⟨⟨0,0,0,0,[],0,[],0⟩⟩
def BO(x:dL):Prop:=(wJ) x.id∧(wJ) x.dD∧(wJ) x.key∧(wJ) x.seed∧(fun l=> ∀x,x∈l→(fun l=> ∀x,x∈l→(fun _=>True) x) x) x.aj∧(wJ) x.sent∧(fun l=> ∀x,x∈l→(fun l=> ∀x,x∈l→(fun _=>True) x) x) x.inbox∧(wJ) x.next
def yD:ER dL:=fun w cs x fp=> ∃(sA:Value) (CW:Value) (sB CX:List Nat),cs= [.int .i64 x.id, .int .i64 x.dD, .int .i64 x.key, .int .i64 x.seed,sA, .int .i64 x.sent,CW, .int .i64 x.next]∧Sl 1 (zV 1 Bz) w sA x.aj sB∧Sl 1 (zV 1 Bz) w CW x.inbox CX∧fp=sB++CX
theorem gb:dK 8 yD where
 aS:=by rintro w w' cs x fp ⟨v0,v1,f0,f1,rfl,h0,h1,rfl⟩ ha;exact⟨v0,v1,_,_,rfl,(Sl.aS (kJ eL) h0 (ha.sub fun b hb=>by simp[hb])),(Sl.aS (kJ eL) h1 (ha.sub fun b hb=>by simp[hb])),rfl⟩
 lt:=by
  rintro w cs x fp ⟨v0,v1,f0,f1,rfl,h0,h1,rfl⟩ b hb
  simp only[List.mem_append]at hb
  rcases hb with hb|hb
  ·exact Sl.lt (kJ eL) h0 b hb
  ·exact Sl.lt (kJ eL) h1 b hb
 len:=by rintro w cs x fp ⟨v0,v1,f0,f1,rfl,h0,h1,rfl⟩;rfl
 one:=by rintro w cs x fp ⟨v0,v1,f0,f1,rfl,h0,h1,rfl⟩;exact(aT rfl (aT rfl (aT rfl (aT rfl (aT (Sl.one h0) (aT rfl (aT (Sl.one h1) (aT rfl ez))))))))
structure aO where
 live:dL
 saved:dL
instance:Inhabited aO:=⟨⟨default,default⟩⟩
def Ft(x:aO):Prop:=(BO) x.live∧(BO) x.saved
def BP:ER aO:=fun w cs x fp=> ∃(Fu:List Value) (CY:List Value) (Fv CZ:List Nat),cs=Fu++CY∧yD w Fu x.live Fv∧yD w CY x.saved CZ∧fp=Fv++CZ
theorem uw:dK 16 BP where
 aS:=by rintro w w' cs x fp ⟨v0,v1,f0,f1,rfl,h0,h1,rfl⟩ ha;exact⟨v0,v1,_,_,rfl,(gb.aS h0 (ha.sub fun b hb=>by simp[hb])),(gb.aS h1 (ha.sub fun b hb=>by simp[hb])),rfl⟩
 lt:=by
  rintro w cs x fp ⟨v0,v1,f0,f1,rfl,h0,h1,rfl⟩ b hb
  simp only[List.mem_append]at hb
  rcases hb with hb|hb
  ·exact gb.lt h0 b hb
  ·exact gb.lt h1 b hb
 len:=by rintro w cs x fp ⟨v0,v1,f0,f1,rfl,h0,h1,rfl⟩;simp[gb.len h0,gb.len h1]
 one:=by rintro w cs x fp ⟨v0,v1,f0,f1,rfl,h0,h1,rfl⟩;exact(lX (gb.one h0) (gb.one h1))
structure b7 where
 rows:Int
 aq:(List bO)
 ah:(List aO)
 aA:gJ
 cU:Int
 seed:Int
 round:Int
 replaced:(List Int)
 cancelled:Int
instance:Inhabited b7:=⟨⟨0,[],[],default,0,0,0,[],0⟩⟩
def BQ(x:b7):Prop:=(wJ) x.rows∧(fun l=> ∀x,x∈l→(Fp) x) x.aq∧(fun l=> ∀x,x∈l→(Ft) x) x.ah∧(Fq) x.aA∧(wJ) x.cU∧(wJ) x.seed∧(wJ) x.round∧(fun l=> ∀x,x∈l→(wJ) x) x.replaced∧(wJ) x.cancelled
def BR:ER b7:=fun w cs x fp=> ∃(xq:Value) (xu:Value) (xw:List Value) (ux:Value) (xy xz xA uy:List Nat),cs= [.int .i64 x.rows,xq,xu]++xw++ [.int .i64 x.cU, .int .i64 x.seed, .int .i64 x.round,ux, .int .i64 x.cancelled]∧Sl 5 BM w xq x.aq xy∧Sl 16 BP w xu x.ah xz∧BN w xw x.aA xA∧Sl 1 iq w ux x.replaced uy∧fp=xy++xz++xA++uy
theorem Fw:dK 10 BR where
 aS:=by rintro w w' cs x fp ⟨v0,v1,v2,v3,f0,f1,f2,f3,rfl,h0,h1,h2,h3,rfl⟩ ha;exact⟨v0,v1,v2,v3,_,_,_,_,rfl,(Sl.aS uu h0 (ha.sub fun b hb=>by simp[hb])),(Sl.aS uw h1 (ha.sub fun b hb=>by simp[hb])),(l5.aS h2 (ha.sub fun b hb=>by simp[hb])),(Sl.aS lW h3 (ha.sub fun b hb=>by simp[hb])),rfl⟩
 lt:=by
  rintro w cs x fp ⟨v0,v1,v2,v3,f0,f1,f2,f3,rfl,h0,h1,h2,h3,rfl⟩ b hb
  simp only[List.mem_append]at hb
  rcases hb with((hb|hb)|hb)|hb
  ·exact Sl.lt uu h0 b hb
  ·exact Sl.lt uw h1 b hb
  ·exact l5.lt h2 b hb
  ·exact Sl.lt lW h3 b hb
 len:=by rintro w cs x fp ⟨v0,v1,v2,v3,f0,f1,f2,f3,rfl,h0,h1,h2,h3,rfl⟩;simp[l5.len h2]
 one:=by rintro w cs x fp ⟨v0,v1,v2,v3,f0,f1,f2,f3,rfl,h0,h1,h2,h3,rfl⟩;exact(lX (lX (aT rfl (aT (Sl.one h0) (aT (Sl.one h1) ez))) (l5.one h2)) (aT rfl (aT rfl (aT rfl (aT (Sl.one h3) (aT rfl ez))))))
structure Ev where
 kind:Int
 node:Int
 value:Int
 body:(List UInt8)
instance:Inhabited Ev:=⟨⟨0,0,0,[]⟩⟩
def NL:ER Ev:=fun w cs x fp=> ∃(uz:Value) (uA:List Nat),cs= [.int .i64 x.kind, .int .i64 x.node, .int .i64 x.value,uz]∧Sl 1 Bz w uz x.body uA∧fp=uA
theorem Io:dK 4 NL where
 aS:=by rintro w w' cs x fp ⟨v0,f0,rfl,h0,rfl⟩ ha;exact⟨v0,_,rfl,(Sl.aS eL h0 (ha.sub fun b hb=>by simp[hb])),rfl⟩
 lt:=by rintro w cs x fp ⟨v0,f0,rfl,h0,rfl⟩ b hb;exact Sl.lt eL h0 b hb
 len:=by rintro w cs x fp ⟨v0,f0,rfl,h0,rfl⟩;rfl
 one:=by rintro w cs x fp ⟨v0,f0,rfl,h0,rfl⟩;exact(aT rfl (aT rfl (aT rfl (aT (Sl.one h0) ez))))
structure qO where
 fr:Int
 to:Int
 bytes:Int
instance:Inhabited qO:=⟨⟨0,0,0⟩⟩
def Fx:ER qO:=fun _ cs x fp=>cs= [.int .i64 x.fr, .int .i64 x.to, .int .i64 x.bytes]∧fp= []
theorem Fy:dK 3 Fx where
 aS:=fun h _=>h
 lt:=by rintro w cs x fp ⟨rfl,rfl⟩ b hb;simp at hb
 len:=by rintro w cs x fp ⟨rfl,rfl⟩;rfl
 one:=by rintro w cs x fp ⟨rfl,rfl⟩ u hu;simp at hu;rcases hu with rfl|rfl|rfl<;>rfl
structure oq where
 server:Int
 client:Int
 round:Int
 BS:Int
 wK:Int
instance:Inhabited oq:=⟨⟨0,0,0,0,0⟩⟩
def Fz:ER oq:=fun _ cs x fp=>cs= [.int .i64 x.server, .int .i64 x.client, .int .i64 x.round, .int .i64 x.BS, .int .i64 x.wK]∧fp= []
theorem FA:dK 5 Fz where
 aS:=fun h _=>h
 lt:=by rintro w cs x fp ⟨rfl,rfl⟩ b hb;simp at hb
 len:=by rintro w cs x fp ⟨rfl,rfl⟩;rfl
 one:=by rintro w cs x fp ⟨rfl,rfl⟩ u hu;simp at hu;rcases hu with rfl|rfl|rfl|rfl|rfl<;>rfl
structure Plain where
 kind:Int
 body:(List UInt8)
instance:Inhabited Plain:=⟨⟨0,[]⟩⟩
def yE:ER Plain:=fun w cs x fp=> ∃(uz:Value) (uA:List Nat),cs= [.int .i64 x.kind,uz]∧Sl 1 Bz w uz x.body uA∧fp=uA
theorem BT:dK 2 yE where
 aS:=by rintro w w' cs x fp ⟨v0,f0,rfl,h0,rfl⟩ ha;exact⟨v0,_,rfl,(Sl.aS eL h0 (ha.sub fun b hb=>by simp[hb])),rfl⟩
 lt:=by rintro w cs x fp ⟨v0,f0,rfl,h0,rfl⟩ b hb;exact Sl.lt eL h0 b hb
 len:=by rintro w cs x fp ⟨v0,f0,rfl,h0,rfl⟩;rfl
 one:=by rintro w cs x fp ⟨v0,f0,rfl,h0,rfl⟩;exact(aT rfl (aT (Sl.one h0) ez))
structure bw where
 server:Int
 round:Int
 selection:(List Int)
 data:(List UInt8)
 wK:Int
instance:Inhabited bw:=⟨⟨0,0,[],[],0⟩⟩
def C0:ER bw:=fun w cs x fp=> ∃(sC:Value) (FB:Value) (sD FC:List Nat),cs= [.int .i64 x.server, .int .i64 x.round,sC,FB, .int .i64 x.wK]∧Sl 1 iq w sC x.selection sD∧Sl 1 Bz w FB x.data FC∧fp=sD++FC
theorem D9:dK 5 C0 where
 aS:=by rintro w w' cs x fp ⟨v0,v1,f0,f1,rfl,h0,h1,rfl⟩ ha;exact⟨v0,v1,_,_,rfl,(Sl.aS lW h0 (ha.sub fun b hb=>by simp[hb])),(Sl.aS eL h1 (ha.sub fun b hb=>by simp[hb])),rfl⟩
 lt:=by
  rintro w cs x fp ⟨v0,v1,f0,f1,rfl,h0,h1,rfl⟩ b hb
  simp only[List.mem_append]at hb
  rcases hb with hb|hb
  ·exact Sl.lt lW h0 b hb
  ·exact Sl.lt eL h1 b hb
 len:=by rintro w cs x fp ⟨v0,v1,f0,f1,rfl,h0,h1,rfl⟩;rfl
 one:=by rintro w cs x fp ⟨v0,v1,f0,f1,rfl,h0,h1,rfl⟩;exact(aT rfl (aT rfl (aT (Sl.one h0) (aT (Sl.one h1) (aT rfl ez)))))
end Go.Proofs.YtjcojocjlglglaaGreat.D
