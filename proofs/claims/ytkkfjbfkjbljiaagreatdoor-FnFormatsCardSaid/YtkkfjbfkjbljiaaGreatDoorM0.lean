/-
  The data of the program: structures, and how cells read as them.
-/
import Derived.Deep.MidRow
import Derived.Deep.Slices
import Derived.Lib.Hide
import Derived.WalkKit
import Derived.WalkLawsBesides
import Derived.WalkSpells
namespace Go.Proofs.YtkkfjbfkjbljiaaGreatDoor.L
set_option linter.all false
open Go.RowKit
section
theorem oI.{u}{α:Type u}(a b:α):(some a=some b)=(a=b):=Option.some.injEq a b
theorem pI.{u,v}{α:Type u}{β:Type v}(a:α)(b:β)(c:α)(d:β):((a,b)=(c,d))=(a=c∧b=d):=Prod.mk.injEq a b c d
abbrev ER(α:Type):=World→List Value→α→List Nat→Prop
def Agree(w w':World)(fp:List Nat):Prop:= ∀b,b∈fp→w'.heap[b]? =w.heap[b]?
theorem Agree.cell{w w':World}{fp:List Nat}(h:Agree w w' fp){b:Nat}(hb:b∈fp)(o:Nat):w'.cell? ⟨b,o,none⟩=w.cell? ⟨b,o,none⟩:=
 World.cell?_of_block (w:=w) (a:=⟨b,o,none⟩) (h b hb)
theorem Agree.range{w w':World}{fp:List Nat}(h:Agree w w' fp){b:Nat}(hb:b∈fp){o:Nat}{cs:List Value}(hr:w.rangeAt b o cs):w'.rangeAt b o cs:=
 fun j v hv=>by rw[h.cell hb];exact hr j v hv
theorem Agree.sub{w w':World}{fp gw:List Nat}(h:Agree w w' fp)(hs: ∀b,b∈gw→b∈fp):Agree w w' gw:=fun b hb=>h b (hs b hb)
theorem Agree.trans{a b c:World}{fp:List Nat}(h:Agree a b fp)(k:Agree b c fp):Agree a c fp:=fun x hx=>(k x hx).trans (h x hx)
theorem Agree.refl(w:World)(fp:List Nat):Agree w w fp:=fun _ _=>rfl
theorem kD{B:Nat}{w w':World}{fp:List Nat}(hb:Below B w w')(hf: ∀b,b∈fp→b<B):Agree w w' fp:=fun b h=>hb.block b (hf b h)
structure fL{α:Type}(k:Nat)(E:ER α):Prop where
 agree: ∀{w w':World} {cs x fp},E w cs x fp→Agree w w' fp→E w' cs x fp
 lt: ∀{w:World} {cs x fp},E w cs x fp→ ∀b,b∈fp→b<w.heap.size
 len: ∀{w:World} {cs x fp},E w cs x fp→cs.length=k
 one: ∀{w:World} {cs x fp},E w cs x fp→ ∀u,u∈cs→u.oneCell'=true
def lO{α:Type}(k:Nat)(E:ER α)(w:World)(b off:Nat)(l:List α)(bn:List (List Nat)):Prop:=
 bn.length=l.length∧ ∀i x f,l[i]? =some x→bn[i]? =some f→ ∃cs,w.rangeAt b (off+i*k) cs∧E w cs x f
def Fit(w:World)(b m:Nat):Prop:= ∃c e fz,w.heap[b]? =some (.cells c e fz)∧m≤c.size
theorem Fit.lt{w:World}{b m:Nat}(h:Fit w b m):b<w.heap.size:=by
 obtain⟨c,e,fz,hc,_⟩:=h
 exact(Array.getElem?_eq_some_iff.1 hc).1
theorem Fit.agree{w w':World}{b m:Nat}(h:Fit w b m)(ha:w'.heap[b]? =w.heap[b]?):Fit w' b m:=by
 obtain⟨c,e,fz,hc,hm⟩:=h
 exact⟨c,e,fz,by rw[ha];exact hc,hm⟩
theorem Fit.mono{w:World}{b m m':Nat}(h:Fit w b m)(hm:m'≤m):Fit w b m':=by
 obtain⟨c,e,fz,hc,h1⟩:=h
 exact⟨c,e,fz,hc,Nat.le_trans hm h1⟩
def Sl{α:Type}(k:Nat)(E:ER α)(w:World)(v:Value)(l:List α)(fp:List Nat):Prop:=
 ∃oa cap,v= .slice oa l.length cap∧l.length≤cap∧cap≤maxLen∧
  ((l= []∧fp= []∧cap=0)∨ ∃b off bn,oa=some ⟨b,off,none⟩∧Fit w b (off+cap*k)∧fp=b::bn.flatten∧lO k E w b off l bn)
def YX{α:Type}(k:Nat)(E:ER α):ER (List α):=fun w cs l fp=> ∃v,cs= [v]∧Sl k E w v l fp
def MT:ER Int:=fun _ cs n fp=>cs= [.int .i64 n]∧fp= []
def Hz:ER UInt8:=fun _ cs n fp=>cs= [.int .u8 n.toNat]∧fp= []
def Sb:ER (List UInt8):=fun _ cs s fp=>cs= [.string ⟨s.toArray⟩]∧s.length≤maxLen∧fp= []
theorem qm:fL 1 MT:=⟨fun h _=>h,by rintro w cs x fp ⟨rfl,rfl⟩ b hb;simp at hb,by rintro w cs x fp ⟨rfl,rfl⟩;rfl,by rintro w cs x fp ⟨rfl,rfl⟩ u hu;simp at hu;subst hu;rfl⟩
theorem iz:fL 1 Hz:=⟨fun h _=>h,by rintro w cs x fp ⟨rfl,rfl⟩ b hb;simp at hb,by rintro w cs x fp ⟨rfl,rfl⟩;rfl,by rintro w cs x fp ⟨rfl,rfl⟩ u hu;simp at hu;subst hu;rfl⟩
theorem MU:fL 1 Sb:=⟨fun h _=>h,by rintro w cs x fp ⟨rfl,_,rfl⟩ b hb;simp at hb,by rintro w cs x fp ⟨rfl,_,rfl⟩;rfl,by rintro w cs x fp ⟨rfl,_,rfl⟩ u hu;simp at hu;subst hu;rfl⟩
theorem cE{l:List (List Nat)}{i:Nat}{f:List Nat}(h:l[i]? =some f){b:Nat}(hb:b∈f):b∈l.flatten:=
 List.mem_flatten.2 ⟨f,List.mem_of_getElem? h,hb⟩
theorem fP{α:Type}{l:List α}{bn:List (List Nat)}(h:bn.length=l.length){i:Nat}{x:α}(hx:l[i]? =some x): ∃f,bn[i]? =some f:=by
 have:i<l.length:=(List.getElem?_eq_some_iff.1 hx).1
 exact⟨bn[i],List.getElem?_eq_getElem (by omega)⟩
section
variable{α:Type}{k:Nat}{E:ER α}(G:fL k E)
include G
theorem lO.agree{w w':World}{b off:Nat}{l:List α}{bn:List (List Nat)}(h:lO k E w b off l bn)(hb:w'.heap[b]? =w.heap[b]?)(ha:Agree w w' bn.flatten):lO k E w' b off l bn:=by
 refine⟨h.1,fun i x f hx hf=> ?_⟩
 obtain⟨cs,hr,he⟩:=h.2 i x f hx hf
 refine⟨cs,fun j v hv=> ?_,G.agree he (ha.sub fun _ hm=>cE hf hm)⟩
 rw[World.cell?_of_block (w:=w) (a:=⟨b,_,none⟩) hb];exact hr j v hv
theorem Sl.agree{w w':World}{v:Value}{l:List α}{fp:List Nat}(h:Sl k E w v l fp)(ha:Agree w w' fp):Sl k E w' v l fp:=by
 obtain⟨oa,cap,rfl,h1,h2,h3⟩:=h
 refine⟨oa,cap,rfl,h1,h2,?_⟩
 rcases h3 with h3| ⟨b,off,bn,rfl,hb,rfl,he⟩
 ·exact Or.inl h3
 ·have hbk:=ha b (by simp)
  exact Or.inr ⟨b,off,bn,rfl,hb.agree hbk,rfl,lO.agree G he hbk (ha.sub (fun _ hm=>List.mem_cons_of_mem _ hm))⟩
theorem Sl.lt{w:World}{v:Value}{l:List α}{fp:List Nat}(h:Sl k E w v l fp): ∀b,b∈fp→b<w.heap.size:=by
 obtain⟨oa,cap,rfl,h1,h2,h3⟩:=h
 rcases h3 with⟨_,rfl,_⟩| ⟨b,off,bn,rfl,hb,rfl,he⟩
 ·simp
 ·intro c hc
  rcases List.mem_cons.1 hc with rfl|hc
  ·exact hb.lt
  ·obtain⟨f,hf,hcf⟩:=List.mem_flatten.1 hc
   obtain⟨i,hi⟩:=List.getElem?_of_mem hf
   have hil:i<l.length:=by have:=(List.getElem?_eq_some_iff.1 hi).1;have:=he.1;omega
   obtain⟨cs,_,hE⟩:=he.2 i l[i] f (List.getElem?_eq_getElem hil) hi
   exact G.lt hE c hcf
theorem ox:fL 1 (YX k E):=
 ⟨by rintro w w' cs x fp ⟨v,rfl,h⟩ ha;exact⟨v,rfl,Sl.agree G h ha⟩,by rintro w cs x fp ⟨v,rfl,h⟩;exact Sl.lt G h,
  by rintro w cs x fp ⟨v,rfl,h⟩;rfl,by rintro w cs x fp ⟨v,rfl,oa,cap,rfl,h⟩ u hu;simp at hu;subst hu;rfl⟩
theorem Sl.below{w w':World}{v:Value}{l:List α}{fp:List Nat}(h:Sl k E w v l fp)(hb:Below w.heap.size w w'):Sl k E w' v l fp:=Sl.agree G h (kD hb (Sl.lt G h))
end
theorem Sl.at{α:Type}{k:Nat}{E:ER α}{w:World}{oa:Option Addr}{n cap:Nat}{l:List α}{fp:List Nat}(h:Sl k E w (.slice oa n cap) l fp){i:Nat}{x:α}(hx:l[i]? =some x):
  ∃b off f cs,oa=some ⟨b,off,none⟩∧w.rangeAt b (off+i*k) cs∧E w cs x f∧(∀y,y∈f→y∈fp):=by
 obtain⟨MV,cap',hv,h1,h2,h3⟩:=h
 simp only[Value.slice.injEq]at hv
 obtain⟨rfl,_,rfl⟩:=hv
 rcases h3 with⟨rfl,_⟩| ⟨b,off,bn,rfl,hb,rfl,he⟩
 ·simp at hx
 ·obtain⟨f,hf⟩:=fP he.1 hx
  obtain⟨cs,hr,hE⟩:=he.2 i x f hx hf
  exact⟨b,off,f,cs,rfl,hr,hE,fun y hy=>List.mem_cons_of_mem _ (cE hf hy)⟩
structure Own(lo:Nat)(w:World)(fp:List Nat):Prop where
 nodup:fp.Nodup
 ge: ∀b,b∈fp→lo≤b
 kind: ∀b,b∈fp→ ∃c e,w.heap[b]? =some (.cells c e (0,0))
theorem Own.agree{lo:Nat}{w w':World}{fp:List Nat}(h:Own lo w fp)(ha:Agree w w' fp):Own lo w' fp:=⟨h.nodup,h.ge,fun b hb=>by rw[ha b hb];exact h.kind b hb⟩
theorem Own.lt{lo:Nat}{w:World}{fp:List Nat}(h:Own lo w fp): ∀b,b∈fp→b<w.heap.size:=fun b hb=>by
 obtain⟨c,e,hk⟩:=h.kind b hb
 exact(Array.getElem?_eq_some_iff.1 hk).1
theorem Own.nil(lo:Nat)(w:World):Own lo w []:=⟨List.nodup_nil,by simp,by simp⟩
theorem Own.mono{lo lo':Nat}{w:World}{fp:List Nat}(h:Own lo w fp)(hl:lo'≤lo):Own lo' w fp:=⟨h.nodup,fun b hb=>Nat.le_trans hl (h.ge b hb),h.kind⟩
theorem Own.below{lo:Nat}{w w':World}{fp:List Nat}(h:Own lo w fp)(hb:Below w.heap.size w w'):Own lo w' fp:=h.agree (kD hb h.lt)
theorem kS{α:Type}{k:Nat}{E:ER α}{w:World}{b o:Nat}{l:List α}{xs:List Value}{bn:List (List Nat)}(hf:bn.length=l.length)
  (hx: ∀j u,xs[j]? =some u→w.cell? ⟨b,o+j,none⟩=some u)(h: ∀i x f,l[i]? =some x→bn[i]? =some f→E w ((xs.drop (i*k)).take k) x f):lO k E w b o l bn:=by
 refine⟨hf,fun i x f hi K1=>⟨_,fun j v hv=> ?_,h i x f hi K1⟩⟩
 rw[Nat.add_assoc]
 refine hx _ _ ?_
 rw[List.getElem?_take,]at hv
 split at hv
 ·rw[List.getElem?_drop]at hv;exact hv
 ·simp at hv
theorem DD{α:Type}{k:Nat}{E:ER α}{w:World}{b:Nat}{l:List α}{xs:List Value}{bn:List (List Nat)}(hf:bn.length=l.length)
  (hx: ∀j u,xs[j]? =some u→w.cell? ⟨b,j,none⟩=some u)(h: ∀i x f,l[i]? =some x→bn[i]? =some f→E w ((xs.drop (i*k)).take k) x f):lO k E w b 0 l bn:=by
 refine⟨hf,fun i x f hi K1=>⟨_,fun j v hv=> ?_,h i x f hi K1⟩⟩
 rw[Nat.zero_add]
 refine hx _ _ ?_
 have:=List.getElem?_eq_some_iff.1 hv
 rw[List.getElem?_take,]at hv
 split at hv
 ·rw[List.getElem?_drop]at hv;exact hv
 ·simp at hv
end
end Go.Proofs.YtkkfjbfkjbljiaaGreatDoor.L
namespace Go.Proofs.YtkkfjbfkjbljiaaGreatDoor.D
set_option linter.all false
open Go.RowKit L
section
def kQ(n:Int):Prop:= -9223372036854775808≤n∧n≤9223372036854775807
theorem Sl.one{α:Type}{k:Nat}{E:ER α}{w:World}{v:Value}{l:List α}{fp:List Nat}(h:Sl k E w v l fp):v.oneCell'=true:=by
 obtain⟨oa,cap,rfl,_⟩:=h;rfl
theorem gS: ∀u,u∈([]:List Value)→u.oneCell'=true:=by simp
theorem bL{v:Value}{l:List Value}(h:v.oneCell'=true)(r: ∀u,u∈l→u.oneCell'=true): ∀u,u∈v::l→u.oneCell'=true:=by
 intro u hu
 rcases List.mem_cons.1 hu with rfl|hu
 ·exact h
 ·exact r u hu
theorem qn{a b:List Value}(h: ∀u,u∈a→u.oneCell'=true)(r: ∀u,u∈b→u.oneCell'=true): ∀u,u∈a++b→u.oneCell'=true:=by
 intro u hu
 rcases List.mem_append.1 hu with hu|hu
 ·exact h u hu
 ·exact r u hu
abbrev RB:=Sl 1 Hz
structure DB where
 rows:(List (List UInt8))
instance:Inhabited DB:=⟨⟨[]⟩⟩
def Zf(x:DB):Prop:=(fun l=> ∀x,x∈l→(fun l=> ∀x,x∈l→(fun _=>True) x) x) x.rows
def YY:ER DB:=fun w cs x fp=> ∃(MX:Value) (MY:List Nat),cs= [MX]∧Sl 1 (YX 1 Hz) w MX x.rows MY∧fp=MY
theorem lp:fL 1 YY where
 agree:=by rintro w w' cs x fp ⟨v0,f0,rfl,h0,rfl⟩ ha;exact⟨v0,_,rfl,(Sl.agree (ox iz) h0 (ha.sub fun b hb=>by simp[hb])),rfl⟩
 lt:=by rintro w cs x fp ⟨v0,f0,rfl,h0,rfl⟩ b hb;exact Sl.lt (ox iz) h0 b hb
 len:=by rintro w cs x fp ⟨v0,f0,rfl,h0,rfl⟩;rfl
 one:=by rintro w cs x fp ⟨v0,f0,rfl,h0,rfl⟩;exact(bL (Sl.one h0) gS)
structure aX where
 client:Int
 share:DB
instance:Inhabited aX:=⟨⟨0,default⟩⟩
def uD:ER aX:=fun w cs x fp=> ∃(Jp:List Value) (Jq:List Nat),cs= [.int .i64 x.client]++Jp∧YY w Jp x.share Jq∧fp=Jq
theorem qo:fL 2 uD where
 agree:=by rintro w w' cs x fp ⟨v0,f0,rfl,h0,rfl⟩ ha;exact⟨v0,_,rfl,(lp.agree h0 (ha.sub fun b hb=>by simp[hb])),rfl⟩
 lt:=by rintro w cs x fp ⟨v0,f0,rfl,h0,rfl⟩ b hb;exact lp.lt h0 b hb
 len:=by rintro w cs x fp ⟨v0,f0,rfl,h0,rfl⟩;simp[lp.len h0]
 one:=by rintro w cs x fp ⟨v0,f0,rfl,h0,rfl⟩;exact(qn (bL rfl gS) (lp.one h0))
structure bD where
 id:Int
 rows:Int
 round:Int
 received:(List aX)
 behavior:Int
instance:Inhabited bD:=⟨⟨0,0,0,[],0⟩⟩
def MZ:ER bD:=fun w cs x fp=> ∃(zJ:Value) (zK:List Nat),cs= [.int .i64 x.id, .int .i64 x.rows, .int .i64 x.round,zJ, .int .i64 x.behavior]∧Sl 2 uD w zJ x.received zK∧fp=zK
theorem zL:fL 5 MZ where
 agree:=by rintro w w' cs x fp ⟨v0,f0,rfl,h0,rfl⟩ ha;exact⟨v0,_,rfl,(Sl.agree qo h0 (ha.sub fun b hb=>by simp[hb])),rfl⟩
 lt:=by rintro w cs x fp ⟨v0,f0,rfl,h0,rfl⟩ b hb;exact Sl.lt qo h0 b hb
 len:=by rintro w cs x fp ⟨v0,f0,rfl,h0,rfl⟩;rfl
 one:=by rintro w cs x fp ⟨v0,f0,rfl,h0,rfl⟩;exact(bL rfl (bL rfl (bL rfl (bL (Sl.one h0) (bL rfl gS)))))
structure aK where
 round:Int
 db:DB
instance:Inhabited aK:=⟨⟨0,default⟩⟩
def Cu(x:aK):Prop:=(kQ) x.round∧(Zf) x.db
def uE:ER aK:=fun w cs x fp=> ∃(Zg:List Value) (Zh:List Nat),cs= [.int .i64 x.round]++Zg∧YY w Zg x.db Zh∧fp=Zh
theorem qp:fL 2 uE where
 agree:=by rintro w w' cs x fp ⟨v0,f0,rfl,h0,rfl⟩ ha;exact⟨v0,_,rfl,(lp.agree h0 (ha.sub fun b hb=>by simp[hb])),rfl⟩
 lt:=by rintro w cs x fp ⟨v0,f0,rfl,h0,rfl⟩ b hb;exact lp.lt h0 b hb
 len:=by rintro w cs x fp ⟨v0,f0,rfl,h0,rfl⟩;simp[lp.len h0]
 one:=by rintro w cs x fp ⟨v0,f0,rfl,h0,rfl⟩;exact(qn (bL rfl gS) (lp.one h0))
structure iK where
 rows:Int
 rounds:(List aK)
instance:Inhabited iK:=⟨⟨0,[]⟩⟩
def HB(x:iK):Prop:=(kQ) x.rows∧(fun l=> ∀x,x∈l→(Cu) x) x.rounds
def M0:ER iK:=fun w cs x fp=> ∃(Ff:Value) (Fg:List Nat),cs= [.int .i64 x.rows,Ff]∧Sl 2 uE w Ff x.rounds Fg∧fp=Fg
theorem qt:fL 2 M0 where
 agree:=by rintro w w' cs x fp ⟨v0,f0,rfl,h0,rfl⟩ ha;exact⟨v0,_,rfl,(Sl.agree qp h0 (ha.sub fun b hb=>by simp[hb])),rfl⟩
 lt:=by rintro w cs x fp ⟨v0,f0,rfl,h0,rfl⟩ b hb;exact Sl.lt qp h0 b hb
 len:=by rintro w cs x fp ⟨v0,f0,rfl,h0,rfl⟩;rfl
 one:=by rintro w cs x fp ⟨v0,f0,rfl,h0,rfl⟩;exact(bL rfl (bL (Sl.one h0) gS))
structure dN where
 id:Int
 bG:Int
 key:Int
 seed:Int
 aF:(List (List UInt8))
 sent:Int
 inbox:(List (List UInt8))
 next:Int
instance:Inhabited dN:=⟨⟨0,0,0,0,[],0,[],0⟩⟩
def HC(x:dN):Prop:=(kQ) x.id∧(kQ) x.bG∧(kQ) x.key∧(kQ) x.seed∧(fun l=> ∀x,x∈l→(fun l=> ∀x,x∈l→(fun _=>True) x) x) x.aF∧(kQ) x.sent∧(fun l=> ∀x,x∈l→(fun l=> ∀x,x∈l→(fun _=>True) x) x) x.inbox∧(kQ) x.next
def K3:ER dN:=fun w cs x fp=> ∃(xZ:Value) (Jr:Value) (ya Js:List Nat),cs= [.int .i64 x.id, .int .i64 x.bG, .int .i64 x.key, .int .i64 x.seed,xZ, .int .i64 x.sent,Jr, .int .i64 x.next]∧Sl 1 (YX 1 Hz) w xZ x.aF ya∧Sl 1 (YX 1 Hz) w Jr x.inbox Js∧fp=ya++Js
theorem jF:fL 8 K3 where
 agree:=by rintro w w' cs x fp ⟨v0,v1,f0,f1,rfl,h0,h1,rfl⟩ ha;exact⟨v0,v1,_,_,rfl,(Sl.agree (ox iz) h0 (ha.sub fun b hb=>by simp[hb])),(Sl.agree (ox iz) h1 (ha.sub fun b hb=>by simp[hb])),rfl⟩
 lt:=by
  rintro w cs x fp ⟨v0,v1,f0,f1,rfl,h0,h1,rfl⟩ b hb
  simp only[List.mem_append]at hb
  rcases hb with hb|hb
  ·exact Sl.lt (ox iz) h0 b hb
  ·exact Sl.lt (ox iz) h1 b hb
 len:=by rintro w cs x fp ⟨v0,v1,f0,f1,rfl,h0,h1,rfl⟩;rfl
 one:=by rintro w cs x fp ⟨v0,v1,f0,f1,rfl,h0,h1,rfl⟩;exact(bL rfl (bL rfl (bL rfl (bL rfl (bL (Sl.one h0) (bL rfl (bL (Sl.one h1) (bL rfl gS))))))))
structure bP where
 live:dN
 saved:dN
instance:Inhabited bP:=⟨⟨default,default⟩⟩
def M1:ER bP:=fun w cs x fp=> ∃(M3:List Value) (Jt:List Value) (M4 Ju:List Nat),cs=M3++Jt∧K3 w M3 x.live M4∧K3 w Jt x.saved Ju∧fp=M4++Ju
theorem zM:fL 16 M1 where
 agree:=by rintro w w' cs x fp ⟨v0,v1,f0,f1,rfl,h0,h1,rfl⟩ ha;exact⟨v0,v1,_,_,rfl,(jF.agree h0 (ha.sub fun b hb=>by simp[hb])),(jF.agree h1 (ha.sub fun b hb=>by simp[hb])),rfl⟩
 lt:=by
  rintro w cs x fp ⟨v0,v1,f0,f1,rfl,h0,h1,rfl⟩ b hb
  simp only[List.mem_append]at hb
  rcases hb with hb|hb
  ·exact jF.lt h0 b hb
  ·exact jF.lt h1 b hb
 len:=by rintro w cs x fp ⟨v0,v1,f0,f1,rfl,h0,h1,rfl⟩;simp[jF.len h0,jF.len h1]
 one:=by rintro w cs x fp ⟨v0,v1,f0,f1,rfl,h0,h1,rfl⟩;exact(qn (jF.one h0) (jF.one h1))
structure bw where
 rows:Int
 an:(List bD)
 af:(List bP)
 aJ:iK
 bq:Int
 seed:Int
 round:Int
 replaced:(List Int)
 cancelled:Int
instance:Inhabited bw:=⟨⟨0,[],[],default,0,0,0,[],0⟩⟩
def Se:ER bw:=fun w cs x fp=> ∃(Cv:Value) (Cw:Value) (Cx:List Value) (zN:Value) (Cy Cz CA zO:List Nat),cs= [.int .i64 x.rows,Cv,Cw]++Cx++ [.int .i64 x.bq, .int .i64 x.seed, .int .i64 x.round,zN, .int .i64 x.cancelled]∧Sl 5 MZ w Cv x.an Cy∧Sl 16 M1 w Cw x.af Cz∧M0 w Cx x.aJ CA∧Sl 1 MT w zN x.replaced zO∧fp=Cy++Cz++CA++zO
theorem M5:fL 10 Se where
 agree:=by rintro w w' cs x fp ⟨v0,v1,v2,v3,f0,f1,f2,f3,rfl,h0,h1,h2,h3,rfl⟩ ha;exact⟨v0,v1,v2,v3,_,_,_,_,rfl,(Sl.agree zL h0 (ha.sub fun b hb=>by simp[hb])),(Sl.agree zM h1 (ha.sub fun b hb=>by simp[hb])),(qt.agree h2 (ha.sub fun b hb=>by simp[hb])),(Sl.agree qm h3 (ha.sub fun b hb=>by simp[hb])),rfl⟩
 lt:=by
  rintro w cs x fp ⟨v0,v1,v2,v3,f0,f1,f2,f3,rfl,h0,h1,h2,h3,rfl⟩ b hb
  simp only[List.mem_append]at hb
  rcases hb with((hb|hb)|hb)|hb
  ·exact Sl.lt zL h0 b hb
  ·exact Sl.lt zM h1 b hb
  ·exact qt.lt h2 b hb
  ·exact Sl.lt qm h3 b hb
 len:=by rintro w cs x fp ⟨v0,v1,v2,v3,f0,f1,f2,f3,rfl,h0,h1,h2,h3,rfl⟩;simp[qt.len h2]
 one:=by rintro w cs x fp ⟨v0,v1,v2,v3,f0,f1,f2,f3,rfl,h0,h1,h2,h3,rfl⟩;exact(qn (qn (bL rfl (bL (Sl.one h0) (bL (Sl.one h1) gS))) (qt.one h2)) (bL rfl (bL rfl (bL rfl (bL (Sl.one h3) (bL rfl gS))))))
structure Ev where
 kind:Int
 node:Int
 value:Int
 body:(List UInt8)
instance:Inhabited Ev:=⟨⟨0,0,0,[]⟩⟩
def EEv:ER Ev:=fun w cs x fp=> ∃(zP:Value) (zQ:List Nat),cs= [.int .i64 x.kind, .int .i64 x.node, .int .i64 x.value,zP]∧Sl 1 Hz w zP x.body zQ∧fp=zQ
theorem Sf:fL 4 EEv where
 agree:=by rintro w w' cs x fp ⟨v0,f0,rfl,h0,rfl⟩ ha;exact⟨v0,_,rfl,(Sl.agree iz h0 (ha.sub fun b hb=>by simp[hb])),rfl⟩
 lt:=by rintro w cs x fp ⟨v0,f0,rfl,h0,rfl⟩ b hb;exact Sl.lt iz h0 b hb
 len:=by rintro w cs x fp ⟨v0,f0,rfl,h0,rfl⟩;rfl
 one:=by rintro w cs x fp ⟨v0,f0,rfl,h0,rfl⟩;exact(bL rfl (bL rfl (bL rfl (bL (Sl.one h0) gS))))
structure iy where
 fr:Int
 to:Int
 bytes:Int
instance:Inhabited iy:=⟨⟨0,0,0⟩⟩
def DG(x:iy):Prop:=(kQ) x.fr∧(kQ) x.to∧(kQ) x.bytes
def M6:ER iy:=fun _ cs x fp=>cs= [.int .i64 x.fr, .int .i64 x.to, .int .i64 x.bytes]∧fp= []
theorem M7:fL 3 M6 where
 agree:=fun h _=>h
 lt:=by rintro w cs x fp ⟨rfl,rfl⟩ b hb;simp at hb
 len:=by rintro w cs x fp ⟨rfl,rfl⟩;rfl
 one:=by rintro w cs x fp ⟨rfl,rfl⟩ u hu;simp at hu;rcases hu with rfl|rfl|rfl<;>rfl
structure fA where
 server:Int
 client:Int
 round:Int
 qu:Int
 Jv:Int
instance:Inhabited fA:=⟨⟨0,0,0,0,0⟩⟩
def M8:ER fA:=fun _ cs x fp=>cs= [.int .i64 x.server, .int .i64 x.client, .int .i64 x.round, .int .i64 x.qu, .int .i64 x.Jv]∧fp= []
theorem M9:fL 5 M8 where
 agree:=fun h _=>h
 lt:=by rintro w cs x fp ⟨rfl,rfl⟩ b hb;simp at hb
 len:=by rintro w cs x fp ⟨rfl,rfl⟩;rfl
 one:=by rintro w cs x fp ⟨rfl,rfl⟩ u hu;simp at hu;rcases hu with rfl|rfl|rfl|rfl|rfl<;>rfl
structure Plain where
 kind:Int
 body:(List UInt8)
instance:Inhabited Plain:=⟨⟨0,[]⟩⟩
def DH:ER Plain:=fun w cs x fp=> ∃(zP:Value) (zQ:List Nat),cs= [.int .i64 x.kind,zP]∧Sl 1 Hz w zP x.body zQ∧fp=zQ
theorem HD:fL 2 DH where
 agree:=by rintro w w' cs x fp ⟨v0,f0,rfl,h0,rfl⟩ ha;exact⟨v0,_,rfl,(Sl.agree iz h0 (ha.sub fun b hb=>by simp[hb])),rfl⟩
 lt:=by rintro w cs x fp ⟨v0,f0,rfl,h0,rfl⟩ b hb;exact Sl.lt iz h0 b hb
 len:=by rintro w cs x fp ⟨v0,f0,rfl,h0,rfl⟩;rfl
 one:=by rintro w cs x fp ⟨v0,f0,rfl,h0,rfl⟩;exact(bL rfl (bL (Sl.one h0) gS))
structure dy where
 server:Int
 round:Int
 selection:(List Int)
 data:(List UInt8)
 Jv:Int
instance:Inhabited dy:=⟨⟨0,0,[],[],0⟩⟩
def Jw:ER dy:=fun w cs x fp=> ∃(yc:Value) (Na:Value) (yd Nb:List Nat),cs= [.int .i64 x.server, .int .i64 x.round,yc,Na, .int .i64 x.Jv]∧Sl 1 MT w yc x.selection yd∧Sl 1 Hz w Na x.data Nb∧fp=yd++Nb
theorem K4:fL 5 Jw where
 agree:=by rintro w w' cs x fp ⟨v0,v1,f0,f1,rfl,h0,h1,rfl⟩ ha;exact⟨v0,v1,_,_,rfl,(Sl.agree qm h0 (ha.sub fun b hb=>by simp[hb])),(Sl.agree iz h1 (ha.sub fun b hb=>by simp[hb])),rfl⟩
 lt:=by
  rintro w cs x fp ⟨v0,v1,f0,f1,rfl,h0,h1,rfl⟩ b hb
  simp only[List.mem_append]at hb
  rcases hb with hb|hb
  ·exact Sl.lt qm h0 b hb
  ·exact Sl.lt iz h1 b hb
 len:=by rintro w cs x fp ⟨v0,v1,f0,f1,rfl,h0,h1,rfl⟩;rfl
 one:=by rintro w cs x fp ⟨v0,v1,f0,f1,rfl,h0,h1,rfl⟩;exact(bL rfl (bL rfl (bL (Sl.one h0) (bL (Sl.one h1) (bL rfl gS)))))
end
end Go.Proofs.YtkkfjbfkjbljiaaGreatDoor.D
