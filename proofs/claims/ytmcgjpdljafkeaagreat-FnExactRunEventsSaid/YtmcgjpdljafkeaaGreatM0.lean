/-
  The data of the program: structures, and how cells read as them.
-/
import Derived.Deep.MidRow
import Derived.Deep.Slices
import Derived.Lib.Hide
import Derived.WalkKit
import Derived.WalkLawsBesides
import Derived.WalkSpells
namespace Go.Proofs.YtmcgjpdljafkeaaGreat.L
set_option linter.all false
open Go.RowKit
section
abbrev ER(α:Type):=World→List Value→α→List Nat→Prop
def ew(w w':World)(fp:List Nat):Prop:= ∀b,b∈fp→w'.heap[b]? =w.heap[b]?
theorem ew.cell{w w':World}{fp:List Nat}(h:ew w w' fp){b:Nat}(hb:b∈fp)(o:Nat):w'.cell? ⟨b,o,none⟩=w.cell? ⟨b,o,none⟩:=
 World.cell?_of_block (w:=w) (a:=⟨b,o,none⟩) (h b hb)
theorem ew.range{w w':World}{fp:List Nat}(h:ew w w' fp){b:Nat}(hb:b∈fp){o:Nat}{cs:List Value}(hr:w.rangeAt b o cs):w'.rangeAt b o cs:=
 fun j v hv=>by rw[h.cell hb];exact hr j v hv
theorem ew.sub{w w':World}{fp ga:List Nat}(h:ew w w' fp)(hs: ∀b,b∈ga→b∈fp):ew w w' ga:=fun b hb=>h b (hs b hb)
theorem ew.trans{a b c:World}{fp:List Nat}(h:ew a b fp)(k:ew b c fp):ew a c fp:=fun x hx=>(k x hx).trans (h x hx)
theorem ew.refl(w:World)(fp:List Nat):ew w w fp:=fun _ _=>rfl
theorem k8{B:Nat}{w w':World}{fp:List Nat}(hb:Below B w w')(hf: ∀b,b∈fp→b<B):ew w w' fp:=fun b h=>hb.block b (hf b h)
structure fF{α:Type}(k:Nat)(E:ER α):Prop where
 bp: ∀{w w':World} {cs x fp},E w cs x fp→ew w w' fp→E w' cs x fp
 lt: ∀{w:World} {cs x fp},E w cs x fp→ ∀b,b∈fp→b<w.heap.size
 len: ∀{w:World} {cs x fp},E w cs x fp→cs.length=k
 one: ∀{w:World} {cs x fp},E w cs x fp→ ∀u,u∈cs→u.oneCell'=true
def uF{α:Type}(k:Nat)(E:ER α)(w:World)(b off:Nat)(l:List α)(bk:List (List Nat)):Prop:=
 bk.length=l.length∧ ∀i x f,l[i]? =some x→bk[i]? =some f→ ∃cs,w.rangeAt b (off+i*k) cs∧E w cs x f
def Sl{α:Type}(k:Nat)(E:ER α)(w:World)(v:Value)(l:List α)(fp:List Nat):Prop:=
 ∃oa cap,v= .slice oa l.length cap∧l.length≤cap∧cap≤maxLen∧
  ((l= []∧fp= []∧(oa=none→cap=0))∨ ∃b off bk,oa=some ⟨b,off,none⟩∧b<w.heap.size∧fp=b::bk.flatten∧uF k E w b off l bk)
def GH{α:Type}(k:Nat)(E:ER α):ER (List α):=fun w cs l fp=> ∃v,cs= [v]∧Sl k E w v l fp
def j9:ER Int:=fun _ cs n fp=>cs= [.int .i64 n]∧fp= []
def GL:ER UInt8:=fun _ cs n fp=>cs= [.int .u8 n.toNat]∧fp= []
def TT:ER (List UInt8):=fun _ cs s fp=>cs= [.string ⟨s.toArray⟩]∧s.length≤maxLen∧fp= []
theorem rq:fF 1 j9:=⟨fun h _=>h,by rintro w cs x fp ⟨rfl,rfl⟩ b hb;simp at hb,by rintro w cs x fp ⟨rfl,rfl⟩;rfl,by rintro w cs x fp ⟨rfl,rfl⟩ u hu;simp at hu;subst hu;rfl⟩
theorem gL:fF 1 GL:=⟨fun h _=>h,by rintro w cs x fp ⟨rfl,rfl⟩ b hb;simp at hb,by rintro w cs x fp ⟨rfl,rfl⟩;rfl,by rintro w cs x fp ⟨rfl,rfl⟩ u hu;simp at hu;subst hu;rfl⟩
theorem NS:fF 1 TT:=⟨fun h _=>h,by rintro w cs x fp ⟨rfl,_,rfl⟩ b hb;simp at hb,by rintro w cs x fp ⟨rfl,_,rfl⟩;rfl,by rintro w cs x fp ⟨rfl,_,rfl⟩ u hu;simp at hu;subst hu;rfl⟩
theorem b9{l:List (List Nat)}{i:Nat}{f:List Nat}(h:l[i]? =some f){b:Nat}(hb:b∈f):b∈l.flatten:=
 List.mem_flatten.2 ⟨f,List.mem_of_getElem? h,hb⟩
theorem iz{α:Type}{l:List α}{bk:List (List Nat)}(h:bk.length=l.length){i:Nat}{x:α}(hx:l[i]? =some x): ∃f,bk[i]? =some f:=by
 have:i<l.length:=(List.getElem?_eq_some_iff.1 hx).1
 exact⟨bk[i],List.getElem?_eq_getElem (by omega)⟩
section
variable{α:Type}{k:Nat}{E:ER α}(G:fF k E)
include G
theorem uF.bp{w w':World}{b off:Nat}{l:List α}{bk:List (List Nat)}(h:uF k E w b off l bk)(hb:w'.heap[b]? =w.heap[b]?)(ha:ew w w' bk.flatten):uF k E w' b off l bk:=by
 refine⟨h.1,fun i x f hx hf=> ?_⟩
 obtain⟨cs,hr,he⟩:=h.2 i x f hx hf
 refine⟨cs,fun j v hv=> ?_,G.bp he (ha.sub fun _ hm=>b9 hf hm)⟩
 rw[World.cell?_of_block (w:=w) (a:=⟨b,_,none⟩) hb];exact hr j v hv
theorem Sl.bp{w w':World}{v:Value}{l:List α}{fp:List Nat}(h:Sl k E w v l fp)(ha:ew w w' fp):Sl k E w' v l fp:=by
 obtain⟨oa,cap,rfl,h1,h2,h3⟩:=h
 refine⟨oa,cap,rfl,h1,h2,?_⟩
 rcases h3 with h3| ⟨b,off,bk,rfl,hb,rfl,he⟩
 ·exact Or.inl h3
 ·have hbk:=ha b (by simp)
  refine Or.inr ⟨b,off,bk,rfl,?_,rfl,uF.bp G he hbk (ha.sub (fun _ hm=>List.mem_cons_of_mem _ hm))⟩
  have:w.heap[b]? =some w.heap[b]:=by simp[hb]
  rw[this]at hbk
  exact(Array.getElem?_eq_some_iff.1 hbk).1
theorem Sl.lt{w:World}{v:Value}{l:List α}{fp:List Nat}(h:Sl k E w v l fp): ∀b,b∈fp→b<w.heap.size:=by
 obtain⟨oa,cap,rfl,h1,h2,h3⟩:=h
 rcases h3 with⟨_,rfl,_⟩| ⟨b,off,bk,rfl,hb,rfl,he⟩
 ·simp
 ·intro c hc
  rcases List.mem_cons.1 hc with rfl|hc
  ·exact hb
  ·obtain⟨f,hf,Yc⟩:=List.mem_flatten.1 hc
   obtain⟨i,hi⟩:=List.getElem?_of_mem hf
   have hil:i<l.length:=by have:=(List.getElem?_eq_some_iff.1 hi).1;have:=he.1;omega
   obtain⟨cs,_,hE⟩:=he.2 i l[i] f (List.getElem?_eq_getElem hil) hi
   exact G.lt hE c Yc
theorem pK:fF 1 (GH k E):=
 ⟨by rintro w w' cs x fp ⟨v,rfl,h⟩ ha;exact⟨v,rfl,Sl.bp G h ha⟩,by rintro w cs x fp ⟨v,rfl,h⟩;exact Sl.lt G h,
  by rintro w cs x fp ⟨v,rfl,h⟩;rfl,by rintro w cs x fp ⟨v,rfl,oa,cap,rfl,h⟩ u hu;simp at hu;subst hu;rfl⟩
theorem Sl.below{w w':World}{v:Value}{l:List α}{fp:List Nat}(h:Sl k E w v l fp)(hb:Below w.heap.size w w'):Sl k E w' v l fp:=Sl.bp G h (k8 hb (Sl.lt G h))
end
theorem Sl.at{α:Type}{k:Nat}{E:ER α}{w:World}{oa:Option Addr}{n cap:Nat}{l:List α}{fp:List Nat}(h:Sl k E w (.slice oa n cap) l fp){i:Nat}{x:α}(hx:l[i]? =some x):
  ∃b off f cs,oa=some ⟨b,off,none⟩∧w.rangeAt b (off+i*k) cs∧E w cs x f∧(∀y,y∈f→y∈fp):=by
 obtain⟨TU,cap',hv,h1,h2,h3⟩:=h
 simp only[Value.slice.injEq]at hv
 obtain⟨rfl,_,rfl⟩:=hv
 rcases h3 with⟨rfl,_⟩| ⟨b,off,bk,rfl,hb,rfl,he⟩
 ·simp at hx
 ·obtain⟨f,hf⟩:=iz he.1 hx
  obtain⟨cs,hr,hE⟩:=he.2 i x f hx hf
  exact⟨b,off,f,cs,rfl,hr,hE,fun y hy=>List.mem_cons_of_mem _ (b9 hf hy)⟩
structure Own(lo:Nat)(w:World)(fp:List Nat):Prop where
 nodup:fp.Nodup
 ge: ∀b,b∈fp→lo≤b
 kind: ∀b,b∈fp→ ∃c e,w.heap[b]? =some (.cells c e (0,0))
theorem Own.bp{lo:Nat}{w w':World}{fp:List Nat}(h:Own lo w fp)(ha:ew w w' fp):Own lo w' fp:=⟨h.nodup,h.ge,fun b hb=>by rw[ha b hb];exact h.kind b hb⟩
theorem Own.lt{lo:Nat}{w:World}{fp:List Nat}(h:Own lo w fp): ∀b,b∈fp→b<w.heap.size:=fun b hb=>by
 obtain⟨c,e,hk⟩:=h.kind b hb
 exact(Array.getElem?_eq_some_iff.1 hk).1
theorem Own.nil(lo:Nat)(w:World):Own lo w []:=⟨List.nodup_nil,by simp,by simp⟩
theorem Own.mono{lo lo':Nat}{w:World}{fp:List Nat}(h:Own lo w fp)(hl:lo'≤lo):Own lo' w fp:=⟨h.nodup,fun b hb=>Nat.le_trans hl (h.ge b hb),h.kind⟩
theorem Own.below{lo:Nat}{w w':World}{fp:List Nat}(h:Own lo w fp)(hb:Below w.heap.size w w'):Own lo w' fp:=h.bp (k8 hb h.lt)
theorem Fa{α:Type}{k:Nat}{E:ER α}{w:World}{b:Nat}{l:List α}{xs:List Value}{bk:List (List Nat)}(hf:bk.length=l.length)
  (hx: ∀j u,xs[j]? =some u→w.cell? ⟨b,j,none⟩=some u)(h: ∀i x f,l[i]? =some x→bk[i]? =some f→E w ((xs.drop (i*k)).take k) x f):uF k E w b 0 l bk:=by
 refine⟨hf,fun i x f hi VO=>⟨_,fun j v hv=> ?_,h i x f hi VO⟩⟩
 rw[Nat.zero_add]
 refine hx _ _ ?_
 have:=List.getElem?_eq_some_iff.1 hv
 rw[List.getElem?_take,]at hv
 split at hv
 ·rw[List.getElem?_drop]at hv;exact hv
 ·simp at hv
end
end Go.Proofs.YtmcgjpdljafkeaaGreat.L
namespace Go.Proofs.YtmcgjpdljafkeaaGreat.D
set_option linter.all false
open Go.RowKit L
section
def we(n:Int):Prop:= -9223372036854775808≤n∧n≤9223372036854775807
theorem Sl.one{α:Type}{k:Nat}{E:ER α}{w:World}{v:Value}{l:List α}{fp:List Nat}(h:Sl k E w v l fp):v.oneCell'=true:=by
 obtain⟨oa,cap,rfl,_⟩:=h;rfl
theorem gz: ∀u,u∈([]:List Value)→u.oneCell'=true:=by simp
theorem bq{v:Value}{l:List Value}(h:v.oneCell'=true)(r: ∀u,u∈l→u.oneCell'=true): ∀u,u∈v::l→u.oneCell'=true:=by
 intro u hu
 rcases List.mem_cons.1 hu with rfl|hu
 ·exact h
 ·exact r u hu
theorem ru{a b:List Value}(h: ∀u,u∈a→u.oneCell'=true)(r: ∀u,u∈b→u.oneCell'=true): ∀u,u∈a++b→u.oneCell'=true:=by
 intro u hu
 rcases List.mem_append.1 hu with hu|hu
 ·exact h u hu
 ·exact r u hu
abbrev RB:=Sl 1 GL
structure DB where
 rows:(List (List UInt8))
instance:Inhabited DB:=⟨⟨[]⟩⟩
def NU(x:DB):Prop:=(fun l=> ∀x,x∈l→(fun l=> ∀x,x∈l→(fun _=>True) x) x) x.rows
def Ru:ER DB:=fun w cs x fp=> ∃(NV:Value) (NW:List Nat),cs= [NV]∧Sl 1 (GH 1 GL) w NV x.rows NW∧fp=NW
theorem mg:fF 1 Ru where
 bp:=by rintro w w' cs x fp ⟨v0,f0,rfl,h0,rfl⟩ ha;exact⟨v0,_,rfl,(Sl.bp (pK gL) h0 (ha.sub fun b hb=>by simp[hb])),rfl⟩
 lt:=by rintro w cs x fp ⟨v0,f0,rfl,h0,rfl⟩ b hb;exact Sl.lt (pK gL) h0 b hb
 len:=by rintro w cs x fp ⟨v0,f0,rfl,h0,rfl⟩;rfl
 one:=by rintro w cs x fp ⟨v0,f0,rfl,h0,rfl⟩;exact(bq (Sl.one h0) gz)
structure aB where
 client:Int
 share:DB
instance:Inhabited aB:=⟨⟨0,default⟩⟩
def DW(x:aB):Prop:=(we) x.client∧(NU) x.share
def pL:ER aB:=fun w cs x fp=> ∃(KG:List Value) (KH:List Nat),cs= [.int .i64 x.client]++KG∧Ru w KG x.share KH∧fp=KH
theorem ry:fF 2 pL where
 bp:=by rintro w w' cs x fp ⟨v0,f0,rfl,h0,rfl⟩ ha;exact⟨v0,_,rfl,(mg.bp h0 (ha.sub fun b hb=>by simp[hb])),rfl⟩
 lt:=by rintro w cs x fp ⟨v0,f0,rfl,h0,rfl⟩ b hb;exact mg.lt h0 b hb
 len:=by rintro w cs x fp ⟨v0,f0,rfl,h0,rfl⟩;simp[mg.len h0]
 one:=by rintro w cs x fp ⟨v0,f0,rfl,h0,rfl⟩;exact(ru (bq rfl gz) (mg.one h0))
structure aU where
 id:Int
 rows:Int
 round:Int
 received:(List aB)
 behavior:Int
instance:Inhabited aU:=⟨⟨0,0,0,[],0⟩⟩
def NX(x:aU):Prop:=(we) x.id∧(we) x.rows∧(we) x.round∧(fun l=> ∀x,x∈l→(DW) x) x.received∧(we) x.behavior
def Jo:ER aU:=fun w cs x fp=> ∃(Bx:Value) (By:List Nat),cs= [.int .i64 x.id, .int .i64 x.rows, .int .i64 x.round,Bx, .int .i64 x.behavior]∧Sl 2 pL w Bx x.received By∧fp=By
theorem Bz:fF 5 Jo where
 bp:=by rintro w w' cs x fp ⟨v0,f0,rfl,h0,rfl⟩ ha;exact⟨v0,_,rfl,(Sl.bp ry h0 (ha.sub fun b hb=>by simp[hb])),rfl⟩
 lt:=by rintro w cs x fp ⟨v0,f0,rfl,h0,rfl⟩ b hb;exact Sl.lt ry h0 b hb
 len:=by rintro w cs x fp ⟨v0,f0,rfl,h0,rfl⟩;rfl
 one:=by rintro w cs x fp ⟨v0,f0,rfl,h0,rfl⟩;exact(bq rfl (bq rfl (bq rfl (bq (Sl.one h0) (bq rfl gz)))))
structure aA where
 round:Int
 db:DB
instance:Inhabited aA:=⟨⟨0,default⟩⟩
def DX(x:aA):Prop:=(we) x.round∧(NU) x.db
def pM:ER aA:=fun w cs x fp=> ∃(V4:List Value) (V5:List Nat),cs= [.int .i64 x.round]++V4∧Ru w V4 x.db V5∧fp=V5
theorem rz:fF 2 pM where
 bp:=by rintro w w' cs x fp ⟨v0,f0,rfl,h0,rfl⟩ ha;exact⟨v0,_,rfl,(mg.bp h0 (ha.sub fun b hb=>by simp[hb])),rfl⟩
 lt:=by rintro w cs x fp ⟨v0,f0,rfl,h0,rfl⟩ b hb;exact mg.lt h0 b hb
 len:=by rintro w cs x fp ⟨v0,f0,rfl,h0,rfl⟩;simp[mg.len h0]
 one:=by rintro w cs x fp ⟨v0,f0,rfl,h0,rfl⟩;exact(ru (bq rfl gz) (mg.one h0))
structure iS where
 rows:Int
 rounds:(List aA)
instance:Inhabited iS:=⟨⟨0,[]⟩⟩
def NY(x:iS):Prop:=(we) x.rows∧(fun l=> ∀x,x∈l→(DX) x) x.rounds
def Jp:ER iS:=fun w cs x fp=> ∃(GM:Value) (GN:List Nat),cs= [.int .i64 x.rows,GM]∧Sl 2 pM w GM x.rounds GN∧fp=GN
theorem rA:fF 2 Jp where
 bp:=by rintro w w' cs x fp ⟨v0,f0,rfl,h0,rfl⟩ ha;exact⟨v0,_,rfl,(Sl.bp rz h0 (ha.sub fun b hb=>by simp[hb])),rfl⟩
 lt:=by rintro w cs x fp ⟨v0,f0,rfl,h0,rfl⟩ b hb;exact Sl.lt rz h0 b hb
 len:=by rintro w cs x fp ⟨v0,f0,rfl,h0,rfl⟩;rfl
 one:=by rintro w cs x fp ⟨v0,f0,rfl,h0,rfl⟩;exact(bq rfl (bq (Sl.one h0) gz))
structure dV where
 id:Int
 e9:Int
 key:Int
 seed:Int
 aq:(List (List UInt8))
 sent:Int
 inbox:(List (List UInt8))
 next:Int
instance:Inhabited dV:=⟨⟨0,0,0,0,[],0,[],0⟩⟩
def Jq(x:dV):Prop:=(we) x.id∧(we) x.e9∧(we) x.key∧(we) x.seed∧(fun l=> ∀x,x∈l→(fun l=> ∀x,x∈l→(fun _=>True) x) x) x.aq∧(we) x.sent∧(fun l=> ∀x,x∈l→(fun l=> ∀x,x∈l→(fun _=>True) x) x) x.inbox∧(we) x.next
def Fe:ER dV:=fun w cs x fp=> ∃(zT:Value) (KI:Value) (zU KJ:List Nat),cs= [.int .i64 x.id, .int .i64 x.e9, .int .i64 x.key, .int .i64 x.seed,zT, .int .i64 x.sent,KI, .int .i64 x.next]∧Sl 1 (GH 1 GL) w zT x.aq zU∧Sl 1 (GH 1 GL) w KI x.inbox KJ∧fp=zU++KJ
theorem jG:fF 8 Fe where
 bp:=by rintro w w' cs x fp ⟨v0,v1,f0,f1,rfl,h0,h1,rfl⟩ ha;exact⟨v0,v1,_,_,rfl,(Sl.bp (pK gL) h0 (ha.sub fun b hb=>by simp[hb])),(Sl.bp (pK gL) h1 (ha.sub fun b hb=>by simp[hb])),rfl⟩
 lt:=by
  rintro w cs x fp ⟨v0,v1,f0,f1,rfl,h0,h1,rfl⟩ b hb
  simp only[List.mem_append]at hb
  rcases hb with hb|hb
  ·exact Sl.lt (pK gL) h0 b hb
  ·exact Sl.lt (pK gL) h1 b hb
 len:=by rintro w cs x fp ⟨v0,v1,f0,f1,rfl,h0,h1,rfl⟩;rfl
 one:=by rintro w cs x fp ⟨v0,v1,f0,f1,rfl,h0,h1,rfl⟩;exact(bq rfl (bq rfl (bq rfl (bq rfl (bq (Sl.one h0) (bq rfl (bq (Sl.one h1) (bq rfl gz))))))))
structure aL where
 live:dV
 saved:dV
instance:Inhabited aL:=⟨⟨default,default⟩⟩
def NZ(x:aL):Prop:=(Jq) x.live∧(Jq) x.saved
def Jr:ER aL:=fun w cs x fp=> ∃(N0:List Value) (KK:List Value) (N1 KL:List Nat),cs=N0++KK∧Fe w N0 x.live N1∧Fe w KK x.saved KL∧fp=N1++KL
theorem BA:fF 16 Jr where
 bp:=by rintro w w' cs x fp ⟨v0,v1,f0,f1,rfl,h0,h1,rfl⟩ ha;exact⟨v0,v1,_,_,rfl,(jG.bp h0 (ha.sub fun b hb=>by simp[hb])),(jG.bp h1 (ha.sub fun b hb=>by simp[hb])),rfl⟩
 lt:=by
  rintro w cs x fp ⟨v0,v1,f0,f1,rfl,h0,h1,rfl⟩ b hb
  simp only[List.mem_append]at hb
  rcases hb with hb|hb
  ·exact jG.lt h0 b hb
  ·exact jG.lt h1 b hb
 len:=by rintro w cs x fp ⟨v0,v1,f0,f1,rfl,h0,h1,rfl⟩;simp[jG.len h0,jG.len h1]
 one:=by rintro w cs x fp ⟨v0,v1,f0,f1,rfl,h0,h1,rfl⟩;exact(ru (jG.one h0) (jG.one h1))
structure aN where
 rows:Int
 aj:(List aU)
 aa:(List aL)
 ak:iS
 az:Int
 seed:Int
 round:Int
 replaced:(List Int)
 cancelled:Int
instance:Inhabited aN:=⟨⟨0,[],[],default,0,0,0,[],0⟩⟩
def iT(x:aN):Prop:=(we) x.rows∧(fun l=> ∀x,x∈l→(NX) x) x.aj∧(fun l=> ∀x,x∈l→(NZ) x) x.aa∧(NY) x.ak∧(we) x.az∧(we) x.seed∧(we) x.round∧(fun l=> ∀x,x∈l→(we) x) x.replaced∧(we) x.cancelled
def pN:ER aN:=fun w cs x fp=> ∃(DY:Value) (DZ:Value) (D0:List Value) (BB:Value) (D1 D2 D3 BC:List Nat),cs= [.int .i64 x.rows,DY,DZ]++D0++ [.int .i64 x.az, .int .i64 x.seed, .int .i64 x.round,BB, .int .i64 x.cancelled]∧Sl 5 Jo w DY x.aj D1∧Sl 16 Jr w DZ x.aa D2∧Jp w D0 x.ak D3∧Sl 1 j9 w BB x.replaced BC∧fp=D1++D2++D3++BC
theorem N2:fF 10 pN where
 bp:=by rintro w w' cs x fp ⟨v0,v1,v2,v3,f0,f1,f2,f3,rfl,h0,h1,h2,h3,rfl⟩ ha;exact⟨v0,v1,v2,v3,_,_,_,_,rfl,(Sl.bp Bz h0 (ha.sub fun b hb=>by simp[hb])),(Sl.bp BA h1 (ha.sub fun b hb=>by simp[hb])),(rA.bp h2 (ha.sub fun b hb=>by simp[hb])),(Sl.bp rq h3 (ha.sub fun b hb=>by simp[hb])),rfl⟩
 lt:=by
  rintro w cs x fp ⟨v0,v1,v2,v3,f0,f1,f2,f3,rfl,h0,h1,h2,h3,rfl⟩ b hb
  simp only[List.mem_append]at hb
  rcases hb with((hb|hb)|hb)|hb
  ·exact Sl.lt Bz h0 b hb
  ·exact Sl.lt BA h1 b hb
  ·exact rA.lt h2 b hb
  ·exact Sl.lt rq h3 b hb
 len:=by rintro w cs x fp ⟨v0,v1,v2,v3,f0,f1,f2,f3,rfl,h0,h1,h2,h3,rfl⟩;simp[rA.len h2]
 one:=by rintro w cs x fp ⟨v0,v1,v2,v3,f0,f1,f2,f3,rfl,h0,h1,h2,h3,rfl⟩;exact(ru (ru (bq rfl (bq (Sl.one h0) (bq (Sl.one h1) gz))) (rA.one h2)) (bq rfl (bq rfl (bq rfl (bq (Sl.one h3) (bq rfl gz))))))
structure Ev where
 kind:Int
 node:Int
 value:Int
 body:(List UInt8)
instance:Inhabited Ev:=⟨⟨0,0,0,[]⟩⟩
def Rv:ER Ev:=fun w cs x fp=> ∃(BD:Value) (BF:List Nat),cs= [.int .i64 x.kind, .int .i64 x.node, .int .i64 x.value,BD]∧Sl 1 GL w BD x.body BF∧fp=BF
theorem Rw:fF 4 Rv where
 bp:=by rintro w w' cs x fp ⟨v0,f0,rfl,h0,rfl⟩ ha;exact⟨v0,_,rfl,(Sl.bp gL h0 (ha.sub fun b hb=>by simp[hb])),rfl⟩
 lt:=by rintro w cs x fp ⟨v0,f0,rfl,h0,rfl⟩ b hb;exact Sl.lt gL h0 b hb
 len:=by rintro w cs x fp ⟨v0,f0,rfl,h0,rfl⟩;rfl
 one:=by rintro w cs x fp ⟨v0,f0,rfl,h0,rfl⟩;exact(bq rfl (bq rfl (bq rfl (bq (Sl.one h0) gz))))
structure yt where
 fr:Int
 to:Int
 bytes:Int
instance:Inhabited yt:=⟨⟨0,0,0⟩⟩
def N3:ER yt:=fun _ cs x fp=>cs= [.int .i64 x.fr, .int .i64 x.to, .int .i64 x.bytes]∧fp= []
theorem N4:fF 3 N3 where
 bp:=fun h _=>h
 lt:=by rintro w cs x fp ⟨rfl,rfl⟩ b hb;simp at hb
 len:=by rintro w cs x fp ⟨rfl,rfl⟩;rfl
 one:=by rintro w cs x fp ⟨rfl,rfl⟩ u hu;simp at hu;rcases hu with rfl|rfl|rfl<;>rfl
structure cU where
 server:Int
 client:Int
 round:Int
 iU:Int
 AW:Int
instance:Inhabited cU:=⟨⟨0,0,0,0,0⟩⟩
def N5:ER cU:=fun _ cs x fp=>cs= [.int .i64 x.server, .int .i64 x.client, .int .i64 x.round, .int .i64 x.iU, .int .i64 x.AW]∧fp= []
theorem N6:fF 5 N5 where
 bp:=fun h _=>h
 lt:=by rintro w cs x fp ⟨rfl,rfl⟩ b hb;simp at hb
 len:=by rintro w cs x fp ⟨rfl,rfl⟩;rfl
 one:=by rintro w cs x fp ⟨rfl,rfl⟩ u hu;simp at hu;rcases hu with rfl|rfl|rfl|rfl|rfl<;>rfl
structure Plain where
 kind:Int
 body:(List UInt8)
instance:Inhabited Plain:=⟨⟨0,[]⟩⟩
def Ff:ER Plain:=fun w cs x fp=> ∃(BD:Value) (BF:List Nat),cs= [.int .i64 x.kind,BD]∧Sl 1 GL w BD x.body BF∧fp=BF
theorem Js:fF 2 Ff where
 bp:=by rintro w w' cs x fp ⟨v0,f0,rfl,h0,rfl⟩ ha;exact⟨v0,_,rfl,(Sl.bp gL h0 (ha.sub fun b hb=>by simp[hb])),rfl⟩
 lt:=by rintro w cs x fp ⟨v0,f0,rfl,h0,rfl⟩ b hb;exact Sl.lt gL h0 b hb
 len:=by rintro w cs x fp ⟨v0,f0,rfl,h0,rfl⟩;rfl
 one:=by rintro w cs x fp ⟨v0,f0,rfl,h0,rfl⟩;exact(bq rfl (bq (Sl.one h0) gz))
structure bJ where
 server:Int
 round:Int
 selection:(List Int)
 data:(List UInt8)
 AW:Int
instance:Inhabited bJ:=⟨⟨0,0,[],[],0⟩⟩
def KM:ER bJ:=fun w cs x fp=> ∃(zV:Value) (N7:Value) (zW N8:List Nat),cs= [.int .i64 x.server, .int .i64 x.round,zV,N7, .int .i64 x.AW]∧Sl 1 j9 w zV x.selection zW∧Sl 1 GL w N7 x.data N8∧fp=zW++N8
theorem Mx:fF 5 KM where
 bp:=by rintro w w' cs x fp ⟨v0,v1,f0,f1,rfl,h0,h1,rfl⟩ ha;exact⟨v0,v1,_,_,rfl,(Sl.bp rq h0 (ha.sub fun b hb=>by simp[hb])),(Sl.bp gL h1 (ha.sub fun b hb=>by simp[hb])),rfl⟩
 lt:=by
  rintro w cs x fp ⟨v0,v1,f0,f1,rfl,h0,h1,rfl⟩ b hb
  simp only[List.mem_append]at hb
  rcases hb with hb|hb
  ·exact Sl.lt rq h0 b hb
  ·exact Sl.lt gL h1 b hb
 len:=by rintro w cs x fp ⟨v0,v1,f0,f1,rfl,h0,h1,rfl⟩;rfl
 one:=by rintro w cs x fp ⟨v0,v1,f0,f1,rfl,h0,h1,rfl⟩;exact(bq rfl (bq rfl (bq (Sl.one h0) (bq (Sl.one h1) (bq rfl gz)))))
end
end Go.Proofs.YtmcgjpdljafkeaaGreat.D
