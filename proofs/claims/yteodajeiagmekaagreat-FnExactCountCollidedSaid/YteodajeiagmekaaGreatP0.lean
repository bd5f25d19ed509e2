/-
  The data of the program: structures, and how cells read as them.
-/
import Derived.Deep.MidRow
import Derived.Deep.Slices
import Derived.Lib.Hide
import Derived.WalkKit
import Derived.WalkLawsBesides
import Derived.WalkSpells
namespace Go.Proofs.YteodajeiagmekaaGreat.L
set_option linter.all false
open Go.RowKit
section
abbrev ER(α:Type):=World→List Value→α→List Nat→Prop
def bF(w w':World)(fp:List Nat):Prop:= ∀b,b∈fp→w'.heap[b]? =w.heap[b]?
theorem bF.cell{w w':World}{fp:List Nat}(h:bF w w' fp){b:Nat}(hb:b∈fp)(o:Nat):w'.cell? ⟨b,o,none⟩=w.cell? ⟨b,o,none⟩:=
 World.cell?_of_block (w:=w) (a:=⟨b,o,none⟩) (h b hb)
theorem bF.range{w w':World}{fp:List Nat}(h:bF w w' fp){b:Nat}(hb:b∈fp){o:Nat}{cs:List Value}(hr:w.rangeAt b o cs):w'.rangeAt b o cs:=
 fun j v hv=>by rw[h.cell hb];exact hr j v hv
theorem bF.sub{w w':World}{fp cL:List Nat}(h:bF w w' fp)(hs: ∀b,b∈cL→b∈fp):bF w w' cL:=fun b hb=>h b (hs b hb)
theorem bF.trans{a b c:World}{fp:List Nat}(h:bF a b fp)(k:bF b c fp):bF a c fp:=fun x hx=>(k x hx).trans (h x hx)
theorem bF.refl(w:World)(fp:List Nat):bF w w fp:=fun _ _=>rfl
theorem eo{B:Nat}{w w':World}{fp:List Nat}(hb:Below B w w')(hf: ∀b,b∈fp→b<B):bF w w' fp:=fun b h=>hb.block b (hf b h)
structure bW{α:Type}(k:Nat)(E:ER α):Prop where
 aB: ∀{w w':World} {cs x fp},E w cs x fp→bF w w' fp→E w' cs x fp
 lt: ∀{w:World} {cs x fp},E w cs x fp→ ∀b,b∈fp→b<w.heap.size
 len: ∀{w:World} {cs x fp},E w cs x fp→cs.length=k
 one: ∀{w:World} {cs x fp},E w cs x fp→ ∀u,u∈cs→u.oneCell'=true
def jQ{α:Type}(k:Nat)(E:ER α)(w:World)(b off:Nat)(l:List α)(az:List (List Nat)):Prop:=
 az.length=l.length∧ ∀i x f,l[i]? =some x→az[i]? =some f→ ∃cs,w.rangeAt b (off+i*k) cs∧E w cs x f
def Sl{α:Type}(k:Nat)(E:ER α)(w:World)(v:Value)(l:List α)(fp:List Nat):Prop:=
 ∃oa cap,v= .slice oa l.length cap∧l.length≤cap∧cap≤maxLen∧
  ((l= []∧fp= []∧(oa=none→cap=0))∨ ∃b off az,oa=some ⟨b,off,none⟩∧b<w.heap.size∧fp=b::az.flatten∧jQ k E w b off l az)
def s9{α:Type}(k:Nat)(E:ER α):ER (List α):=fun w cs l fp=> ∃v,cs= [v]∧Sl k E w v l fp
def eE:ER Int:=fun _ cs n fp=>cs= [.int .i64 n]∧fp= []
def vl:ER UInt8:=fun _ cs n fp=>cs= [.int .u8 n.toNat]∧fp= []
def D8:ER (List UInt8):=fun _ cs s fp=>cs= [.string ⟨s.toArray⟩]∧s.length≤maxLen∧fp= []
theorem iB:bW 1 eE:=⟨fun h _=>h,by rintro w cs x fp ⟨rfl,rfl⟩ b hb;simp at hb,by rintro w cs x fp ⟨rfl,rfl⟩;rfl,by rintro w cs x fp ⟨rfl,rfl⟩ u hu;simp at hu;subst hu;rfl⟩
theorem cM:bW 1 vl:=⟨fun h _=>h,by rintro w cs x fp ⟨rfl,rfl⟩ b hb;simp at hb,by rintro w cs x fp ⟨rfl,rfl⟩;rfl,by rintro w cs x fp ⟨rfl,rfl⟩ u hu;simp at hu;subst hu;rfl⟩
theorem zB:bW 1 D8:=⟨fun h _=>h,by rintro w cs x fp ⟨rfl,_,rfl⟩ b hb;simp at hb,by rintro w cs x fp ⟨rfl,_,rfl⟩;rfl,by rintro w cs x fp ⟨rfl,_,rfl⟩ u hu;simp at hu;subst hu;rfl⟩
theorem aP{l:List (List Nat)}{i:Nat}{f:List Nat}(h:l[i]? =some f){b:Nat}(hb:b∈f):b∈l.flatten:=
 List.mem_flatten.2 ⟨f,List.mem_of_getElem? h,hb⟩
theorem cW{α:Type}{l:List α}{az:List (List Nat)}(h:az.length=l.length){i:Nat}{x:α}(hx:l[i]? =some x): ∃f,az[i]? =some f:=by
 have:i<l.length:=(List.getElem?_eq_some_iff.1 hx).1
 exact⟨az[i],List.getElem?_eq_getElem (by omega)⟩
section
variable{α:Type}{k:Nat}{E:ER α}(G:bW k E)
include G
theorem jQ.aB{w w':World}{b off:Nat}{l:List α}{az:List (List Nat)}(h:jQ k E w b off l az)(hb:w'.heap[b]? =w.heap[b]?)(ha:bF w w' az.flatten):jQ k E w' b off l az:=by
 refine⟨h.1,fun i x f hx hf=> ?_⟩
 obtain⟨cs,hr,he⟩:=h.2 i x f hx hf
 refine⟨cs,fun j v hv=> ?_,G.aB he (ha.sub fun _ hm=>aP hf hm)⟩
 rw[World.cell?_of_block (w:=w) (a:=⟨b,_,none⟩) hb];exact hr j v hv
theorem Sl.aB{w w':World}{v:Value}{l:List α}{fp:List Nat}(h:Sl k E w v l fp)(ha:bF w w' fp):Sl k E w' v l fp:=by
 obtain⟨oa,cap,rfl,h1,h2,h3⟩:=h
 refine⟨oa,cap,rfl,h1,h2,?_⟩
 rcases h3 with h3| ⟨b,off,az,rfl,hb,rfl,he⟩
 ·exact Or.inl h3
 ·have hbk:=ha b (by simp)
  refine Or.inr ⟨b,off,az,rfl,?_,rfl,jQ.aB G he hbk (ha.sub (fun _ hm=>List.mem_cons_of_mem _ hm))⟩
  have:w.heap[b]? =some w.heap[b]:=by simp[hb]
  rw[this]at hbk
  exact(Array.getElem?_eq_some_iff.1 hbk).1
theorem Sl.lt{w:World}{v:Value}{l:List α}{fp:List Nat}(h:Sl k E w v l fp): ∀b,b∈fp→b<w.heap.size:=by
 obtain⟨oa,cap,rfl,h1,h2,h3⟩:=h
 rcases h3 with⟨_,rfl,_⟩| ⟨b,off,az,rfl,hb,rfl,he⟩
 ·simp
 ·intro c hc
  rcases List.mem_cons.1 hc with rfl|hc
  ·exact hb
  ·obtain⟨f,hf,Hx⟩:=List.mem_flatten.1 hc
   obtain⟨i,hi⟩:=List.getElem?_of_mem hf
   have hil:i<l.length:=by have:=(List.getElem?_eq_some_iff.1 hi).1;have:=he.1;omega
   obtain⟨cs,_,hE⟩:=he.2 i l[i] f (List.getElem?_eq_getElem hil) hi
   exact G.lt hE c Hx
theorem gz:bW 1 (s9 k E):=
 ⟨by rintro w w' cs x fp ⟨v,rfl,h⟩ ha;exact⟨v,rfl,Sl.aB G h ha⟩,by rintro w cs x fp ⟨v,rfl,h⟩;exact Sl.lt G h,
  by rintro w cs x fp ⟨v,rfl,h⟩;rfl,by rintro w cs x fp ⟨v,rfl,oa,cap,rfl,h⟩ u hu;simp at hu;subst hu;rfl⟩
theorem Sl.below{w w':World}{v:Value}{l:List α}{fp:List Nat}(h:Sl k E w v l fp)(hb:Below w.heap.size w w'):Sl k E w' v l fp:=Sl.aB G h (eo hb (Sl.lt G h))
end
theorem Sl.at{α:Type}{k:Nat}{E:ER α}{w:World}{oa:Option Addr}{n cap:Nat}{l:List α}{fp:List Nat}(h:Sl k E w (.slice oa n cap) l fp){i:Nat}{x:α}(hx:l[i]? =some x):
  ∃b off f cs,oa=some ⟨b,off,none⟩∧w.rangeAt b (off+i*k) cs∧E w cs x f∧(∀y,y∈f→y∈fp):=by
 obtain⟨DG,cap',hv,h1,h2,h3⟩:=h
 simp only[Value.slice.injEq]at hv
 obtain⟨rfl,_,rfl⟩:=hv
 rcases h3 with⟨rfl,_⟩| ⟨b,off,az,rfl,hb,rfl,he⟩
 ·simp at hx
 ·obtain⟨f,hf⟩:=cW he.1 hx
  obtain⟨cs,hr,hE⟩:=he.2 i x f hx hf
  exact⟨b,off,f,cs,rfl,hr,hE,fun y hy=>List.mem_cons_of_mem _ (aP hf hy)⟩
structure Own(lo:Nat)(w:World)(fp:List Nat):Prop where
 nodup:fp.Nodup
 ge: ∀b,b∈fp→lo≤b
 kind: ∀b,b∈fp→ ∃c e,w.heap[b]? =some (.cells c e (0,0))
theorem Own.aB{lo:Nat}{w w':World}{fp:List Nat}(h:Own lo w fp)(ha:bF w w' fp):Own lo w' fp:=⟨h.nodup,h.ge,fun b hb=>by rw[ha b hb];exact h.kind b hb⟩
theorem Own.lt{lo:Nat}{w:World}{fp:List Nat}(h:Own lo w fp): ∀b,b∈fp→b<w.heap.size:=fun b hb=>by
 obtain⟨c,e,hk⟩:=h.kind b hb
 exact(Array.getElem?_eq_some_iff.1 hk).1
theorem Own.nil(lo:Nat)(w:World):Own lo w []:=⟨List.nodup_nil,by simp,by simp⟩
theorem Own.mono{lo lo':Nat}{w:World}{fp:List Nat}(h:Own lo w fp)(hl:lo'≤lo):Own lo' w fp:=⟨h.nodup,fun b hb=>Nat.le_trans hl (h.ge b hb),h.kind⟩
theorem Own.below{lo:Nat}{w w':World}{fp:List Nat}(h:Own lo w fp)(hb:Below w.heap.size w w'):Own lo w' fp:=h.aB (eo hb h.lt)
theorem kM{α:Type}{k:Nat}{E:ER α}{w:World}{b:Nat}{l:List α}{xs:List Value}{az:List (List Nat)}(hf:az.length=l.length)
  (hx: ∀j u,xs[j]? =some u→w.cell? ⟨b,j,none⟩=some u)(h: ∀i x f,l[i]? =some x→az[i]? =some f→E w ((xs.drop (i*k)).take k) x f):jQ k E w b 0 l az:=by
 refine⟨hf,fun i x f hi FH=>⟨_,fun j v hv=> ?_,h i x f hi FH⟩⟩
 rw[Nat.zero_add]
 refine hx _ _ ?_
 have:=List.getElem?_eq_some_iff.1 hv
 rw[List.getElem?_take,]at hv
 split at hv
 ·rw[List.getElem?_drop]at hv;exact hv
 ·simp at hv
end
end Go.Proofs.YteodajeiagmekaaGreat.L
namespace Go.Proofs.YteodajeiagmekaaGreat.D
set_option linter.all false
open Go.RowKit L
section
def ql(n:Int):Prop:= -9223372036854775808≤n∧n≤9223372036854775807
theorem Sl.one{α:Type}{k:Nat}{E:ER α}{w:World}{v:Value}{l:List α}{fp:List Nat}(h:Sl k E w v l fp):v.oneCell'=true:=by
 obtain⟨oa,cap,rfl,_⟩:=h;rfl
theorem cD: ∀u,u∈([]:List Value)→u.oneCell'=true:=by simp
theorem aA{v:Value}{l:List Value}(h:v.oneCell'=true)(r: ∀u,u∈l→u.oneCell'=true): ∀u,u∈v::l→u.oneCell'=true:=by
 intro u hu
 rcases List.mem_cons.1 hu with rfl|hu
 ·exact h
 ·exact r u hu
theorem iC{a b:List Value}(h: ∀u,u∈a→u.oneCell'=true)(r: ∀u,u∈b→u.oneCell'=true): ∀u,u∈a++b→u.oneCell'=true:=by
 intro u hu
 rcases List.mem_append.1 hu with hu|hu
 ·exact h u hu
 ·exact r u hu
abbrev RB:=Sl 1 vl
structure DB where
 rows:(List (List UInt8))
instance:Inhabited DB:=⟨⟨[]⟩⟩
def zE(x:DB):Prop:=(fun l=> ∀x,x∈l→(fun l=> ∀x,x∈l→(fun _=>True) x) x) x.rows
def Cm:ER DB:=fun w cs x fp=> ∃(zF:Value) (zG:List Nat),cs= [zF]∧Sl 1 (s9 1 vl) w zF x.rows zG∧fp=zG
theorem eM:bW 1 Cm where
 aB:=by rintro w w' cs x fp ⟨v0,f0,rfl,h0,rfl⟩ ha;exact⟨v0,_,rfl,(Sl.aB (gz cM) h0 (ha.sub fun b hb=>by simp[hb])),rfl⟩
 lt:=by rintro w cs x fp ⟨v0,f0,rfl,h0,rfl⟩ b hb;exact Sl.lt (gz cM) h0 b hb
 len:=by rintro w cs x fp ⟨v0,f0,rfl,h0,rfl⟩;rfl
 one:=by rintro w cs x fp ⟨v0,f0,rfl,h0,rfl⟩;exact(aA (Sl.one h0) cD)
structure au where
 client:Int
 share:DB
instance:Inhabited au:=⟨⟨0,default⟩⟩
def qy(x:au):Prop:=(ql) x.client∧(zE) x.share
def gA:ER au:=fun w cs x fp=> ∃(wZ:List Value) (w9:List Nat),cs= [.int .i64 x.client]++wZ∧Cm w wZ x.share w9∧fp=w9
theorem iD:bW 2 gA where
 aB:=by rintro w w' cs x fp ⟨v0,f0,rfl,h0,rfl⟩ ha;exact⟨v0,_,rfl,(eM.aB h0 (ha.sub fun b hb=>by simp[hb])),rfl⟩
 lt:=by rintro w cs x fp ⟨v0,f0,rfl,h0,rfl⟩ b hb;exact eM.lt h0 b hb
 len:=by rintro w cs x fp ⟨v0,f0,rfl,h0,rfl⟩;simp[eM.len h0]
 one:=by rintro w cs x fp ⟨v0,f0,rfl,h0,rfl⟩;exact(iC (aA rfl cD) (eM.one h0))
structure b9 where
 id:Int
 rows:Int
 round:Int
 received:(List au)
 behavior:Int
instance:Inhabited b9:=⟨⟨0,0,0,[],0⟩⟩
def zH(x:b9):Prop:=(ql) x.id∧(ql) x.rows∧(ql) x.round∧(fun l=> ∀x,x∈l→(qy) x) x.received∧(ql) x.behavior
def vA:ER b9:=fun w cs x fp=> ∃(nY:Value) (nZ:List Nat),cs= [.int .i64 x.id, .int .i64 x.rows, .int .i64 x.round,nY, .int .i64 x.behavior]∧Sl 2 gA w nY x.received nZ∧fp=nZ
theorem n7:bW 5 vA where
 aB:=by rintro w w' cs x fp ⟨v0,f0,rfl,h0,rfl⟩ ha;exact⟨v0,_,rfl,(Sl.aB iD h0 (ha.sub fun b hb=>by simp[hb])),rfl⟩
 lt:=by rintro w cs x fp ⟨v0,f0,rfl,h0,rfl⟩ b hb;exact Sl.lt iD h0 b hb
 len:=by rintro w cs x fp ⟨v0,f0,rfl,h0,rfl⟩;rfl
 one:=by rintro w cs x fp ⟨v0,f0,rfl,h0,rfl⟩;exact(aA rfl (aA rfl (aA rfl (aA (Sl.one h0) (aA rfl cD)))))
structure an where
 round:Int
 db:DB
instance:Inhabited an:=⟨⟨0,default⟩⟩
def qz(x:an):Prop:=(ql) x.round∧(zE) x.db
def gB:ER an:=fun w cs x fp=> ∃(FW:List Value) (FX:List Nat),cs= [.int .i64 x.round]++FW∧Cm w FW x.db FX∧fp=FX
theorem iE:bW 2 gB where
 aB:=by rintro w w' cs x fp ⟨v0,f0,rfl,h0,rfl⟩ ha;exact⟨v0,_,rfl,(eM.aB h0 (ha.sub fun b hb=>by simp[hb])),rfl⟩
 lt:=by rintro w cs x fp ⟨v0,f0,rfl,h0,rfl⟩ b hb;exact eM.lt h0 b hb
 len:=by rintro w cs x fp ⟨v0,f0,rfl,h0,rfl⟩;simp[eM.len h0]
 one:=by rintro w cs x fp ⟨v0,f0,rfl,h0,rfl⟩;exact(iC (aA rfl cD) (eM.one h0))
structure fD where
 rows:Int
 rounds:(List an)
instance:Inhabited fD:=⟨⟨0,[]⟩⟩
def zI(x:fD):Prop:=(ql) x.rows∧(fun l=> ∀x,x∈l→(qz) x) x.rounds
def vB:ER fD:=fun w cs x fp=> ∃(td:Value) (th:List Nat),cs= [.int .i64 x.rows,td]∧Sl 2 gB w td x.rounds th∧fp=th
theorem iF:bW 2 vB where
 aB:=by rintro w w' cs x fp ⟨v0,f0,rfl,h0,rfl⟩ ha;exact⟨v0,_,rfl,(Sl.aB iE h0 (ha.sub fun b hb=>by simp[hb])),rfl⟩
 lt:=by rintro w cs x fp ⟨v0,f0,rfl,h0,rfl⟩ b hb;exact Sl.lt iE h0 b hb
 len:=by rintro w cs x fp ⟨v0,f0,rfl,h0,rfl⟩;rfl
 one:=by rintro w cs x fp ⟨v0,f0,rfl,h0,rfl⟩;exact(aA rfl (aA (Sl.one h0) cD))
structure dL where
 id:Int
 dc:Int
 key:Int
 seed:Int
 aj:(List (List UInt8))
 sent:Int
 inbox:(List (List UInt8))
 next:Int
instance:Inhabited dL:=⟨⟨0,0,0,0,[],0,[],0⟩⟩
def vC(x:dL):Prop:=(ql) x.id∧(ql) x.dc∧(ql) x.key∧(ql) x.seed∧(fun l=> ∀x,x∈l→(fun l=> ∀x,x∈l→(fun _=>True) x) x) x.aj∧(ql) x.sent∧(fun l=> ∀x,x∈l→(fun l=> ∀x,x∈l→(fun _=>True) x) x) x.inbox∧(ql) x.next
def rG:ER dL:=fun w cs x fp=> ∃(mV:Value) (xd:Value) (mW xe:List Nat),cs= [.int .i64 x.id, .int .i64 x.dc, .int .i64 x.key, .int .i64 x.seed,mV, .int .i64 x.sent,xd, .int .i64 x.next]∧Sl 1 (s9 1 vl) w mV x.aj mW∧Sl 1 (s9 1 vl) w xd x.inbox xe∧fp=mW++xe
theorem dz:bW 8 rG where
 aB:=by rintro w w' cs x fp ⟨v0,v1,f0,f1,rfl,h0,h1,rfl⟩ ha;exact⟨v0,v1,_,_,rfl,(Sl.aB (gz cM) h0 (ha.sub fun b hb=>by simp[hb])),(Sl.aB (gz cM) h1 (ha.sub fun b hb=>by simp[hb])),rfl⟩
 lt:=by
  rintro w cs x fp ⟨v0,v1,f0,f1,rfl,h0,h1,rfl⟩ b hb
  simp only[List.mem_append]at hb
  rcases hb with hb|hb
  ·exact Sl.lt (gz cM) h0 b hb
  ·exact Sl.lt (gz cM) h1 b hb
 len:=by rintro w cs x fp ⟨v0,v1,f0,f1,rfl,h0,h1,rfl⟩;rfl
 one:=by rintro w cs x fp ⟨v0,v1,f0,f1,rfl,h0,h1,rfl⟩;exact(aA rfl (aA rfl (aA rfl (aA rfl (aA (Sl.one h0) (aA rfl (aA (Sl.one h1) (aA rfl cD))))))))
structure bH where
 live:dL
 saved:dL
instance:Inhabited bH:=⟨⟨default,default⟩⟩
def zJ(x:bH):Prop:=(vC) x.live∧(vC) x.saved
def vD:ER bH:=fun w cs x fp=> ∃(zK:List Value) (xg:List Value) (zL xh:List Nat),cs=zK++xg∧rG w zK x.live zL∧rG w xg x.saved xh∧fp=zL++xh
theorem n8:bW 16 vD where
 aB:=by rintro w w' cs x fp ⟨v0,v1,f0,f1,rfl,h0,h1,rfl⟩ ha;exact⟨v0,v1,_,_,rfl,(dz.aB h0 (ha.sub fun b hb=>by simp[hb])),(dz.aB h1 (ha.sub fun b hb=>by simp[hb])),rfl⟩
 lt:=by
  rintro w cs x fp ⟨v0,v1,f0,f1,rfl,h0,h1,rfl⟩ b hb
  simp only[List.mem_append]at hb
  rcases hb with hb|hb
  ·exact dz.lt h0 b hb
  ·exact dz.lt h1 b hb
 len:=by rintro w cs x fp ⟨v0,v1,f0,f1,rfl,h0,h1,rfl⟩;simp[dz.len h0,dz.len h1]
 one:=by rintro w cs x fp ⟨v0,v1,f0,f1,rfl,h0,h1,rfl⟩;exact(iC (dz.one h0) (dz.one h1))
structure cX where
 rows:Int
 aG:(List b9)
 af:(List bH)
 aW:fD
 gC:Int
 seed:Int
 round:Int
 replaced:(List Int)
 cancelled:Int
instance:Inhabited cX:=⟨⟨0,[],[],default,0,0,0,[],0⟩⟩
def vE(x:cX):Prop:=(ql) x.rows∧(fun l=> ∀x,x∈l→(zH) x) x.aG∧(fun l=> ∀x,x∈l→(zJ) x) x.af∧(zI) x.aW∧(ql) x.gC∧(ql) x.seed∧(ql) x.round∧(fun l=> ∀x,x∈l→(ql) x) x.replaced∧(ql) x.cancelled
def vF:ER cX:=fun w cs x fp=> ∃(qA:Value) (qB:Value) (qC:List Value) (n9:Value) (qD qE qF oc:List Nat),cs= [.int .i64 x.rows,qA,qB]++qC++ [.int .i64 x.gC, .int .i64 x.seed, .int .i64 x.round,n9, .int .i64 x.cancelled]∧Sl 5 vA w qA x.aG qD∧Sl 16 vD w qB x.af qE∧vB w qC x.aW qF∧Sl 1 eE w n9 x.replaced oc∧fp=qD++qE++qF++oc
theorem zM:bW 10 vF where
 aB:=by rintro w w' cs x fp ⟨v0,v1,v2,v3,f0,f1,f2,f3,rfl,h0,h1,h2,h3,rfl⟩ ha;exact⟨v0,v1,v2,v3,_,_,_,_,rfl,(Sl.aB n7 h0 (ha.sub fun b hb=>by simp[hb])),(Sl.aB n8 h1 (ha.sub fun b hb=>by simp[hb])),(iF.aB h2 (ha.sub fun b hb=>by simp[hb])),(Sl.aB iB h3 (ha.sub fun b hb=>by simp[hb])),rfl⟩
 lt:=by
  rintro w cs x fp ⟨v0,v1,v2,v3,f0,f1,f2,f3,rfl,h0,h1,h2,h3,rfl⟩ b hb
  simp only[List.mem_append]at hb
  rcases hb with((hb|hb)|hb)|hb
  ·exact Sl.lt n7 h0 b hb
  ·exact Sl.lt n8 h1 b hb
  ·exact iF.lt h2 b hb
  ·exact Sl.lt iB h3 b hb
 len:=by rintro w cs x fp ⟨v0,v1,v2,v3,f0,f1,f2,f3,rfl,h0,h1,h2,h3,rfl⟩;simp[iF.len h2]
 one:=by rintro w cs x fp ⟨v0,v1,v2,v3,f0,f1,f2,f3,rfl,h0,h1,h2,h3,rfl⟩;exact(iC (iC (aA rfl (aA (Sl.one h0) (aA (Sl.one h1) cD))) (iF.one h2)) (aA rfl (aA rfl (aA rfl (aA (Sl.one h3) (aA rfl cD))))))
structure Ev where
 kind:Int
 node:Int
 value:Int
 body:(List UInt8)
instance:Inhabited Ev:=⟨⟨0,0,0,[]⟩⟩
def G8:ER Ev:=fun w cs x fp=> ∃(og:Value) (oo:List Nat),cs= [.int .i64 x.kind, .int .i64 x.node, .int .i64 x.value,og]∧Sl 1 vl w og x.body oo∧fp=oo
theorem Cn:bW 4 G8 where
 aB:=by rintro w w' cs x fp ⟨v0,f0,rfl,h0,rfl⟩ ha;exact⟨v0,_,rfl,(Sl.aB cM h0 (ha.sub fun b hb=>by simp[hb])),rfl⟩
 lt:=by rintro w cs x fp ⟨v0,f0,rfl,h0,rfl⟩ b hb;exact Sl.lt cM h0 b hb
 len:=by rintro w cs x fp ⟨v0,f0,rfl,h0,rfl⟩;rfl
 one:=by rintro w cs x fp ⟨v0,f0,rfl,h0,rfl⟩;exact(aA rfl (aA rfl (aA rfl (aA (Sl.one h0) cD))))
structure jm where
 fr:Int
 to:Int
 bytes:Int
instance:Inhabited jm:=⟨⟨0,0,0⟩⟩
def zN:ER jm:=fun _ cs x fp=>cs= [.int .i64 x.fr, .int .i64 x.to, .int .i64 x.bytes]∧fp= []
theorem zO:bW 3 zN where
 aB:=fun h _=>h
 lt:=by rintro w cs x fp ⟨rfl,rfl⟩ b hb;simp at hb
 len:=by rintro w cs x fp ⟨rfl,rfl⟩;rfl
 one:=by rintro w cs x fp ⟨rfl,rfl⟩ u hu;simp at hu;rcases hu with rfl|rfl|rfl<;>rfl
structure jV where
 server:Int
 client:Int
 round:Int
 vG:Int
 Ec:Int
instance:Inhabited jV:=⟨⟨0,0,0,0,0⟩⟩
def zP:ER jV:=fun _ cs x fp=>cs= [.int .i64 x.server, .int .i64 x.client, .int .i64 x.round, .int .i64 x.vG, .int .i64 x.Ec]∧fp= []
theorem zQ:bW 5 zP where
 aB:=fun h _=>h
 lt:=by rintro w cs x fp ⟨rfl,rfl⟩ b hb;simp at hb
 len:=by rintro w cs x fp ⟨rfl,rfl⟩;rfl
 one:=by rintro w cs x fp ⟨rfl,rfl⟩ u hu;simp at hu;rcases hu with rfl|rfl|rfl|rfl|rfl<;>rfl
structure Plain where
 kind:Int
 body:(List UInt8)
instance:Inhabited Plain:=⟨⟨0,[]⟩⟩
def rH:ER Plain:=fun w cs x fp=> ∃(og:Value) (oo:List Nat),cs= [.int .i64 x.kind,og]∧Sl 1 vl w og x.body oo∧fp=oo
theorem vH:bW 2 rH where
 aB:=by rintro w w' cs x fp ⟨v0,f0,rfl,h0,rfl⟩ ha;exact⟨v0,_,rfl,(Sl.aB cM h0 (ha.sub fun b hb=>by simp[hb])),rfl⟩
 lt:=by rintro w cs x fp ⟨v0,f0,rfl,h0,rfl⟩ b hb;exact Sl.lt cM h0 b hb
 len:=by rintro w cs x fp ⟨v0,f0,rfl,h0,rfl⟩;rfl
 one:=by rintro w cs x fp ⟨v0,f0,rfl,h0,rfl⟩;exact(aA rfl (aA (Sl.one h0) cD))
structure dg where
 server:Int
 round:Int
 selection:(List Int)
 data:(List UInt8)
 Ec:Int
instance:Inhabited dg:=⟨⟨0,0,[],[],0⟩⟩
def xj:ER dg:=fun w cs x fp=> ∃(mX:Value) (zR:Value) (mY zS:List Nat),cs= [.int .i64 x.server, .int .i64 x.round,mX,zR, .int .i64 x.Ec]∧Sl 1 eE w mX x.selection mY∧Sl 1 vl w zR x.data zS∧fp=mY++zS
theorem ym:bW 5 xj where
 aB:=by rintro w w' cs x fp ⟨v0,v1,f0,f1,rfl,h0,h1,rfl⟩ ha;exact⟨v0,v1,_,_,rfl,(Sl.aB iB h0 (ha.sub fun b hb=>by simp[hb])),(Sl.aB cM h1 (ha.sub fun b hb=>by simp[hb])),rfl⟩
 lt:=by
  rintro w cs x fp ⟨v0,v1,f0,f1,rfl,h0,h1,rfl⟩ b hb
  simp only[List.mem_append]at hb
  rcases hb with hb|hb
  ·exact Sl.lt iB h0 b hb
  ·exact Sl.lt cM h1 b hb
 len:=by rintro w cs x fp ⟨v0,v1,f0,f1,rfl,h0,h1,rfl⟩;rfl
 one:=by rintro w cs x fp ⟨v0,v1,f0,f1,rfl,h0,h1,rfl⟩;exact(aA rfl (aA rfl (aA (Sl.one h0) (aA (Sl.one h1) (aA rfl cD)))))
end
end Go.Proofs.YteodajeiagmekaaGreat.D
