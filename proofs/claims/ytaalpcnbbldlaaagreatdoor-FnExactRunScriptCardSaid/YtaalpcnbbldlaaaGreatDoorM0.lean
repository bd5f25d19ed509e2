/-
  The data of the program: structures, and how cells read as them.
-/
import Derived.Deep.MidRow
import Derived.Deep.Slices
import Derived.Lib.Hide
import Derived.WalkKit
import Derived.WalkLawsBesides
import Derived.WalkSpells
open Array renaming getElem?_eq_some_iff→dz
open List renaming getElem?_drop→cK,getElem?_eq_getElem→aC,getElem?_eq_some_iff→aV,getElem?_take→dx,mem_append→bg,mem_cons→bu,mem_cons_of_mem→aT,mem_flatten→nK
namespace Go.Proofs.YtaalpcnbbldlaaaGreatDoor.L
set_option linter.all false
open Go.RowKit
section
theorem oI.{u}{α:Type u}(a b:α):(some a=some b)=(a=b):=Option.some.injEq a b
theorem pI.{u,v}{α:Type u}{β:Type v}(a:α)(b:β)(c:α)(d:β):((a,b)=(c,d))=(a=c∧b=d):=Prod.mk.injEq a b c d
abbrev ER(α:Type):=World→List Value→α→List Nat→Prop
def Agree(w w':World)(fp:List Nat):Prop:= ∀b,b∈fp→w'.heap[b]? =w.heap[b]?
theorem Agree.cell{w w':World}{fp:List Nat}(h:Agree w w' fp){b:Nat}(hb:b∈fp)(o:Nat):w'.cell? ⟨b,o,none⟩=w.cell? ⟨b,o,none⟩:=
 World.cell?_of_block (w:=w) (a:=⟨b,o,none⟩) (h b hb)
theorem Agree.range{w w':World}{fp:List Nat}(h:Agree w w' fp){b:Nat}(hb:b∈fp){o:Nat}{cs:List Value}(hr:w.rangeAt b o cs):w'.rangeAt b o cs:=
 fun j v hv=>by rw[h.cell hb];exact hr j v hv
theorem Agree.sub{w w':World}{fp lH:List Nat}(h:Agree w w' fp)(hs: ∀b,b∈lH→b∈fp):Agree w w' lH:=fun b hb=>h b (hs b hb)
theorem Agree.trans{a b c:World}{fp:List Nat}(h:Agree a b fp)(k:Agree b c fp):Agree a c fp:=fun x hx=>(k x hx).trans (h x hx)
theorem Agree.refl(w:World)(fp:List Nat):Agree w w fp:=fun _ _=>rfl
theorem qW{B:Nat}{w w':World}{fp:List Nat}(hb:Below B w w')(hf: ∀b,b∈fp→b<B):Agree w w' fp:=fun b h=>hb.block b (hf b h)
structure kq{α:Type}(k:Nat)(E:ER α):Prop where
 agree: ∀{w w':World} {cs x fp},E w cs x fp→Agree w w' fp→E w' cs x fp
 lt: ∀{w:World} {cs x fp},E w cs x fp→ ∀b,b∈fp→b<w.heap.size
 len: ∀{w:World} {cs x fp},E w cs x fp→cs.length=k
 one: ∀{w:World} {cs x fp},E w cs x fp→ ∀u,u∈cs→u.oneCell'=true
def yD{α:Type}(k:Nat)(E:ER α)(w:World)(b off:Nat)(l:List α)(dN:List (List Nat)):Prop:=
 dN.length=l.length∧ ∀i x f,l[i]? =some x→dN[i]? =some f→ ∃cs,w.rangeAt b (off+i*k) cs∧E w cs x f
def Fit(w:World)(b m:Nat):Prop:= ∃c e fz,w.heap[b]? =some (.cells c e fz)∧m≤c.size
theorem Fit.lt{w:World}{b m:Nat}(h:Fit w b m):b<w.heap.size:=by
 obtain⟨c,e,fz,hc,_⟩:=h
 exact(dz.1 hc).1
theorem Fit.agree{w w':World}{b m:Nat}(h:Fit w b m)(ha:w'.heap[b]? =w.heap[b]?):Fit w' b m:=by
 obtain⟨c,e,fz,hc,hm⟩:=h
 exact⟨c,e,fz,by rw[ha];exact hc,hm⟩
theorem Fit.mono{w:World}{b m m':Nat}(h:Fit w b m)(hm:m'≤m):Fit w b m':=by
 obtain⟨c,e,fz,hc,h1⟩:=h
 exact⟨c,e,fz,hc,Nat.le_trans hm h1⟩
def Sl{α:Type}(k:Nat)(E:ER α)(w:World)(v:Value)(l:List α)(fp:List Nat):Prop:=
 ∃oa cap,v= .slice oa l.length cap∧l.length≤cap∧cap≤maxLen∧
  ((l= []∧fp= []∧cap=0)∨ ∃b off dN,oa=some ⟨b,off,none⟩∧Fit w b (off+cap*k)∧fp=b::dN.flatten∧yD k E w b off l dN)
def ESl{α:Type}(k:Nat)(E:ER α):ER (List α):=fun w cs l fp=> ∃v,cs= [v]∧Sl k E w v l fp
def aa4:ER Int:=fun _ cs n fp=>cs= [.int .i64 n]∧fp= []
def Wq:ER UInt8:=fun _ cs n fp=>cs= [.int .u8 n.toNat]∧fp= []
def aa5:ER (List UInt8):=fun _ cs s fp=>cs= [.string ⟨s.toArray⟩]∧s.length≤maxLen∧fp= []
theorem zM:kq 1 aa4:=⟨fun h _=>h,by rintro w cs x fp ⟨rfl,rfl⟩ b hb;simp at hb,by rintro w cs x fp ⟨rfl,rfl⟩;rfl,by rintro w cs x fp ⟨rfl,rfl⟩ u hu;simp at hu;subst hu;rfl⟩
theorem mE:kq 1 Wq:=⟨fun h _=>h,by rintro w cs x fp ⟨rfl,rfl⟩ b hb;simp at hb,by rintro w cs x fp ⟨rfl,rfl⟩;rfl,by rintro w cs x fp ⟨rfl,rfl⟩ u hu;simp at hu;subst hu;rfl⟩
theorem aa6:kq 1 aa5:=⟨fun h _=>h,by rintro w cs x fp ⟨rfl,_,rfl⟩ b hb;simp at hb,by rintro w cs x fp ⟨rfl,_,rfl⟩;rfl,by rintro w cs x fp ⟨rfl,_,rfl⟩ u hu;simp at hu;subst hu;rfl⟩
theorem eW{l:List (List Nat)}{i:Nat}{f:List Nat}(h:l[i]? =some f){b:Nat}(hb:b∈f):b∈l.flatten:=
 nK.2 ⟨f,List.mem_of_getElem? h,hb⟩
theorem jZ{α:Type}{l:List α}{dN:List (List Nat)}(h:dN.length=l.length){i:Nat}{x:α}(hx:l[i]? =some x): ∃f,dN[i]? =some f:=by
 have:i<l.length:=(aV.1 hx).1
 exact⟨dN[i],aC (by omega)⟩
section
variable{α:Type}{k:Nat}{E:ER α}(G:kq k E)
include G
theorem yD.agree{w w':World}{b off:Nat}{l:List α}{dN:List (List Nat)}(h:yD k E w b off l dN)(hb:w'.heap[b]? =w.heap[b]?)(ha:Agree w w' dN.flatten):yD k E w' b off l dN:=by
 refine⟨h.1,fun i x f hx hf=> ?_⟩
 obtain⟨cs,hr,he⟩:=h.2 i x f hx hf
 refine⟨cs,fun j v hv=> ?_,G.agree he (ha.sub fun _ hm=>eW hf hm)⟩
 rw[World.cell?_of_block (w:=w) (a:=⟨b,_,none⟩) hb];exact hr j v hv
theorem Sl.agree{w w':World}{v:Value}{l:List α}{fp:List Nat}(h:Sl k E w v l fp)(ha:Agree w w' fp):Sl k E w' v l fp:=by
 obtain⟨oa,cap,rfl,h1,h2,h3⟩:=h
 refine⟨oa,cap,rfl,h1,h2,?_⟩
 rcases h3 with h3| ⟨b,off,dN,rfl,hb,rfl,he⟩
 ·exact Or.inl h3
 ·have hbk:=ha b (by simp)
  exact Or.inr ⟨b,off,dN,rfl,hb.agree hbk,rfl,yD.agree G he hbk (ha.sub (fun _ hm=>aT _ hm))⟩
theorem Sl.lt{w:World}{v:Value}{l:List α}{fp:List Nat}(h:Sl k E w v l fp): ∀b,b∈fp→b<w.heap.size:=by
 obtain⟨oa,cap,rfl,h1,h2,h3⟩:=h
 rcases h3 with⟨_,rfl,_⟩| ⟨b,off,dN,rfl,hb,rfl,he⟩
 ·simp
 ·intro c hc
  rcases bu.1 hc with rfl|hc
  ·exact hb.lt
  ·obtain⟨f,hf,hcf⟩:=nK.1 hc
   obtain⟨i,hi⟩:=List.getElem?_of_mem hf
   have hil:i<l.length:=by have:=(aV.1 hi).1;have:=he.1;omega
   obtain⟨cs,_,hE⟩:=he.2 i l[i] f (aC hil) hi
   exact G.lt hE c hcf
theorem xg:kq 1 (ESl k E):=
 ⟨by rintro w w' cs x fp ⟨v,rfl,h⟩ ha;exact⟨v,rfl,Sl.agree G h ha⟩,by rintro w cs x fp ⟨v,rfl,h⟩;exact Sl.lt G h,
  by rintro w cs x fp ⟨v,rfl,h⟩;rfl,by rintro w cs x fp ⟨v,rfl,oa,cap,rfl,h⟩ u hu;simp at hu;subst hu;rfl⟩
theorem Sl.below{w w':World}{v:Value}{l:List α}{fp:List Nat}(h:Sl k E w v l fp)(hb:Below w.heap.size w w'):Sl k E w' v l fp:=Sl.agree G h (qW hb (Sl.lt G h))
end
theorem Sl.at{α:Type}{k:Nat}{E:ER α}{w:World}{oa:Option Addr}{n cap:Nat}{l:List α}{fp:List Nat}(h:Sl k E w (.slice oa n cap) l fp){i:Nat}{x:α}(hx:l[i]? =some x):
  ∃b off f cs,oa=some ⟨b,off,none⟩∧w.rangeAt b (off+i*k) cs∧E w cs x f∧(∀y,y∈f→y∈fp):=by
 obtain⟨oa',cap',hv,h1,h2,h3⟩:=h
 simp only[Value.slice.injEq]at hv
 obtain⟨rfl,_,rfl⟩:=hv
 rcases h3 with⟨rfl,_⟩| ⟨b,off,dN,rfl,hb,rfl,he⟩
 ·simp at hx
 ·obtain⟨f,hf⟩:=jZ he.1 hx
  obtain⟨cs,hr,hE⟩:=he.2 i x f hx hf
  exact⟨b,off,f,cs,rfl,hr,hE,fun y hy=>aT _ (eW hf hy)⟩
structure Own(lo:Nat)(w:World)(fp:List Nat):Prop where
 nodup:fp.Nodup
 ge: ∀b,b∈fp→lo≤b
 kind: ∀b,b∈fp→ ∃c e,w.heap[b]? =some (.cells c e (0,0))
theorem Own.agree{lo:Nat}{w w':World}{fp:List Nat}(h:Own lo w fp)(ha:Agree w w' fp):Own lo w' fp:=⟨h.nodup,h.ge,fun b hb=>by rw[ha b hb];exact h.kind b hb⟩
theorem Own.lt{lo:Nat}{w:World}{fp:List Nat}(h:Own lo w fp): ∀b,b∈fp→b<w.heap.size:=fun b hb=>by
 obtain⟨c,e,hk⟩:=h.kind b hb
 exact(dz.1 hk).1
theorem Own.nil(lo:Nat)(w:World):Own lo w []:=⟨List.nodup_nil,by simp,by simp⟩
theorem Own.mono{lo lo':Nat}{w:World}{fp:List Nat}(h:Own lo w fp)(hl:lo'≤lo):Own lo' w fp:=⟨h.nodup,fun b hb=>Nat.le_trans hl (h.ge b hb),h.kind⟩
theorem Own.below{lo:Nat}{w w':World}{fp:List Nat}(h:Own lo w fp)(hb:Below w.heap.size w w'):Own lo w' fp:=h.agree (qW hb h.lt)
theorem II{α:Type}{k:Nat}{E:ER α}{w:World}{b o:Nat}{l:List α}{xs:List Value}{dN:List (List Nat)}(hf:dN.length=l.length)
  (hx: ∀j u,xs[j]? =some u→w.cell? ⟨b,o+j,none⟩=some u)(h: ∀i x f,l[i]? =some x→dN[i]? =some f→E w ((xs.drop (i*k)).take k) x f):yD k E w b o l dN:=by
 refine⟨hf,fun i x f hi hfi=>⟨_,fun j v hv=> ?_,h i x f hi hfi⟩⟩
 rw[Nat.add_assoc]
 refine hx _ _ ?_
 rw[dx,]at hv
 split at hv
 ·rw[cK]at hv;exact hv
 ·simp at hv
theorem Ok{α:Type}{k:Nat}{E:ER α}{w:World}{b:Nat}{l:List α}{xs:List Value}{dN:List (List Nat)}(hf:dN.length=l.length)
  (hx: ∀j u,xs[j]? =some u→w.cell? ⟨b,j,none⟩=some u)(h: ∀i x f,l[i]? =some x→dN[i]? =some f→E w ((xs.drop (i*k)).take k) x f):yD k E w b 0 l dN:=by
 refine⟨hf,fun i x f hi hfi=>⟨_,fun j v hv=> ?_,h i x f hi hfi⟩⟩
 rw[Nat.zero_add]
 refine hx _ _ ?_
 have:=aV.1 hv
 rw[dx,]at hv
 split at hv
 ·rw[cK]at hv;exact hv
 ·simp at hv
end
end Go.Proofs.YtaalpcnbbldlaaaGreatDoor.L
namespace Go.Proofs.YtaalpcnbbldlaaaGreatDoor.D
set_option linter.all false
open Go.RowKit L
section
def rY(n:Int):Prop:= -9223372036854775808≤n∧n≤9223372036854775807
theorem Sl.one{α:Type}{k:Nat}{E:ER α}{w:World}{v:Value}{l:List α}{fp:List Nat}(h:Sl k E w v l fp):v.oneCell'=true:=by
 obtain⟨oa,cap,rfl,_⟩:=h;rfl
theorem l6: ∀u,u∈([]:List Value)→u.oneCell'=true:=by simp
theorem cZ{v:Value}{l:List Value}(h:v.oneCell'=true)(r: ∀u,u∈l→u.oneCell'=true): ∀u,u∈v::l→u.oneCell'=true:=by
 intro u hu
 rcases bu.1 hu with rfl|hu
 ·exact h
 ·exact r u hu
theorem zO{a b:List Value}(h: ∀u,u∈a→u.oneCell'=true)(r: ∀u,u∈b→u.oneCell'=true): ∀u,u∈a++b→u.oneCell'=true:=by
 intro u hu
 rcases bg.1 hu with hu|hu
 ·exact h u hu
 ·exact r u hu
abbrev RB:=Sl 1 Wq
structure DB where
 rows:(List (List UInt8))
instance:Inhabited DB:=⟨⟨[]⟩⟩
def anw(x:DB):Prop:=(fun l=> ∀x,x∈l→(fun l=> ∀x,x∈l→(fun _=>True) x) x) x.rows
def EDB:ER DB:=fun w cs x fp=> ∃(aba:Value) (abb:List Nat),cs= [aba]∧Sl 1 (ESl 1 Wq) w aba x.rows abb∧fp=abb
theorem sN:kq 1 EDB where
 agree:=by rintro w w' cs x fp ⟨v0,f0,rfl,h0,rfl⟩ ha;exact⟨v0,_,rfl,(Sl.agree (xg mE) h0 (ha.sub fun b hb=>by simp[hb])),rfl⟩
 lt:=by rintro w cs x fp ⟨v0,f0,rfl,h0,rfl⟩ b hb;exact Sl.lt (xg mE) h0 b hb
 len:=by rintro w cs x fp ⟨v0,f0,rfl,h0,rfl⟩;rfl
 one:=by rintro w cs x fp ⟨v0,f0,rfl,h0,rfl⟩;exact(cZ (Sl.one h0) l6)
structure bJ where
 client:Int
 share:DB
instance:Inhabited bJ:=⟨⟨0,default⟩⟩
def DW:ER bJ:=fun w cs x fp=> ∃(Wt:List Value) (Wu:List Nat),cs= [.int .i64 x.client]++Wt∧EDB w Wt x.share Wu∧fp=Wu
theorem zP:kq 2 DW where
 agree:=by rintro w w' cs x fp ⟨v0,f0,rfl,h0,rfl⟩ ha;exact⟨v0,_,rfl,(sN.agree h0 (ha.sub fun b hb=>by simp[hb])),rfl⟩
 lt:=by rintro w cs x fp ⟨v0,f0,rfl,h0,rfl⟩ b hb;exact sN.lt h0 b hb
 len:=by rintro w cs x fp ⟨v0,f0,rfl,h0,rfl⟩;simp[sN.len h0]
 one:=by rintro w cs x fp ⟨v0,f0,rfl,h0,rfl⟩;exact(zO (cZ rfl l6) (sN.one h0))
structure cu where
 id:Int
 rows:Int
 round:Int
 received:(List bJ)
 behavior:Int
instance:Inhabited cu:=⟨⟨0,0,0,[],0⟩⟩
def abc:ER cu:=fun w cs x fp=> ∃(JV:Value) (JX:List Nat),cs= [.int .i64 x.id, .int .i64 x.rows, .int .i64 x.round,JV, .int .i64 x.behavior]∧Sl 2 DW w JV x.received JX∧fp=JX
theorem JY:kq 5 abc where
 agree:=by rintro w w' cs x fp ⟨v0,f0,rfl,h0,rfl⟩ ha;exact⟨v0,_,rfl,(Sl.agree zP h0 (ha.sub fun b hb=>by simp[hb])),rfl⟩
 lt:=by rintro w cs x fp ⟨v0,f0,rfl,h0,rfl⟩ b hb;exact Sl.lt zP h0 b hb
 len:=by rintro w cs x fp ⟨v0,f0,rfl,h0,rfl⟩;rfl
 one:=by rintro w cs x fp ⟨v0,f0,rfl,h0,rfl⟩;exact(cZ rfl (cZ rfl (cZ rfl (cZ (Sl.one h0) (cZ rfl l6)))))
structure aX where
 round:Int
 db:DB
instance:Inhabited aX:=⟨⟨0,default⟩⟩
def MZ(x:aX):Prop:=(rY) x.round∧(anw) x.db
def DX:ER aX:=fun w cs x fp=> ∃(anx:List Value) (anz:List Nat),cs= [.int .i64 x.round]++anx∧EDB w anx x.db anz∧fp=anz
theorem zQ:kq 2 DX where
 agree:=by rintro w w' cs x fp ⟨v0,f0,rfl,h0,rfl⟩ ha;exact⟨v0,_,rfl,(sN.agree h0 (ha.sub fun b hb=>by simp[hb])),rfl⟩
 lt:=by rintro w cs x fp ⟨v0,f0,rfl,h0,rfl⟩ b hb;exact sN.lt h0 b hb
 len:=by rintro w cs x fp ⟨v0,f0,rfl,h0,rfl⟩;simp[sN.len h0]
 one:=by rintro w cs x fp ⟨v0,f0,rfl,h0,rfl⟩;exact(zO (cZ rfl l6) (sN.one h0))
structure mD where
 rows:Int
 rounds:(List aX)
instance:Inhabited mD:=⟨⟨0,[]⟩⟩
def Ut(x:mD):Prop:=(rY) x.rows∧(fun l=> ∀x,x∈l→(MZ) x) x.rounds
def abd:ER mD:=fun w cs x fp=> ∃(QS:Value) (QT:List Nat),cs= [.int .i64 x.rows,QS]∧Sl 2 DX w QS x.rounds QT∧fp=QT
theorem zR:kq 2 abd where
 agree:=by rintro w w' cs x fp ⟨v0,f0,rfl,h0,rfl⟩ ha;exact⟨v0,_,rfl,(Sl.agree zQ h0 (ha.sub fun b hb=>by simp[hb])),rfl⟩
 lt:=by rintro w cs x fp ⟨v0,f0,rfl,h0,rfl⟩ b hb;exact Sl.lt zQ h0 b hb
 len:=by rintro w cs x fp ⟨v0,f0,rfl,h0,rfl⟩;rfl
 one:=by rintro w cs x fp ⟨v0,f0,rfl,h0,rfl⟩;exact(cZ rfl (cZ (Sl.one h0) l6))
structure gI where
 id:Int
 fJ:Int
 key:Int
 seed:Int
 bp:(List (List UInt8))
 sent:Int
 inbox:(List (List UInt8))
 next:Int
instance:Inhabited gI:=⟨⟨0,0,0,0,[],0,[],0⟩⟩
def YZ:ER gI:=fun w cs x fp=> ∃(HV:Value) (Wv:Value) (HW Ww:List Nat),cs= [.int .i64 x.id, .int .i64 x.fJ, .int .i64 x.key, .int .i64 x.seed,HV, .int .i64 x.sent,Wv, .int .i64 x.next]∧Sl 1 (ESl 1 Wq) w HV x.bp HW∧Sl 1 (ESl 1 Wq) w Wv x.inbox Ww∧fp=HW++Ww
theorem oS:kq 8 YZ where
 agree:=by rintro w w' cs x fp ⟨v0,v1,f0,f1,rfl,h0,h1,rfl⟩ ha;exact⟨v0,v1,_,_,rfl,(Sl.agree (xg mE) h0 (ha.sub fun b hb=>by simp[hb])),(Sl.agree (xg mE) h1 (ha.sub fun b hb=>by simp[hb])),rfl⟩
 lt:=by
  rintro w cs x fp ⟨v0,v1,f0,f1,rfl,h0,h1,rfl⟩ b hb
  simp only[bg]at hb
  rcases hb with hb|hb
  ·exact Sl.lt (xg mE) h0 b hb
  ·exact Sl.lt (xg mE) h1 b hb
 len:=by rintro w cs x fp ⟨v0,v1,f0,f1,rfl,h0,h1,rfl⟩;rfl
 one:=by rintro w cs x fp ⟨v0,v1,f0,f1,rfl,h0,h1,rfl⟩;exact(cZ rfl (cZ rfl (cZ rfl (cZ rfl (cZ (Sl.one h0) (cZ rfl (cZ (Sl.one h1) (cZ rfl l6))))))))
structure bR where
 live:gI
 saved:gI
instance:Inhabited bR:=⟨⟨default,default⟩⟩
def abe:ER bR:=fun w cs x fp=> ∃(abf:List Value) (Wx:List Value) (abg Wy:List Nat),cs=abf++Wx∧YZ w abf x.live abg∧YZ w Wx x.saved Wy∧fp=abg++Wy
theorem JZ:kq 16 abe where
 agree:=by rintro w w' cs x fp ⟨v0,v1,f0,f1,rfl,h0,h1,rfl⟩ ha;exact⟨v0,v1,_,_,rfl,(oS.agree h0 (ha.sub fun b hb=>by simp[hb])),(oS.agree h1 (ha.sub fun b hb=>by simp[hb])),rfl⟩
 lt:=by
  rintro w cs x fp ⟨v0,v1,f0,f1,rfl,h0,h1,rfl⟩ b hb
  simp only[bg]at hb
  rcases hb with hb|hb
  ·exact oS.lt h0 b hb
  ·exact oS.lt h1 b hb
 len:=by rintro w cs x fp ⟨v0,v1,f0,f1,rfl,h0,h1,rfl⟩;simp[oS.len h0,oS.len h1]
 one:=by rintro w cs x fp ⟨v0,v1,f0,f1,rfl,h0,h1,rfl⟩;exact(zO (oS.one h0) (oS.one h1))
structure bN where
 rows:Int
 aG:(List cu)
 ah:(List bR)
 aK:mD
 ck:Int
 seed:Int
 round:Int
 replaced:(List Int)
 cancelled:Int
instance:Inhabited bN:=⟨⟨0,[],[],default,0,0,0,[],0⟩⟩
def agi:ER bN:=fun w cs x fp=> ∃(M0:Value) (M1:Value) (M3:List Value) (J0:Value) (M4 M5 M6 J1:List Nat),cs= [.int .i64 x.rows,M0,M1]++M3++ [.int .i64 x.ck, .int .i64 x.seed, .int .i64 x.round,J0, .int .i64 x.cancelled]∧Sl 5 abc w M0 x.aG M4∧Sl 16 abe w M1 x.ah M5∧abd w M3 x.aK M6∧Sl 1 aa4 w J0 x.replaced J1∧fp=M4++M5++M6++J1
theorem abh:kq 10 agi where
 agree:=by rintro w w' cs x fp ⟨v0,v1,v2,v3,f0,f1,f2,f3,rfl,h0,h1,h2,h3,rfl⟩ ha;exact⟨v0,v1,v2,v3,_,_,_,_,rfl,(Sl.agree JY h0 (ha.sub fun b hb=>by simp[hb])),(Sl.agree JZ h1 (ha.sub fun b hb=>by simp[hb])),(zR.agree h2 (ha.sub fun b hb=>by simp[hb])),(Sl.agree zM h3 (ha.sub fun b hb=>by simp[hb])),rfl⟩
 lt:=by
  rintro w cs x fp ⟨v0,v1,v2,v3,f0,f1,f2,f3,rfl,h0,h1,h2,h3,rfl⟩ b hb
  simp only[bg]at hb
  rcases hb with((hb|hb)|hb)|hb
  ·exact Sl.lt JY h0 b hb
  ·exact Sl.lt JZ h1 b hb
  ·exact zR.lt h2 b hb
  ·exact Sl.lt zM h3 b hb
 len:=by rintro w cs x fp ⟨v0,v1,v2,v3,f0,f1,f2,f3,rfl,h0,h1,h2,h3,rfl⟩;simp[zR.len h2]
 one:=by rintro w cs x fp ⟨v0,v1,v2,v3,f0,f1,f2,f3,rfl,h0,h1,h2,h3,rfl⟩;exact(zO (zO (cZ rfl (cZ (Sl.one h0) (cZ (Sl.one h1) l6))) (zR.one h2)) (cZ rfl (cZ rfl (cZ rfl (cZ (Sl.one h3) (cZ rfl l6))))))
structure Ev where
 kind:Int
 node:Int
 value:Int
 body:(List UInt8)
instance:Inhabited Ev:=⟨⟨0,0,0,[]⟩⟩
def EEv:ER Ev:=fun w cs x fp=> ∃(J2:Value) (J3:List Nat),cs= [.int .i64 x.kind, .int .i64 x.node, .int .i64 x.value,J2]∧Sl 1 Wq w J2 x.body J3∧fp=J3
theorem agj:kq 4 EEv where
 agree:=by rintro w w' cs x fp ⟨v0,f0,rfl,h0,rfl⟩ ha;exact⟨v0,_,rfl,(Sl.agree mE h0 (ha.sub fun b hb=>by simp[hb])),rfl⟩
 lt:=by rintro w cs x fp ⟨v0,f0,rfl,h0,rfl⟩ b hb;exact Sl.lt mE h0 b hb
 len:=by rintro w cs x fp ⟨v0,f0,rfl,h0,rfl⟩;rfl
 one:=by rintro w cs x fp ⟨v0,f0,rfl,h0,rfl⟩;exact(cZ rfl (cZ rfl (cZ rfl (cZ (Sl.one h0) l6))))
structure jE where
 fr:Int
 to:Int
 bytes:Int
instance:Inhabited jE:=⟨⟨0,0,0⟩⟩
def abi:ER jE:=fun _ cs x fp=>cs= [.int .i64 x.fr, .int .i64 x.to, .int .i64 x.bytes]∧fp= []
theorem abj:kq 3 abi where
 agree:=fun h _=>h
 lt:=by rintro w cs x fp ⟨rfl,rfl⟩ b hb;simp at hb
 len:=by rintro w cs x fp ⟨rfl,rfl⟩;rfl
 one:=by rintro w cs x fp ⟨rfl,rfl⟩ u hu;simp at hu;rcases hu with rfl|rfl|rfl<;>rfl
structure iA where
 server:Int
 client:Int
 round:Int
 s8:Int
 T8:Int
instance:Inhabited iA:=⟨⟨0,0,0,0,0⟩⟩
def abk:ER iA:=fun _ cs x fp=>cs= [.int .i64 x.server, .int .i64 x.client, .int .i64 x.round, .int .i64 x.s8, .int .i64 x.T8]∧fp= []
theorem abl:kq 5 abk where
 agree:=fun h _=>h
 lt:=by rintro w cs x fp ⟨rfl,rfl⟩ b hb;simp at hb
 len:=by rintro w cs x fp ⟨rfl,rfl⟩;rfl
 one:=by rintro w cs x fp ⟨rfl,rfl⟩ u hu;simp at hu;rcases hu with rfl|rfl|rfl|rfl|rfl<;>rfl
structure Plain where
 kind:Int
 body:(List UInt8)
instance:Inhabited Plain:=⟨⟨0,[]⟩⟩
def On:ER Plain:=fun w cs x fp=> ∃(J2:Value) (J3:List Nat),cs= [.int .i64 x.kind,J2]∧Sl 1 Wq w J2 x.body J3∧fp=J3
theorem Uu:kq 2 On where
 agree:=by rintro w w' cs x fp ⟨v0,f0,rfl,h0,rfl⟩ ha;exact⟨v0,_,rfl,(Sl.agree mE h0 (ha.sub fun b hb=>by simp[hb])),rfl⟩
 lt:=by rintro w cs x fp ⟨v0,f0,rfl,h0,rfl⟩ b hb;exact Sl.lt mE h0 b hb
 len:=by rintro w cs x fp ⟨v0,f0,rfl,h0,rfl⟩;rfl
 one:=by rintro w cs x fp ⟨v0,f0,rfl,h0,rfl⟩;exact(cZ rfl (cZ (Sl.one h0) l6))
structure e9 where
 server:Int
 round:Int
 selection:(List Int)
 data:(List UInt8)
 T8:Int
instance:Inhabited e9:=⟨⟨0,0,[],[],0⟩⟩
def Wz:ER e9:=fun w cs x fp=> ∃(HX:Value) (abm:Value) (HY abn:List Nat),cs= [.int .i64 x.server, .int .i64 x.round,HX,abm, .int .i64 x.T8]∧Sl 1 aa4 w HX x.selection HY∧Sl 1 Wq w abm x.data abn∧fp=HY++abn
theorem Y0:kq 5 Wz where
 agree:=by rintro w w' cs x fp ⟨v0,v1,f0,f1,rfl,h0,h1,rfl⟩ ha;exact⟨v0,v1,_,_,rfl,(Sl.agree zM h0 (ha.sub fun b hb=>by simp[hb])),(Sl.agree mE h1 (ha.sub fun b hb=>by simp[hb])),rfl⟩
 lt:=by
  rintro w cs x fp ⟨v0,v1,f0,f1,rfl,h0,h1,rfl⟩ b hb
  simp only[bg]at hb
  rcases hb with hb|hb
  ·exact Sl.lt zM h0 b hb
  ·exact Sl.lt mE h1 b hb
 len:=by rintro w cs x fp ⟨v0,v1,f0,f1,rfl,h0,h1,rfl⟩;rfl
 one:=by rintro w cs x fp ⟨v0,v1,f0,f1,rfl,h0,h1,rfl⟩;exact(cZ rfl (cZ rfl (cZ (Sl.one h0) (cZ (Sl.one h1) (cZ rfl l6)))))
end
end Go.Proofs.YtaalpcnbbldlaaaGreatDoor.D
