/-
  The data of the program: structures, and how cells read as them.
-/
import Derived.Deep.MidRow
import Derived.Deep.Slices
import Derived.Lib.Hide
import Derived.WalkKit
import Derived.WalkLawsBesides
import Derived.WalkSpells
namespace Go.Proofs.YtcnomgcfijjkmaaGreat.L
set_option linter.all false
open Go.RowKit
section
theorem oI.{u}{α:Type u}(a b:α):(some a=some b)=(a=b):=Option.some.injEq a b
theorem pI.{u,v}{α:Type u}{β:Type v}(a:α)(b:β)(c:α)(d:β):((a,b)=(c,d))=(a=c∧b=d):=Prod.mk.injEq a b c d
abbrev ER(α:Type):=World→List Value→α→List Nat→Prop
def Agree(w w':World)(fp:List Nat):Prop:= ∀b,b∈fp→w'.heap[b]? =w.heap[b]?
theorem Agree.cell{w w':World}{fp:List Nat}(h:Agree w w' fp){b:Nat}(hb:b∈fp)(o:Nat):w'.cell? ⟨b,o,none⟩=w.cell? ⟨b,o,none⟩:=
 World.cell?_of_block (w:=w) (a:=⟨b,o,none⟩) (h b hb)
theorem Agree.range{w w':World}{fp:List Nat}(h:Agree w w' fp){b:Nat}(hb:b∈fp){o:Nat}{cs:List Value}(hr:w.rangeAt b o cs):w'.rangeAt b o cs:=
 fun j v hv=>by rw[h.cell hb];exact hr j v hv
theorem Agree.sub{w w':World}{fp eR:List Nat}(h:Agree w w' fp)(hs: ∀b,b∈eR→b∈fp):Agree w w' eR:=fun b hb=>h b (hs b hb)
theorem Agree.trans{a b c:World}{fp:List Nat}(h:Agree a b fp)(k:Agree b c fp):Agree a c fp:=fun x hx=>(k x hx).trans (h x hx)
theorem Agree.refl(w:World)(fp:List Nat):Agree w w fp:=fun _ _=>rfl
theorem iO{B:Nat}{w w':World}{fp:List Nat}(hb:Below B w w')(hf: ∀b,b∈fp→b<B):Agree w w' fp:=fun b h=>hb.block b (hf b h)
structure eB{α:Type}(k:Nat)(E:ER α):Prop where
 agree: ∀{w w':World} {cs x fp},E w cs x fp→Agree w w' fp→E w' cs x fp
 lt: ∀{w:World} {cs x fp},E w cs x fp→ ∀b,b∈fp→b<w.heap.size
 len: ∀{w:World} {cs x fp},E w cs x fp→cs.length=k
 one: ∀{w:World} {cs x fp},E w cs x fp→ ∀u,u∈cs→u.oneCell'=true
def jQ{α:Type}(k:Nat)(E:ER α)(w:World)(b off:Nat)(l:List α)(aO:List (List Nat)):Prop:=
 aO.length=l.length∧ ∀i x f,l[i]? =some x→aO[i]? =some f→ ∃cs,w.rangeAt b (off+i*k) cs∧E w cs x f
def Fit(w:World)(b m:Nat):Prop:= ∃c e fz,w.heap[b]? =some (.cells c e fz)∧m≤c.size
theorem Fit.lt{w:World}{b m:Nat}(h:Fit w b m):b<w.heap.size:=by
 obtain⟨c,e,fz,hc,_⟩:=h
 exact(Array.getElem?_eq_some_iff.1 hc).1
theorem Fit.agree{w w':World}{b m:Nat}(h:Fit w b m)(ha:w'.heap[b]? =w.heap[b]?):Fit w' b m:=by
 obtain⟨c,e,fz,hc,hm⟩:=h
 exact⟨c,e,fz,by rw[ha];exact hc,hm⟩
theorem Fit.mono{w:World}{b m m':Nat}(h:Fit w b m)(hm:m'≤m):Fit w b m':=by
 obtain⟨c,e,fz,hc,h1⟩:=h
 exact⟨c,e,fz,hc,Nat.le_trans hm h1⟩
def Sl{α:Type}(k:Nat)(E:ER α)(w:World)(v:Value)(l:List α)(fp:List Nat):Prop:=
 ∃oa cap,v= .slice oa l.length cap∧l.length≤cap∧cap≤maxLen∧
  ((l= []∧fp= []∧cap=0)∨ ∃b off aO,oa=some ⟨b,off,none⟩∧Fit w b (off+cap*k)∧fp=b::aO.flatten∧jQ k E w b off l aO)
def Ux{α:Type}(k:Nat)(E:ER α):ER (List α):=fun w cs l fp=> ∃v,cs= [v]∧Sl k E w v l fp
def Kc:ER Int:=fun _ cs n fp=>cs= [.int .i64 n]∧fp= []
def GW:ER UInt8:=fun _ cs n fp=>cs= [.int .u8 n.toNat]∧fp= []
def Oz:ER (List UInt8):=fun _ cs s fp=>cs= [.string ⟨s.toArray⟩]∧s.length≤maxLen∧fp= []
theorem n7:eB 1 Kc:=⟨fun h _=>h,by rintro w cs x fp ⟨rfl,rfl⟩ b hb;simp at hb,by rintro w cs x fp ⟨rfl,rfl⟩;rfl,by rintro w cs x fp ⟨rfl,rfl⟩ u hu;simp at hu;subst hu;rfl⟩
theorem fK:eB 1 GW:=⟨fun h _=>h,by rintro w cs x fp ⟨rfl,rfl⟩ b hb;simp at hb,by rintro w cs x fp ⟨rfl,rfl⟩;rfl,by rintro w cs x fp ⟨rfl,rfl⟩ u hu;simp at hu;subst hu;rfl⟩
theorem Ke:eB 1 Oz:=⟨fun h _=>h,by rintro w cs x fp ⟨rfl,_,rfl⟩ b hb;simp at hb,by rintro w cs x fp ⟨rfl,_,rfl⟩;rfl,by rintro w cs x fp ⟨rfl,_,rfl⟩ u hu;simp at hu;subst hu;rfl⟩
theorem bL{l:List (List Nat)}{i:Nat}{f:List Nat}(h:l[i]? =some f){b:Nat}(hb:b∈f):b∈l.flatten:=
 List.mem_flatten.2 ⟨f,List.mem_of_getElem? h,hb⟩
theorem eU{α:Type}{l:List α}{aO:List (List Nat)}(h:aO.length=l.length){i:Nat}{x:α}(hx:l[i]? =some x): ∃f,aO[i]? =some f:=by
 have:i<l.length:=(List.getElem?_eq_some_iff.1 hx).1
 exact⟨aO[i],List.getElem?_eq_getElem (by omega)⟩
section
variable{α:Type}{k:Nat}{E:ER α}(G:eB k E)
include G
theorem jQ.agree{w w':World}{b off:Nat}{l:List α}{aO:List (List Nat)}(h:jQ k E w b off l aO)(hb:w'.heap[b]? =w.heap[b]?)(ha:Agree w w' aO.flatten):jQ k E w' b off l aO:=by
 refine⟨h.1,fun i x f hx hf=> ?_⟩
 obtain⟨cs,hr,he⟩:=h.2 i x f hx hf
 refine⟨cs,fun j v hv=> ?_,G.agree he (ha.sub fun _ hm=>bL hf hm)⟩
 rw[World.cell?_of_block (w:=w) (a:=⟨b,_,none⟩) hb];exact hr j v hv
theorem Sl.agree{w w':World}{v:Value}{l:List α}{fp:List Nat}(h:Sl k E w v l fp)(ha:Agree w w' fp):Sl k E w' v l fp:=by
 obtain⟨oa,cap,rfl,h1,h2,h3⟩:=h
 refine⟨oa,cap,rfl,h1,h2,?_⟩
 rcases h3 with h3| ⟨b,off,aO,rfl,hb,rfl,he⟩
 ·exact Or.inl h3
 ·have hbk:=ha b (by simp)
  exact Or.inr ⟨b,off,aO,rfl,hb.agree hbk,rfl,jQ.agree G he hbk (ha.sub (fun _ hm=>List.mem_cons_of_mem _ hm))⟩
theorem Sl.lt{w:World}{v:Value}{l:List α}{fp:List Nat}(h:Sl k E w v l fp): ∀b,b∈fp→b<w.heap.size:=by
 obtain⟨oa,cap,rfl,h1,h2,h3⟩:=h
 rcases h3 with⟨_,rfl,_⟩| ⟨b,off,aO,rfl,hb,rfl,he⟩
 ·simp
 ·intro c hc
  rcases List.mem_cons.1 hc with rfl|hc
  ·exact hb.lt
  ·obtain⟨f,hf,Xj⟩:=List.mem_flatten.1 hc
   obtain⟨i,hi⟩:=List.getElem?_of_mem hf
   have hil:i<l.length:=by have:=(List.getElem?_eq_some_iff.1 hi).1;have:=he.1;omega
   obtain⟨cs,_,hE⟩:=he.2 i l[i] f (List.getElem?_eq_getElem hil) hi
   exact G.lt hE c Xj
theorem mH:eB 1 (Ux k E):=
 ⟨by rintro w w' cs x fp ⟨v,rfl,h⟩ ha;exact⟨v,rfl,Sl.agree G h ha⟩,by rintro w cs x fp ⟨v,rfl,h⟩;exact Sl.lt G h,
  by rintro w cs x fp ⟨v,rfl,h⟩;rfl,by rintro w cs x fp ⟨v,rfl,oa,cap,rfl,h⟩ u hu;simp at hu;subst hu;rfl⟩
theorem Sl.below{w w':World}{v:Value}{l:List α}{fp:List Nat}(h:Sl k E w v l fp)(hb:Below w.heap.size w w'):Sl k E w' v l fp:=Sl.agree G h (iO hb (Sl.lt G h))
end
theorem Sl.at{α:Type}{k:Nat}{E:ER α}{w:World}{oa:Option Addr}{n cap:Nat}{l:List α}{fp:List Nat}(h:Sl k E w (.slice oa n cap) l fp){i:Nat}{x:α}(hx:l[i]? =some x):
  ∃b off f cs,oa=some ⟨b,off,none⟩∧w.rangeAt b (off+i*k) cs∧E w cs x f∧(∀y,y∈f→y∈fp):=by
 obtain⟨Kf,cap',hv,h1,h2,h3⟩:=h
 simp only[Value.slice.injEq]at hv
 obtain⟨rfl,_,rfl⟩:=hv
 rcases h3 with⟨rfl,_⟩| ⟨b,off,aO,rfl,hb,rfl,he⟩
 ·simp at hx
 ·obtain⟨f,hf⟩:=eU he.1 hx
  obtain⟨cs,hr,hE⟩:=he.2 i x f hx hf
  exact⟨b,off,f,cs,rfl,hr,hE,fun y hy=>List.mem_cons_of_mem _ (bL hf hy)⟩
structure Own(lo:Nat)(w:World)(fp:List Nat):Prop where
 nodup:fp.Nodup
 ge: ∀b,b∈fp→lo≤b
 kind: ∀b,b∈fp→ ∃c e,w.heap[b]? =some (.cells c e (0,0))
theorem Own.agree{lo:Nat}{w w':World}{fp:List Nat}(h:Own lo w fp)(ha:Agree w w' fp):Own lo w' fp:=⟨h.nodup,h.ge,fun b hb=>by rw[ha b hb];exact h.kind b hb⟩
theorem Own.lt{lo:Nat}{w:World}{fp:List Nat}(h:Own lo w fp): ∀b,b∈fp→b<w.heap.size:=fun b hb=>by
 obtain⟨c,e,hk⟩:=h.kind b hb
 exact(Array.getElem?_eq_some_iff.1 hk).1
theorem Own.nil(lo:Nat)(w:World):Own lo w []:=⟨List.nodup_nil,by simp,by simp⟩
theorem Own.mono{lo lo':Nat}{w:World}{fp:List Nat}(h:Own lo w fp)(hl:lo'≤lo):Own lo' w fp:=⟨h.nodup,fun b hb=>Nat.le_trans hl (h.ge b hb),h.kind⟩
theorem Own.below{lo:Nat}{w w':World}{fp:List Nat}(h:Own lo w fp)(hb:Below w.heap.size w w'):Own lo w' fp:=h.agree (iO hb h.lt)
theorem jd{α:Type}{k:Nat}{E:ER α}{w:World}{b o:Nat}{l:List α}{xs:List Value}{aO:List (List Nat)}(hf:aO.length=l.length)
  (hx: ∀j u,xs[j]? =some u→w.cell? ⟨b,o+j,none⟩=some u)(h: ∀i x f,l[i]? =some x→aO[i]? =some f→E w ((xs.drop (i*k)).take k) x f):jQ k E w b o l aO:=by
 refine⟨hf,fun i x f hi Iv=>⟨_,fun j v hv=> ?_,h i x f hi Iv⟩⟩
 rw[Nat.add_assoc]
 refine hx _ _ ?_
 rw[List.getElem?_take,]at hv
 split at hv
 ·rw[List.getElem?_drop]at hv;exact hv
 ·simp at hv
theorem BV{α:Type}{k:Nat}{E:ER α}{w:World}{b:Nat}{l:List α}{xs:List Value}{aO:List (List Nat)}(hf:aO.length=l.length)
  (hx: ∀j u,xs[j]? =some u→w.cell? ⟨b,j,none⟩=some u)(h: ∀i x f,l[i]? =some x→aO[i]? =some f→E w ((xs.drop (i*k)).take k) x f):jQ k E w b 0 l aO:=by
 refine⟨hf,fun i x f hi Iv=>⟨_,fun j v hv=> ?_,h i x f hi Iv⟩⟩
 rw[Nat.zero_add]
 refine hx _ _ ?_
 have:=List.getElem?_eq_some_iff.1 hv
 rw[List.getElem?_take,]at hv
 split at hv
 ·rw[List.getElem?_drop]at hv;exact hv
 ·simp at hv
end
end Go.Proofs.YtcnomgcfijjkmaaGreat.L
namespace Go.Proofs.YtcnomgcfijjkmaaGreat.D
set_option linter.all false
open Go.RowKit L
section
theorem Sl.one{α:Type}{k:Nat}{E:ER α}{w:World}{v:Value}{l:List α}{fp:List Nat}(h:Sl k E w v l fp):v.oneCell'=true:=by
 obtain⟨oa,cap,rfl,_⟩:=h;rfl
theorem fm: ∀u,u∈([]:List Value)→u.oneCell'=true:=by simp
theorem bn{v:Value}{l:List Value}(h:v.oneCell'=true)(r: ∀u,u∈l→u.oneCell'=true): ∀u,u∈v::l→u.oneCell'=true:=by
 intro u hu
 rcases List.mem_cons.1 hu with rfl|hu
 ·exact h
 ·exact r u hu
theorem n8{a b:List Value}(h: ∀u,u∈a→u.oneCell'=true)(r: ∀u,u∈b→u.oneCell'=true): ∀u,u∈a++b→u.oneCell'=true:=by
 intro u hu
 rcases List.mem_append.1 hu with hu|hu
 ·exact h u hu
 ·exact r u hu
abbrev RB:=Sl 1 GW
structure DB where
 rows:(List (List UInt8))
instance:Inhabited DB:=⟨⟨[]⟩⟩
def Uy:ER DB:=fun w cs x fp=> ∃(Kh:Value) (Ki:List Nat),cs= [Kh]∧Sl 1 (Ux 1 GW) w Kh x.rows Ki∧fp=Ki
theorem ju:eB 1 Uy where
 agree:=by rintro w w' cs x fp ⟨v0,f0,rfl,h0,rfl⟩ ha;exact⟨v0,_,rfl,(Sl.agree (mH fK) h0 (ha.sub fun b hb=>by simp[hb])),rfl⟩
 lt:=by rintro w cs x fp ⟨v0,f0,rfl,h0,rfl⟩ b hb;exact Sl.lt (mH fK) h0 b hb
 len:=by rintro w cs x fp ⟨v0,f0,rfl,h0,rfl⟩;rfl
 one:=by rintro w cs x fp ⟨v0,f0,rfl,h0,rfl⟩;exact(bn (Sl.one h0) fm)
structure aM where
 client:Int
 share:DB
instance:Inhabited aM:=⟨⟨0,default⟩⟩
def sA:ER aM:=fun w cs x fp=> ∃(GZ:List Value) (G0:List Nat),cs= [.int .i64 x.client]++GZ∧Uy w GZ x.share G0∧fp=G0
theorem n9:eB 2 sA where
 agree:=by rintro w w' cs x fp ⟨v0,f0,rfl,h0,rfl⟩ ha;exact⟨v0,_,rfl,(ju.agree h0 (ha.sub fun b hb=>by simp[hb])),rfl⟩
 lt:=by rintro w cs x fp ⟨v0,f0,rfl,h0,rfl⟩ b hb;exact ju.lt h0 b hb
 len:=by rintro w cs x fp ⟨v0,f0,rfl,h0,rfl⟩;simp[ju.len h0]
 one:=by rintro w cs x fp ⟨v0,f0,rfl,h0,rfl⟩;exact(n8 (bn rfl fm) (ju.one h0))
structure bl where
 id:Int
 rows:Int
 round:Int
 received:(List aM)
 behavior:Int
instance:Inhabited bl:=⟨⟨0,0,0,[],0⟩⟩
def Kj:ER bl:=fun w cs x fp=> ∃(xO:Value) (xP:List Nat),cs= [.int .i64 x.id, .int .i64 x.rows, .int .i64 x.round,xO, .int .i64 x.behavior]∧Sl 2 sA w xO x.received xP∧fp=xP
theorem xQ:eB 5 Kj where
 agree:=by rintro w w' cs x fp ⟨v0,f0,rfl,h0,rfl⟩ ha;exact⟨v0,_,rfl,(Sl.agree n9 h0 (ha.sub fun b hb=>by simp[hb])),rfl⟩
 lt:=by rintro w cs x fp ⟨v0,f0,rfl,h0,rfl⟩ b hb;exact Sl.lt n9 h0 b hb
 len:=by rintro w cs x fp ⟨v0,f0,rfl,h0,rfl⟩;rfl
 one:=by rintro w cs x fp ⟨v0,f0,rfl,h0,rfl⟩;exact(bn rfl (bn rfl (bn rfl (bn (Sl.one h0) (bn rfl fm)))))
structure aC where
 round:Int
 db:DB
instance:Inhabited aC:=⟨⟨0,default⟩⟩
def sB:ER aC:=fun w cs x fp=> ∃(UN:List Value) (UO:List Nat),cs= [.int .i64 x.round]++UN∧Uy w UN x.db UO∧fp=UO
theorem oc:eB 2 sB where
 agree:=by rintro w w' cs x fp ⟨v0,f0,rfl,h0,rfl⟩ ha;exact⟨v0,_,rfl,(ju.agree h0 (ha.sub fun b hb=>by simp[hb])),rfl⟩
 lt:=by rintro w cs x fp ⟨v0,f0,rfl,h0,rfl⟩ b hb;exact ju.lt h0 b hb
 len:=by rintro w cs x fp ⟨v0,f0,rfl,h0,rfl⟩;simp[ju.len h0]
 one:=by rintro w cs x fp ⟨v0,f0,rfl,h0,rfl⟩;exact(n8 (bn rfl fm) (ju.one h0))
structure gH where
 rows:Int
 rounds:(List aC)
instance:Inhabited gH:=⟨⟨0,[]⟩⟩
def Kk:ER gH:=fun w cs x fp=> ∃(Dt:Value) (Du:List Nat),cs= [.int .i64 x.rows,Dt]∧Sl 2 sB w Dt x.rounds Du∧fp=Du
theorem og:eB 2 Kk where
 agree:=by rintro w w' cs x fp ⟨v0,f0,rfl,h0,rfl⟩ ha;exact⟨v0,_,rfl,(Sl.agree oc h0 (ha.sub fun b hb=>by simp[hb])),rfl⟩
 lt:=by rintro w cs x fp ⟨v0,f0,rfl,h0,rfl⟩ b hb;exact Sl.lt oc h0 b hb
 len:=by rintro w cs x fp ⟨v0,f0,rfl,h0,rfl⟩;rfl
 one:=by rintro w cs x fp ⟨v0,f0,rfl,h0,rfl⟩;exact(bn rfl (bn (Sl.one h0) fm))
structure cX where
 id:Int
 dF:Int
 key:Int
 seed:Int
 aE:(List (List UInt8))
 sent:Int
 inbox:(List (List UInt8))
 next:Int
instance:Inhabited cX:=⟨⟨0,0,0,0,[],0,[],0⟩⟩
def Ix:ER cX:=fun w cs x fp=> ∃(vR:Value) (G1:Value) (vS G2:List Nat),cs= [.int .i64 x.id, .int .i64 x.dF, .int .i64 x.key, .int .i64 x.seed,vR, .int .i64 x.sent,G1, .int .i64 x.next]∧Sl 1 (Ux 1 GW) w vR x.aE vS∧Sl 1 (Ux 1 GW) w G1 x.inbox G2∧fp=vS++G2
theorem gK:eB 8 Ix where
 agree:=by rintro w w' cs x fp ⟨v0,v1,f0,f1,rfl,h0,h1,rfl⟩ ha;exact⟨v0,v1,_,_,rfl,(Sl.agree (mH fK) h0 (ha.sub fun b hb=>by simp[hb])),(Sl.agree (mH fK) h1 (ha.sub fun b hb=>by simp[hb])),rfl⟩
 lt:=by
  rintro w cs x fp ⟨v0,v1,f0,f1,rfl,h0,h1,rfl⟩ b hb
  simp only[List.mem_append]at hb
  rcases hb with hb|hb
  ·exact Sl.lt (mH fK) h0 b hb
  ·exact Sl.lt (mH fK) h1 b hb
 len:=by rintro w cs x fp ⟨v0,v1,f0,f1,rfl,h0,h1,rfl⟩;rfl
 one:=by rintro w cs x fp ⟨v0,v1,f0,f1,rfl,h0,h1,rfl⟩;exact(bn rfl (bn rfl (bn rfl (bn rfl (bn (Sl.one h0) (bn rfl (bn (Sl.one h1) (bn rfl fm))))))))
structure aS where
 live:cX
 saved:cX
instance:Inhabited aS:=⟨⟨default,default⟩⟩
def Kl:ER aS:=fun w cs x fp=> ∃(Km:List Value) (G3:List Value) (Kn G4:List Nat),cs=Km++G3∧Ix w Km x.live Kn∧Ix w G3 x.saved G4∧fp=Kn++G4
theorem xR:eB 16 Kl where
 agree:=by rintro w w' cs x fp ⟨v0,v1,f0,f1,rfl,h0,h1,rfl⟩ ha;exact⟨v0,v1,_,_,rfl,(gK.agree h0 (ha.sub fun b hb=>by simp[hb])),(gK.agree h1 (ha.sub fun b hb=>by simp[hb])),rfl⟩
 lt:=by
  rintro w cs x fp ⟨v0,v1,f0,f1,rfl,h0,h1,rfl⟩ b hb
  simp only[List.mem_append]at hb
  rcases hb with hb|hb
  ·exact gK.lt h0 b hb
  ·exact gK.lt h1 b hb
 len:=by rintro w cs x fp ⟨v0,v1,f0,f1,rfl,h0,h1,rfl⟩;simp[gK.len h0,gK.len h1]
 one:=by rintro w cs x fp ⟨v0,v1,f0,f1,rfl,h0,h1,rfl⟩;exact(n8 (gK.one h0) (gK.one h1))
structure aR where
 rows:Int
 aj:(List bl)
 aa:(List aS)
 az:gH
 bh:Int
 seed:Int
 round:Int
 replaced:(List Int)
 cancelled:Int
instance:Inhabited aR:=⟨⟨0,[],[],default,0,0,0,[],0⟩⟩
def OC:ER aR:=fun w cs x fp=> ∃(AT:Value) (AU:Value) (AV:List Value) (xS:Value) (AW AX AY xT:List Nat),cs= [.int .i64 x.rows,AT,AU]++AV++ [.int .i64 x.bh, .int .i64 x.seed, .int .i64 x.round,xS, .int .i64 x.cancelled]∧Sl 5 Kj w AT x.aj AW∧Sl 16 Kl w AU x.aa AX∧Kk w AV x.az AY∧Sl 1 Kc w xS x.replaced xT∧fp=AW++AX++AY++xT
theorem Ko:eB 10 OC where
 agree:=by rintro w w' cs x fp ⟨v0,v1,v2,v3,f0,f1,f2,f3,rfl,h0,h1,h2,h3,rfl⟩ ha;exact⟨v0,v1,v2,v3,_,_,_,_,rfl,(Sl.agree xQ h0 (ha.sub fun b hb=>by simp[hb])),(Sl.agree xR h1 (ha.sub fun b hb=>by simp[hb])),(og.agree h2 (ha.sub fun b hb=>by simp[hb])),(Sl.agree n7 h3 (ha.sub fun b hb=>by simp[hb])),rfl⟩
 lt:=by
  rintro w cs x fp ⟨v0,v1,v2,v3,f0,f1,f2,f3,rfl,h0,h1,h2,h3,rfl⟩ b hb
  simp only[List.mem_append]at hb
  rcases hb with((hb|hb)|hb)|hb
  ·exact Sl.lt xQ h0 b hb
  ·exact Sl.lt xR h1 b hb
  ·exact og.lt h2 b hb
  ·exact Sl.lt n7 h3 b hb
 len:=by rintro w cs x fp ⟨v0,v1,v2,v3,f0,f1,f2,f3,rfl,h0,h1,h2,h3,rfl⟩;simp[og.len h2]
 one:=by rintro w cs x fp ⟨v0,v1,v2,v3,f0,f1,f2,f3,rfl,h0,h1,h2,h3,rfl⟩;exact(n8 (n8 (bn rfl (bn (Sl.one h0) (bn (Sl.one h1) fm))) (og.one h2)) (bn rfl (bn rfl (bn rfl (bn (Sl.one h3) (bn rfl fm))))))
structure Ev where
 kind:Int
 node:Int
 value:Int
 body:(List UInt8)
instance:Inhabited Ev:=⟨⟨0,0,0,[]⟩⟩
def WE:ER Ev:=fun w cs x fp=> ∃(xU:Value) (xV:List Nat),cs= [.int .i64 x.kind, .int .i64 x.node, .int .i64 x.value,xU]∧Sl 1 GW w xU x.body xV∧fp=xV
theorem OD:eB 4 WE where
 agree:=by rintro w w' cs x fp ⟨v0,f0,rfl,h0,rfl⟩ ha;exact⟨v0,_,rfl,(Sl.agree fK h0 (ha.sub fun b hb=>by simp[hb])),rfl⟩
 lt:=by rintro w cs x fp ⟨v0,f0,rfl,h0,rfl⟩ b hb;exact Sl.lt fK h0 b hb
 len:=by rintro w cs x fp ⟨v0,f0,rfl,h0,rfl⟩;rfl
 one:=by rintro w cs x fp ⟨v0,f0,rfl,h0,rfl⟩;exact(bn rfl (bn rfl (bn rfl (bn (Sl.one h0) fm))))
structure pP where
 fr:Int
 to:Int
 bytes:Int
instance:Inhabited pP:=⟨⟨0,0,0⟩⟩
def Kp:ER pP:=fun _ cs x fp=>cs= [.int .i64 x.fr, .int .i64 x.to, .int .i64 x.bytes]∧fp= []
theorem Kq:eB 3 Kp where
 agree:=fun h _=>h
 lt:=by rintro w cs x fp ⟨rfl,rfl⟩ b hb;simp at hb
 len:=by rintro w cs x fp ⟨rfl,rfl⟩;rfl
 one:=by rintro w cs x fp ⟨rfl,rfl⟩ u hu;simp at hu;rcases hu with rfl|rfl|rfl<;>rfl
structure ep where
 server:Int
 client:Int
 round:Int
 oo:Int
 G5:Int
instance:Inhabited ep:=⟨⟨0,0,0,0,0⟩⟩
def Kr:ER ep:=fun _ cs x fp=>cs= [.int .i64 x.server, .int .i64 x.client, .int .i64 x.round, .int .i64 x.oo, .int .i64 x.G5]∧fp= []
theorem Ks:eB 5 Kr where
 agree:=fun h _=>h
 lt:=by rintro w cs x fp ⟨rfl,rfl⟩ b hb;simp at hb
 len:=by rintro w cs x fp ⟨rfl,rfl⟩;rfl
 one:=by rintro w cs x fp ⟨rfl,rfl⟩ u hu;simp at hu;rcases hu with rfl|rfl|rfl|rfl|rfl<;>rfl
structure Plain where
 kind:Int
 body:(List UInt8)
instance:Inhabited Plain:=⟨⟨0,[]⟩⟩
def BY:ER Plain:=fun w cs x fp=> ∃(xU:Value) (xV:List Nat),cs= [.int .i64 x.kind,xU]∧Sl 1 GW w xU x.body xV∧fp=xV
theorem FA:eB 2 BY where
 agree:=by rintro w w' cs x fp ⟨v0,f0,rfl,h0,rfl⟩ ha;exact⟨v0,_,rfl,(Sl.agree fK h0 (ha.sub fun b hb=>by simp[hb])),rfl⟩
 lt:=by rintro w cs x fp ⟨v0,f0,rfl,h0,rfl⟩ b hb;exact Sl.lt fK h0 b hb
 len:=by rintro w cs x fp ⟨v0,f0,rfl,h0,rfl⟩;rfl
 one:=by rintro w cs x fp ⟨v0,f0,rfl,h0,rfl⟩;exact(bn rfl (bn (Sl.one h0) fm))
structure cD where
 server:Int
 round:Int
 selection:(List Int)
 data:(List UInt8)
 G5:Int
instance:Inhabited cD:=⟨⟨0,0,[],[],0⟩⟩
def G6:ER cD:=fun w cs x fp=> ∃(vT:Value) (Kt:Value) (vU Ku:List Nat),cs= [.int .i64 x.server, .int .i64 x.round,vT,Kt, .int .i64 x.G5]∧Sl 1 Kc w vT x.selection vU∧Sl 1 GW w Kt x.data Ku∧fp=vU++Ku
theorem Iy:eB 5 G6 where
 agree:=by rintro w w' cs x fp ⟨v0,v1,f0,f1,rfl,h0,h1,rfl⟩ ha;exact⟨v0,v1,_,_,rfl,(Sl.agree n7 h0 (ha.sub fun b hb=>by simp[hb])),(Sl.agree fK h1 (ha.sub fun b hb=>by simp[hb])),rfl⟩
 lt:=by
  rintro w cs x fp ⟨v0,v1,f0,f1,rfl,h0,h1,rfl⟩ b hb
  simp only[List.mem_append]at hb
  rcases hb with hb|hb
  ·exact Sl.lt n7 h0 b hb
  ·exact Sl.lt fK h1 b hb
 len:=by rintro w cs x fp ⟨v0,v1,f0,f1,rfl,h0,h1,rfl⟩;rfl
 one:=by rintro w cs x fp ⟨v0,v1,f0,f1,rfl,h0,h1,rfl⟩;exact(bn rfl (bn rfl (bn (Sl.one h0) (bn (Sl.one h1) (bn rfl fm)))))
end
end Go.Proofs.YtcnomgcfijjkmaaGreat.D
