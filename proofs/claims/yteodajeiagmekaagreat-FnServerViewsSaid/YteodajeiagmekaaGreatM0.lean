/-
  The data of the program: structures, and how cells read as them.
-/
import Derived.Deep.MidRow
import Derived.Deep.Slices
import Derived.Lib.Hide
import Derived.WalkKit
import Derived.WalkLawsBesides
import Derived.WalkSpells
namespace Go.Proofs.YteodajeiagmekaaGreat.L
set_option linter.all false
open Go.RowKit
section
abbrev ER(α:Type):=World→List Value→α→List Nat→Prop
def eS(w w':World)(fp:List Nat):Prop:= ∀b,b∈fp→w'.heap[b]? =w.heap[b]?
theorem eS.cell{w w':World}{fp:List Nat}(h:eS w w' fp){b:Nat}(hb:b∈fp)(o:Nat):w'.cell? ⟨b,o,none⟩=w.cell? ⟨b,o,none⟩:=
 World.cell?_of_block (w:=w) (a:=⟨b,o,none⟩) (h b hb)
theorem eS.range{w w':World}{fp:List Nat}(h:eS w w' fp){b:Nat}(hb:b∈fp){o:Nat}{cs:List Value}(hr:w.rangeAt b o cs):w'.rangeAt b o cs:=
 fun j v hv=>by rw[h.cell hb];exact hr j v hv
theorem eS.sub{w w':World}{fp gA:List Nat}(h:eS w w' fp)(hs: ∀b,b∈gA→b∈fp):eS w w' gA:=fun b hb=>h b (hs b hb)
theorem eS.trans{a b c:World}{fp:List Nat}(h:eS a b fp)(k:eS b c fp):eS a c fp:=fun x hx=>(k x hx).trans (h x hx)
theorem eS.refl(w:World)(fp:List Nat):eS w w fp:=fun _ _=>rfl
theorem lX{B:Nat}{w w':World}{fp:List Nat}(hb:Below B w w')(hf: ∀b,b∈fp→b<B):eS w w' fp:=fun b h=>hb.block b (hf b h)
structure gd{α:Type}(k:Nat)(E:ER α):Prop where
 bu: ∀{w w':World} {cs x fp},E w cs x fp→eS w w' fp→E w' cs x fp
 lt: ∀{w:World} {cs x fp},E w cs x fp→ ∀b,b∈fp→b<w.heap.size
 len: ∀{w:World} {cs x fp},E w cs x fp→cs.length=k
 one: ∀{w:World} {cs x fp},E w cs x fp→ ∀u,u∈cs→u.oneCell'=true
def wz{α:Type}(k:Nat)(E:ER α)(w:World)(b off:Nat)(l:List α)(bh:List (List Nat)):Prop:=
 bh.length=l.length∧ ∀i x f,l[i]? =some x→bh[i]? =some f→ ∃cs,w.rangeAt b (off+i*k) cs∧E w cs x f
def Sl{α:Type}(k:Nat)(E:ER α)(w:World)(v:Value)(l:List α)(fp:List Nat):Prop:=
 ∃oa cap,v= .slice oa l.length cap∧l.length≤cap∧cap≤maxLen∧
  ((l= []∧fp= []∧(oa=none→cap=0))∨ ∃b off bh,oa=some ⟨b,off,none⟩∧b<w.heap.size∧fp=b::bh.flatten∧wz k E w b off l bh)
def IQ{α:Type}(k:Nat)(E:ER α):ER (List α):=fun w cs l fp=> ∃v,cs= [v]∧Sl k E w v l fp
def mL:ER Int:=fun _ cs n fp=>cs= [.int .i64 n]∧fp= []
def Fu:ER UInt8:=fun _ cs n fp=>cs= [.int .u8 n.toNat]∧fp= []
def Yv:ER (List UInt8):=fun _ cs s fp=>cs= [.string ⟨s.toArray⟩]∧s.length≤maxLen∧fp= []
theorem tE:gd 1 mL:=⟨fun h _=>h,by rintro w cs x fp ⟨rfl,rfl⟩ b hb;simp at hb,by rintro w cs x fp ⟨rfl,rfl⟩;rfl,by rintro w cs x fp ⟨rfl,rfl⟩ u hu;simp at hu;subst hu;rfl⟩
theorem iL:gd 1 Fu:=⟨fun h _=>h,by rintro w cs x fp ⟨rfl,rfl⟩ b hb;simp at hb,by rintro w cs x fp ⟨rfl,rfl⟩;rfl,by rintro w cs x fp ⟨rfl,rfl⟩ u hu;simp at hu;subst hu;rfl⟩
theorem QH:gd 1 Yv:=⟨fun h _=>h,by rintro w cs x fp ⟨rfl,_,rfl⟩ b hb;simp at hb,by rintro w cs x fp ⟨rfl,_,rfl⟩;rfl,by rintro w cs x fp ⟨rfl,_,rfl⟩ u hu;simp at hu;subst hu;rfl⟩
theorem cC{l:List (List Nat)}{i:Nat}{f:List Nat}(h:l[i]? =some f){b:Nat}(hb:b∈f):b∈l.flatten:=
 List.mem_flatten.2 ⟨f,List.mem_of_getElem? h,hb⟩
theorem ji{α:Type}{l:List α}{bh:List (List Nat)}(h:bh.length=l.length){i:Nat}{x:α}(hx:l[i]? =some x): ∃f,bh[i]? =some f:=by
 have:i<l.length:=(List.getElem?_eq_some_iff.1 hx).1
 exact⟨bh[i],List.getElem?_eq_getElem (by omega)⟩
section
variable{α:Type}{k:Nat}{E:ER α}(G:gd k E)
include G
theorem wz.bu{w w':World}{b off:Nat}{l:List α}{bh:List (List Nat)}(h:wz k E w b off l bh)(hb:w'.heap[b]? =w.heap[b]?)(ha:eS w w' bh.flatten):wz k E w' b off l bh:=by
 refine⟨h.1,fun i x f hx hf=> ?_⟩
 obtain⟨cs,hr,he⟩:=h.2 i x f hx hf
 refine⟨cs,fun j v hv=> ?_,G.bu he (ha.sub fun _ hm=>cC hf hm)⟩
 rw[World.cell?_of_block (w:=w) (a:=⟨b,_,none⟩) hb];exact hr j v hv
theorem Sl.bu{w w':World}{v:Value}{l:List α}{fp:List Nat}(h:Sl k E w v l fp)(ha:eS w w' fp):Sl k E w' v l fp:=by
 obtain⟨oa,cap,rfl,h1,h2,h3⟩:=h
 refine⟨oa,cap,rfl,h1,h2,?_⟩
 rcases h3 with h3| ⟨b,off,bh,rfl,hb,rfl,he⟩
 ·exact Or.inl h3
 ·have hbk:=ha b (by simp)
  refine Or.inr ⟨b,off,bh,rfl,?_,rfl,wz.bu G he hbk (ha.sub (fun _ hm=>List.mem_cons_of_mem _ hm))⟩
  have:w.heap[b]? =some w.heap[b]:=by simp[hb]
  rw[this]at hbk
  exact(Array.getElem?_eq_some_iff.1 hbk).1
theorem Sl.lt{w:World}{v:Value}{l:List α}{fp:List Nat}(h:Sl k E w v l fp): ∀b,b∈fp→b<w.heap.size:=by
 obtain⟨oa,cap,rfl,h1,h2,h3⟩:=h
 rcases h3 with⟨_,rfl,_⟩| ⟨b,off,bh,rfl,hb,rfl,he⟩
 ·simp
 ·intro c hc
  rcases List.mem_cons.1 hc with rfl|hc
  ·exact hb
  ·obtain⟨f,hf,hcf⟩:=List.mem_flatten.1 hc
   obtain⟨i,hi⟩:=List.getElem?_of_mem hf
   have hil:i<l.length:=by have:=(List.getElem?_eq_some_iff.1 hi).1;have:=he.1;omega
   obtain⟨cs,_,hE⟩:=he.2 i l[i] f (List.getElem?_eq_getElem hil) hi
   exact G.lt hE c hcf
theorem rA:gd 1 (IQ k E):=
 ⟨by rintro w w' cs x fp ⟨v,rfl,h⟩ ha;exact⟨v,rfl,Sl.bu G h ha⟩,by rintro w cs x fp ⟨v,rfl,h⟩;exact Sl.lt G h,
  by rintro w cs x fp ⟨v,rfl,h⟩;rfl,by rintro w cs x fp ⟨v,rfl,oa,cap,rfl,h⟩ u hu;simp at hu;subst hu;rfl⟩
theorem Sl.below{w w':World}{v:Value}{l:List α}{fp:List Nat}(h:Sl k E w v l fp)(hb:Below w.heap.size w w'):Sl k E w' v l fp:=Sl.bu G h (lX hb (Sl.lt G h))
end
theorem Sl.at{α:Type}{k:Nat}{E:ER α}{w:World}{oa:Option Addr}{n cap:Nat}{l:List α}{fp:List Nat}(h:Sl k E w (.slice oa n cap) l fp){i:Nat}{x:α}(hx:l[i]? =some x):
  ∃b off f cs,oa=some ⟨b,off,none⟩∧w.rangeAt b (off+i*k) cs∧E w cs x f∧(∀y,y∈f→y∈fp):=by
 obtain⟨XB,cap',hv,h1,h2,h3⟩:=h
 simp only[Value.slice.injEq]at hv
 obtain⟨rfl,_,rfl⟩:=hv
 rcases h3 with⟨rfl,_⟩| ⟨b,off,bh,rfl,hb,rfl,he⟩
 ·simp at hx
 ·obtain⟨f,hf⟩:=ji he.1 hx
  obtain⟨cs,hr,hE⟩:=he.2 i x f hx hf
  exact⟨b,off,f,cs,rfl,hr,hE,fun y hy=>List.mem_cons_of_mem _ (cC hf hy)⟩
structure Own(lo:Nat)(w:World)(fp:List Nat):Prop where
 nodup:fp.Nodup
 ge: ∀b,b∈fp→lo≤b
 kind: ∀b,b∈fp→ ∃c e,w.heap[b]? =some (.cells c e (0,0))
theorem Own.bu{lo:Nat}{w w':World}{fp:List Nat}(h:Own lo w fp)(ha:eS w w' fp):Own lo w' fp:=⟨h.nodup,h.ge,fun b hb=>by rw[ha b hb];exact h.kind b hb⟩
theorem Own.lt{lo:Nat}{w:World}{fp:List Nat}(h:Own lo w fp): ∀b,b∈fp→b<w.heap.size:=fun b hb=>by
 obtain⟨c,e,hk⟩:=h.kind b hb
 exact(Array.getElem?_eq_some_iff.1 hk).1
theorem Own.nil(lo:Nat)(w:World):Own lo w []:=⟨List.nodup_nil,by simp,by simp⟩
theorem Own.mono{lo lo':Nat}{w:World}{fp:List Nat}(h:Own lo w fp)(hl:lo'≤lo):Own lo' w fp:=⟨h.nodup,fun b hb=>Nat.le_trans hl (h.ge b hb),h.kind⟩
theorem Own.below{lo:Nat}{w w':World}{fp:List Nat}(h:Own lo w fp)(hb:Below w.heap.size w w'):Own lo w' fp:=h.bu (lX hb h.lt)
theorem yg{α:Type}{k:Nat}{E:ER α}{w:World}{b:Nat}{l:List α}{xs:List Value}{bh:List (List Nat)}(hf:bh.length=l.length)
  (hx: ∀j u,xs[j]? =some u→w.cell? ⟨b,j,none⟩=some u)(h: ∀i x f,l[i]? =some x→bh[i]? =some f→E w ((xs.drop (i*k)).take k) x f):wz k E w b 0 l bh:=by
 refine⟨hf,fun i x f hi hfi=>⟨_,fun j v hv=> ?_,h i x f hi hfi⟩⟩
 rw[Nat.zero_add]
 refine hx _ _ ?_
 have:=List.getElem?_eq_some_iff.1 hv
 rw[List.getElem?_take,]at hv
 split at hv
 ·rw[List.getElem?_drop]at hv;exact hv
 ·simp at hv
end
end Go.Proofs.YteodajeiagmekaaGreat.L
namespace Go.Proofs.YteodajeiagmekaaGreat.D
set_option linter.all false
open Go.RowKit L
section
theorem Sl.one{α:Type}{k:Nat}{E:ER α}{w:World}{v:Value}{l:List α}{fp:List Nat}(h:Sl k E w v l fp):v.oneCell'=true:=by
 obtain⟨oa,cap,rfl,_⟩:=h;rfl
theorem ia: ∀u,u∈([]:List Value)→u.oneCell'=true:=by simp
theorem bB{v:Value}{l:List Value}(h:v.oneCell'=true)(r: ∀u,u∈l→u.oneCell'=true): ∀u,u∈v::l→u.oneCell'=true:=by
 intro u hu
 rcases List.mem_cons.1 hu with rfl|hu
 ·exact h
 ·exact r u hu
theorem tF{a b:List Value}(h: ∀u,u∈a→u.oneCell'=true)(r: ∀u,u∈b→u.oneCell'=true): ∀u,u∈a++b→u.oneCell'=true:=by
 intro u hu
 rcases List.mem_append.1 hu with hu|hu
 ·exact h u hu
 ·exact r u hu
abbrev RB:=Sl 1 Fu
structure DB where
 rows:(List (List UInt8))
instance:Inhabited DB:=⟨⟨[]⟩⟩
def Vc:ER DB:=fun w cs x fp=> ∃(QK:Value) (QL:List Nat),cs= [QK]∧Sl 1 (IQ 1 Fu) w QK x.rows QL∧fp=QL
theorem m8:gd 1 Vc where
 bu:=by rintro w w' cs x fp ⟨v0,f0,rfl,h0,rfl⟩ ha;exact⟨v0,_,rfl,(Sl.bu (rA iL) h0 (ha.sub fun b hb=>by simp[hb])),rfl⟩
 lt:=by rintro w cs x fp ⟨v0,f0,rfl,h0,rfl⟩ b hb;exact Sl.lt (rA iL) h0 b hb
 len:=by rintro w cs x fp ⟨v0,f0,rfl,h0,rfl⟩;rfl
 one:=by rintro w cs x fp ⟨v0,f0,rfl,h0,rfl⟩;exact(bB (Sl.one h0) ia)
structure aA where
 client:Int
 share:DB
instance:Inhabited aA:=⟨⟨0,default⟩⟩
def rB:ER aA:=fun w cs x fp=> ∃(Nc:List Value) (Nd:List Nat),cs= [.int .i64 x.client]++Nc∧Vc w Nc x.share Nd∧fp=Nd
theorem tG:gd 2 rB where
 bu:=by rintro w w' cs x fp ⟨v0,f0,rfl,h0,rfl⟩ ha;exact⟨v0,_,rfl,(m8.bu h0 (ha.sub fun b hb=>by simp[hb])),rfl⟩
 lt:=by rintro w cs x fp ⟨v0,f0,rfl,h0,rfl⟩ b hb;exact m8.lt h0 b hb
 len:=by rintro w cs x fp ⟨v0,f0,rfl,h0,rfl⟩;simp[m8.len h0]
 one:=by rintro w cs x fp ⟨v0,f0,rfl,h0,rfl⟩;exact(tF (bB rfl ia) (m8.one h0))
structure aO where
 id:Int
 rows:Int
 round:Int
 received:(List aA)
 behavior:Int
instance:Inhabited aO:=⟨⟨0,0,0,[],0⟩⟩
def LB:ER aO:=fun w cs x fp=> ∃(Dd:Value) (De:List Nat),cs= [.int .i64 x.id, .int .i64 x.rows, .int .i64 x.round,Dd, .int .i64 x.behavior]∧Sl 2 rB w Dd x.received De∧fp=De
theorem Df:gd 5 LB where
 bu:=by rintro w w' cs x fp ⟨v0,f0,rfl,h0,rfl⟩ ha;exact⟨v0,_,rfl,(Sl.bu tG h0 (ha.sub fun b hb=>by simp[hb])),rfl⟩
 lt:=by rintro w cs x fp ⟨v0,f0,rfl,h0,rfl⟩ b hb;exact Sl.lt tG h0 b hb
 len:=by rintro w cs x fp ⟨v0,f0,rfl,h0,rfl⟩;rfl
 one:=by rintro w cs x fp ⟨v0,f0,rfl,h0,rfl⟩;exact(bB rfl (bB rfl (bB rfl (bB (Sl.one h0) (bB rfl ia)))))
structure ay where
 round:Int
 db:DB
instance:Inhabited ay:=⟨⟨0,default⟩⟩
def rC:ER ay:=fun w cs x fp=> ∃(aaV:List Value) (aaW:List Nat),cs= [.int .i64 x.round]++aaV∧Vc w aaV x.db aaW∧fp=aaW
theorem tH:gd 2 rC where
 bu:=by rintro w w' cs x fp ⟨v0,f0,rfl,h0,rfl⟩ ha;exact⟨v0,_,rfl,(m8.bu h0 (ha.sub fun b hb=>by simp[hb])),rfl⟩
 lt:=by rintro w cs x fp ⟨v0,f0,rfl,h0,rfl⟩ b hb;exact m8.lt h0 b hb
 len:=by rintro w cs x fp ⟨v0,f0,rfl,h0,rfl⟩;simp[m8.len h0]
 one:=by rintro w cs x fp ⟨v0,f0,rfl,h0,rfl⟩;exact(tF (bB rfl ia) (m8.one h0))
structure gW where
 rows:Int
 rounds:(List ay)
instance:Inhabited gW:=⟨⟨0,[]⟩⟩
def LC:ER gW:=fun w cs x fp=> ∃(IS:Value) (IT:List Nat),cs= [.int .i64 x.rows,IS]∧Sl 2 rC w IS x.rounds IT∧fp=IT
theorem tI:gd 2 LC where
 bu:=by rintro w w' cs x fp ⟨v0,f0,rfl,h0,rfl⟩ ha;exact⟨v0,_,rfl,(Sl.bu tH h0 (ha.sub fun b hb=>by simp[hb])),rfl⟩
 lt:=by rintro w cs x fp ⟨v0,f0,rfl,h0,rfl⟩ b hb;exact Sl.lt tH h0 b hb
 len:=by rintro w cs x fp ⟨v0,f0,rfl,h0,rfl⟩;rfl
 one:=by rintro w cs x fp ⟨v0,f0,rfl,h0,rfl⟩;exact(bB rfl (bB (Sl.one h0) ia))
structure ep where
 id:Int
 eu:Int
 key:Int
 seed:Int
 av:(List (List UInt8))
 sent:Int
 inbox:(List (List UInt8))
 next:Int
instance:Inhabited ep:=⟨⟨0,0,0,0,[],0,[],0⟩⟩
def GZ:ER ep:=fun w cs x fp=> ∃(Bq:Value) (Nf:Value) (Br Ng:List Nat),cs= [.int .i64 x.id, .int .i64 x.eu, .int .i64 x.key, .int .i64 x.seed,Bq, .int .i64 x.sent,Nf, .int .i64 x.next]∧Sl 1 (IQ 1 Fu) w Bq x.av Br∧Sl 1 (IQ 1 Fu) w Nf x.inbox Ng∧fp=Br++Ng
theorem j6:gd 8 GZ where
 bu:=by rintro w w' cs x fp ⟨v0,v1,f0,f1,rfl,h0,h1,rfl⟩ ha;exact⟨v0,v1,_,_,rfl,(Sl.bu (rA iL) h0 (ha.sub fun b hb=>by simp[hb])),(Sl.bu (rA iL) h1 (ha.sub fun b hb=>by simp[hb])),rfl⟩
 lt:=by
  rintro w cs x fp ⟨v0,v1,f0,f1,rfl,h0,h1,rfl⟩ b hb
  simp only[List.mem_append]at hb
  rcases hb with hb|hb
  ·exact Sl.lt (rA iL) h0 b hb
  ·exact Sl.lt (rA iL) h1 b hb
 len:=by rintro w cs x fp ⟨v0,v1,f0,f1,rfl,h0,h1,rfl⟩;rfl
 one:=by rintro w cs x fp ⟨v0,v1,f0,f1,rfl,h0,h1,rfl⟩;exact(bB rfl (bB rfl (bB rfl (bB rfl (bB (Sl.one h0) (bB rfl (bB (Sl.one h1) (bB rfl ia))))))))
structure aL where
 live:ep
 saved:ep
instance:Inhabited aL:=⟨⟨default,default⟩⟩
def LD:ER aL:=fun w cs x fp=> ∃(QM:List Value) (Nh:List Value) (QN Ni:List Nat),cs=QM++Nh∧GZ w QM x.live QN∧GZ w Nh x.saved Ni∧fp=QN++Ni
theorem Dg:gd 16 LD where
 bu:=by rintro w w' cs x fp ⟨v0,v1,f0,f1,rfl,h0,h1,rfl⟩ ha;exact⟨v0,v1,_,_,rfl,(j6.bu h0 (ha.sub fun b hb=>by simp[hb])),(j6.bu h1 (ha.sub fun b hb=>by simp[hb])),rfl⟩
 lt:=by
  rintro w cs x fp ⟨v0,v1,f0,f1,rfl,h0,h1,rfl⟩ b hb
  simp only[List.mem_append]at hb
  rcases hb with hb|hb
  ·exact j6.lt h0 b hb
  ·exact j6.lt h1 b hb
 len:=by rintro w cs x fp ⟨v0,v1,f0,f1,rfl,h0,h1,rfl⟩;simp[j6.len h0,j6.len h1]
 one:=by rintro w cs x fp ⟨v0,v1,f0,f1,rfl,h0,h1,rfl⟩;exact(tF (j6.one h0) (j6.one h1))
structure aJ where
 rows:Int
 ah:(List aO)
 af:(List aL)
 ak:gW
 az:Int
 seed:Int
 round:Int
 replaced:(List Int)
 cancelled:Int
instance:Inhabited aJ:=⟨⟨0,[],[],default,0,0,0,[],0⟩⟩
def G0:ER aJ:=fun w cs x fp=> ∃(FM:Value) (FN:Value) (FO:List Value) (Dh:Value) (FP FQ FR Di:List Nat),cs= [.int .i64 x.rows,FM,FN]++FO++ [.int .i64 x.az, .int .i64 x.seed, .int .i64 x.round,Dh, .int .i64 x.cancelled]∧Sl 5 LB w FM x.ah FP∧Sl 16 LD w FN x.af FQ∧LC w FO x.ak FR∧Sl 1 mL w Dh x.replaced Di∧fp=FP++FQ++FR++Di
theorem QO:gd 10 G0 where
 bu:=by rintro w w' cs x fp ⟨v0,v1,v2,v3,f0,f1,f2,f3,rfl,h0,h1,h2,h3,rfl⟩ ha;exact⟨v0,v1,v2,v3,_,_,_,_,rfl,(Sl.bu Df h0 (ha.sub fun b hb=>by simp[hb])),(Sl.bu Dg h1 (ha.sub fun b hb=>by simp[hb])),(tI.bu h2 (ha.sub fun b hb=>by simp[hb])),(Sl.bu tE h3 (ha.sub fun b hb=>by simp[hb])),rfl⟩
 lt:=by
  rintro w cs x fp ⟨v0,v1,v2,v3,f0,f1,f2,f3,rfl,h0,h1,h2,h3,rfl⟩ b hb
  simp only[List.mem_append]at hb
  rcases hb with((hb|hb)|hb)|hb
  ·exact Sl.lt Df h0 b hb
  ·exact Sl.lt Dg h1 b hb
  ·exact tI.lt h2 b hb
  ·exact Sl.lt tE h3 b hb
 len:=by rintro w cs x fp ⟨v0,v1,v2,v3,f0,f1,f2,f3,rfl,h0,h1,h2,h3,rfl⟩;simp[tI.len h2]
 one:=by rintro w cs x fp ⟨v0,v1,v2,v3,f0,f1,f2,f3,rfl,h0,h1,h2,h3,rfl⟩;exact(tF (tF (bB rfl (bB (Sl.one h0) (bB (Sl.one h1) ia))) (tI.one h2)) (bB rfl (bB rfl (bB rfl (bB (Sl.one h3) (bB rfl ia))))))
structure Ev where
 kind:Int
 node:Int
 value:Int
 body:(List UInt8)
instance:Inhabited Ev:=⟨⟨0,0,0,[]⟩⟩
def EEv:ER Ev:=fun w cs x fp=> ∃(Dj:Value) (Dk:List Nat),cs= [.int .i64 x.kind, .int .i64 x.node, .int .i64 x.value,Dj]∧Sl 1 Fu w Dj x.body Dk∧fp=Dk
theorem Vd:gd 4 EEv where
 bu:=by rintro w w' cs x fp ⟨v0,f0,rfl,h0,rfl⟩ ha;exact⟨v0,_,rfl,(Sl.bu iL h0 (ha.sub fun b hb=>by simp[hb])),rfl⟩
 lt:=by rintro w cs x fp ⟨v0,f0,rfl,h0,rfl⟩ b hb;exact Sl.lt iL h0 b hb
 len:=by rintro w cs x fp ⟨v0,f0,rfl,h0,rfl⟩;rfl
 one:=by rintro w cs x fp ⟨v0,f0,rfl,h0,rfl⟩;exact(bB rfl (bB rfl (bB rfl (bB (Sl.one h0) ia))))
structure vi where
 fr:Int
 to:Int
 bytes:Int
instance:Inhabited vi:=⟨⟨0,0,0⟩⟩
def QS:ER vi:=fun _ cs x fp=>cs= [.int .i64 x.fr, .int .i64 x.to, .int .i64 x.bytes]∧fp= []
theorem QT:gd 3 QS where
 bu:=fun h _=>h
 lt:=by rintro w cs x fp ⟨rfl,rfl⟩ b hb;simp at hb
 len:=by rintro w cs x fp ⟨rfl,rfl⟩;rfl
 one:=by rintro w cs x fp ⟨rfl,rfl⟩ u hu;simp at hu;rcases hu with rfl|rfl|rfl<;>rfl
structure dP where
 server:Int
 client:Int
 round:Int
 j7:Int
 Cv:Int
instance:Inhabited dP:=⟨⟨0,0,0,0,0⟩⟩
def QU:ER dP:=fun _ cs x fp=>cs= [.int .i64 x.server, .int .i64 x.client, .int .i64 x.round, .int .i64 x.j7, .int .i64 x.Cv]∧fp= []
theorem QV:gd 5 QU where
 bu:=fun h _=>h
 lt:=by rintro w cs x fp ⟨rfl,rfl⟩ b hb;simp at hb
 len:=by rintro w cs x fp ⟨rfl,rfl⟩;rfl
 one:=by rintro w cs x fp ⟨rfl,rfl⟩ u hu;simp at hu;rcases hu with rfl|rfl|rfl|rfl|rfl<;>rfl
structure Plain where
 kind:Int
 body:(List UInt8)
instance:Inhabited Plain:=⟨⟨0,[]⟩⟩
def G1:ER Plain:=fun w cs x fp=> ∃(Dj:Value) (Dk:List Nat),cs= [.int .i64 x.kind,Dj]∧Sl 1 Fu w Dj x.body Dk∧fp=Dk
theorem LF:gd 2 G1 where
 bu:=by rintro w w' cs x fp ⟨v0,f0,rfl,h0,rfl⟩ ha;exact⟨v0,_,rfl,(Sl.bu iL h0 (ha.sub fun b hb=>by simp[hb])),rfl⟩
 lt:=by rintro w cs x fp ⟨v0,f0,rfl,h0,rfl⟩ b hb;exact Sl.lt iL h0 b hb
 len:=by rintro w cs x fp ⟨v0,f0,rfl,h0,rfl⟩;rfl
 one:=by rintro w cs x fp ⟨v0,f0,rfl,h0,rfl⟩;exact(bB rfl (bB (Sl.one h0) ia))
structure bQ where
 server:Int
 round:Int
 selection:(List Int)
 data:(List UInt8)
 Cv:Int
instance:Inhabited bQ:=⟨⟨0,0,[],[],0⟩⟩
def Nj:ER bQ:=fun w cs x fp=> ∃(Bs:Value) (QW:Value) (Bt QX:List Nat),cs= [.int .i64 x.server, .int .i64 x.round,Bs,QW, .int .i64 x.Cv]∧Sl 1 mL w Bs x.selection Bt∧Sl 1 Fu w QW x.data QX∧fp=Bt++QX
theorem O7:gd 5 Nj where
 bu:=by rintro w w' cs x fp ⟨v0,v1,f0,f1,rfl,h0,h1,rfl⟩ ha;exact⟨v0,v1,_,_,rfl,(Sl.bu tE h0 (ha.sub fun b hb=>by simp[hb])),(Sl.bu iL h1 (ha.sub fun b hb=>by simp[hb])),rfl⟩
 lt:=by
  rintro w cs x fp ⟨v0,v1,f0,f1,rfl,h0,h1,rfl⟩ b hb
  simp only[List.mem_append]at hb
  rcases hb with hb|hb
  ·exact Sl.lt tE h0 b hb
  ·exact Sl.lt iL h1 b hb
 len:=by rintro w cs x fp ⟨v0,v1,f0,f1,rfl,h0,h1,rfl⟩;rfl
 one:=by rintro w cs x fp ⟨v0,v1,f0,f1,rfl,h0,h1,rfl⟩;exact(bB rfl (bB rfl (bB (Sl.one h0) (bB (Sl.one h1) (bB rfl ia)))))
end
end Go.Proofs.YteodajeiagmekaaGreat.D
