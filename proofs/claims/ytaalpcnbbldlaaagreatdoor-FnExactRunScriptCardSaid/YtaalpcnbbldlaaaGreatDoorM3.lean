/-
  Slices that the call has made, written again: an element replaced; an element's own memory written by a call.
-/
import Derived.OpenShut
import Derived.ProofKit
import Derived.Test.YtaalpcnbbldlaaaGreatDoorM2
open Go.Value renaming cells→eV,oneCell'→eJ
open List renaming append_nil→dA,eq_nil_of_length_eq_zero→cq,getElem?_drop→cK,getElem?_eq_getElem→aC,getElem?_eq_some_iff→aV,getElem?_set_ne→jY,getElem?_set_self→iq,getElem?_take→dx,length_set→cm,mem_cons→bu,mem_cons_of_mem→aT,mem_singleton→aZ,nodup_cons→cN
open Nat renaming add_mul→dr,le_refl→bq,lt_of_lt_of_le→lK,lt_or_ge→rm,mul_le_mul_right→cA,zero_le→aE
namespace Go.Proofs.YtaalpcnbbldlaaaGreatDoor.G
set_option linter.all false
open Go.RowKit L D
section
inductive Tag where
 |int|u8|str|sl(t:Tag)|DB|bJ|cu|aX|mD|gI|bR|bN|Ev|jE|iA|Plain|e9
 deriving DecidableEq
@[reducible] def T:Tag→Type
  | .int=>Int
  | .u8=>UInt8
  | .str=>List UInt8
  | .sl t=>List (T t)
  | .DB=>DB
  | .bJ=>bJ
  | .cu=>cu
  | .aX=>aX
  | .mD=>mD
  | .gI=>gI
  | .bR=>bR
  | .bN=>bN
  | .Ev=>Ev
  | .jE=>jE
  | .iA=>iA
  | .Plain=>Plain
  | .e9=>e9
def kk:Tag→Nat
 | .int=>1
 | .u8=>1
 | .str=>1
 | .sl _=>1
 | .DB=>1
 | .bJ=>2
 | .cu=>5
 | .aX=>2
 | .mD=>2
 | .gI=>8
 | .bR=>16
 | .bN=>10
 | .Ev=>4
 | .jE=>3
 | .iA=>5
 | .Plain=>2
 | .e9=>5
def rd:(t:Tag)→ER (T t)
 | .int=>aa4
 | .u8=>Wq
 | .str=>aa5
 | .sl t=>ESl (kk t) (rd t)
 | .DB=>EDB
 | .bJ=>DW
 | .cu=>abc
 | .aX=>DX
 | .mD=>abd
 | .gI=>YZ
 | .bR=>abe
 | .bN=>agi
 | .Ev=>EEv
 | .jE=>abi
 | .iA=>abk
 | .Plain=>On
 | .e9=>Wz
theorem iL:(t:Tag)→kq (kk t) (rd t)
 | .int=>zM
 | .u8=>mE
 | .str=>aa6
 | .sl t=>xg (iL t)
 | .DB=>sN
 | .bJ=>zP
 | .cu=>JY
 | .aX=>zQ
 | .mD=>zR
 | .gI=>oS
 | .bR=>JZ
 | .bN=>abh
 | .Ev=>agj
 | .jE=>abj
 | .iA=>abl
 | .Plain=>Uu
 | .e9=>Y0
theorem lC:(t:Tag)→0<kk t
 | .int=>by decide
 | .u8=>by decide
 | .str=>by decide
 | .sl _=>Nat.one_pos
 | .DB=>by decide
 | .bJ=>by decide
 | .cu=>by decide
 | .aX=>by decide
 | .mD=>by decide
 | .gI=>by decide
 | .bR=>by decide
 | .bN=>by decide
 | .Ev=>by decide
 | .jE=>by decide
 | .iA=>by decide
 | .Plain=>by decide
 | .e9=>by decide
def aR:(t:Tag)→T t
 | .int=>(0:Int)
 | .u8=>(0:UInt8)
 | .str=>([]:List UInt8)
 | .sl t=>([]:List (T t))
 | .DB=>(default:DB)
 | .bJ=>(default:bJ)
 | .cu=>(default:cu)
 | .aX=>(default:aX)
 | .mD=>(default:mD)
 | .gI=>(default:gI)
 | .bR=>(default:bR)
 | .bN=>(default:bN)
 | .Ev=>(default:Ev)
 | .jE=>(default:jE)
 | .iA=>(default:iA)
 | .Plain=>(default:Plain)
 | .e9=>(default:e9)
inductive V where
 |any
 |lit(v:Value)
 |sl(t:Tag)(l:List (T t))
 |own(n:Nat)
 |ptr(n off:Nat)
 |za(n i off:Nat)
 |ip(t:Tag)(x:T t)(off:Nat)
 |vw(n:Nat)(p:Option (Nat×Nat))(t:Tag)(l:List (T t))
 |QB(n:Nat)(p:Option (Nat×Nat×Nat))(t:Tag)(x:T t)(off:Nat)
 |QC(n:Nat)(t:Tag)(l:List (T t))
 |mix(n:Nat)(c:Bool)(t:Tag)(l:List (T t))
 |Mn(n:Nat)
 |M7(f:FuncId)(n:Nat)
 |IJ(k:Nat)
 |raw(v:Value)
 |BF(v:Value)(t:Tag)(l:List (T t))
def RI(w:World):V→Value→List Nat→Prop
 | .lit v,u,fp=>u=v∧v.oneCell'=true∧fp= []
 | .sl t l,u,fp=>Sl (kk t) (rd t) w u l fp
 |_,_,_=>False
def ep(w:World):List V→List Value→List Nat→Prop
 | [],[],fp=>fp= []
 |V::Vs,u::us,fp=> ∃f g,RI w V u f∧ep w Vs us g∧fp=f++g
 |_,_,_=>False
theorem ep.nil{w:World}:ep w [] [] []:=rfl
theorem ep.lit{w:World}{v:Value}{Vs:List V}{us:List Value}{g:List Nat}(hv:v.oneCell'=true)(h:ep w Vs us g):ep w (.lit v::Vs) (v::us) g:=⟨[],g,⟨rfl,hv,rfl⟩,h,rfl⟩
theorem ep.sl{w:World}{u:Value}{t:Tag}{l:List (T t)}{f g:List Nat}{Vs:List V}{us:List Value}(k:Sl (kk t) (rd t) w u l f)(h:ep w Vs us g):ep w (.sl t l::Vs) (u::us) (f++g):=⟨f,g,k,h,rfl⟩
theorem ep.app{w:World}: ∀{Vs Us:List V} {vs us:List Value} {f g:List Nat},ep w Vs vs f→ep w Us us g→ep w (Vs++Us) (vs++us) (f++g)
 | [],_,[],_,_,_,h,k=>by rw[show _=_ from h];exact k
 |_::_,_,_::_,_,_,_,⟨f1,f2,h1,h2,e⟩,k=>⟨f1,f2++_,h1,ep.app h2 k,by rw[e,List.append_assoc]⟩
 | [],_,_::_,_,_,_,h,_=>h.elim
 |_::_,_,[],_,_,_,h,_=>h.elim
theorem ep.len{w:World}: ∀{Vs:List V} {us:List Value} {fp:List Nat},ep w Vs us fp→us.length=Vs.length
 | [],[],_,_=>rfl
 |_::_,_::_,_,⟨_,_,_,h,_⟩=>by simp[ep.len h]
 | [],_::_,_,h=>h.elim
 |_::_,[],_,h=>h.elim
def bQ(x:DB):List V:= [.sl (.sl .u8) x.rows]
def xk(x:bJ):List V:= [.lit (.int .i64 x.client)]++bQ x.share
def dF(x:cu):List V:= [.lit (.int .i64 x.id), .lit (.int .i64 x.rows), .lit (.int .i64 x.round), .sl .bJ x.received, .lit (.int .i64 x.behavior)]
def C1(x:aX):List V:= [.lit (.int .i64 x.round)]++bQ x.db
def fK(x:mD):List V:= [.lit (.int .i64 x.rows), .sl .aX x.rounds]
def cM(x:gI):List V:= [.lit (.int .i64 x.id), .lit (.int .i64 x.fJ), .lit (.int .i64 x.key), .lit (.int .i64 x.seed), .sl (.sl .u8) x.bp, .lit (.int .i64 x.sent), .sl (.sl .u8) x.inbox, .lit (.int .i64 x.next)]
def dj(x:bR):List V:=cM x.live++cM x.saved
def bw(x:bN):List V:= [.lit (.int .i64 x.rows), .sl .cu x.aG, .sl .bR x.ah]++fK x.aK++ [.lit (.int .i64 x.ck), .lit (.int .i64 x.seed), .lit (.int .i64 x.round), .sl .int x.replaced, .lit (.int .i64 x.cancelled)]
def oT(x:Ev):List V:= [.lit (.int .i64 x.kind), .lit (.int .i64 x.node), .lit (.int .i64 x.value), .sl .u8 x.body]
def Oo(x:jE):List V:= [.lit (.int .i64 x.fr), .lit (.int .i64 x.to), .lit (.int .i64 x.bytes)]
def oU(x:iA):List V:= [.lit (.int .i64 x.server), .lit (.int .i64 x.client), .lit (.int .i64 x.round), .lit (.int .i64 x.s8), .lit (.int .i64 x.T8)]
def mH(x:Plain):List V:= [.lit (.int .i64 x.kind), .sl .u8 x.body]
def ju(x:e9):List V:= [.lit (.int .i64 x.server), .lit (.int .i64 x.round), .sl .int x.selection, .sl .u8 x.data, .lit (.int .i64 x.T8)]
def dec:(t:Tag)→T t→List V
 | .int,n=> [.lit (.int .i64 n)]
 | .u8,n=> [.lit (.int .u8 n.toNat)]
 | .str,s=> [.lit (.string ⟨s.toArray⟩)]
 | .sl t,l=> [.sl t l]
 | .DB,x=>bQ x
 | .bJ,x=>xk x
 | .cu,x=>dF x
 | .aX,x=>C1 x
 | .mD,x=>fK x
 | .gI,x=>cM x
 | .bR,x=>dj x
 | .bN,x=>bw x
 | .Ev,x=>oT x
 | .jE,x=>Oo x
 | .iA,x=>oU x
 | .Plain,x=>mH x
 | .e9,x=>ju x
theorem J5{w:World}{cs:List Value}{x:DB}{fp:List Nat}:EDB w cs x fp→ep w (bQ x) cs fp:=by
 rintro⟨v0,f0,rfl,h0,rfl⟩
 have h:=(ep.sl (t:=(.sl .u8)) h0 ep.nil)
 simpa[bQ]using h
theorem Oq{w:World}{cs:List Value}{x:bJ}{fp:List Nat}:DW w cs x fp→ep w (xk x) cs fp:=by
 rintro⟨v0,f0,rfl,h0,rfl⟩
 have h:=(ep.app (ep.lit (w:=w) (v:= .int .i64 x.client) rfl ep.nil) (J5 h0))
 simpa[xk]using h
theorem Y2{w:World}{cs:List Value}{x:cu}{fp:List Nat}:abc w cs x fp→ep w (dF x) cs fp:=by
 rintro⟨v0,f0,rfl,h0,rfl⟩
 have h:=(ep.lit (w:=w) (v:= .int .i64 x.id) rfl (ep.lit (w:=w) (v:= .int .i64 x.rows) rfl (ep.lit (w:=w) (v:= .int .i64 x.round) rfl (ep.sl (t:= .bJ) h0 (ep.lit (w:=w) (v:= .int .i64 x.behavior) rfl ep.nil)))))
 simpa[dF]using h
theorem Ot{w:World}{cs:List Value}{x:aX}{fp:List Nat}:DX w cs x fp→ep w (C1 x) cs fp:=by
 rintro⟨v0,f0,rfl,h0,rfl⟩
 have h:=(ep.app (ep.lit (w:=w) (v:= .int .i64 x.round) rfl ep.nil) (J5 h0))
 simpa[C1]using h
theorem M8{w:World}{cs:List Value}{x:mD}{fp:List Nat}:abd w cs x fp→ep w (fK x) cs fp:=by
 rintro⟨v0,f0,rfl,h0,rfl⟩
 have h:=(ep.lit (w:=w) (v:= .int .i64 x.rows) rfl (ep.sl (t:= .aX) h0 ep.nil))
 simpa[fK]using h
theorem Gb{w:World}{cs:List Value}{x:gI}{fp:List Nat}:YZ w cs x fp→ep w (cM x) cs fp:=by
 rintro⟨v0,v1,f0,f1,rfl,h0,h1,rfl⟩
 have h:=(ep.lit (w:=w) (v:= .int .i64 x.id) rfl (ep.lit (w:=w) (v:= .int .i64 x.fJ) rfl (ep.lit (w:=w) (v:= .int .i64 x.key) rfl (ep.lit (w:=w) (v:= .int .i64 x.seed) rfl (ep.sl (t:=(.sl .u8)) h0 (ep.lit (w:=w) (v:= .int .i64 x.sent) rfl (ep.sl (t:=(.sl .u8)) h1 (ep.lit (w:=w) (v:= .int .i64 x.next) rfl ep.nil))))))))
 simpa[cM]using h
theorem Y3{w:World}{cs:List Value}{x:bR}{fp:List Nat}:abe w cs x fp→ep w (dj x) cs fp:=by
 rintro⟨v0,v1,f0,f1,rfl,h0,h1,rfl⟩
 have h:=(ep.app (Gb h0) (Gb h1))
 simpa[dj]using h
theorem Y4{w:World}{cs:List Value}{x:bN}{fp:List Nat}:agi w cs x fp→ep w (bw x) cs fp:=by
 rintro⟨v0,v1,v2,v3,f0,f1,f2,f3,rfl,h0,h1,h2,h3,rfl⟩
 have h:=(ep.app (ep.app (ep.lit (w:=w) (v:= .int .i64 x.rows) rfl (ep.sl (t:= .cu) h0 (ep.sl (t:= .bR) h1 ep.nil))) (M8 h2)) (ep.lit (w:=w) (v:= .int .i64 x.ck) rfl (ep.lit (w:=w) (v:= .int .i64 x.seed) rfl (ep.lit (w:=w) (v:= .int .i64 x.round) rfl (ep.sl (t:= .int) h3 (ep.lit (w:=w) (v:= .int .i64 x.cancelled) rfl ep.nil))))))
 simpa[bw]using h
theorem abq{w:World}{cs:List Value}{x:Ev}{fp:List Nat}:EEv w cs x fp→ep w (oT x) cs fp:=by
 rintro⟨v0,f0,rfl,h0,rfl⟩
 have h:=(ep.lit (w:=w) (v:= .int .i64 x.kind) rfl (ep.lit (w:=w) (v:= .int .i64 x.node) rfl (ep.lit (w:=w) (v:= .int .i64 x.value) rfl (ep.sl (t:= .u8) h0 ep.nil))))
 simpa[oT]using h
theorem Y5{w:World}{cs:List Value}{x:jE}{fp:List Nat}:abi w cs x fp→ep w (Oo x) cs fp:=by
 rintro⟨rfl,rfl⟩
 have h:=(ep.lit (w:=w) (v:= .int .i64 x.fr) rfl (ep.lit (w:=w) (v:= .int .i64 x.to) rfl (ep.lit (w:=w) (v:= .int .i64 x.bytes) rfl ep.nil)))
 simpa[Oo]using h
theorem Y6{w:World}{cs:List Value}{x:iA}{fp:List Nat}:abk w cs x fp→ep w (oU x) cs fp:=by
 rintro⟨rfl,rfl⟩
 have h:=(ep.lit (w:=w) (v:= .int .i64 x.server) rfl (ep.lit (w:=w) (v:= .int .i64 x.client) rfl (ep.lit (w:=w) (v:= .int .i64 x.round) rfl (ep.lit (w:=w) (v:= .int .i64 x.s8) rfl (ep.lit (w:=w) (v:= .int .i64 x.T8) rfl ep.nil)))))
 simpa[oU]using h
theorem QW{w:World}{cs:List Value}{x:Plain}{fp:List Nat}:On w cs x fp→ep w (mH x) cs fp:=by
 rintro⟨v0,f0,rfl,h0,rfl⟩
 have h:=(ep.lit (w:=w) (v:= .int .i64 x.kind) rfl (ep.sl (t:= .u8) h0 ep.nil))
 simpa[mH]using h
theorem Uw{w:World}{cs:List Value}{x:e9}{fp:List Nat}:Wz w cs x fp→ep w (ju x) cs fp:=by
 rintro⟨v0,v1,f0,f1,rfl,h0,h1,rfl⟩
 have h:=(ep.lit (w:=w) (v:= .int .i64 x.server) rfl (ep.lit (w:=w) (v:= .int .i64 x.round) rfl (ep.sl (t:= .int) h0 (ep.sl (t:= .u8) h1 (ep.lit (w:=w) (v:= .int .i64 x.T8) rfl ep.nil)))))
 simpa[ju]using h
theorem reads{w:World}:(t:Tag)→{cs:List Value}→{x:T t}→{fp:List Nat}→rd t w cs x fp→ep w (dec t x) cs fp
 | .int,_,_,_,⟨rfl,rfl⟩=>ep.lit (v:= .int .i64 _) rfl ep.nil
 | .u8,_,_,_,⟨rfl,rfl⟩=>ep.lit (v:= .int .u8 _) rfl ep.nil
 | .str,_,_,_,⟨rfl,_,rfl⟩=>ep.lit (v:= .string _) rfl ep.nil
 | .sl t,_,_,_,⟨v,rfl,h⟩=>by have:=ep.sl (t:=t) h (ep.nil);rwa [dA]at this
 | .DB,_,_,_,h=>J5 h
 | .bJ,_,_,_,h=>Oq h
 | .cu,_,_,_,h=>Y2 h
 | .aX,_,_,_,h=>Ot h
 | .mD,_,_,_,h=>M8 h
 | .gI,_,_,_,h=>Gb h
 | .bR,_,_,_,h=>Y3 h
 | .bN,_,_,_,h=>Y4 h
 | .Ev,_,_,_,h=>abq h
 | .jE,_,_,_,h=>Y5 h
 | .iA,_,_,_,h=>Y6 h
 | .Plain,_,_,_,h=>QW h
 | .e9,_,_,_,h=>Uw h
end
section
def oF:(t t':Tag)→List (T t')→Option (List (T t))
 | .int, .int,l=>some l
 | .u8, .u8,l=>some l
 | .str, .str,l=>some l
 | .sl .int, .sl .int,l=>some l
 | .sl .u8, .sl .u8,l=>some l
 | .sl .str, .sl .str,l=>some l
 | .sl (.sl .u8), .sl (.sl .u8),l=>some l
 | .sl (.sl .int), .sl (.sl .int),l=>some l
 | .DB, .DB,l=>some l
 | .bJ, .bJ,l=>some l
 | .cu, .cu,l=>some l
 | .aX, .aX,l=>some l
 | .mD, .mD,l=>some l
 | .gI, .gI,l=>some l
 | .bR, .bR,l=>some l
 | .bN, .bN,l=>some l
 | .Ev, .Ev,l=>some l
 | .jE, .jE,l=>some l
 | .iA, .iA,l=>some l
 | .Plain, .Plain,l=>some l
 | .e9, .e9,l=>some l
 |_,_,_=>none
theorem iM{t t':Tag}{l:List (T t')}{l2:List (T t)}(h:oF t t' l=some l2): ∃e:t'=t,l2=e▸l:=by
 unfold oF at h
 split at h<;>first
  | (simp only[oI]at h;exact⟨rfl,h.symm⟩)
  |cases h
def gi:V→Option Int
 | .lit (.int .i64 n)=>some n
 |_=>none
def gs(t:Tag):V→Option (List (T t))
 | .sl t' l=>oF t t' l
 | .lit (.slice none 0 0)=>some []
 |_=>none
theorem iS{w:World}{v:V}{u:Value}{f:List Nat}{n:Int}(h:gi v=some n)(hr:RI w v u f):u= .int .i64 n∧f= []:=by
 unfold gi at h
 split at h
 ·simp only[oI]at h
  subst h
  exact⟨hr.1,hr.2.2⟩
 ·cases h
theorem vS{w:World}{t:Tag}{v:V}{u:Value}{f:List Nat}{l:List (T t)}(h:gs t v=some l)(hr:RI w v u f):Sl (kk t) (rd t) w u l f:=by
 unfold gs at h
 split at h
 ·rename_i t' l'
  obtain⟨he,rfl⟩:=iM h
  subst he
  exact hr
 ·simp only[oI]at h
  subst h
  obtain⟨rfl,_,rfl⟩:=hr
  exact⟨none,0,rfl,bq _,aE _,Or.inl ⟨rfl,rfl,rfl⟩⟩
 ·cases h
def Gc:List V→Option DB
 | [a0]=>match gs (.sl .u8) a0 with
   |some x0=>some ⟨x0⟩
   |_=>none
 |_=>none
theorem BG{w:World}{c:List V}{us:List Value}{fp:List Nat}{x:DB}(h:Gc c=some x)(hr:ep w c us fp):EDB w us x fp:=by
 unfold Gc at h
 split at h
 ·rename_i a0
  split at h
  ·rename_i x0 e0
   simp only[oI]at h
   subst h
   match us,hr with
   | [u0],⟨f0,g0,r0,h9,q0⟩=>
     have h9:g0= []:=h9
     have z0:=vS e0 r0
     refine⟨u0,f0,?_,z0,?_⟩
     ·rfl
     ·simp[q0,h9]
  ·cases h
 ·cases h
def xl:List V→Option bJ
 | [a0,a1]=>match gi a0,Gc [a1]with
   |some x0,some x1=>some ⟨x0,x1⟩
   |_,_=>none
 |_=>none
theorem CG{w:World}{c:List V}{us:List Value}{fp:List Nat}{x:bJ}(h:xl c=some x)(hr:ep w c us fp):DW w us x fp:=by
 unfold xl at h
 split at h
 ·rename_i a0 a1
  split at h
  ·rename_i x0 x1 e0 e1
   simp only[oI]at h
   subst h
   match us,hr with
   | [u0,u1],⟨f0,g0,r0,⟨f1,g1,r1,h9,q1⟩,q0⟩=>
     have h9:g1= []:=h9
     obtain⟨z0,y0⟩:=iS e0 r0
     have z1:=BG (w:=w) (us:= [u1]) (fp:=(f1++ [])) e1 ⟨f1,_,r1,rfl,rfl⟩
     refine⟨[u1],(f1++ []),?_,z1,?_⟩
     ·simp[z0]
     ·simp[q0,q1,h9,y0]
  ·cases h
 ·cases h
def Jo:List V→Option cu
 | [a0,a1,a2,a3,a4]=>match gi a0,gi a1,gi a2,gs .bJ a3,gi a4 with
   |some x0,some x1,some x2,some x3,some x4=>some ⟨x0,x1,x2,x3,x4⟩
   |_,_,_,_,_=>none
 |_=>none
theorem J6{w:World}{c:List V}{us:List Value}{fp:List Nat}{x:cu}(h:Jo c=some x)(hr:ep w c us fp):abc w us x fp:=by
 unfold Jo at h
 split at h
 ·rename_i a0 a1 a2 a3 a4
  split at h
  ·rename_i x0 x1 x2 x3 x4 e0 e1 e2 e3 e4
   simp only[oI]at h
   subst h
   match us,hr with
   | [u0,u1,u2,u3,u4],⟨f0,g0,r0,⟨f1,g1,r1,⟨f2,g2,r2,⟨f3,g3,r3,⟨f4,g4,r4,h9,q4⟩,q3⟩,q2⟩,q1⟩,q0⟩=>
     have h9:g4= []:=h9
     obtain⟨z0,y0⟩:=iS e0 r0
     obtain⟨z1,y1⟩:=iS e1 r1
     obtain⟨z2,y2⟩:=iS e2 r2
     have z3:=vS e3 r3
     obtain⟨z4,y4⟩:=iS e4 r4
     refine⟨u3,f3,?_,z3,?_⟩
     ·simp[z0,z1,z2,z4]
     ·simp[q0,q1,q2,q3,q4,h9,y0,y1,y2,y4]
  ·cases h
 ·cases h
def xm:List V→Option aX
 | [a0,a1]=>match gi a0,Gc [a1]with
   |some x0,some x1=>some ⟨x0,x1⟩
   |_,_=>none
 |_=>none
theorem CH{w:World}{c:List V}{us:List Value}{fp:List Nat}{x:aX}(h:xm c=some x)(hr:ep w c us fp):DX w us x fp:=by
 unfold xm at h
 split at h
 ·rename_i a0 a1
  split at h
  ·rename_i x0 x1 e0 e1
   simp only[oI]at h
   subst h
   match us,hr with
   | [u0,u1],⟨f0,g0,r0,⟨f1,g1,r1,h9,q1⟩,q0⟩=>
     have h9:g1= []:=h9
     obtain⟨z0,y0⟩:=iS e0 r0
     have z1:=BG (w:=w) (us:= [u1]) (fp:=(f1++ [])) e1 ⟨f1,_,r1,rfl,rfl⟩
     refine⟨[u1],(f1++ []),?_,z1,?_⟩
     ·simp[z0]
     ·simp[q0,q1,h9,y0]
  ·cases h
 ·cases h
def DY:List V→Option mD
 | [a0,a1]=>match gi a0,gs .aX a1 with
   |some x0,some x1=>some ⟨x0,x1⟩
   |_,_=>none
 |_=>none
theorem C2{w:World}{c:List V}{us:List Value}{fp:List Nat}{x:mD}(h:DY c=some x)(hr:ep w c us fp):abd w us x fp:=by
 unfold DY at h
 split at h
 ·rename_i a0 a1
  split at h
  ·rename_i x0 x1 e0 e1
   simp only[oI]at h
   subst h
   match us,hr with
   | [u0,u1],⟨f0,g0,r0,⟨f1,g1,r1,h9,q1⟩,q0⟩=>
     have h9:g1= []:=h9
     obtain⟨z0,y0⟩:=iS e0 r0
     have z1:=vS e1 r1
     refine⟨u1,f1,?_,z1,?_⟩
     ·simp[z0]
     ·simp[q0,q1,h9,y0]
  ·cases h
 ·cases h
def BH:List V→Option gI
 | [a0,a1,a2,a3,a4,a5,a6,a7]=>match gi a0,gi a1,gi a2,gi a3,gs (.sl .u8) a4,gi a5,gs (.sl .u8) a6,gi a7 with
   |some x0,some x1,some x2,some x3,some x4,some x5,some x6,some x7=>some ⟨x0,x1,x2,x3,x4,x5,x6,x7⟩
   |_,_,_,_,_,_,_,_=>none
 |_=>none
theorem xp{w:World}{c:List V}{us:List Value}{fp:List Nat}{x:gI}(h:BH c=some x)(hr:ep w c us fp):YZ w us x fp:=by
 unfold BH at h
 split at h
 ·rename_i a0 a1 a2 a3 a4 a5 a6 a7
  split at h
  ·rename_i x0 x1 x2 x3 x4 x5 x6 x7 e0 e1 e2 e3 e4 e5 e6 e7
   simp only[oI]at h
   subst h
   match us,hr with
   | [u0,u1,u2,u3,u4,u5,u6,u7],⟨f0,g0,r0,⟨f1,g1,r1,⟨f2,g2,r2,⟨f3,g3,r3,⟨f4,g4,r4,⟨f5,g5,r5,⟨f6,g6,r6,⟨f7,g7,r7,h9,q7⟩,q6⟩,q5⟩,q4⟩,q3⟩,q2⟩,q1⟩,q0⟩=>
     have h9:g7= []:=h9
     obtain⟨z0,y0⟩:=iS e0 r0
     obtain⟨z1,y1⟩:=iS e1 r1
     obtain⟨z2,y2⟩:=iS e2 r2
     obtain⟨z3,y3⟩:=iS e3 r3
     have z4:=vS e4 r4
     obtain⟨z5,y5⟩:=iS e5 r5
     have z6:=vS e6 r6
     obtain⟨z7,y7⟩:=iS e7 r7
     refine⟨u4,u6,f4,f6,?_,z4,z6,?_⟩
     ·simp[z0,z1,z2,z3,z5,z7]
     ·simp[q0,q1,q2,q3,q4,q5,q6,q7,h9,y0,y1,y2,y3,y5,y7]
  ·cases h
 ·cases h
def Jp:List V→Option bR
 | [a0,a1,a2,a3,a4,a5,a6,a7,a8,a9,a10,a11,a12,a13,a14,a15]=>match BH [a0,a1,a2,a3,a4,a5,a6,a7],BH [a8,a9,a10,a11,a12,a13,a14,a15]with
   |some x0,some x8=>some ⟨x0,x8⟩
   |_,_=>none
 |_=>none
theorem J7{w:World}{c:List V}{us:List Value}{fp:List Nat}{x:bR}(h:Jp c=some x)(hr:ep w c us fp):abe w us x fp:=by
 unfold Jp at h
 split at h
 ·rename_i a0 a1 a2 a3 a4 a5 a6 a7 a8 a9 a10 a11 a12 a13 a14 a15
  split at h
  ·rename_i x0 x8 e0 e1
   simp only[oI]at h
   subst h
   match us,hr with
   | [u0,u1,u2,u3,u4,u5,u6,u7,u8,u9,u10,u11,u12,u13,u14,u15],⟨f0,g0,r0,⟨f1,g1,r1,⟨f2,g2,r2,⟨f3,g3,r3,⟨f4,g4,r4,⟨f5,g5,r5,⟨f6,g6,r6,⟨f7,g7,r7,⟨f8,g8,r8,⟨f9,g9,r9,⟨f10,g10,r10,⟨f11,g11,r11,⟨f12,g12,r12,⟨f13,g13,r13,⟨f14,g14,r14,⟨f15,g15,r15,h9,q15⟩,q14⟩,q13⟩,q12⟩,q11⟩,q10⟩,q9⟩,q8⟩,q7⟩,q6⟩,q5⟩,q4⟩,q3⟩,q2⟩,q1⟩,q0⟩=>
     have h9:g15= []:=h9
     have z0:=xp (w:=w) (us:= [u0,u1,u2,u3,u4,u5,u6,u7]) (fp:=(f0++(f1++(f2++(f3++(f4++(f5++(f6++(f7++ []))))))))) e0 ⟨f0,_,r0,⟨f1,_,r1,⟨f2,_,r2,⟨f3,_,r3,⟨f4,_,r4,⟨f5,_,r5,⟨f6,_,r6,⟨f7,_,r7,rfl,rfl⟩,rfl⟩,rfl⟩,rfl⟩,rfl⟩,rfl⟩,rfl⟩,rfl⟩
     have z8:=xp (w:=w) (us:= [u8,u9,u10,u11,u12,u13,u14,u15]) (fp:=(f8++(f9++(f10++(f11++(f12++(f13++(f14++(f15++ []))))))))) e1 ⟨f8,_,r8,⟨f9,_,r9,⟨f10,_,r10,⟨f11,_,r11,⟨f12,_,r12,⟨f13,_,r13,⟨f14,_,r14,⟨f15,_,r15,rfl,rfl⟩,rfl⟩,rfl⟩,rfl⟩,rfl⟩,rfl⟩,rfl⟩,rfl⟩
     refine⟨[u0,u1,u2,u3,u4,u5,u6,u7],[u8,u9,u10,u11,u12,u13,u14,u15],(f0++(f1++(f2++(f3++(f4++(f5++(f6++(f7++ [])))))))),(f8++(f9++(f10++(f11++(f12++(f13++(f14++(f15++ [])))))))),?_,z0,z8,?_⟩
     ·rfl
     ·simp[q0,q1,q2,q3,q4,q5,q6,q7,q8,q9,q10,q11,q12,q13,q14,q15,h9]
  ·cases h
 ·cases h
def Jq:List V→Option bN
 | [a0,a1,a2,a3,a4,a5,a6,a7,a8,a9]=>match gi a0,gs .cu a1,gs .bR a2,DY [a3,a4],gi a5,gi a6,gi a7,gs .int a8,gi a9 with
   |some x0,some x1,some x2,some x3,some x5,some x6,some x7,some x8,some x9=>some ⟨x0,x1,x2,x3,x5,x6,x7,x8,x9⟩
   |_,_,_,_,_,_,_,_,_=>none
 |_=>none
theorem J8{w:World}{c:List V}{us:List Value}{fp:List Nat}{x:bN}(h:Jq c=some x)(hr:ep w c us fp):agi w us x fp:=by
 unfold Jq at h
 split at h
 ·rename_i a0 a1 a2 a3 a4 a5 a6 a7 a8 a9
  split at h
  ·rename_i x0 x1 x2 x3 x5 x6 x7 x8 x9 e0 e1 e2 e3 e4 e5 e6 e7 e8
   simp only[oI]at h
   subst h
   match us,hr with
   | [u0,u1,u2,u3,u4,u5,u6,u7,u8,u9],⟨f0,g0,r0,⟨f1,g1,r1,⟨f2,g2,r2,⟨f3,g3,r3,⟨f4,g4,r4,⟨f5,g5,r5,⟨f6,g6,r6,⟨f7,g7,r7,⟨f8,g8,r8,⟨f9,g9,r9,h9,q9⟩,q8⟩,q7⟩,q6⟩,q5⟩,q4⟩,q3⟩,q2⟩,q1⟩,q0⟩=>
     have h9:g9= []:=h9
     obtain⟨z0,y0⟩:=iS e0 r0
     have z1:=vS e1 r1
     have z2:=vS e2 r2
     have z3:=C2 (w:=w) (us:= [u3,u4]) (fp:=(f3++(f4++ []))) e3 ⟨f3,_,r3,⟨f4,_,r4,rfl,rfl⟩,rfl⟩
     obtain⟨z5,y5⟩:=iS e4 r5
     obtain⟨z6,y6⟩:=iS e5 r6
     obtain⟨z7,y7⟩:=iS e6 r7
     have z8:=vS e7 r8
     obtain⟨z9,y9⟩:=iS e8 r9
     refine⟨u1,u2,[u3,u4],u8,f1,f2,(f3++(f4++ [])),f8,?_,z1,z2,z3,z8,?_⟩
     ·simp[z0,z5,z6,z7,z9]
     ·simp[q0,q1,q2,q3,q4,q5,q6,q7,q8,q9,h9,y0,y5,y6,y7,y9]
  ·cases h
 ·cases h
def Ou:List V→Option Ev
 | [a0,a1,a2,a3]=>match gi a0,gi a1,gi a2,gs .u8 a3 with
   |some x0,some x1,some x2,some x3=>some ⟨x0,x1,x2,x3⟩
   |_,_,_,_=>none
 |_=>none
theorem M9{w:World}{c:List V}{us:List Value}{fp:List Nat}{x:Ev}(h:Ou c=some x)(hr:ep w c us fp):EEv w us x fp:=by
 unfold Ou at h
 split at h
 ·rename_i a0 a1 a2 a3
  split at h
  ·rename_i x0 x1 x2 x3 e0 e1 e2 e3
   simp only[oI]at h
   subst h
   match us,hr with
   | [u0,u1,u2,u3],⟨f0,g0,r0,⟨f1,g1,r1,⟨f2,g2,r2,⟨f3,g3,r3,h9,q3⟩,q2⟩,q1⟩,q0⟩=>
     have h9:g3= []:=h9
     obtain⟨z0,y0⟩:=iS e0 r0
     obtain⟨z1,y1⟩:=iS e1 r1
     obtain⟨z2,y2⟩:=iS e2 r2
     have z3:=vS e3 r3
     refine⟨u3,f3,?_,z3,?_⟩
     ·simp[z0,z1,z2]
     ·simp[q0,q1,q2,q3,h9,y0,y1,y2]
  ·cases h
 ·cases h
def Jr:List V→Option jE
 | [a0,a1,a2]=>match gi a0,gi a1,gi a2 with
   |some x0,some x1,some x2=>some ⟨x0,x1,x2⟩
   |_,_,_=>none
 |_=>none
theorem J9{w:World}{c:List V}{us:List Value}{fp:List Nat}{x:jE}(h:Jr c=some x)(hr:ep w c us fp):abi w us x fp:=by
 unfold Jr at h
 split at h
 ·rename_i a0 a1 a2
  split at h
  ·rename_i x0 x1 x2 e0 e1 e2
   simp only[oI]at h
   subst h
   match us,hr with
   | [u0,u1,u2],⟨f0,g0,r0,⟨f1,g1,r1,⟨f2,g2,r2,h9,q2⟩,q1⟩,q0⟩=>
     have h9:g2= []:=h9
     obtain⟨z0,y0⟩:=iS e0 r0
     obtain⟨z1,y1⟩:=iS e1 r1
     obtain⟨z2,y2⟩:=iS e2 r2
     refine⟨?_,?_⟩
     ·simp[z0,z1,z2]
     ·simp[q0,q1,q2,h9,y0,y1,y2]
  ·cases h
 ·cases h
def Js:List V→Option iA
 | [a0,a1,a2,a3,a4]=>match gi a0,gi a1,gi a2,gi a3,gi a4 with
   |some x0,some x1,some x2,some x3,some x4=>some ⟨x0,x1,x2,x3,x4⟩
   |_,_,_,_,_=>none
 |_=>none
theorem Ka{w:World}{c:List V}{us:List Value}{fp:List Nat}{x:iA}(h:Js c=some x)(hr:ep w c us fp):abk w us x fp:=by
 unfold Js at h
 split at h
 ·rename_i a0 a1 a2 a3 a4
  split at h
  ·rename_i x0 x1 x2 x3 x4 e0 e1 e2 e3 e4
   simp only[oI]at h
   subst h
   match us,hr with
   | [u0,u1,u2,u3,u4],⟨f0,g0,r0,⟨f1,g1,r1,⟨f2,g2,r2,⟨f3,g3,r3,⟨f4,g4,r4,h9,q4⟩,q3⟩,q2⟩,q1⟩,q0⟩=>
     have h9:g4= []:=h9
     obtain⟨z0,y0⟩:=iS e0 r0
     obtain⟨z1,y1⟩:=iS e1 r1
     obtain⟨z2,y2⟩:=iS e2 r2
     obtain⟨z3,y3⟩:=iS e3 r3
     obtain⟨z4,y4⟩:=iS e4 r4
     refine⟨?_,?_⟩
     ·simp[z0,z1,z2,z3,z4]
     ·simp[q0,q1,q2,q3,q4,h9,y0,y1,y2,y3,y4]
  ·cases h
 ·cases h
def BI:List V→Option Plain
 | [a0,a1]=>match gi a0,gs .u8 a1 with
   |some x0,some x1=>some ⟨x0,x1⟩
   |_,_=>none
 |_=>none
theorem DZ{w:World}{c:List V}{us:List Value}{fp:List Nat}{x:Plain}(h:BI c=some x)(hr:ep w c us fp):On w us x fp:=by
 unfold BI at h
 split at h
 ·rename_i a0 a1
  split at h
  ·rename_i x0 x1 e0 e1
   simp only[oI]at h
   subst h
   match us,hr with
   | [u0,u1],⟨f0,g0,r0,⟨f1,g1,r1,h9,q1⟩,q0⟩=>
     have h9:g1= []:=h9
     obtain⟨z0,y0⟩:=iS e0 r0
     have z1:=vS e1 r1
     refine⟨u1,f1,?_,z1,?_⟩
     ·simp[z0]
     ·simp[q0,q1,h9,y0]
  ·cases h
 ·cases h
def D0:List V→Option e9
 | [a0,a1,a2,a3,a4]=>match gi a0,gi a1,gs .int a2,gs .u8 a3,gi a4 with
   |some x0,some x1,some x2,some x3,some x4=>some ⟨x0,x1,x2,x3,x4⟩
   |_,_,_,_,_=>none
 |_=>none
theorem HZ{w:World}{c:List V}{us:List Value}{fp:List Nat}{x:e9}(h:D0 c=some x)(hr:ep w c us fp):Wz w us x fp:=by
 unfold D0 at h
 split at h
 ·rename_i a0 a1 a2 a3 a4
  split at h
  ·rename_i x0 x1 x2 x3 x4 e0 e1 e2 e3 e4
   simp only[oI]at h
   subst h
   match us,hr with
   | [u0,u1,u2,u3,u4],⟨f0,g0,r0,⟨f1,g1,r1,⟨f2,g2,r2,⟨f3,g3,r3,⟨f4,g4,r4,h9,q4⟩,q3⟩,q2⟩,q1⟩,q0⟩=>
     have h9:g4= []:=h9
     obtain⟨z0,y0⟩:=iS e0 r0
     obtain⟨z1,y1⟩:=iS e1 r1
     have z2:=vS e2 r2
     have z3:=vS e3 r3
     obtain⟨z4,y4⟩:=iS e4 r4
     refine⟨u2,u3,f2,f3,?_,z2,z3,?_⟩
     ·simp[z0,z1,z4]
     ·simp[q0,q1,q2,q3,q4,h9,y0,y1,y4]
  ·cases h
 ·cases h
def Ov:List V→Option (List Prop×Int)
 | [v]=>match gi v with|some n=>some ([],n)|none=>none
 |_=>none
def Ux:List V→Option (List Prop×UInt8)
 | [.lit (.int .u8 n)]=>some ([0≤n∧n<256],UInt8.ofNat n.toNat)
 |_=>none
def Ox:List V→Option (List Prop×List UInt8)
 | [.lit (.string s)]=>some ([s.size≤maxLen],s.data.toList)
 |_=>none
def Uy(t:Tag):List V→Option (List Prop×List (T t))
 | [v]=>match gs t v with|some l=>some ([],l)|none=>none
 |_=>none
def p8{α:Type}:Option α→Option (List Prop×α)
 |some x=>some ([],x)
 |none=>none
theorem jo{α:Type}{o:Option α}{vc:List Prop}{x:α}(h:p8 o=some (vc,x)):o=some x:=by
 cases o with
 |none=>cases h
 |some y=>simp only[p8,oI,pI]at h;rw[h.2]
def enc:(t:Tag)→List V→Option (List Prop×T t)
 | .int,c=>Ov c
 | .u8,c=>Ux c
 | .str,c=>Ox c
 | .sl t,c=>Uy t c
 | .DB,c=>p8 (Gc c)
 | .bJ,c=>p8 (xl c)
 | .cu,c=>p8 (Jo c)
 | .aX,c=>p8 (xm c)
 | .mD,c=>p8 (DY c)
 | .gI,c=>p8 (BH c)
 | .bR,c=>p8 (Jp c)
 | .bN,c=>p8 (Jq c)
 | .Ev,c=>p8 (Ou c)
 | .jE,c=>p8 (Jr c)
 | .iA,c=>p8 (Js c)
 | .Plain,c=>p8 (BI c)
 | .e9,c=>p8 (D0 c)
theorem zS{w:World}:(t:Tag)→{c:List V}→{us:List Value}→{fp:List Nat}→{vc:List Prop}→{x:T t}→enc t c=some (vc,x)→(∀q,q∈vc→q)→ep w c us fp→rd t w us x fp
 | .int,c,us,fp,vc,x,h,hv,hr=>by
   have h:Ov c=some (vc,x):=h
   unfold Ov at h
   split at h<;>first| (cases h;done)|skip
   ·split at h
    ·rename_i v _ n e
     simp only[oI,pI]at h
     obtain⟨rfl,rfl⟩:=h
     match us,hr with
     | [u],⟨f,g,r,h9,q⟩=>
       obtain⟨z,y⟩:=iS e r
       have h9:g= []:=h9
       exact⟨by rw[z],by simp[q,y,h9]⟩
    ·cases h
 | .u8,c,us,fp,vc,x,h,hv,hr=>by
   have h:Ux c=some (vc,x):=h
   unfold Ux at h
   split at h<;>first| (cases h;done)|skip
   ·rename_i n _
    simp only[oI,pI]at h
    obtain⟨rfl,rfl⟩:=h
    obtain⟨h0,h1⟩:=hv _ (aZ.2 rfl)
    match us,hr with
    | [u],⟨f,g,r,h9,q⟩=>
      have h9:g= []:=h9
      obtain⟨rfl,_,rfl⟩:=r
      refine⟨?_,by simp[q,h9]⟩
      have:((UInt8.ofNat n.toNat).toNat:Int)=n:=by rw[UInt8.toNat_ofNat'];omega
      rw[this]
 | .str,c,us,fp,vc,x,h,hv,hr=>by
   have h:Ox c=some (vc,x):=h
   unfold Ox at h
   split at h<;>first| (cases h;done)|skip
   ·rename_i s _
    simp only[oI,pI]at h
    obtain⟨rfl,rfl⟩:=h
    have h0:=hv _ (aZ.2 rfl)
    match us,hr with
    | [u],⟨f,g,r,h9,q⟩=>
      have h9:g= []:=h9
      obtain⟨rfl,_,rfl⟩:=r
      exact⟨rfl,h0,by simp[q,h9]⟩
 | .sl t,c,us,fp,vc,x,h,hv,hr=>by
   have h:Uy t c=some (vc,x):=h
   unfold Uy at h
   split at h<;>first| (cases h;done)|skip
   ·split at h
    ·rename_i v _ l e
     simp only[oI,pI]at h
     obtain⟨rfl,rfl⟩:=h
     match us,hr with
     | [u],⟨f,g,r,h9,q⟩=>
       have h9:g= []:=h9
       refine⟨u,rfl,?_⟩
       have:=vS e r
       rw[q,h9,dA];exact this
    ·cases h
 | .DB,c,us,fp,vc,x,h,hv,hr=>by
   exact BG (jo (show p8 (Gc c)=_ from h)) hr
 | .bJ,c,us,fp,vc,x,h,hv,hr=>by
   exact CG (jo (show p8 (xl c)=_ from h)) hr
 | .cu,c,us,fp,vc,x,h,hv,hr=>by
   exact J6 (jo (show p8 (Jo c)=_ from h)) hr
 | .aX,c,us,fp,vc,x,h,hv,hr=>by
   exact CH (jo (show p8 (xm c)=_ from h)) hr
 | .mD,c,us,fp,vc,x,h,hv,hr=>by
   exact C2 (jo (show p8 (DY c)=_ from h)) hr
 | .gI,c,us,fp,vc,x,h,hv,hr=>by
   exact xp (jo (show p8 (BH c)=_ from h)) hr
 | .bR,c,us,fp,vc,x,h,hv,hr=>by
   exact J7 (jo (show p8 (Jp c)=_ from h)) hr
 | .bN,c,us,fp,vc,x,h,hv,hr=>by
   exact J8 (jo (show p8 (Jq c)=_ from h)) hr
 | .Ev,c,us,fp,vc,x,h,hv,hr=>by
   exact M9 (jo (show p8 (Ou c)=_ from h)) hr
 | .jE,c,us,fp,vc,x,h,hv,hr=>by
   exact J9 (jo (show p8 (Jr c)=_ from h)) hr
 | .iA,c,us,fp,vc,x,h,hv,hr=>by
   exact Ka (jo (show p8 (Js c)=_ from h)) hr
 | .Plain,c,us,fp,vc,x,h,hv,hr=>by
   exact DZ (jo (show p8 (BI c)=_ from h)) hr
 | .e9,c,us,fp,vc,x,h,hv,hr=>by
   exact HZ (jo (show p8 (D0 c)=_ from h)) hr
def jv:Tag→Value
 | .int=> .int .i64 0
 | .u8=> .int .u8 0
 | .str=> .string ⟨#[]⟩
 | .sl _=> .slice none 0 0
 | .DB=> .agg #[.slice none 0 0]
 | .bJ=> .agg #[.int .i64 0, .slice none 0 0]
 | .cu=> .agg #[.int .i64 0, .int .i64 0, .int .i64 0, .slice none 0 0, .int .i64 0]
 | .aX=> .agg #[.int .i64 0, .slice none 0 0]
 | .mD=> .agg #[.int .i64 0, .slice none 0 0]
 | .gI=> .agg #[.int .i64 0, .int .i64 0, .int .i64 0, .int .i64 0, .slice none 0 0, .int .i64 0, .slice none 0 0, .int .i64 0]
 | .bR=> .agg #[.int .i64 0, .int .i64 0, .int .i64 0, .int .i64 0, .slice none 0 0, .int .i64 0, .slice none 0 0, .int .i64 0, .int .i64 0, .int .i64 0, .int .i64 0, .int .i64 0, .slice none 0 0, .int .i64 0, .slice none 0 0, .int .i64 0]
 | .bN=> .agg #[.int .i64 0, .slice none 0 0, .slice none 0 0, .int .i64 0, .slice none 0 0, .int .i64 0, .int .i64 0, .int .i64 0, .slice none 0 0, .int .i64 0]
 | .Ev=> .agg #[.int .i64 0, .int .i64 0, .int .i64 0, .slice none 0 0]
 | .jE=> .agg #[.int .i64 0, .int .i64 0, .int .i64 0]
 | .iA=> .agg #[.int .i64 0, .int .i64 0, .int .i64 0, .int .i64 0, .int .i64 0]
 | .Plain=> .agg #[.int .i64 0, .slice none 0 0]
 | .e9=> .agg #[.int .i64 0, .int .i64 0, .slice none 0 0, .slice none 0 0, .int .i64 0]
def gR:Tag→Nat
 | .int=>8
 | .u8=>1
 | .str=>16
 | .sl _=>24
 | .DB=>24
 | .bJ=>32
 | .cu=>56
 | .aX=>32
 | .mD=>32
 | .gI=>96
 | .bR=>192
 | .bN=>144
 | .Ev=>48
 | .jE=>24
 | .iA=>40
 | .Plain=>32
 | .e9=>72
theorem s9:(t:Tag)→(jv t).cells.size=kk t
 | .int=>rfl
 | .u8=>rfl
 | .str=>rfl
 | .sl _=>rfl
 | .DB=>rfl
 | .bJ=>rfl
 | .cu=>rfl
 | .aX=>rfl
 | .mD=>rfl
 | .gI=>rfl
 | .bR=>rfl
 | .bN=>rfl
 | .Ev=>rfl
 | .jE=>rfl
 | .iA=>rfl
 | .Plain=>rfl
 | .e9=>rfl
def flat:Tag→Bool
 | .int=>true
 | .u8=>true
 | .str=>true
 | .sl _=>false
 | .DB=>false
 | .bJ=>false
 | .cu=>false
 | .aX=>false
 | .mD=>false
 | .gI=>false
 | .bR=>false
 | .bN=>false
 | .Ev=>false
 | .jE=>true
 | .iA=>true
 | .Plain=>false
 | .e9=>false
theorem agl{w:World}(t:Tag){cs:List Value}{x:T t}{fp:List Nat}(hf:flat t=true)(h:rd t w cs x fp):fp= []:=by
 cases t with
 |int=>exact(show aa4 w cs x fp from h).2
 |u8=>exact(show Wq w cs x fp from h).2
 |str=>exact(show aa5 w cs x fp from h).2.2
 |sl _=>cases hf
 |DB=>cases hf
 |bJ=>cases hf
 |cu=>cases hf
 |aX=>cases hf
 |mD=>cases hf
 |gI=>cases hf
 |bR=>cases hf
 |bN=>cases hf
 |Ev=>cases hf
 |jE=>exact(show abi w cs x fp from h).2
 |iA=>exact(show abk w cs x fp from h).2
 |Plain=>cases hf
 |e9=>cases hf
theorem ep.lits{w:World}: ∀{z:List Value},(∀v,v∈z→v.oneCell'=true)→ep w (z.map V.lit) z []
 | [],_=>rfl
 |v::r,h=>⟨[],[],⟨rfl,h v (by simp),rfl⟩,ep.lits fun u hu=>h u (by simp[hu]),rfl⟩
theorem agm{w:World}:(t:Tag)→rd t w (jv t).cells.toList (aR t) []
 | .int=>⟨rfl,rfl⟩
 | .u8=>⟨rfl,rfl⟩
 | .str=>⟨rfl,by decide,rfl⟩
 | .sl _=>⟨_,rfl,none,0,rfl,bq _,aE _,Or.inl ⟨rfl,rfl,rfl⟩⟩
 | .DB=>BG (c:=(jv .DB).cells.toList.map V.lit) rfl (ep.lits (by simp[jv,eV,eJ]))
 | .bJ=>CG (c:=(jv .bJ).cells.toList.map V.lit) rfl (ep.lits (by simp[jv,eV,eJ]))
 | .cu=>J6 (c:=(jv .cu).cells.toList.map V.lit) rfl (ep.lits (by simp[jv,eV,eJ]))
 | .aX=>CH (c:=(jv .aX).cells.toList.map V.lit) rfl (ep.lits (by simp[jv,eV,eJ]))
 | .mD=>C2 (c:=(jv .mD).cells.toList.map V.lit) rfl (ep.lits (by simp[jv,eV,eJ]))
 | .gI=>xp (c:=(jv .gI).cells.toList.map V.lit) rfl (ep.lits (by simp[jv,eV,eJ]))
 | .bR=>J7 (c:=(jv .bR).cells.toList.map V.lit) rfl (ep.lits (by simp[jv,eV,eJ]))
 | .bN=>J8 (c:=(jv .bN).cells.toList.map V.lit) rfl (ep.lits (by simp[jv,eV,eJ]))
 | .Ev=>M9 (c:=(jv .Ev).cells.toList.map V.lit) rfl (ep.lits (by simp[jv,eV,eJ]))
 | .jE=>J9 (c:=(jv .jE).cells.toList.map V.lit) rfl (ep.lits (by simp[jv,eV,eJ]))
 | .iA=>Ka (c:=(jv .iA).cells.toList.map V.lit) rfl (ep.lits (by simp[jv,eV,eJ]))
 | .Plain=>DZ (c:=(jv .Plain).cells.toList.map V.lit) rfl (ep.lits (by simp[jv,eV,eJ]))
 | .e9=>HZ (c:=(jv .e9).cells.toList.map V.lit) rfl (ep.lits (by simp[jv,eV,eJ]))
end
end Go.Proofs.YtaalpcnbbldlaaaGreatDoor.G
namespace Go.Proofs.YtaalpcnbbldlaaaGreatDoor.L
set_option linter.all false
open Go.RowKit
section
structure j8(fp:List Nat)(w w':World):Prop where
 os:w'.os=w.os
 tape:w'.tape=w.tape
 output:w'.output=w.output
 size:w.heap.size≤w'.heap.size
 block: ∀b,b<w.heap.size→b∉fp→w'.heap[b]? =w.heap[b]?
theorem j8.refl(fp:List Nat)(w:World):j8 fp w w:=⟨rfl,rfl,rfl,bq _,fun _ _ _=>rfl⟩
theorem j8.mono{fp fq:List Nat}{w w':World}(h:j8 fp w w')(hs: ∀b,b∈fp→b∈fq):j8 fq w w':=⟨h.os,h.tape,h.output,h.size,fun b hb hn=>h.block b hb fun hm=>hn (hs b hm)⟩
theorem j8.trans{fp:List Nat}{a b c:World}(h:j8 fp a b)(k:j8 fp b c):j8 fp a c:=
 ⟨k.os.trans h.os,k.tape.trans h.tape,k.output.trans h.output,Nat.le_trans h.size k.size,fun i hi hn=>(k.block i (lK hi h.size) hn).trans (h.block i hi hn)⟩
theorem j8.below{fp:List Nat}{w w':World}{B:Nat}(h:j8 fp w w')(hB:B≤w.heap.size)(hg: ∀b,b∈fp→B≤b):Below B w w':=
 ⟨h.os,h.tape,h.output,h.size,fun b hb=>h.block b (lK hb hB) fun hm=>Nat.not_le_of_lt hb (hg b hm)⟩
theorem j8.agree{fp fq:List Nat}{w w':World}(h:j8 fp w w')(hl: ∀b,b∈fq→b<w.heap.size)(hd: ∀b,b∈fq→b∉fp):Agree w w' fq:=fun b hb=>h.block b (hl b hb) (hd b hb)
section
variable{α:Type}{k:Nat}{E:ER α}{lo e g n:Nat}{w w':World}{l:List α}{dN:List (List Nat)}
theorem BN{dN:List (List Nat)}(h:dN.flatten.Nodup){i j:Nat}{f f':List Nat}(hi:dN[i]? =some f)(hj:dN[j]? =some f')(hne:i≠j): ∀b,b∈f→b∉f':=by
 intro b hb hb'
 have hp:=(List.pairwise_flatten.1 h).2
 rw[List.pairwise_iff_getElem]at hp
 obtain⟨hi1,rfl⟩:=aV.1 hi
 obtain⟨hj1,rfl⟩:=aV.1 hj
 rcases rm i j with h1|h1
 ·exact hp i j hi1 hj1 h1 b hb b hb' rfl
 ·exact hp j i hj1 hi1 (by omega) b hb' b hb rfl
theorem Part.set(G:kq k E)(h:Part k E lo e w g n l dN){i:Nat}{f:List Nat}{cs:List Value}{x':α}(hi:i<l.length)(hin:i<n)(hf:dN[i]? =some f)(hE:E w cs x' f):
  Part k E lo e (w.setCells g (i*k) cs) g n (l.set i x') dN:=by
 have hlen:=G.len hE
 have hnd:=h.own.nodup
 rw[cN]at hnd
 obtain⟨c,hc,hs⟩:=h.blk
 obtain⟨c',Ws,hs'⟩:=iC g e cs (i*k) w c hc
 have hth:w.there g (i*k) cs.length:=by rw[hlen];exact h.there _ hin
 have JU: ∀b,b∈dN.flatten→b≠g:=fun b hb e=>hnd.1 (e▸hb)
 have hag:Agree w (w.setCells g (i*k) cs) dN.flatten:=fun b hb=>eT g cs _ w b (JU b hb)
 refine⟨⟨c',Ws,by rw[hs',hs]⟩,⟨by rw[cm];exact h.el.1,fun j y fy hy BD=> ?_⟩,⟨h.own.nodup,h.own.ge,fun b hb=> ?_⟩,h.cap⟩
 ·by_cases hj:i=j
  ·subst hj
   rw[iq hi]at hy
   simp only[oI]at hy
   subst hy
   rw[hf]at BD
   simp only[oI]at BD
   subst BD
   refine⟨cs,?_,G.agree hE (hag.sub fun b hb=>eW hf hb)⟩
   rw[Nat.zero_add]
   exact World.rangeAt_setCells_same w g _ cs hth
  ·rw[jY hj]at hy
   obtain⟨cy,hr,hEy⟩:=h.el.2 j y fy hy BD
   refine⟨cy,World.rangeAt_setCells_apart hr _ _ _ (Or.inr ?_),G.agree hEy (hag.sub fun b hb=>eW BD hb)⟩
   rw[G.len hEy,hlen]
   rcases rm j i with h1|h1
   ·left
    have:=cA k (show j+1≤i by omega)
    rw[dr]at this;omega
   ·right
    have:=cA k (show i+1≤j by omega)
    rw[dr]at this;omega
 ·rcases bu.1 hb with rfl|hb
  ·exact⟨_,_,Ws⟩
  ·rw[hag b hb];exact h.own.kind b (aT _ hb)
theorem vZ(G:kq k E){g o n:Nat}{c:Array Value}(hc:w.heap[g]? =some (.cells c e (0,0)))(hfit:o+n*k≤c.size)(hn:l.length≤n)(hcap:n≤maxLen)(hel:yD k E w g o l dN)(hown:Own lo w (g::dN.flatten)):
  nL k E lo e w (.slice (some ⟨g,o,none⟩) l.length n) l (g::dN.flatten):=by
 have hk:l.length*k≤n*k:=cA k hn
 have hcl:c.toList.length=c.size:=Array.length_toList
 refine⟨(c.toList.drop o).take (l.length*k),dN,⟨by rw[List.length_take,List.length_drop];omega,Or.inr ⟨g,o,n,c,rfl,hown.ge g (by simp),hc,hn,hcap,hfit,rfl⟩⟩,hel.1,fun i x f hx hf=> ?_,rfl,hown⟩
 obtain⟨cs,hr,hE⟩:=hel.2 i x f hx hf
 have hlen:=G.len hE
 have hi:i<l.length:=(aV.1 hx).1
 have h5:i*k+k≤l.length*k:=by
  have:=cA k (show i+1≤l.length by omega)
  rw[dr]at this;omega
 have:(((c.toList.drop o).take (l.length*k)).drop (i*k)).take k=cs:=by
  apply List.ext_getElem?
  intro j
  by_cases hj:j<k
  ·rw[dx,if_pos hj,cK,dx,if_pos (by omega),cK]
   have h6:=hr j _ (aC (by omega))
   simp[World.cell?,hc]at h6
   rw[aC (show j<cs.length by omega), ←Nat.add_assoc]
   simp[h6]
  ·rw[dx,if_neg hj,List.getElem?_eq_none (by omega)]
 rw[this];exact hE
theorem nL.parts{v:Value}{fp:List Nat}(h:nL k E lo e w v l fp):(v= .slice none 0 0∧l= []∧fp= [])∨ ∃g o n c, ∃dN:List (List Nat),v= .slice (some ⟨g,o,none⟩) l.length n∧l.length≤n∧n≤maxLen∧w.heap[g]? =some (.cells c e (0,0))∧o+n*k≤c.size∧fp=g::dN.flatten:=by
 obtain⟨xs,dN,⟨hxl,ho⟩,hl,hel,nU,hown⟩:=h
 rcases ho with⟨rfl,h0⟩| ⟨g,o,cap,cur,rfl,hg,hc,hn,hcm,hcs,htk⟩
 ·have hl0:l= []:=cq h0
  have:dN= []:=cq (by omega)
  exact Or.inl ⟨rfl,hl0,by rw[nU,this];rfl⟩
 ·exact Or.inr ⟨g,o,cap,cur,dN,rfl,hn,hcm,hc,hcs,nU⟩
structure abW{α:Type}(k:Nat)(E:ER α)(lo:Nat)(w:World)(b off:Nat)(l:List α)(dN:List (List Nat)):Prop where
 el:yD k E w b off l dN
 own:Own lo w (b::dN.flatten)
theorem abW.lt{b off:Nat}(h:abW k E lo w b off l dN):b<w.heap.size:=h.own.lt b (by simp)
theorem abW.set(G:kq k E){b off:Nat}(h:abW k E lo w b off l dN){i o:Nat}{f:List Nat}{vs cs:List Value}{x':α}(hi:i<l.length)(ho:o+vs.length≤k)(hf:dN[i]? =some f)
  (hr:(w.setCells b (off+i*k+o) vs).rangeAt b (off+i*k) cs)(hE:E w cs x' f):
  abW k E lo (w.setCells b (off+i*k+o) vs) b off (l.set i x') dN:=by
 have hlen:=G.len hE
 have hnd:=h.own.nodup
 rw[cN]at hnd
 have JU: ∀c,c∈dN.flatten→c≠b:=fun c hc e=>hnd.1 (e▸hc)
 have hag:Agree w (w.setCells b (off+i*k+o) vs) dN.flatten:=fun c hc=>eT b vs _ w c (JU c hc)
 refine⟨⟨by rw[cm];exact h.el.1,fun j y fy hy BD=> ?_⟩,⟨h.own.nodup,h.own.ge,fun c hc=> ?_⟩⟩
 ·by_cases hj:i=j
  ·subst hj
   rw[iq hi]at hy
   simp only[oI]at hy
   subst hy
   rw[hf]at BD
   simp only[oI]at BD
   subst BD
   exact⟨cs,hr,G.agree hE (hag.sub fun b hb=>eW hf hb)⟩
  ·rw[jY hj]at hy
   obtain⟨cy,hr,hEy⟩:=h.el.2 j y fy hy BD
   refine⟨cy,World.rangeAt_setCells_apart hr _ _ _ (Or.inr ?_),G.agree hEy (hag.sub fun b hb=>eW BD hb)⟩
   rw[G.len hEy]
   rcases rm j i with h1|h1
   ·left
    have:=cA k (show j+1≤i by omega)
    rw[dr]at this;omega
   ·right
    have:=cA k (show i+1≤j by omega)
    rw[dr]at this;omega
 ·rcases bu.1 hc with rfl|hc
  ·obtain⟨c0,e0,hk⟩:=h.own.kind c (by simp)
   obtain⟨c',Ws,_⟩:=iC c e0 vs (off+i*k+o) w c0 hk
   exact⟨_,_,Ws⟩
  ·rw[hag c hc];exact h.own.kind c (aT _ hc)
end
end
end Go.Proofs.YtaalpcnbbldlaaaGreatDoor.L
