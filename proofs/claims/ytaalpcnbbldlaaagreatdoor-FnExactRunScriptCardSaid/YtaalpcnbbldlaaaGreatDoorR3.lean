/-
  Slices that the call has made, written again: an element replaced; an element's own memory written by a call.
-/
import Derived.OpenShut
import Derived.ProofKit
import Derived.Test.YtaalpcnbbldlaaaGreatDoorR2
namespace Go.Proofs.YtaalpcnbbldlaaaGreatDoor.G
set_option linter.all false
open Go.RowKit L D
section
inductive Tag where
 |int|u8|str|sl(t:Tag)|DB|aT|bp|aJ|gZ|dF|aZ|aW|Ev|eZ|dY|Plain|cM
 deriving DecidableEq
@[reducible] def T:Tag→Type
  | .int=>Int
  | .u8=>UInt8
  | .str=>List UInt8
  | .sl t=>List (T t)
  | .DB=>DB
  | .aT=>aT
  | .bp=>bp
  | .aJ=>aJ
  | .gZ=>gZ
  | .dF=>dF
  | .aZ=>aZ
  | .aW=>aW
  | .Ev=>Ev
  | .eZ=>eZ
  | .dY=>dY
  | .Plain=>Plain
  | .cM=>cM
def kk:Tag→Nat
 | .int=>1
 | .u8=>1
 | .str=>1
 | .sl _=>1
 | .DB=>1
 | .aT=>2
 | .bp=>5
 | .aJ=>2
 | .gZ=>2
 | .dF=>8
 | .aZ=>16
 | .aW=>10
 | .Ev=>4
 | .eZ=>3
 | .dY=>5
 | .Plain=>2
 | .cM=>5
def rd:(t:Tag)→ER (T t)
 | .int=>Q0
 | .u8=>NB
 | .str=>Q1
 | .sl t=>ESl (kk t) (rd t)
 | .DB=>EDB
 | .aT=>yg
 | .bp=>Q8
 | .aJ=>yh
 | .gZ=>Q9
 | .dF=>PB
 | .aZ=>Ra
 | .aW=>VB
 | .Ev=>EEv
 | .eZ=>Re
 | .dY=>Rg
 | .Plain=>Hg
 | .cM=>NK
theorem ep:(t:Tag)→fN (kk t) (rd t)
 | .int=>sV
 | .u8=>hY
 | .str=>Q2
 | .sl t=>qh (ep t)
 | .DB=>mq
 | .aT=>sX
 | .bp=>Dq
 | .aJ=>sY
 | .gZ=>sZ
 | .dF=>jP
 | .aZ=>Dr
 | .aW=>Rd
 | .Ev=>VC
 | .eZ=>Rf
 | .dY=>Rh
 | .Plain=>LY
 | .cM=>PC
theorem gy:(t:Tag)→0<kk t
 | .int=>by decide
 | .u8=>by decide
 | .str=>by decide
 | .sl _=>Nat.one_pos
 | .DB=>by decide
 | .aT=>by decide
 | .bp=>by decide
 | .aJ=>by decide
 | .gZ=>by decide
 | .dF=>by decide
 | .aZ=>by decide
 | .aW=>by decide
 | .Ev=>by decide
 | .eZ=>by decide
 | .dY=>by decide
 | .Plain=>by decide
 | .cM=>by decide
def aG:(t:Tag)→T t
 | .int=>(0:Int)
 | .u8=>(0:UInt8)
 | .str=>([]:List UInt8)
 | .sl t=>([]:List (T t))
 | .DB=>(default:DB)
 | .aT=>(default:aT)
 | .bp=>(default:bp)
 | .aJ=>(default:aJ)
 | .gZ=>(default:gZ)
 | .dF=>(default:dF)
 | .aZ=>(default:aZ)
 | .aW=>(default:aW)
 | .Ev=>(default:Ev)
 | .eZ=>(default:eZ)
 | .dY=>(default:dY)
 | .Plain=>(default:Plain)
 | .cM=>(default:cM)
inductive V where
 |any
 |lit(v:Value)
 |sl(t:Tag)(l:List (T t))
 |own(n:Nat)
 |ptr(n off:Nat)
 |rQ(n i off:Nat)
 |ip(t:Tag)(x:T t)(off:Nat)
 |vw(n:Nat)(p:Option (Nat×Nat))(t:Tag)(l:List (T t))
 |Ja(n:Nat)(p:Option (Nat×Nat×Nat))(t:Tag)(x:T t)(off:Nat)
 |Jb(n:Nat)(t:Tag)(l:List (T t))
 |mix(n:Nat)(c:Bool)(t:Tag)(l:List (T t))
 |FB(n:Nat)
 |F3(f:FuncId)(n:Nat)
 |Cp(k:Nat)
 |raw(v:Value)
 |vf(v:Value)(t:Tag)(l:List (T t))
def RI(w:World):V→Value→List Nat→Prop
 | .lit v,u,fp=>u=v∧v.oneCell'=true∧fp= []
 | .sl t l,u,fp=>Sl (kk t) (rd t) w u l fp
 |_,_,_=>False
def cq(w:World):List V→List Value→List Nat→Prop
 | [],[],fp=>fp= []
 |V::Vs,u::us,fp=> ∃f g,RI w V u f∧cq w Vs us g∧fp=f++g
 |_,_,_=>False
theorem cq.nil{w:World}:cq w [] [] []:=rfl
theorem cq.lit{w:World}{v:Value}{Vs:List V}{us:List Value}{g:List Nat}(hv:v.oneCell'=true)(h:cq w Vs us g):cq w (.lit v::Vs) (v::us) g:=⟨[],g,⟨rfl,hv,rfl⟩,h,rfl⟩
theorem cq.sl{w:World}{u:Value}{t:Tag}{l:List (T t)}{f g:List Nat}{Vs:List V}{us:List Value}(k:Sl (kk t) (rd t) w u l f)(h:cq w Vs us g):cq w (.sl t l::Vs) (u::us) (f++g):=⟨f,g,k,h,rfl⟩
theorem cq.app{w:World}: ∀{Vs Us:List V} {vs us:List Value} {f g:List Nat},cq w Vs vs f→cq w Us us g→cq w (Vs++Us) (vs++us) (f++g)
 | [],_,[],_,_,_,h,k=>by rw[show _=_ from h];exact k
 |_::_,_,_::_,_,_,_,⟨f1,f2,h1,h2,e⟩,k=>⟨f1,f2++_,h1,cq.app h2 k,by rw[e,List.append_assoc]⟩
 | [],_,_::_,_,_,_,h,_=>h.elim
 |_::_,_,[],_,_,_,h,_=>h.elim
theorem cq.len{w:World}: ∀{Vs:List V} {us:List Value} {fp:List Nat},cq w Vs us fp→us.length=Vs.length
 | [],[],_,_=>rfl
 |_::_,_::_,_,⟨_,_,_,h,_⟩=>by simp[cq.len h]
 | [],_::_,_,h=>h.elim
 |_::_,[],_,h=>h.elim
def aY(x:DB):List V:= [.sl (.sl .u8) x.rows]
def qi(x:aT):List V:= [.lit (.int .i64 x.client)]++aY x.share
def bS(x:bp):List V:= [.lit (.int .i64 x.id), .lit (.int .i64 x.rows), .lit (.int .i64 x.round), .sl .aT x.received, .lit (.int .i64 x.behavior)]
def w7(x:aJ):List V:= [.lit (.int .i64 x.round)]++aY x.db
def cV(x:gZ):List V:= [.lit (.int .i64 x.rows), .sl .aJ x.rounds]
def bG(x:dF):List V:= [.lit (.int .i64 x.id), .lit (.int .i64 x.cU), .lit (.int .i64 x.key), .lit (.int .i64 x.seed), .sl (.sl .u8) x.aM, .lit (.int .i64 x.sent), .sl (.sl .u8) x.inbox, .lit (.int .i64 x.next)]
def bN(x:aZ):List V:=bG x.live++bG x.saved
def aN(x:aW):List V:= [.lit (.int .i64 x.rows), .sl .bp x.az, .sl .aZ x.af]++cV x.aB++ [.lit (.int .i64 x.bn), .lit (.int .i64 x.seed), .lit (.int .i64 x.round), .sl .int x.replaced, .lit (.int .i64 x.cancelled)]
def jQ(x:Ev):List V:= [.lit (.int .i64 x.kind), .lit (.int .i64 x.node), .lit (.int .i64 x.value), .sl .u8 x.body]
def Hh(x:eZ):List V:= [.lit (.int .i64 x.fr), .lit (.int .i64 x.to), .lit (.int .i64 x.bytes)]
def jR(x:dY):List V:= [.lit (.int .i64 x.server), .lit (.int .i64 x.client), .lit (.int .i64 x.round), .lit (.int .i64 x.mJ), .lit (.int .i64 x.LK)]
def ij(x:Plain):List V:= [.lit (.int .i64 x.kind), .sl .u8 x.body]
def eS(x:cM):List V:= [.lit (.int .i64 x.server), .lit (.int .i64 x.round), .sl .int x.selection, .sl .u8 x.data, .lit (.int .i64 x.LK)]
def dec:(t:Tag)→T t→List V
 | .int,n=> [.lit (.int .i64 n)]
 | .u8,n=> [.lit (.int .u8 n.toNat)]
 | .str,s=> [.lit (.string ⟨s.toArray⟩)]
 | .sl t,l=> [.sl t l]
 | .DB,x=>aY x
 | .aT,x=>qi x
 | .bp,x=>bS x
 | .aJ,x=>w7 x
 | .gZ,x=>cV x
 | .dF,x=>bG x
 | .aZ,x=>bN x
 | .aW,x=>aN x
 | .Ev,x=>jQ x
 | .eZ,x=>Hh x
 | .dY,x=>jR x
 | .Plain,x=>ij x
 | .cM,x=>eS x
theorem Dx{w:World}{cs:List Value}{x:DB}{fp:List Nat}:EDB w cs x fp→cq w (aY x) cs fp:=by
 rintro⟨v0,f0,rfl,h0,rfl⟩;have h:=(cq.sl (t:=(.sl .u8)) h0 cq.nil);simpa[aY]using h
theorem Hi{w:World}{cs:List Value}{x:aT}{fp:List Nat}:yg w cs x fp→cq w (qi x) cs fp:=by
 rintro⟨v0,f0,rfl,h0,rfl⟩;have h:=(cq.app (cq.lit (w:=w) (v:= .int .i64 x.client) rfl cq.nil) (Dx h0));simpa[qi]using h
theorem PE{w:World}{cs:List Value}{x:bp}{fp:List Nat}:Q8 w cs x fp→cq w (bS x) cs fp:=by
 rintro⟨v0,f0,rfl,h0,rfl⟩;have h:=(cq.lit (w:=w) (v:= .int .i64 x.id) rfl (cq.lit (w:=w) (v:= .int .i64 x.rows) rfl (cq.lit (w:=w) (v:= .int .i64 x.round) rfl (cq.sl (t:= .aT) h0 (cq.lit (w:=w) (v:= .int .i64 x.behavior) rfl cq.nil)))));simpa[bS]using h
theorem Hj{w:World}{cs:List Value}{x:aJ}{fp:List Nat}:yh w cs x fp→cq w (w7 x) cs fp:=by
 rintro⟨v0,f0,rfl,h0,rfl⟩;have h:=(cq.app (cq.lit (w:=w) (v:= .int .i64 x.round) rfl cq.nil) (Dx h0));simpa[w7]using h
theorem F4{w:World}{cs:List Value}{x:gZ}{fp:List Nat}:Q9 w cs x fp→cq w (cV x) cs fp:=by
 rintro⟨v0,f0,rfl,h0,rfl⟩;have h:=(cq.lit (w:=w) (v:= .int .i64 x.rows) rfl (cq.sl (t:= .aJ) h0 cq.nil));simpa[cV]using h
theorem Av{w:World}{cs:List Value}{x:dF}{fp:List Nat}:PB w cs x fp→cq w (bG x) cs fp:=by
 rintro⟨v0,v1,f0,f1,rfl,h0,h1,rfl⟩;have h:=(cq.lit (w:=w) (v:= .int .i64 x.id) rfl (cq.lit (w:=w) (v:= .int .i64 x.cU) rfl (cq.lit (w:=w) (v:= .int .i64 x.key) rfl (cq.lit (w:=w) (v:= .int .i64 x.seed) rfl (cq.sl (t:=(.sl .u8)) h0 (cq.lit (w:=w) (v:= .int .i64 x.sent) rfl (cq.sl (t:=(.sl .u8)) h1 (cq.lit (w:=w) (v:= .int .i64 x.next) rfl cq.nil))))))));simpa[bG]using h
theorem PF{w:World}{cs:List Value}{x:aZ}{fp:List Nat}:Ra w cs x fp→cq w (bN x) cs fp:=by
 rintro⟨v0,v1,f0,f1,rfl,h0,h1,rfl⟩;have h:=(cq.app (Av h0) (Av h1));simpa[bN]using h
theorem PG{w:World}{cs:List Value}{x:aW}{fp:List Nat}:VB w cs x fp→cq w (aN x) cs fp:=by
 rintro⟨v0,v1,v2,v3,f0,f1,f2,f3,rfl,h0,h1,h2,h3,rfl⟩;have h:=(cq.app (cq.app (cq.lit (w:=w) (v:= .int .i64 x.rows) rfl (cq.sl (t:= .bp) h0 (cq.sl (t:= .aZ) h1 cq.nil))) (F4 h2)) (cq.lit (w:=w) (v:= .int .i64 x.bn) rfl (cq.lit (w:=w) (v:= .int .i64 x.seed) rfl (cq.lit (w:=w) (v:= .int .i64 x.round) rfl (cq.sl (t:= .int) h3 (cq.lit (w:=w) (v:= .int .i64 x.cancelled) rfl cq.nil))))));simpa[aN]using h
theorem Rl{w:World}{cs:List Value}{x:Ev}{fp:List Nat}:EEv w cs x fp→cq w (jQ x) cs fp:=by
 rintro⟨v0,f0,rfl,h0,rfl⟩;have h:=(cq.lit (w:=w) (v:= .int .i64 x.kind) rfl (cq.lit (w:=w) (v:= .int .i64 x.node) rfl (cq.lit (w:=w) (v:= .int .i64 x.value) rfl (cq.sl (t:= .u8) h0 cq.nil))));simpa[jQ]using h
theorem PI{w:World}{cs:List Value}{x:eZ}{fp:List Nat}:Re w cs x fp→cq w (Hh x) cs fp:=by
 rintro⟨rfl,rfl⟩;have h:=(cq.lit (w:=w) (v:= .int .i64 x.fr) rfl (cq.lit (w:=w) (v:= .int .i64 x.to) rfl (cq.lit (w:=w) (v:= .int .i64 x.bytes) rfl cq.nil)));simpa[Hh]using h
theorem PJ{w:World}{cs:List Value}{x:dY}{fp:List Nat}:Rg w cs x fp→cq w (jR x) cs fp:=by
 rintro⟨rfl,rfl⟩;have h:=(cq.lit (w:=w) (v:= .int .i64 x.server) rfl (cq.lit (w:=w) (v:= .int .i64 x.client) rfl (cq.lit (w:=w) (v:= .int .i64 x.round) rfl (cq.lit (w:=w) (v:= .int .i64 x.mJ) rfl (cq.lit (w:=w) (v:= .int .i64 x.LK) rfl cq.nil)))));simpa[jR]using h
theorem Jm{w:World}{cs:List Value}{x:Plain}{fp:List Nat}:Hg w cs x fp→cq w (ij x) cs fp:=by
 rintro⟨v0,f0,rfl,h0,rfl⟩;have h:=(cq.lit (w:=w) (v:= .int .i64 x.kind) rfl (cq.sl (t:= .u8) h0 cq.nil));simpa[ij]using h
theorem L0{w:World}{cs:List Value}{x:cM}{fp:List Nat}:NK w cs x fp→cq w (eS x) cs fp:=by
 rintro⟨v0,v1,f0,f1,rfl,h0,h1,rfl⟩;have h:=(cq.lit (w:=w) (v:= .int .i64 x.server) rfl (cq.lit (w:=w) (v:= .int .i64 x.round) rfl (cq.sl (t:= .int) h0 (cq.sl (t:= .u8) h1 (cq.lit (w:=w) (v:= .int .i64 x.LK) rfl cq.nil)))));simpa[eS]using h
theorem reads{w:World}:(t:Tag)→{cs:List Value}→{x:T t}→{fp:List Nat}→rd t w cs x fp→cq w (dec t x) cs fp
 | .int,_,_,_,⟨rfl,rfl⟩=>cq.lit (v:= .int .i64 _) rfl cq.nil
 | .u8,_,_,_,⟨rfl,rfl⟩=>cq.lit (v:= .int .u8 _) rfl cq.nil
 | .str,_,_,_,⟨rfl,_,rfl⟩=>cq.lit (v:= .string _) rfl cq.nil
 | .sl t,_,_,_,⟨v,rfl,h⟩=>by have:=cq.sl (t:=t) h (cq.nil);rwa [List.append_nil]at this
 | .DB,_,_,_,h=>Dx h
 | .aT,_,_,_,h=>Hi h
 | .bp,_,_,_,h=>PE h
 | .aJ,_,_,_,h=>Hj h
 | .gZ,_,_,_,h=>F4 h
 | .dF,_,_,_,h=>Av h
 | .aZ,_,_,_,h=>PF h
 | .aW,_,_,_,h=>PG h
 | .Ev,_,_,_,h=>Rl h
 | .eZ,_,_,_,h=>PI h
 | .dY,_,_,_,h=>PJ h
 | .Plain,_,_,_,h=>Jm h
 | .cM,_,_,_,h=>L0 h
end
section
def jD:(t t':Tag)→List (T t')→Option (List (T t))
 | .int, .int,l=>some l
 | .u8, .u8,l=>some l
 | .str, .str,l=>some l
 | .sl .int, .sl .int,l=>some l
 | .sl .u8, .sl .u8,l=>some l
 | .sl .str, .sl .str,l=>some l
 | .sl (.sl .u8), .sl (.sl .u8),l=>some l
 | .sl (.sl .int), .sl (.sl .int),l=>some l
 | .DB, .DB,l=>some l
 | .aT, .aT,l=>some l
 | .bp, .bp,l=>some l
 | .aJ, .aJ,l=>some l
 | .gZ, .gZ,l=>some l
 | .dF, .dF,l=>some l
 | .aZ, .aZ,l=>some l
 | .aW, .aW,l=>some l
 | .Ev, .Ev,l=>some l
 | .eZ, .eZ,l=>some l
 | .dY, .dY,l=>some l
 | .Plain, .Plain,l=>some l
 | .cM, .cM,l=>some l
 |_,_,_=>none
theorem eu{t t':Tag}{l:List (T t')}{l2:List (T t)}(h:jD t t' l=some l2): ∃e:t'=t,l2=e▸l:=by
 unfold jD at h;split at h<;>first
  | (simp only[oI]at h;exact⟨rfl,h.symm⟩)
  |cases h
def gi:V→Option Int
 | .lit (.int .i64 n)=>some n
 |_=>none
def gs(t:Tag):V→Option (List (T t))
 | .sl t' l=>jD t t' l
 | .lit (.slice none 0 0)=>some []
 |_=>none
theorem eB{w:World}{v:V}{u:Value}{f:List Nat}{n:Int}(h:gi v=some n)(hr:RI w v u f):u= .int .i64 n∧f= []:=by
 unfold gi at h;split at h
 ·simp only[oI]at h;subst h;exact⟨hr.1,hr.2.2⟩
 ·cases h
theorem oS{w:World}{t:Tag}{v:V}{u:Value}{f:List Nat}{l:List (T t)}(h:gs t v=some l)(hr:RI w v u f):Sl (kk t) (rd t) w u l f:=by
 unfold gs at h;split at h
 ·rename_i t' l';obtain⟨he,rfl⟩:=eu h;subst he;exact hr
 ·simp only[oI]at h;subst h;obtain⟨rfl,_,rfl⟩:=hr;exact⟨none,0,rfl,Nat.le_refl _,Nat.zero_le _,Or.inl ⟨rfl,rfl,rfl⟩⟩
 ·cases h
def Aw:List V→Option DB
 | [a0]=>match gs (.sl .u8) a0 with
   |some x0=>some ⟨x0⟩
   |_=>none
 |_=>none
theorem vg{w:World}{c:List V}{us:List Value}{fp:List Nat}{x:DB}(h:Aw c=some x)(hr:cq w c us fp):EDB w us x fp:=by
 unfold Aw at h;split at h
 ·rename_i a0;split at h
  ·rename_i x0 e0;simp only[oI]at h;subst h;match us,hr with
   | [u0],⟨f0,g0,r0,h9,q0⟩=>
     have h9:g0= []:=h9;have z0:=oS e0 r0;refine⟨u0,f0,?_,z0,?_⟩
     ·rfl
     ·simp[q0,h9]
  ·cases h
 ·cases h
def ql:List V→Option aT
 | [a0,a1]=>match gi a0,Aw [a1]with
   |some x0,some x1=>some ⟨x0,x1⟩
   |_,_=>none
 |_=>none
theorem wI{w:World}{c:List V}{us:List Value}{fp:List Nat}{x:aT}(h:ql c=some x)(hr:cq w c us fp):yg w us x fp:=by
 unfold ql at h;split at h
 ·rename_i a0 a1;split at h
  ·rename_i x0 x1 e0 e1;simp only[oI]at h;subst h;match us,hr with
   | [u0,u1],⟨f0,g0,r0,⟨f1,g1,r1,h9,q1⟩,q0⟩=>
     have h9:g1= []:=h9;obtain⟨z0,y0⟩:=eB e0 r0;have z1:=vg (w:=w) (us:= [u1]) (fp:=(f1++ [])) e1 ⟨f1,_,r1,rfl,rfl⟩;refine⟨[u1],(f1++ []),?_,z1,?_⟩
     ·simp[z0]
     ·simp[q0,q1,h9,y0]
  ·cases h
 ·cases h
def CW:List V→Option bp
 | [a0,a1,a2,a3,a4]=>match gi a0,gi a1,gi a2,gs .aT a3,gi a4 with
   |some x0,some x1,some x2,some x3,some x4=>some ⟨x0,x1,x2,x3,x4⟩
   |_,_,_,_,_=>none
 |_=>none
theorem Dy{w:World}{c:List V}{us:List Value}{fp:List Nat}{x:bp}(h:CW c=some x)(hr:cq w c us fp):Q8 w us x fp:=by
 unfold CW at h;split at h
 ·rename_i a0 a1 a2 a3 a4;split at h
  ·rename_i x0 x1 x2 x3 x4 e0 e1 e2 e3 e4;simp only[oI]at h;subst h;match us,hr with
   | [u0,u1,u2,u3,u4],⟨f0,g0,r0,⟨f1,g1,r1,⟨f2,g2,r2,⟨f3,g3,r3,⟨f4,g4,r4,h9,q4⟩,q3⟩,q2⟩,q1⟩,q0⟩=>
     have h9:g4= []:=h9;obtain⟨z0,y0⟩:=eB e0 r0;obtain⟨z1,y1⟩:=eB e1 r1;obtain⟨z2,y2⟩:=eB e2 r2;have z3:=oS e3 r3;obtain⟨z4,y4⟩:=eB e4 r4;refine⟨u3,f3,?_,z3,?_⟩
     ·simp[z0,z1,z2,z4]
     ·simp[q0,q1,q2,q3,q4,h9,y0,y1,y2,y4]
  ·cases h
 ·cases h
def qm:List V→Option aJ
 | [a0,a1]=>match gi a0,Aw [a1]with
   |some x0,some x1=>some ⟨x0,x1⟩
   |_,_=>none
 |_=>none
theorem wJ{w:World}{c:List V}{us:List Value}{fp:List Nat}{x:aJ}(h:qm c=some x)(hr:cq w c us fp):yh w us x fp:=by
 unfold qm at h;split at h
 ·rename_i a0 a1;split at h
  ·rename_i x0 x1 e0 e1;simp only[oI]at h;subst h;match us,hr with
   | [u0,u1],⟨f0,g0,r0,⟨f1,g1,r1,h9,q1⟩,q0⟩=>
     have h9:g1= []:=h9;obtain⟨z0,y0⟩:=eB e0 r0;have z1:=vg (w:=w) (us:= [u1]) (fp:=(f1++ [])) e1 ⟨f1,_,r1,rfl,rfl⟩;refine⟨[u1],(f1++ []),?_,z1,?_⟩
     ·simp[z0]
     ·simp[q0,q1,h9,y0]
  ·cases h
 ·cases h
def yj:List V→Option gZ
 | [a0,a1]=>match gi a0,gs .aJ a1 with
   |some x0,some x1=>some ⟨x0,x1⟩
   |_,_=>none
 |_=>none
theorem w8{w:World}{c:List V}{us:List Value}{fp:List Nat}{x:gZ}(h:yj c=some x)(hr:cq w c us fp):Q9 w us x fp:=by
 unfold yj at h;split at h
 ·rename_i a0 a1;split at h
  ·rename_i x0 x1 e0 e1;simp only[oI]at h;subst h;match us,hr with
   | [u0,u1],⟨f0,g0,r0,⟨f1,g1,r1,h9,q1⟩,q0⟩=>
     have h9:g1= []:=h9;obtain⟨z0,y0⟩:=eB e0 r0;have z1:=oS e1 r1;refine⟨u1,f1,?_,z1,?_⟩
     ·simp[z0]
     ·simp[q0,q1,h9,y0]
  ·cases h
 ·cases h
def vh:List V→Option dF
 | [a0,a1,a2,a3,a4,a5,a6,a7]=>match gi a0,gi a1,gi a2,gi a3,gs (.sl .u8) a4,gi a5,gs (.sl .u8) a6,gi a7 with
   |some x0,some x1,some x2,some x3,some x4,some x5,some x6,some x7=>some ⟨x0,x1,x2,x3,x4,x5,x6,x7⟩
   |_,_,_,_,_,_,_,_=>none
 |_=>none
theorem qn{w:World}{c:List V}{us:List Value}{fp:List Nat}{x:dF}(h:vh c=some x)(hr:cq w c us fp):PB w us x fp:=by
 unfold vh at h;split at h
 ·rename_i a0 a1 a2 a3 a4 a5 a6 a7;split at h
  ·rename_i x0 x1 x2 x3 x4 x5 x6 x7 e0 e1 e2 e3 e4 e5 e6 e7;simp only[oI]at h;subst h;match us,hr with
   | [u0,u1,u2,u3,u4,u5,u6,u7],⟨f0,g0,r0,⟨f1,g1,r1,⟨f2,g2,r2,⟨f3,g3,r3,⟨f4,g4,r4,⟨f5,g5,r5,⟨f6,g6,r6,⟨f7,g7,r7,h9,q7⟩,q6⟩,q5⟩,q4⟩,q3⟩,q2⟩,q1⟩,q0⟩=>
     have h9:g7= []:=h9;obtain⟨z0,y0⟩:=eB e0 r0;obtain⟨z1,y1⟩:=eB e1 r1;obtain⟨z2,y2⟩:=eB e2 r2;obtain⟨z3,y3⟩:=eB e3 r3;have z4:=oS e4 r4;obtain⟨z5,y5⟩:=eB e5 r5;have z6:=oS e6 r6;obtain⟨z7,y7⟩:=eB e7 r7;refine⟨u4,u6,f4,f6,?_,z4,z6,?_⟩
     ·simp[z0,z1,z2,z3,z5,z7]
     ·simp[q0,q1,q2,q3,q4,q5,q6,q7,h9,y0,y1,y2,y3,y5,y7]
  ·cases h
 ·cases h
def CX:List V→Option aZ
 | [a0,a1,a2,a3,a4,a5,a6,a7,a8,a9,a10,a11,a12,a13,a14,a15]=>match vh [a0,a1,a2,a3,a4,a5,a6,a7],vh [a8,a9,a10,a11,a12,a13,a14,a15]with
   |some x0,some x8=>some ⟨x0,x8⟩
   |_,_=>none
 |_=>none
theorem Dz{w:World}{c:List V}{us:List Value}{fp:List Nat}{x:aZ}(h:CX c=some x)(hr:cq w c us fp):Ra w us x fp:=by
 unfold CX at h;split at h
 ·rename_i a0 a1 a2 a3 a4 a5 a6 a7 a8 a9 a10 a11 a12 a13 a14 a15;split at h
  ·rename_i x0 x8 e0 e1;simp only[oI]at h;subst h;match us,hr with
   | [u0,u1,u2,u3,u4,u5,u6,u7,u8,u9,u10,u11,u12,u13,u14,u15],⟨f0,g0,r0,⟨f1,g1,r1,⟨f2,g2,r2,⟨f3,g3,r3,⟨f4,g4,r4,⟨f5,g5,r5,⟨f6,g6,r6,⟨f7,g7,r7,⟨f8,g8,r8,⟨f9,g9,r9,⟨f10,g10,r10,⟨f11,g11,r11,⟨f12,g12,r12,⟨f13,g13,r13,⟨f14,g14,r14,⟨f15,g15,r15,h9,q15⟩,q14⟩,q13⟩,q12⟩,q11⟩,q10⟩,q9⟩,q8⟩,q7⟩,q6⟩,q5⟩,q4⟩,q3⟩,q2⟩,q1⟩,q0⟩=>
     have h9:g15= []:=h9;have z0:=qn (w:=w) (us:= [u0,u1,u2,u3,u4,u5,u6,u7]) (fp:=(f0++(f1++(f2++(f3++(f4++(f5++(f6++(f7++ []))))))))) e0 ⟨f0,_,r0,⟨f1,_,r1,⟨f2,_,r2,⟨f3,_,r3,⟨f4,_,r4,⟨f5,_,r5,⟨f6,_,r6,⟨f7,_,r7,rfl,rfl⟩,rfl⟩,rfl⟩,rfl⟩,rfl⟩,rfl⟩,rfl⟩,rfl⟩;have z8:=qn (w:=w) (us:= [u8,u9,u10,u11,u12,u13,u14,u15]) (fp:=(f8++(f9++(f10++(f11++(f12++(f13++(f14++(f15++ []))))))))) e1 ⟨f8,_,r8,⟨f9,_,r9,⟨f10,_,r10,⟨f11,_,r11,⟨f12,_,r12,⟨f13,_,r13,⟨f14,_,r14,⟨f15,_,r15,rfl,rfl⟩,rfl⟩,rfl⟩,rfl⟩,rfl⟩,rfl⟩,rfl⟩,rfl⟩;refine⟨[u0,u1,u2,u3,u4,u5,u6,u7],[u8,u9,u10,u11,u12,u13,u14,u15],(f0++(f1++(f2++(f3++(f4++(f5++(f6++(f7++ [])))))))),(f8++(f9++(f10++(f11++(f12++(f13++(f14++(f15++ [])))))))),?_,z0,z8,?_⟩
     ·rfl
     ·simp[q0,q1,q2,q3,q4,q5,q6,q7,q8,q9,q10,q11,q12,q13,q14,q15,h9]
  ·cases h
 ·cases h
def CY:List V→Option aW
 | [a0,a1,a2,a3,a4,a5,a6,a7,a8,a9]=>match gi a0,gs .bp a1,gs .aZ a2,yj [a3,a4],gi a5,gi a6,gi a7,gs .int a8,gi a9 with
   |some x0,some x1,some x2,some x3,some x5,some x6,some x7,some x8,some x9=>some ⟨x0,x1,x2,x3,x5,x6,x7,x8,x9⟩
   |_,_,_,_,_,_,_,_,_=>none
 |_=>none
theorem DA{w:World}{c:List V}{us:List Value}{fp:List Nat}{x:aW}(h:CY c=some x)(hr:cq w c us fp):VB w us x fp:=by
 unfold CY at h;split at h
 ·rename_i a0 a1 a2 a3 a4 a5 a6 a7 a8 a9;split at h
  ·rename_i x0 x1 x2 x3 x5 x6 x7 x8 x9 e0 e1 e2 e3 e4 e5 e6 e7 e8;simp only[oI]at h;subst h;match us,hr with
   | [u0,u1,u2,u3,u4,u5,u6,u7,u8,u9],⟨f0,g0,r0,⟨f1,g1,r1,⟨f2,g2,r2,⟨f3,g3,r3,⟨f4,g4,r4,⟨f5,g5,r5,⟨f6,g6,r6,⟨f7,g7,r7,⟨f8,g8,r8,⟨f9,g9,r9,h9,q9⟩,q8⟩,q7⟩,q6⟩,q5⟩,q4⟩,q3⟩,q2⟩,q1⟩,q0⟩=>
     have h9:g9= []:=h9;obtain⟨z0,y0⟩:=eB e0 r0;have z1:=oS e1 r1;have z2:=oS e2 r2;have z3:=w8 (w:=w) (us:= [u3,u4]) (fp:=(f3++(f4++ []))) e3 ⟨f3,_,r3,⟨f4,_,r4,rfl,rfl⟩,rfl⟩;obtain⟨z5,y5⟩:=eB e4 r5;obtain⟨z6,y6⟩:=eB e5 r6;obtain⟨z7,y7⟩:=eB e6 r7;have z8:=oS e7 r8;obtain⟨z9,y9⟩:=eB e8 r9;refine⟨u1,u2,[u3,u4],u8,f1,f2,(f3++(f4++ [])),f8,?_,z1,z2,z3,z8,?_⟩
     ·simp[z0,z5,z6,z7,z9]
     ·simp[q0,q1,q2,q3,q4,q5,q6,q7,q8,q9,h9,y0,y5,y6,y7,y9]
  ·cases h
 ·cases h
def Hl:List V→Option Ev
 | [a0,a1,a2,a3]=>match gi a0,gi a1,gi a2,gs .u8 a3 with
   |some x0,some x1,some x2,some x3=>some ⟨x0,x1,x2,x3⟩
   |_,_,_,_=>none
 |_=>none
theorem F5{w:World}{c:List V}{us:List Value}{fp:List Nat}{x:Ev}(h:Hl c=some x)(hr:cq w c us fp):EEv w us x fp:=by
 unfold Hl at h;split at h
 ·rename_i a0 a1 a2 a3;split at h
  ·rename_i x0 x1 x2 x3 e0 e1 e2 e3;simp only[oI]at h;subst h;match us,hr with
   | [u0,u1,u2,u3],⟨f0,g0,r0,⟨f1,g1,r1,⟨f2,g2,r2,⟨f3,g3,r3,h9,q3⟩,q2⟩,q1⟩,q0⟩=>
     have h9:g3= []:=h9;obtain⟨z0,y0⟩:=eB e0 r0;obtain⟨z1,y1⟩:=eB e1 r1;obtain⟨z2,y2⟩:=eB e2 r2;have z3:=oS e3 r3;refine⟨u3,f3,?_,z3,?_⟩
     ·simp[z0,z1,z2]
     ·simp[q0,q1,q2,q3,h9,y0,y1,y2]
  ·cases h
 ·cases h
def CZ:List V→Option eZ
 | [a0,a1,a2]=>match gi a0,gi a1,gi a2 with
   |some x0,some x1,some x2=>some ⟨x0,x1,x2⟩
   |_,_,_=>none
 |_=>none
theorem DC{w:World}{c:List V}{us:List Value}{fp:List Nat}{x:eZ}(h:CZ c=some x)(hr:cq w c us fp):Re w us x fp:=by
 unfold CZ at h;split at h
 ·rename_i a0 a1 a2;split at h
  ·rename_i x0 x1 x2 e0 e1 e2;simp only[oI]at h;subst h;match us,hr with
   | [u0,u1,u2],⟨f0,g0,r0,⟨f1,g1,r1,⟨f2,g2,r2,h9,q2⟩,q1⟩,q0⟩=>
     have h9:g2= []:=h9;obtain⟨z0,y0⟩:=eB e0 r0;obtain⟨z1,y1⟩:=eB e1 r1;obtain⟨z2,y2⟩:=eB e2 r2;refine⟨?_,?_⟩
     ·simp[z0,z1,z2]
     ·simp[q0,q1,q2,h9,y0,y1,y2]
  ·cases h
 ·cases h
def C0:List V→Option dY
 | [a0,a1,a2,a3,a4]=>match gi a0,gi a1,gi a2,gi a3,gi a4 with
   |some x0,some x1,some x2,some x3,some x4=>some ⟨x0,x1,x2,x3,x4⟩
   |_,_,_,_,_=>none
 |_=>none
theorem DD{w:World}{c:List V}{us:List Value}{fp:List Nat}{x:dY}(h:C0 c=some x)(hr:cq w c us fp):Rg w us x fp:=by
 unfold C0 at h;split at h
 ·rename_i a0 a1 a2 a3 a4;split at h
  ·rename_i x0 x1 x2 x3 x4 e0 e1 e2 e3 e4;simp only[oI]at h;subst h;match us,hr with
   | [u0,u1,u2,u3,u4],⟨f0,g0,r0,⟨f1,g1,r1,⟨f2,g2,r2,⟨f3,g3,r3,⟨f4,g4,r4,h9,q4⟩,q3⟩,q2⟩,q1⟩,q0⟩=>
     have h9:g4= []:=h9;obtain⟨z0,y0⟩:=eB e0 r0;obtain⟨z1,y1⟩:=eB e1 r1;obtain⟨z2,y2⟩:=eB e2 r2;obtain⟨z3,y3⟩:=eB e3 r3;obtain⟨z4,y4⟩:=eB e4 r4;refine⟨?_,?_⟩
     ·simp[z0,z1,z2,z3,z4]
     ·simp[q0,q1,q2,q3,q4,h9,y0,y1,y2,y3,y4]
  ·cases h
 ·cases h
def vi:List V→Option Plain
 | [a0,a1]=>match gi a0,gs .u8 a1 with
   |some x0,some x1=>some ⟨x0,x1⟩
   |_,_=>none
 |_=>none
theorem yl{w:World}{c:List V}{us:List Value}{fp:List Nat}{x:Plain}(h:vi c=some x)(hr:cq w c us fp):Hg w us x fp:=by
 unfold vi at h;split at h
 ·rename_i a0 a1;split at h
  ·rename_i x0 x1 e0 e1;simp only[oI]at h;subst h;match us,hr with
   | [u0,u1],⟨f0,g0,r0,⟨f1,g1,r1,h9,q1⟩,q0⟩=>
     have h9:g1= []:=h9;obtain⟨z0,y0⟩:=eB e0 r0;have z1:=oS e1 r1;refine⟨u1,f1,?_,z1,?_⟩
     ·simp[z0]
     ·simp[q0,q1,h9,y0]
  ·cases h
 ·cases h
def ym:List V→Option cM
 | [a0,a1,a2,a3,a4]=>match gi a0,gi a1,gs .int a2,gs .u8 a3,gi a4 with
   |some x0,some x1,some x2,some x3,some x4=>some ⟨x0,x1,x2,x3,x4⟩
   |_,_,_,_,_=>none
 |_=>none
theorem BW{w:World}{c:List V}{us:List Value}{fp:List Nat}{x:cM}(h:ym c=some x)(hr:cq w c us fp):NK w us x fp:=by
 unfold ym at h;split at h
 ·rename_i a0 a1 a2 a3 a4;split at h
  ·rename_i x0 x1 x2 x3 x4 e0 e1 e2 e3 e4;simp only[oI]at h;subst h;match us,hr with
   | [u0,u1,u2,u3,u4],⟨f0,g0,r0,⟨f1,g1,r1,⟨f2,g2,r2,⟨f3,g3,r3,⟨f4,g4,r4,h9,q4⟩,q3⟩,q2⟩,q1⟩,q0⟩=>
     have h9:g4= []:=h9;obtain⟨z0,y0⟩:=eB e0 r0;obtain⟨z1,y1⟩:=eB e1 r1;have z2:=oS e2 r2;have z3:=oS e3 r3;obtain⟨z4,y4⟩:=eB e4 r4;refine⟨u2,u3,f2,f3,?_,z2,z3,?_⟩
     ·simp[z0,z1,z4]
     ·simp[q0,q1,q2,q3,q4,h9,y0,y1,y4]
  ·cases h
 ·cases h
def Ho:List V→Option (List Prop×Int)
 | [v]=>match gi v with|some n=>some ([],n)|none=>none
 |_=>none
def L1:List V→Option (List Prop×UInt8)
 | [.lit (.int .u8 n)]=>some ([0≤n∧n<256],UInt8.ofNat n.toNat)
 |_=>none
def Hq:List V→Option (List Prop×List UInt8)
 | [.lit (.string s)]=>some ([s.size≤maxLen],s.data.toList)
 |_=>none
def L2(t:Tag):List V→Option (List Prop×List (T t))
 | [v]=>match gs t v with|some l=>some ([],l)|none=>none
 |_=>none
def kA{α:Type}:Option α→Option (List Prop×α)
 |some x=>some ([],x)
 |none=>none
theorem eN{α:Type}{o:Option α}{vc:List Prop}{x:α}(h:kA o=some (vc,x)):o=some x:=by
 cases o with
 |none=>cases h
 |some y=>simp only[kA,oI,pI]at h;rw[h.2]
def enc:(t:Tag)→List V→Option (List Prop×T t)
 | .int,c=>Ho c
 | .u8,c=>L1 c
 | .str,c=>Hq c
 | .sl t,c=>L2 t c
 | .DB,c=>kA (Aw c)
 | .aT,c=>kA (ql c)
 | .bp,c=>kA (CW c)
 | .aJ,c=>kA (qm c)
 | .gZ,c=>kA (yj c)
 | .dF,c=>kA (vh c)
 | .aZ,c=>kA (CX c)
 | .aW,c=>kA (CY c)
 | .Ev,c=>kA (Hl c)
 | .eZ,c=>kA (CZ c)
 | .dY,c=>kA (C0 c)
 | .Plain,c=>kA (vi c)
 | .cM,c=>kA (ym c)
theorem s6{w:World}:(t:Tag)→{c:List V}→{us:List Value}→{fp:List Nat}→{vc:List Prop}→{x:T t}→enc t c=some (vc,x)→(∀q,q∈vc→q)→cq w c us fp→rd t w us x fp
 | .int,c,us,fp,vc,x,h,hv,hr=>by
   have h:Ho c=some (vc,x):=h;unfold Ho at h;split at h<;>first| (cases h;done)|skip
   ·split at h
    ·rename_i v _ n e;simp only[oI,pI]at h;obtain⟨rfl,rfl⟩:=h;match us,hr with
     | [u],⟨f,g,r,h9,q⟩=>
       obtain⟨z,y⟩:=eB e r;have h9:g= []:=h9;exact⟨by rw[z],by simp[q,y,h9]⟩
    ·cases h
 | .u8,c,us,fp,vc,x,h,hv,hr=>by
   have h:L1 c=some (vc,x):=h;unfold L1 at h;split at h<;>first| (cases h;done)|skip
   ·rename_i n _;simp only[oI,pI]at h;obtain⟨rfl,rfl⟩:=h;obtain⟨h0,h1⟩:=hv _ (List.mem_singleton.2 rfl);match us,hr with
    | [u],⟨f,g,r,h9,q⟩=>
      have h9:g= []:=h9;obtain⟨rfl,_,rfl⟩:=r;refine⟨?_,by simp[q,h9]⟩;have:((UInt8.ofNat n.toNat).toNat:Int)=n:=by rw[UInt8.toNat_ofNat'];omega
      rw[this]
 | .str,c,us,fp,vc,x,h,hv,hr=>by
   have h:Hq c=some (vc,x):=h;unfold Hq at h;split at h<;>first| (cases h;done)|skip
   ·rename_i s _;simp only[oI,pI]at h;obtain⟨rfl,rfl⟩:=h;have h0:=hv _ (List.mem_singleton.2 rfl);match us,hr with
    | [u],⟨f,g,r,h9,q⟩=>
      have h9:g= []:=h9;obtain⟨rfl,_,rfl⟩:=r;exact⟨rfl,h0,by simp[q,h9]⟩
 | .sl t,c,us,fp,vc,x,h,hv,hr=>by
   have h:L2 t c=some (vc,x):=h;unfold L2 at h;split at h<;>first| (cases h;done)|skip
   ·split at h
    ·rename_i v _ l e;simp only[oI,pI]at h;obtain⟨rfl,rfl⟩:=h;match us,hr with
     | [u],⟨f,g,r,h9,q⟩=>
       have h9:g= []:=h9;refine⟨u,rfl,?_⟩;have:=oS e r;rw[q,h9,List.append_nil];exact this
    ·cases h
 | .DB,c,us,fp,vc,x,h,hv,hr=>by
   exact vg (eN (show kA (Aw c)=_ from h)) hr
 | .aT,c,us,fp,vc,x,h,hv,hr=>by
   exact wI (eN (show kA (ql c)=_ from h)) hr
 | .bp,c,us,fp,vc,x,h,hv,hr=>by
   exact Dy (eN (show kA (CW c)=_ from h)) hr
 | .aJ,c,us,fp,vc,x,h,hv,hr=>by
   exact wJ (eN (show kA (qm c)=_ from h)) hr
 | .gZ,c,us,fp,vc,x,h,hv,hr=>by
   exact w8 (eN (show kA (yj c)=_ from h)) hr
 | .dF,c,us,fp,vc,x,h,hv,hr=>by
   exact qn (eN (show kA (vh c)=_ from h)) hr
 | .aZ,c,us,fp,vc,x,h,hv,hr=>by
   exact Dz (eN (show kA (CX c)=_ from h)) hr
 | .aW,c,us,fp,vc,x,h,hv,hr=>by
   exact DA (eN (show kA (CY c)=_ from h)) hr
 | .Ev,c,us,fp,vc,x,h,hv,hr=>by
   exact F5 (eN (show kA (Hl c)=_ from h)) hr
 | .eZ,c,us,fp,vc,x,h,hv,hr=>by
   exact DC (eN (show kA (CZ c)=_ from h)) hr
 | .dY,c,us,fp,vc,x,h,hv,hr=>by
   exact DD (eN (show kA (C0 c)=_ from h)) hr
 | .Plain,c,us,fp,vc,x,h,hv,hr=>by
   exact yl (eN (show kA (vi c)=_ from h)) hr
 | .cM,c,us,fp,vc,x,h,hv,hr=>by
   exact BW (eN (show kA (ym c)=_ from h)) hr
def eT:Tag→Value
 | .int=> .int .i64 0
 | .u8=> .int .u8 0
 | .str=> .string ⟨#[]⟩
 | .sl _=> .slice none 0 0
 | .DB=> .agg #[.slice none 0 0]
 | .aT=> .agg #[.int .i64 0, .slice none 0 0]
 | .bp=> .agg #[.int .i64 0, .int .i64 0, .int .i64 0, .slice none 0 0, .int .i64 0]
 | .aJ=> .agg #[.int .i64 0, .slice none 0 0]
 | .gZ=> .agg #[.int .i64 0, .slice none 0 0]
 | .dF=> .agg #[.int .i64 0, .int .i64 0, .int .i64 0, .int .i64 0, .slice none 0 0, .int .i64 0, .slice none 0 0, .int .i64 0]
 | .aZ=> .agg #[.int .i64 0, .int .i64 0, .int .i64 0, .int .i64 0, .slice none 0 0, .int .i64 0, .slice none 0 0, .int .i64 0, .int .i64 0, .int .i64 0, .int .i64 0, .int .i64 0, .slice none 0 0, .int .i64 0, .slice none 0 0, .int .i64 0]
 | .aW=> .agg #[.int .i64 0, .slice none 0 0, .slice none 0 0, .int .i64 0, .slice none 0 0, .int .i64 0, .int .i64 0, .int .i64 0, .slice none 0 0, .int .i64 0]
 | .Ev=> .agg #[.int .i64 0, .int .i64 0, .int .i64 0, .slice none 0 0]
 | .eZ=> .agg #[.int .i64 0, .int .i64 0, .int .i64 0]
 | .dY=> .agg #[.int .i64 0, .int .i64 0, .int .i64 0, .int .i64 0, .int .i64 0]
 | .Plain=> .agg #[.int .i64 0, .slice none 0 0]
 | .cM=> .agg #[.int .i64 0, .int .i64 0, .slice none 0 0, .slice none 0 0, .int .i64 0]
def dN:Tag→Nat
 | .int=>8
 | .u8=>1
 | .str=>16
 | .sl _=>24
 | .DB=>24
 | .aT=>32
 | .bp=>56
 | .aJ=>32
 | .gZ=>32
 | .dF=>96
 | .aZ=>192
 | .aW=>144
 | .Ev=>48
 | .eZ=>24
 | .dY=>40
 | .Plain=>32
 | .cM=>72
theorem mK:(t:Tag)→(eT t).cells.size=kk t
 | .int=>rfl
 | .u8=>rfl
 | .str=>rfl
 | .sl _=>rfl
 | .DB=>rfl
 | .aT=>rfl
 | .bp=>rfl
 | .aJ=>rfl
 | .gZ=>rfl
 | .dF=>rfl
 | .aZ=>rfl
 | .aW=>rfl
 | .Ev=>rfl
 | .eZ=>rfl
 | .dY=>rfl
 | .Plain=>rfl
 | .cM=>rfl
def flat:Tag→Bool
 | .int=>true
 | .u8=>true
 | .str=>true
 | .sl _=>false
 | .DB=>false
 | .aT=>false
 | .bp=>false
 | .aJ=>false
 | .gZ=>false
 | .dF=>false
 | .aZ=>false
 | .aW=>false
 | .Ev=>false
 | .eZ=>true
 | .dY=>true
 | .Plain=>false
 | .cM=>false
theorem VE{w:World}(t:Tag){cs:List Value}{x:T t}{fp:List Nat}(hf:flat t=true)(h:rd t w cs x fp):fp= []:=by
 cases t with
 |int=>exact(show Q0 w cs x fp from h).2
 |u8=>exact(show NB w cs x fp from h).2
 |str=>exact(show Q1 w cs x fp from h).2.2
 |sl _=>cases hf
 |DB=>cases hf
 |aT=>cases hf
 |bp=>cases hf
 |aJ=>cases hf
 |gZ=>cases hf
 |dF=>cases hf
 |aZ=>cases hf
 |aW=>cases hf
 |Ev=>cases hf
 |eZ=>exact(show Re w cs x fp from h).2
 |dY=>exact(show Rg w cs x fp from h).2
 |Plain=>cases hf
 |cM=>cases hf
theorem cq.lits{w:World}: ∀{z:List Value},(∀v,v∈z→v.oneCell'=true)→cq w (z.map V.lit) z []
 | [],_=>rfl
 |v::r,h=>⟨[],[],⟨rfl,h v (by simp),rfl⟩,cq.lits fun u hu=>h u (by simp[hu]),rfl⟩
theorem VF{w:World}:(t:Tag)→rd t w (eT t).cells.toList (aG t) []
 | .int=>⟨rfl,rfl⟩
 | .u8=>⟨rfl,rfl⟩
 | .str=>⟨rfl,by decide,rfl⟩
 | .sl _=>⟨_,rfl,none,0,rfl,Nat.le_refl _,Nat.zero_le _,Or.inl ⟨rfl,rfl,rfl⟩⟩
 | .DB=>vg (c:=(eT .DB).cells.toList.map V.lit) rfl (cq.lits (by simp[eT,Value.cells,Value.oneCell']))
 | .aT=>wI (c:=(eT .aT).cells.toList.map V.lit) rfl (cq.lits (by simp[eT,Value.cells,Value.oneCell']))
 | .bp=>Dy (c:=(eT .bp).cells.toList.map V.lit) rfl (cq.lits (by simp[eT,Value.cells,Value.oneCell']))
 | .aJ=>wJ (c:=(eT .aJ).cells.toList.map V.lit) rfl (cq.lits (by simp[eT,Value.cells,Value.oneCell']))
 | .gZ=>w8 (c:=(eT .gZ).cells.toList.map V.lit) rfl (cq.lits (by simp[eT,Value.cells,Value.oneCell']))
 | .dF=>qn (c:=(eT .dF).cells.toList.map V.lit) rfl (cq.lits (by simp[eT,Value.cells,Value.oneCell']))
 | .aZ=>Dz (c:=(eT .aZ).cells.toList.map V.lit) rfl (cq.lits (by simp[eT,Value.cells,Value.oneCell']))
 | .aW=>DA (c:=(eT .aW).cells.toList.map V.lit) rfl (cq.lits (by simp[eT,Value.cells,Value.oneCell']))
 | .Ev=>F5 (c:=(eT .Ev).cells.toList.map V.lit) rfl (cq.lits (by simp[eT,Value.cells,Value.oneCell']))
 | .eZ=>DC (c:=(eT .eZ).cells.toList.map V.lit) rfl (cq.lits (by simp[eT,Value.cells,Value.oneCell']))
 | .dY=>DD (c:=(eT .dY).cells.toList.map V.lit) rfl (cq.lits (by simp[eT,Value.cells,Value.oneCell']))
 | .Plain=>yl (c:=(eT .Plain).cells.toList.map V.lit) rfl (cq.lits (by simp[eT,Value.cells,Value.oneCell']))
 | .cM=>BW (c:=(eT .cM).cells.toList.map V.lit) rfl (cq.lits (by simp[eT,Value.cells,Value.oneCell']))
end
end Go.Proofs.YtaalpcnbbldlaaaGreatDoor.G
namespace Go.Proofs.YtaalpcnbbldlaaaGreatDoor.L
set_option linter.all false
open Go.RowKit
section
structure fH(fp:List Nat)(w w':World):Prop where
 os:w'.os=w.os
 tape:w'.tape=w.tape
 output:w'.output=w.output
 size:w.heap.size≤w'.heap.size
 block: ∀b,b<w.heap.size→b∉fp→w'.heap[b]? =w.heap[b]?
theorem fH.refl(fp:List Nat)(w:World):fH fp w w:=⟨rfl,rfl,rfl,Nat.le_refl _,fun _ _ _=>rfl⟩
theorem fH.mono{fp fq:List Nat}{w w':World}(h:fH fp w w')(hs: ∀b,b∈fp→b∈fq):fH fq w w':=⟨h.os,h.tape,h.output,h.size,fun b hb hn=>h.block b hb fun hm=>hn (hs b hm)⟩
theorem fH.trans{fp:List Nat}{a b c:World}(h:fH fp a b)(k:fH fp b c):fH fp a c:=
 ⟨k.os.trans h.os,k.tape.trans h.tape,k.output.trans h.output,Nat.le_trans h.size k.size,fun i hi hn=>(k.block i (Nat.lt_of_lt_of_le hi h.size) hn).trans (h.block i hi hn)⟩
theorem fH.below{fp:List Nat}{w w':World}{B:Nat}(h:fH fp w w')(hB:B≤w.heap.size)(hg: ∀b,b∈fp→B≤b):Below B w w':=
 ⟨h.os,h.tape,h.output,h.size,fun b hb=>h.block b (Nat.lt_of_lt_of_le hb hB) fun hm=>Nat.not_le_of_lt hb (hg b hm)⟩
theorem fH.agree{fp fq:List Nat}{w w':World}(h:fH fp w w')(hl: ∀b,b∈fq→b<w.heap.size)(hd: ∀b,b∈fq→b∉fp):Agree w w' fq:=fun b hb=>h.block b (hl b hb) (hd b hb)
section
variable{α:Type}{k:Nat}{E:ER α}{lo e g n:Nat}{w w':World}{l:List α}{bX:List (List Nat)}
theorem vo{bX:List (List Nat)}(h:bX.flatten.Nodup){i j:Nat}{f f':List Nat}(hi:bX[i]? =some f)(hj:bX[j]? =some f')(hne:i≠j): ∀b,b∈f→b∉f':=by
 intro b hb hb';have hp:=(List.pairwise_flatten.1 h).2;rw[List.pairwise_iff_getElem]at hp;obtain⟨hi1,rfl⟩:=List.getElem?_eq_some_iff.1 hi;obtain⟨VY,rfl⟩:=List.getElem?_eq_some_iff.1 hj;rcases Nat.lt_or_ge i j with h1|h1
 ·exact hp i j hi1 VY h1 b hb b hb' rfl
 ·exact hp j i VY hi1 (by omega) b hb' b hb rfl
theorem Part.set(G:fN k E)(h:Part k E lo e w g n l bX){i:Nat}{f:List Nat}{cs:List Value}{x':α}(hi:i<l.length)(hin:i<n)(hf:bX[i]? =some f)(hE:E w cs x' f):
  Part k E lo e (w.setCells g (i*k) cs) g n (l.set i x') bX:=by
 have hlen:=G.len hE;have hnd:=h.own.nodup;rw[List.nodup_cons]at hnd;obtain⟨c,hc,hs⟩:=h.blk;obtain⟨c',NC,hs'⟩:=ec g e cs (i*k) w c hc;have VA:w.there g (i*k) cs.length:=by rw[hlen];exact h.there _ hin
 have Dm: ∀b,b∈bX.flatten→b≠g:=fun b hb e=>hnd.1 (e▸hb);have hag:Agree w (w.setCells g (i*k) cs) bX.flatten:=fun b hb=>cH g cs _ w b (Dm b hb);refine⟨⟨c',NC,by rw[hs',hs]⟩,⟨by rw[List.length_set];exact h.el.1,fun j y fy hy ve=> ?_⟩,⟨h.own.nodup,h.own.ge,fun b hb=> ?_⟩,h.cap⟩
 ·by_cases hj:i=j
  ·subst hj;rw[List.getElem?_set_self hi]at hy;simp only[oI]at hy;subst hy;rw[hf]at ve;simp only[oI]at ve;subst ve;refine⟨cs,?_,G.agree hE (hag.sub fun b hb=>cI hf hb)⟩;rw[Nat.zero_add];exact World.rangeAt_setCells_same w g _ cs VA
  ·rw[List.getElem?_set_ne hj]at hy;obtain⟨cy,hr,Q5⟩:=h.el.2 j y fy hy ve;refine⟨cy,World.rangeAt_setCells_apart hr _ _ _ (Or.inr ?_),G.agree Q5 (hag.sub fun b hb=>cI ve hb)⟩;rw[G.len Q5,hlen];rcases Nat.lt_or_ge j i with h1|h1
   ·left;have:=Nat.mul_le_mul_right k (show j+1≤i by omega);rw[Nat.add_mul]at this;omega
   ·right;have:=Nat.mul_le_mul_right k (show i+1≤j by omega);rw[Nat.add_mul]at this;omega
 ·rcases List.mem_cons.1 hb with rfl|hb
  ·exact⟨_,_,NC⟩
  ·rw[hag b hb];exact h.own.kind b (List.mem_cons_of_mem _ hb)
theorem oX(G:fN k E){g o n:Nat}{c:Array Value}(hc:w.heap[g]? =some (.cells c e (0,0)))(hfit:o+n*k≤c.size)(hn:l.length≤n)(hcap:n≤maxLen)(hel:rB k E w g o l bX)(hown:Own lo w (g::bX.flatten)):
  iW k E lo e w (.slice (some ⟨g,o,none⟩) l.length n) l (g::bX.flatten):=by
 have hk:l.length*k≤n*k:=Nat.mul_le_mul_right k hn;have hcl:c.toList.length=c.size:=Array.length_toList;refine⟨(c.toList.drop o).take (l.length*k),bX,⟨by rw[List.length_take,List.length_drop];omega,Or.inr ⟨g,o,n,c,rfl,hown.ge g (by simp),hc,hn,hcap,hfit,rfl⟩⟩,hel.1,fun i x f hx hf=> ?_,rfl,hown⟩;obtain⟨cs,hr,hE⟩:=hel.2 i x f hx hf;have hlen:=G.len hE;have hi:i<l.length:=(List.getElem?_eq_some_iff.1 hx).1;have h5:i*k+k≤l.length*k:=by
  have:=Nat.mul_le_mul_right k (show i+1≤l.length by omega);rw[Nat.add_mul]at this;omega
 have:(((c.toList.drop o).take (l.length*k)).drop (i*k)).take k=cs:=by
  apply List.ext_getElem?;intro j;by_cases hj:j<k
  ·rw[List.getElem?_take,if_pos hj,List.getElem?_drop,List.getElem?_take,if_pos (by omega),List.getElem?_drop];have h6:=hr j _ (List.getElem?_eq_getElem (by omega));simp[World.cell?,hc]at h6;rw[List.getElem?_eq_getElem (show j<cs.length by omega), ←Nat.add_assoc];simp[h6]
  ·rw[List.getElem?_take,if_neg hj,List.getElem?_eq_none (by omega)]
 rw[this];exact hE
theorem iW.parts{v:Value}{fp:List Nat}(h:iW k E lo e w v l fp):(v= .slice none 0 0∧l= []∧fp= [])∨ ∃g o n c, ∃bX:List (List Nat),v= .slice (some ⟨g,o,none⟩) l.length n∧l.length≤n∧n≤maxLen∧w.heap[g]? =some (.cells c e (0,0))∧o+n*k≤c.size∧fp=g::bX.flatten:=by
 obtain⟨xs,bX,⟨hxl,ho⟩,hl,hel,jf,hown⟩:=h;rcases ho with⟨rfl,h0⟩| ⟨g,o,cap,cur,rfl,hg,hc,hn,hcm,hcs,htk⟩
 ·have hl0:l= []:=List.eq_nil_of_length_eq_zero h0;have:bX= []:=List.eq_nil_of_length_eq_zero (by omega);exact Or.inl ⟨rfl,hl0,by rw[jf,this];rfl⟩
 ·exact Or.inr ⟨g,o,cap,cur,bX,rfl,hn,hcm,hc,hcs,jf⟩
structure RR{α:Type}(k:Nat)(E:ER α)(lo:Nat)(w:World)(b off:Nat)(l:List α)(bX:List (List Nat)):Prop where
 el:rB k E w b off l bX
 own:Own lo w (b::bX.flatten)
theorem RR.lt{b off:Nat}(h:RR k E lo w b off l bX):b<w.heap.size:=h.own.lt b (by simp)
theorem RR.set(G:fN k E){b off:Nat}(h:RR k E lo w b off l bX){i o:Nat}{f:List Nat}{vs cs:List Value}{x':α}(hi:i<l.length)(ho:o+vs.length≤k)(hf:bX[i]? =some f)
  (hr:(w.setCells b (off+i*k+o) vs).rangeAt b (off+i*k) cs)(hE:E w cs x' f):
  RR k E lo (w.setCells b (off+i*k+o) vs) b off (l.set i x') bX:=by
 have hlen:=G.len hE;have hnd:=h.own.nodup;rw[List.nodup_cons]at hnd;have Dm: ∀c,c∈bX.flatten→c≠b:=fun c hc e=>hnd.1 (e▸hc);have hag:Agree w (w.setCells b (off+i*k+o) vs) bX.flatten:=fun c hc=>cH b vs _ w c (Dm c hc);refine⟨⟨by rw[List.length_set];exact h.el.1,fun j y fy hy ve=> ?_⟩,⟨h.own.nodup,h.own.ge,fun c hc=> ?_⟩⟩
 ·by_cases hj:i=j
  ·subst hj;rw[List.getElem?_set_self hi]at hy;simp only[oI]at hy;subst hy;rw[hf]at ve;simp only[oI]at ve;subst ve;exact⟨cs,hr,G.agree hE (hag.sub fun b hb=>cI hf hb)⟩
  ·rw[List.getElem?_set_ne hj]at hy;obtain⟨cy,hr,Q5⟩:=h.el.2 j y fy hy ve;refine⟨cy,World.rangeAt_setCells_apart hr _ _ _ (Or.inr ?_),G.agree Q5 (hag.sub fun b hb=>cI ve hb)⟩;rw[G.len Q5];rcases Nat.lt_or_ge j i with h1|h1
   ·left;have:=Nat.mul_le_mul_right k (show j+1≤i by omega);rw[Nat.add_mul]at this;omega
   ·right;have:=Nat.mul_le_mul_right k (show i+1≤j by omega);rw[Nat.add_mul]at this;omega
 ·rcases List.mem_cons.1 hc with rfl|hc
  ·obtain⟨c0,e0,hk⟩:=h.own.kind c (by simp);obtain⟨c',NC,_⟩:=ec c e0 vs (off+i*k+o) w c0 hk;exact⟨_,_,NC⟩
  ·rw[hag c hc];exact h.own.kind c (List.mem_cons_of_mem _ hc)
end
end
end Go.Proofs.YtaalpcnbbldlaaaGreatDoor.L
