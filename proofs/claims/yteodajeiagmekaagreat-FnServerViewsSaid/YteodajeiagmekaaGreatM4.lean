/-
  Slices that the call has made, written again: an element replaced; an element's own memory written by a call.
-/
import Derived.OpenShut
import Derived.ProofKit
import Derived.Test.YteodajeiagmekaaGreatM3
namespace Go.Proofs.YteodajeiagmekaaGreat.L
set_option linter.all false
open Go.RowKit Go.ChangeShapes Go.WideShapes Go.ChangeAt D
section
section
variable{H:Type}(enc:TypeId×Value→H)(P:Program)(w:World)(spare:Nat→Bool)(held:Bool)
def sE{α:Type}(t:TypeId)(E:ER α)(W:α→Prop):Prop:=
 ∀fuel cs y,DataW.trod enc P w 0 spare held fuel t cs=some y→ ∃x fp,E w cs x fp∧W x
variable{enc P w spare held}
theorem lY{t:TypeId}(ht:P.underlying t=some (.int .u8)):sE enc P w spare held t Fu (fun _=>True):=by
 intro fuel cs y h
 obtain⟨n,rfl,_,hw⟩:=DataW.trod_int ht h
 have hb:=bounds_u8 hw
 refine⟨UInt8.ofNat n.toNat,[],⟨?_,rfl⟩,trivial⟩
 have:((UInt8.ofNat n.toNat).toNat:Int)=n:=by
  rw[UInt8.toNat_ofNat'];omega
 rw[this]
theorem eJ{α:Type} [Inhabited α]{k:Nat}{E:ER α}{W:α→Prop}{t e:TypeId}(ht:P.underlying t=some (.slice e))(hk:P.cellsOf e=k)(hpos:0<k)(ho:sE enc P w spare held e E W):
  sE enc P w spare held t (IQ k E) (fun l=> ∀x,x∈l→W x):=by
 intro fuel cs y h
 rcases Go.Deep.open_slice ht h with⟨rfl,_⟩| ⟨a,len,cap,m,n,D,Pl,rfl,_,hl,hm,hmm,_,hx⟩
 ·exact⟨[],[],⟨_,rfl,none,0,rfl,Nat.le_refl _,Nat.zero_le _,Or.inl ⟨rfl,rfl,fun _=>rfl⟩⟩,by simp⟩
 rw[hk]at hx
 have hlm:len≤m:=by rw[hmm];split<;>omega
 by_cases h0:len=0
 ·subst h0
  exact⟨[],[],⟨_,rfl,some a,cap,rfl,hl,hm,Or.inl ⟨rfl,rfl,by simp⟩⟩,by simp⟩
 have hsp:a.spot=none:=by
  obtain⟨cs',hc,_⟩:=hx 0 (by omega)
  obtain⟨_,h1,h2⟩:=World.cells?_some hc
  have h3:=h2 0 (by omega)
  have ha:((a.add (0*k)).add 0)=a:=by simp[Addr.add]
  rw[ha]at h3
  have hlen:0<cs'.length:=by omega
  rw[List.getElem?_eq_getElem hlen]at h3
  simp only[World.cell?]at h3
  split at h3
  ·split at h3
   ·cases h3
   ·rename_i hs;simpa using hs
  ·cases h3
 obtain⟨b,off,rfl⟩: ∃b off,a=⟨b,off,none⟩:=⟨a.block,a.off,by cases a;simp_all⟩
 have hel: ∀i,i<len→ ∃q:α×List Nat,(∃cs',w.rangeAt b (off+i*k) cs'∧E w cs' q.1 q.2)∧W q.1:=by
  intro i hi
  obtain⟨cs',hc,htr⟩:=hx i (by omega)
  obtain⟨x,fp,hE,hW⟩:=ho _ _ _ htr
  obtain⟨_,h1,h2⟩:=World.cells?_some hc
  refine⟨(x,fp),⟨cs',fun j v hv=> ?_,hE⟩,hW⟩
  have hj:=(List.getElem?_eq_some_iff.1 hv).1
  have:=h2 j (by omega)
  rw[Addr.add_mid,Addr.add_mid,hv]at this
  exact this
 obtain⟨f,hf⟩:=Go.Deep.choose_lt hel
 refine⟨(List.range len).map fun i=>(f i).1,b::((List.range len).map fun i=>(f i).2).flatten,⟨_,rfl,some ⟨b,off,none⟩,cap,by simp,by simpa using hl,hm,Or.inr ⟨b,off,(List.range len).map fun i=>(f i).2,rfl,?_,rfl,by simp,?_⟩⟩,?_⟩
 ·obtain⟨cs',hc,_⟩:=hx 0 (by omega)
  have:=World.cells?_block hc (by omega)
  rw[Addr.add_mid]at this
  exact this
 ·intro i x fp hx ig
  have hi:i<len:=by have:=(List.getElem?_eq_some_iff.1 hx).1;simpa using this
  simp[hi]at hx ig
  subst hx;subst ig
  exact(hf i hi).1
 ·intro x hx
  simp only[List.mem_map,List.mem_range]at hx
  obtain⟨i,hi,rfl⟩:=hx
  exact(hf i hi).2
end
end
end Go.Proofs.YteodajeiagmekaaGreat.L
namespace Go.Proofs.YteodajeiagmekaaGreat.G
set_option linter.all false
open Go.RowKit L D
section
inductive Tag where
 |int|u8|str|sl(t:Tag)|DB|aA|aO|ay|gW|ep|aL|aJ|Ev|vi|dP|Plain|bQ
 deriving DecidableEq
@[reducible] def T:Tag→Type
  | .int=>Int
  | .u8=>UInt8
  | .str=>List UInt8
  | .sl t=>List (T t)
  | .DB=>DB
  | .aA=>aA
  | .aO=>aO
  | .ay=>ay
  | .gW=>gW
  | .ep=>ep
  | .aL=>aL
  | .aJ=>aJ
  | .Ev=>Ev
  | .vi=>vi
  | .dP=>dP
  | .Plain=>Plain
  | .bQ=>bQ
def kk:Tag→Nat
 | .int=>1
 | .u8=>1
 | .str=>1
 | .sl _=>1
 | .DB=>1
 | .aA=>2
 | .aO=>5
 | .ay=>2
 | .gW=>2
 | .ep=>8
 | .aL=>16
 | .aJ=>10
 | .Ev=>4
 | .vi=>3
 | .dP=>5
 | .Plain=>2
 | .bQ=>5
def rd:(t:Tag)→ER (T t)
 | .int=>mL
 | .u8=>Fu
 | .str=>Yv
 | .sl t=>IQ (kk t) (rd t)
 | .DB=>Vc
 | .aA=>rB
 | .aO=>LB
 | .ay=>rC
 | .gW=>LC
 | .ep=>GZ
 | .aL=>LD
 | .aJ=>G0
 | .Ev=>EEv
 | .vi=>QS
 | .dP=>QU
 | .Plain=>G1
 | .bQ=>Nj
theorem eK:(t:Tag)→gd (kk t) (rd t)
 | .int=>tE
 | .u8=>iL
 | .str=>QH
 | .sl t=>rA (eK t)
 | .DB=>m8
 | .aA=>tG
 | .aO=>Df
 | .ay=>tH
 | .gW=>tI
 | .ep=>j6
 | .aL=>Dg
 | .aJ=>QO
 | .Ev=>Vd
 | .vi=>QT
 | .dP=>QV
 | .Plain=>LF
 | .bQ=>O7
theorem gQ:(t:Tag)→0<kk t
 | .int=>by decide
 | .u8=>by decide
 | .str=>by decide
 | .sl _=>Nat.one_pos
 | .DB=>by decide
 | .aA=>by decide
 | .aO=>by decide
 | .ay=>by decide
 | .gW=>by decide
 | .ep=>by decide
 | .aL=>by decide
 | .aJ=>by decide
 | .Ev=>by decide
 | .vi=>by decide
 | .dP=>by decide
 | .Plain=>by decide
 | .bQ=>by decide
def au:(t:Tag)→T t
 | .int=>(0:Int)
 | .u8=>(0:UInt8)
 | .str=>([]:List UInt8)
 | .sl t=>([]:List (T t))
 | .DB=>(default:DB)
 | .aA=>(default:aA)
 | .aO=>(default:aO)
 | .ay=>(default:ay)
 | .gW=>(default:gW)
 | .ep=>(default:ep)
 | .aL=>(default:aL)
 | .aJ=>(default:aJ)
 | .Ev=>(default:Ev)
 | .vi=>(default:vi)
 | .dP=>(default:dP)
 | .Plain=>(default:Plain)
 | .bQ=>(default:bQ)
inductive V where
 |any
 |lit(v:Value)
 |sl(t:Tag)(l:List (T t))
 |own(n:Nat)
 |ptr(n off:Nat)
 |mM(n i off:Nat)
 |ip(t:Tag)(x:T t)(off:Nat)
 |vw(n:Nat)(p:Option (Nat×Nat))(t:Tag)(l:List (T t))
 |BY(n:Nat)(p:Option (Nat×Nat×Nat))(t:Tag)(x:T t)(off:Nat)
 |BZ(n:Nat)(t:Tag)(l:List (T t))
 |mix(n:Nat)(c:Bool)(t:Tag)(l:List (T t))
 |Ag(n:Nat)
 |Aj(f:FuncId)(n:Nat)
 |vR(k:Nat)
 |fY(v:Value)(t:Tag)(l:List (T t))
def RI(w:World):V→Value→List Nat→Prop
 | .lit v,u,fp=>u=v∧v.oneCell'=true∧fp= []
 | .sl t l,u,fp=>Sl (kk t) (rd t) w u l fp
 |_,_,_=>False
def bW(w:World):List V→List Value→List Nat→Prop
 | [],[],fp=>fp= []
 |V::Vs,u::us,fp=> ∃f g,RI w V u f∧bW w Vs us g∧fp=f++g
 |_,_,_=>False
theorem bW.nil{w:World}:bW w [] [] []:=rfl
theorem bW.lit{w:World}{v:Value}{Vs:List V}{us:List Value}{g:List Nat}(hv:v.oneCell'=true)(h:bW w Vs us g):bW w (.lit v::Vs) (v::us) g:=⟨[],g,⟨rfl,hv,rfl⟩,h,rfl⟩
theorem bW.sl{w:World}{u:Value}{t:Tag}{l:List (T t)}{f g:List Nat}{Vs:List V}{us:List Value}(k:Sl (kk t) (rd t) w u l f)(h:bW w Vs us g):bW w (.sl t l::Vs) (u::us) (f++g):=⟨f,g,k,h,rfl⟩
theorem bW.app{w:World}: ∀{Vs Us:List V} {vs us:List Value} {f g:List Nat},bW w Vs vs f→bW w Us us g→bW w (Vs++Us) (vs++us) (f++g)
 | [],_,[],_,_,_,h,k=>by rw[show _=_ from h];exact k
 |_::_,_,_::_,_,_,_,⟨f1,f2,h1,h2,e⟩,k=>⟨f1,f2++_,h1,bW.app h2 k,by rw[e,List.append_assoc]⟩
 | [],_,_::_,_,_,_,h,_=>h.elim
 |_::_,_,[],_,_,_,h,_=>h.elim
theorem bW.len{w:World}: ∀{Vs:List V} {us:List Value} {fp:List Nat},bW w Vs us fp→us.length=Vs.length
 | [],[],_,_=>rfl
 |_::_,_::_,_,⟨_,_,_,h,_⟩=>by simp[bW.len h]
 | [],_::_,_,h=>h.elim
 |_::_,[],_,h=>h.elim
def aF(x:DB):List V:= [.sl (.sl .u8) x.rows]
def dI(x:aA):List V:= [.lit (.int .i64 x.client)]++aF x.share
def bq(x:aO):List V:= [.lit (.int .i64 x.id), .lit (.int .i64 x.rows), .lit (.int .i64 x.round), .sl .aA x.received, .lit (.int .i64 x.behavior)]
def dW(x:ay):List V:= [.lit (.int .i64 x.round)]++aF x.db
def ck(x:gW):List V:= [.lit (.int .i64 x.rows), .sl .ay x.rounds]
def bn(x:ep):List V:= [.lit (.int .i64 x.id), .lit (.int .i64 x.eu), .lit (.int .i64 x.key), .lit (.int .i64 x.seed), .sl (.sl .u8) x.av, .lit (.int .i64 x.sent), .sl (.sl .u8) x.inbox, .lit (.int .i64 x.next)]
def bz(x:aL):List V:=bn x.live++bn x.saved
def aG(x:aJ):List V:= [.lit (.int .i64 x.rows), .sl .aO x.ah, .sl .aL x.af]++ck x.ak++ [.lit (.int .i64 x.az), .lit (.int .i64 x.seed), .lit (.int .i64 x.round), .sl .int x.replaced, .lit (.int .i64 x.cancelled)]
def LI(x:Ev):List V:= [.lit (.int .i64 x.kind), .lit (.int .i64 x.node), .lit (.int .i64 x.value), .sl .u8 x.body]
def G2(x:vi):List V:= [.lit (.int .i64 x.fr), .lit (.int .i64 x.to), .lit (.int .i64 x.bytes)]
def j8(x:dP):List V:= [.lit (.int .i64 x.server), .lit (.int .i64 x.client), .lit (.int .i64 x.round), .lit (.int .i64 x.j7), .lit (.int .i64 x.Cv)]
def eW(x:Plain):List V:= [.lit (.int .i64 x.kind), .sl .u8 x.body]
def dJ(x:bQ):List V:= [.lit (.int .i64 x.server), .lit (.int .i64 x.round), .sl .int x.selection, .sl .u8 x.data, .lit (.int .i64 x.Cv)]
def dec:(t:Tag)→T t→List V
 | .int,n=> [.lit (.int .i64 n)]
 | .u8,n=> [.lit (.int .u8 n.toNat)]
 | .str,s=> [.lit (.string ⟨s.toArray⟩)]
 | .sl t,l=> [.sl t l]
 | .DB,x=>aF x
 | .aA,x=>dI x
 | .aO,x=>bq x
 | .ay,x=>dW x
 | .gW,x=>ck x
 | .ep,x=>bn x
 | .aL,x=>bz x
 | .aJ,x=>aG x
 | .Ev,x=>LI x
 | .vi,x=>G2 x
 | .dP,x=>j8 x
 | .Plain,x=>eW x
 | .bQ,x=>dJ x
theorem Dp{w:World}{cs:List Value}{x:DB}{fp:List Nat}:Vc w cs x fp→bW w (aF x) cs fp:=by
 rintro⟨v0,f0,rfl,h0,rfl⟩
 have h:=(bW.sl (t:=(.sl .u8)) h0 bW.nil)
 simpa[aF]using h
theorem G3{w:World}{cs:List Value}{x:aA}{fp:List Nat}:rB w cs x fp→bW w (dI x) cs fp:=by
 rintro⟨v0,f0,rfl,h0,rfl⟩
 have h:=(bW.app (bW.lit (w:=w) (v:= .int .i64 x.client) rfl bW.nil) (Dp h0))
 simpa[dI]using h
theorem O9{w:World}{cs:List Value}{x:aO}{fp:List Nat}:LB w cs x fp→bW w (bq x) cs fp:=by
 rintro⟨v0,f0,rfl,h0,rfl⟩
 have h:=(bW.lit (w:=w) (v:= .int .i64 x.id) rfl (bW.lit (w:=w) (v:= .int .i64 x.rows) rfl (bW.lit (w:=w) (v:= .int .i64 x.round) rfl (bW.sl (t:= .aA) h0 (bW.lit (w:=w) (v:= .int .i64 x.behavior) rfl bW.nil)))))
 simpa[bq]using h
theorem G4{w:World}{cs:List Value}{x:ay}{fp:List Nat}:rC w cs x fp→bW w (dW x) cs fp:=by
 rintro⟨v0,f0,rfl,h0,rfl⟩
 have h:=(bW.app (bW.lit (w:=w) (v:= .int .i64 x.round) rfl bW.nil) (Dp h0))
 simpa[dW]using h
theorem FV{w:World}{cs:List Value}{x:gW}{fp:List Nat}:LC w cs x fp→bW w (ck x) cs fp:=by
 rintro⟨v0,f0,rfl,h0,rfl⟩
 have h:=(bW.lit (w:=w) (v:= .int .i64 x.rows) rfl (bW.sl (t:= .ay) h0 bW.nil))
 simpa[ck]using h
theorem Ak{w:World}{cs:List Value}{x:ep}{fp:List Nat}:GZ w cs x fp→bW w (bn x) cs fp:=by
 rintro⟨v0,v1,f0,f1,rfl,h0,h1,rfl⟩
 have h:=(bW.lit (w:=w) (v:= .int .i64 x.id) rfl (bW.lit (w:=w) (v:= .int .i64 x.eu) rfl (bW.lit (w:=w) (v:= .int .i64 x.key) rfl (bW.lit (w:=w) (v:= .int .i64 x.seed) rfl (bW.sl (t:=(.sl .u8)) h0 (bW.lit (w:=w) (v:= .int .i64 x.sent) rfl (bW.sl (t:=(.sl .u8)) h1 (bW.lit (w:=w) (v:= .int .i64 x.next) rfl bW.nil))))))))
 simpa[bn]using h
theorem Pa{w:World}{cs:List Value}{x:aL}{fp:List Nat}:LD w cs x fp→bW w (bz x) cs fp:=by
 rintro⟨v0,v1,f0,f1,rfl,h0,h1,rfl⟩
 have h:=(bW.app (Ak h0) (Ak h1))
 simpa[bz]using h
theorem Al{w:World}{cs:List Value}{x:aJ}{fp:List Nat}:G0 w cs x fp→bW w (aG x) cs fp:=by
 rintro⟨v0,v1,v2,v3,f0,f1,f2,f3,rfl,h0,h1,h2,h3,rfl⟩
 have h:=(bW.app (bW.app (bW.lit (w:=w) (v:= .int .i64 x.rows) rfl (bW.sl (t:= .aO) h0 (bW.sl (t:= .aL) h1 bW.nil))) (FV h2)) (bW.lit (w:=w) (v:= .int .i64 x.az) rfl (bW.lit (w:=w) (v:= .int .i64 x.seed) rfl (bW.lit (w:=w) (v:= .int .i64 x.round) rfl (bW.sl (t:= .int) h3 (bW.lit (w:=w) (v:= .int .i64 x.cancelled) rfl bW.nil))))))
 simpa[aG]using h
theorem Q4{w:World}{cs:List Value}{x:Ev}{fp:List Nat}:EEv w cs x fp→bW w (LI x) cs fp:=by
 rintro⟨v0,f0,rfl,h0,rfl⟩
 have h:=(bW.lit (w:=w) (v:= .int .i64 x.kind) rfl (bW.lit (w:=w) (v:= .int .i64 x.node) rfl (bW.lit (w:=w) (v:= .int .i64 x.value) rfl (bW.sl (t:= .u8) h0 bW.nil))))
 simpa[LI]using h
theorem Pc{w:World}{cs:List Value}{x:vi}{fp:List Nat}:QS w cs x fp→bW w (G2 x) cs fp:=by
 rintro⟨rfl,rfl⟩
 have h:=(bW.lit (w:=w) (v:= .int .i64 x.fr) rfl (bW.lit (w:=w) (v:= .int .i64 x.to) rfl (bW.lit (w:=w) (v:= .int .i64 x.bytes) rfl bW.nil)))
 simpa[G2]using h
theorem Pd{w:World}{cs:List Value}{x:dP}{fp:List Nat}:QU w cs x fp→bW w (j8 x) cs fp:=by
 rintro⟨rfl,rfl⟩
 have h:=(bW.lit (w:=w) (v:= .int .i64 x.server) rfl (bW.lit (w:=w) (v:= .int .i64 x.client) rfl (bW.lit (w:=w) (v:= .int .i64 x.round) rfl (bW.lit (w:=w) (v:= .int .i64 x.j7) rfl (bW.lit (w:=w) (v:= .int .i64 x.Cv) rfl bW.nil)))))
 simpa[j8]using h
theorem IW{w:World}{cs:List Value}{x:Plain}{fp:List Nat}:G1 w cs x fp→bW w (eW x) cs fp:=by
 rintro⟨v0,f0,rfl,h0,rfl⟩
 have h:=(bW.lit (w:=w) (v:= .int .i64 x.kind) rfl (bW.sl (t:= .u8) h0 bW.nil))
 simpa[eW]using h
theorem LJ{w:World}{cs:List Value}{x:bQ}{fp:List Nat}:Nj w cs x fp→bW w (dJ x) cs fp:=by
 rintro⟨v0,v1,f0,f1,rfl,h0,h1,rfl⟩
 have h:=(bW.lit (w:=w) (v:= .int .i64 x.server) rfl (bW.lit (w:=w) (v:= .int .i64 x.round) rfl (bW.sl (t:= .int) h0 (bW.sl (t:= .u8) h1 (bW.lit (w:=w) (v:= .int .i64 x.Cv) rfl bW.nil)))))
 simpa[dJ]using h
theorem reads{w:World}:(t:Tag)→{cs:List Value}→{x:T t}→{fp:List Nat}→rd t w cs x fp→bW w (dec t x) cs fp
 | .int,_,_,_,⟨rfl,rfl⟩=>bW.lit (v:= .int .i64 _) rfl bW.nil
 | .u8,_,_,_,⟨rfl,rfl⟩=>bW.lit (v:= .int .u8 _) rfl bW.nil
 | .str,_,_,_,⟨rfl,_,rfl⟩=>bW.lit (v:= .string _) rfl bW.nil
 | .sl t,_,_,_,⟨v,rfl,h⟩=>by have:=bW.sl (t:=t) h (bW.nil);rwa [List.append_nil]at this
 | .DB,_,_,_,h=>Dp h
 | .aA,_,_,_,h=>G3 h
 | .aO,_,_,_,h=>O9 h
 | .ay,_,_,_,h=>G4 h
 | .gW,_,_,_,h=>FV h
 | .ep,_,_,_,h=>Ak h
 | .aL,_,_,_,h=>Pa h
 | .aJ,_,_,_,h=>Al h
 | .Ev,_,_,_,h=>Q4 h
 | .vi,_,_,_,h=>Pc h
 | .dP,_,_,_,h=>Pd h
 | .Plain,_,_,_,h=>IW h
 | .bQ,_,_,_,h=>LJ h
end
section
def jj:(t t':Tag)→List (T t')→Option (List (T t))
 | .int, .int,l=>some l
 | .u8, .u8,l=>some l
 | .str, .str,l=>some l
 | .sl .int, .sl .int,l=>some l
 | .sl .u8, .sl .u8,l=>some l
 | .sl .str, .sl .str,l=>some l
 | .sl (.sl .u8), .sl (.sl .u8),l=>some l
 | .sl (.sl .int), .sl (.sl .int),l=>some l
 | .DB, .DB,l=>some l
 | .aA, .aA,l=>some l
 | .aO, .aO,l=>some l
 | .ay, .ay,l=>some l
 | .gW, .gW,l=>some l
 | .ep, .ep,l=>some l
 | .aL, .aL,l=>some l
 | .aJ, .aJ,l=>some l
 | .Ev, .Ev,l=>some l
 | .vi, .vi,l=>some l
 | .dP, .dP,l=>some l
 | .Plain, .Plain,l=>some l
 | .bQ, .bQ,l=>some l
 |_,_,_=>none
theorem dK{t t':Tag}{l:List (T t')}{l2:List (T t)}(h:jj t t' l=some l2): ∃e:t'=t,l2=e▸l:=by
 unfold jj at h
 split at h<;>first
  | (simp only[Option.some.injEq]at h;exact⟨rfl,h.symm⟩)
  |cases h
def gi:V→Option Int
 | .lit (.int .i64 n)=>some n
 |_=>none
def gs(t:Tag):V→Option (List (T t))
 | .sl t' l=>jj t t' l
 | .lit (.slice none 0 0)=>some []
 |_=>none
theorem eC{w:World}{v:V}{u:Value}{f:List Nat}{n:Int}(h:gi v=some n)(hr:RI w v u f):u= .int .i64 n∧f= []:=by
 unfold gi at h
 split at h
 ·simp only[Option.some.injEq]at h
  subst h
  exact⟨hr.1,hr.2.2⟩
 ·cases h
theorem pZ{w:World}{t:Tag}{v:V}{u:Value}{f:List Nat}{l:List (T t)}(h:gs t v=some l)(hr:RI w v u f):Sl (kk t) (rd t) w u l f:=by
 unfold gs at h
 split at h
 ·rename_i t' l'
  obtain⟨he,rfl⟩:=dK h
  subst he
  exact hr
 ·simp only[Option.some.injEq]at h
  subst h
  obtain⟨rfl,_,rfl⟩:=hr
  exact⟨none,0,rfl,Nat.le_refl _,Nat.zero_le _,Or.inl ⟨rfl,rfl,fun _=>rfl⟩⟩
 ·cases h
def Am:List V→Option DB
 | [a0]=>match gs (.sl .u8) a0 with
   |some x0=>some ⟨x0⟩
   |_=>none
 |_=>none
theorem vk{w:World}{c:List V}{us:List Value}{fp:List Nat}{x:DB}(h:Am c=some x)(hr:bW w c us fp):Vc w us x fp:=by
 unfold Am at h
 split at h
 ·rename_i a0
  split at h
  ·rename_i x0 e0
   simp only[Option.some.injEq]at h
   subst h
   match us,hr with
   | [u0],⟨f0,g0,r0,h9,q0⟩=>
     have h9:g0= []:=h9
     have z0:=pZ e0 r0
     refine⟨u0,f0,?_,z0,?_⟩
     ·rfl
     ·simp[q0,h9]
  ·cases h
 ·cases h
def rD:List V→Option aA
 | [a0,a1]=>match gi a0,Am [a1]with
   |some x0,some x1=>some ⟨x0,x1⟩
   |_,_=>none
 |_=>none
theorem wA{w:World}{c:List V}{us:List Value}{fp:List Nat}{x:aA}(h:rD c=some x)(hr:bW w c us fp):rB w us x fp:=by
 unfold rD at h
 split at h
 ·rename_i a0 a1
  split at h
  ·rename_i x0 x1 e0 e1
   simp only[Option.some.injEq]at h
   subst h
   match us,hr with
   | [u0,u1],⟨f0,g0,r0,⟨f1,g1,r1,h9,q1⟩,q0⟩=>
     have h9:g1= []:=h9
     obtain⟨z0,y0⟩:=eC e0 r0
     have z1:=vk (w:=w) (us:= [u1]) (fp:=(f1++ [])) e1 ⟨f1,_,r1,rfl,rfl⟩
     refine⟨[u1],(f1++ []),?_,z1,?_⟩
     ·simp[z0]
     ·simp[q0,q1,h9,y0]
  ·cases h
 ·cases h
def Cw:List V→Option aO
 | [a0,a1,a2,a3,a4]=>match gi a0,gi a1,gi a2,gs .aA a3,gi a4 with
   |some x0,some x1,some x2,some x3,some x4=>some ⟨x0,x1,x2,x3,x4⟩
   |_,_,_,_,_=>none
 |_=>none
theorem Dq{w:World}{c:List V}{us:List Value}{fp:List Nat}{x:aO}(h:Cw c=some x)(hr:bW w c us fp):LB w us x fp:=by
 unfold Cw at h
 split at h
 ·rename_i a0 a1 a2 a3 a4
  split at h
  ·rename_i x0 x1 x2 x3 x4 e0 e1 e2 e3 e4
   simp only[Option.some.injEq]at h
   subst h
   match us,hr with
   | [u0,u1,u2,u3,u4],⟨f0,g0,r0,⟨f1,g1,r1,⟨f2,g2,r2,⟨f3,g3,r3,⟨f4,g4,r4,h9,q4⟩,q3⟩,q2⟩,q1⟩,q0⟩=>
     have h9:g4= []:=h9
     obtain⟨z0,y0⟩:=eC e0 r0
     obtain⟨z1,y1⟩:=eC e1 r1
     obtain⟨z2,y2⟩:=eC e2 r2
     have z3:=pZ e3 r3
     obtain⟨z4,y4⟩:=eC e4 r4
     refine⟨u3,f3,?_,z3,?_⟩
     ·simp[z0,z1,z2,z4]
     ·simp[q0,q1,q2,q3,q4,h9,y0,y1,y2,y4]
  ·cases h
 ·cases h
def rE:List V→Option ay
 | [a0,a1]=>match gi a0,Am [a1]with
   |some x0,some x1=>some ⟨x0,x1⟩
   |_,_=>none
 |_=>none
theorem wD{w:World}{c:List V}{us:List Value}{fp:List Nat}{x:ay}(h:rE c=some x)(hr:bW w c us fp):rC w us x fp:=by
 unfold rE at h
 split at h
 ·rename_i a0 a1
  split at h
  ·rename_i x0 x1 e0 e1
   simp only[Option.some.injEq]at h
   subst h
   match us,hr with
   | [u0,u1],⟨f0,g0,r0,⟨f1,g1,r1,h9,q1⟩,q0⟩=>
     have h9:g1= []:=h9
     obtain⟨z0,y0⟩:=eC e0 r0
     have z1:=vk (w:=w) (us:= [u1]) (fp:=(f1++ [])) e1 ⟨f1,_,r1,rfl,rfl⟩
     refine⟨[u1],(f1++ []),?_,z1,?_⟩
     ·simp[z0]
     ·simp[q0,q1,h9,y0]
  ·cases h
 ·cases h
def yj:List V→Option gW
 | [a0,a1]=>match gi a0,gs .ay a1 with
   |some x0,some x1=>some ⟨x0,x1⟩
   |_,_=>none
 |_=>none
theorem wS{w:World}{c:List V}{us:List Value}{fp:List Nat}{x:gW}(h:yj c=some x)(hr:bW w c us fp):LC w us x fp:=by
 unfold yj at h
 split at h
 ·rename_i a0 a1
  split at h
  ·rename_i x0 x1 e0 e1
   simp only[Option.some.injEq]at h
   subst h
   match us,hr with
   | [u0,u1],⟨f0,g0,r0,⟨f1,g1,r1,h9,q1⟩,q0⟩=>
     have h9:g1= []:=h9
     obtain⟨z0,y0⟩:=eC e0 r0
     have z1:=pZ e1 r1
     refine⟨u1,f1,?_,z1,?_⟩
     ·simp[z0]
     ·simp[q0,q1,h9,y0]
  ·cases h
 ·cases h
def vl:List V→Option ep
 | [a0,a1,a2,a3,a4,a5,a6,a7]=>match gi a0,gi a1,gi a2,gi a3,gs (.sl .u8) a4,gi a5,gs (.sl .u8) a6,gi a7 with
   |some x0,some x1,some x2,some x3,some x4,some x5,some x6,some x7=>some ⟨x0,x1,x2,x3,x4,x5,x6,x7⟩
   |_,_,_,_,_,_,_,_=>none
 |_=>none
theorem rF{w:World}{c:List V}{us:List Value}{fp:List Nat}{x:ep}(h:vl c=some x)(hr:bW w c us fp):GZ w us x fp:=by
 unfold vl at h
 split at h
 ·rename_i a0 a1 a2 a3 a4 a5 a6 a7
  split at h
  ·rename_i x0 x1 x2 x3 x4 x5 x6 x7 e0 e1 e2 e3 e4 e5 e6 e7
   simp only[Option.some.injEq]at h
   subst h
   match us,hr with
   | [u0,u1,u2,u3,u4,u5,u6,u7],⟨f0,g0,r0,⟨f1,g1,r1,⟨f2,g2,r2,⟨f3,g3,r3,⟨f4,g4,r4,⟨f5,g5,r5,⟨f6,g6,r6,⟨f7,g7,r7,h9,q7⟩,q6⟩,q5⟩,q4⟩,q3⟩,q2⟩,q1⟩,q0⟩=>
     have h9:g7= []:=h9
     obtain⟨z0,y0⟩:=eC e0 r0
     obtain⟨z1,y1⟩:=eC e1 r1
     obtain⟨z2,y2⟩:=eC e2 r2
     obtain⟨z3,y3⟩:=eC e3 r3
     have z4:=pZ e4 r4
     obtain⟨z5,y5⟩:=eC e5 r5
     have z6:=pZ e6 r6
     obtain⟨z7,y7⟩:=eC e7 r7
     refine⟨u4,u6,f4,f6,?_,z4,z6,?_⟩
     ·simp[z0,z1,z2,z3,z5,z7]
     ·simp[q0,q1,q2,q3,q4,q5,q6,q7,h9,y0,y1,y2,y3,y5,y7]
  ·cases h
 ·cases h
def Cx:List V→Option aL
 | [a0,a1,a2,a3,a4,a5,a6,a7,a8,a9,a10,a11,a12,a13,a14,a15]=>match vl [a0,a1,a2,a3,a4,a5,a6,a7],vl [a8,a9,a10,a11,a12,a13,a14,a15]with
   |some x0,some x8=>some ⟨x0,x8⟩
   |_,_=>none
 |_=>none
theorem Dr{w:World}{c:List V}{us:List Value}{fp:List Nat}{x:aL}(h:Cx c=some x)(hr:bW w c us fp):LD w us x fp:=by
 unfold Cx at h
 split at h
 ·rename_i a0 a1 a2 a3 a4 a5 a6 a7 a8 a9 a10 a11 a12 a13 a14 a15
  split at h
  ·rename_i x0 x8 e0 e1
   simp only[Option.some.injEq]at h
   subst h
   match us,hr with
   | [u0,u1,u2,u3,u4,u5,u6,u7,u8,u9,u10,u11,u12,u13,u14,u15],⟨f0,g0,r0,⟨f1,g1,r1,⟨f2,g2,r2,⟨f3,g3,r3,⟨f4,g4,r4,⟨f5,g5,r5,⟨f6,g6,r6,⟨f7,g7,r7,⟨f8,g8,r8,⟨f9,g9,r9,⟨f10,g10,r10,⟨f11,g11,r11,⟨f12,g12,r12,⟨f13,g13,r13,⟨f14,g14,r14,⟨f15,g15,r15,h9,q15⟩,q14⟩,q13⟩,q12⟩,q11⟩,q10⟩,q9⟩,q8⟩,q7⟩,q6⟩,q5⟩,q4⟩,q3⟩,q2⟩,q1⟩,q0⟩=>
     have h9:g15= []:=h9
     have z0:=rF (w:=w) (us:= [u0,u1,u2,u3,u4,u5,u6,u7]) (fp:=(f0++(f1++(f2++(f3++(f4++(f5++(f6++(f7++ []))))))))) e0 ⟨f0,_,r0,⟨f1,_,r1,⟨f2,_,r2,⟨f3,_,r3,⟨f4,_,r4,⟨f5,_,r5,⟨f6,_,r6,⟨f7,_,r7,rfl,rfl⟩,rfl⟩,rfl⟩,rfl⟩,rfl⟩,rfl⟩,rfl⟩,rfl⟩
     have z8:=rF (w:=w) (us:= [u8,u9,u10,u11,u12,u13,u14,u15]) (fp:=(f8++(f9++(f10++(f11++(f12++(f13++(f14++(f15++ []))))))))) e1 ⟨f8,_,r8,⟨f9,_,r9,⟨f10,_,r10,⟨f11,_,r11,⟨f12,_,r12,⟨f13,_,r13,⟨f14,_,r14,⟨f15,_,r15,rfl,rfl⟩,rfl⟩,rfl⟩,rfl⟩,rfl⟩,rfl⟩,rfl⟩,rfl⟩
     refine⟨[u0,u1,u2,u3,u4,u5,u6,u7],[u8,u9,u10,u11,u12,u13,u14,u15],(f0++(f1++(f2++(f3++(f4++(f5++(f6++(f7++ [])))))))),(f8++(f9++(f10++(f11++(f12++(f13++(f14++(f15++ [])))))))),?_,z0,z8,?_⟩
     ·rfl
     ·simp[q0,q1,q2,q3,q4,q5,q6,q7,q8,q9,q10,q11,q12,q13,q14,q15,h9]
  ·cases h
 ·cases h
def Cy:List V→Option aJ
 | [a0,a1,a2,a3,a4,a5,a6,a7,a8,a9]=>match gi a0,gs .aO a1,gs .aL a2,yj [a3,a4],gi a5,gi a6,gi a7,gs .int a8,gi a9 with
   |some x0,some x1,some x2,some x3,some x5,some x6,some x7,some x8,some x9=>some ⟨x0,x1,x2,x3,x5,x6,x7,x8,x9⟩
   |_,_,_,_,_,_,_,_,_=>none
 |_=>none
theorem Ds{w:World}{c:List V}{us:List Value}{fp:List Nat}{x:aJ}(h:Cy c=some x)(hr:bW w c us fp):G0 w us x fp:=by
 unfold Cy at h
 split at h
 ·rename_i a0 a1 a2 a3 a4 a5 a6 a7 a8 a9
  split at h
  ·rename_i x0 x1 x2 x3 x5 x6 x7 x8 x9 e0 e1 e2 e3 e4 e5 e6 e7 e8
   simp only[Option.some.injEq]at h
   subst h
   match us,hr with
   | [u0,u1,u2,u3,u4,u5,u6,u7,u8,u9],⟨f0,g0,r0,⟨f1,g1,r1,⟨f2,g2,r2,⟨f3,g3,r3,⟨f4,g4,r4,⟨f5,g5,r5,⟨f6,g6,r6,⟨f7,g7,r7,⟨f8,g8,r8,⟨f9,g9,r9,h9,q9⟩,q8⟩,q7⟩,q6⟩,q5⟩,q4⟩,q3⟩,q2⟩,q1⟩,q0⟩=>
     have h9:g9= []:=h9
     obtain⟨z0,y0⟩:=eC e0 r0
     have z1:=pZ e1 r1
     have z2:=pZ e2 r2
     have z3:=wS (w:=w) (us:= [u3,u4]) (fp:=(f3++(f4++ []))) e3 ⟨f3,_,r3,⟨f4,_,r4,rfl,rfl⟩,rfl⟩
     obtain⟨z5,y5⟩:=eC e4 r5
     obtain⟨z6,y6⟩:=eC e5 r6
     obtain⟨z7,y7⟩:=eC e6 r7
     have z8:=pZ e7 r8
     obtain⟨z9,y9⟩:=eC e8 r9
     refine⟨u1,u2,[u3,u4],u8,f1,f2,(f3++(f4++ [])),f8,?_,z1,z2,z3,z8,?_⟩
     ·simp[z0,z5,z6,z7,z9]
     ·simp[q0,q1,q2,q3,q4,q5,q6,q7,q8,q9,h9,y0,y5,y6,y7,y9]
  ·cases h
 ·cases h
def G5:List V→Option Ev
 | [a0,a1,a2,a3]=>match gi a0,gi a1,gi a2,gs .u8 a3 with
   |some x0,some x1,some x2,some x3=>some ⟨x0,x1,x2,x3⟩
   |_,_,_,_=>none
 |_=>none
theorem FW{w:World}{c:List V}{us:List Value}{fp:List Nat}{x:Ev}(h:G5 c=some x)(hr:bW w c us fp):EEv w us x fp:=by
 unfold G5 at h
 split at h
 ·rename_i a0 a1 a2 a3
  split at h
  ·rename_i x0 x1 x2 x3 e0 e1 e2 e3
   simp only[Option.some.injEq]at h
   subst h
   match us,hr with
   | [u0,u1,u2,u3],⟨f0,g0,r0,⟨f1,g1,r1,⟨f2,g2,r2,⟨f3,g3,r3,h9,q3⟩,q2⟩,q1⟩,q0⟩=>
     have h9:g3= []:=h9
     obtain⟨z0,y0⟩:=eC e0 r0
     obtain⟨z1,y1⟩:=eC e1 r1
     obtain⟨z2,y2⟩:=eC e2 r2
     have z3:=pZ e3 r3
     refine⟨u3,f3,?_,z3,?_⟩
     ·simp[z0,z1,z2]
     ·simp[q0,q1,q2,q3,h9,y0,y1,y2]
  ·cases h
 ·cases h
def Cz:List V→Option vi
 | [a0,a1,a2]=>match gi a0,gi a1,gi a2 with
   |some x0,some x1,some x2=>some ⟨x0,x1,x2⟩
   |_,_,_=>none
 |_=>none
theorem Dt{w:World}{c:List V}{us:List Value}{fp:List Nat}{x:vi}(h:Cz c=some x)(hr:bW w c us fp):QS w us x fp:=by
 unfold Cz at h
 split at h
 ·rename_i a0 a1 a2
  split at h
  ·rename_i x0 x1 x2 e0 e1 e2
   simp only[Option.some.injEq]at h
   subst h
   match us,hr with
   | [u0,u1,u2],⟨f0,g0,r0,⟨f1,g1,r1,⟨f2,g2,r2,h9,q2⟩,q1⟩,q0⟩=>
     have h9:g2= []:=h9
     obtain⟨z0,y0⟩:=eC e0 r0
     obtain⟨z1,y1⟩:=eC e1 r1
     obtain⟨z2,y2⟩:=eC e2 r2
     refine⟨?_,?_⟩
     ·simp[z0,z1,z2]
     ·simp[q0,q1,q2,h9,y0,y1,y2]
  ·cases h
 ·cases h
def CA:List V→Option dP
 | [a0,a1,a2,a3,a4]=>match gi a0,gi a1,gi a2,gi a3,gi a4 with
   |some x0,some x1,some x2,some x3,some x4=>some ⟨x0,x1,x2,x3,x4⟩
   |_,_,_,_,_=>none
 |_=>none
theorem Du{w:World}{c:List V}{us:List Value}{fp:List Nat}{x:dP}(h:CA c=some x)(hr:bW w c us fp):QU w us x fp:=by
 unfold CA at h
 split at h
 ·rename_i a0 a1 a2 a3 a4
  split at h
  ·rename_i x0 x1 x2 x3 x4 e0 e1 e2 e3 e4
   simp only[Option.some.injEq]at h
   subst h
   match us,hr with
   | [u0,u1,u2,u3,u4],⟨f0,g0,r0,⟨f1,g1,r1,⟨f2,g2,r2,⟨f3,g3,r3,⟨f4,g4,r4,h9,q4⟩,q3⟩,q2⟩,q1⟩,q0⟩=>
     have h9:g4= []:=h9
     obtain⟨z0,y0⟩:=eC e0 r0
     obtain⟨z1,y1⟩:=eC e1 r1
     obtain⟨z2,y2⟩:=eC e2 r2
     obtain⟨z3,y3⟩:=eC e3 r3
     obtain⟨z4,y4⟩:=eC e4 r4
     refine⟨?_,?_⟩
     ·simp[z0,z1,z2,z3,z4]
     ·simp[q0,q1,q2,q3,q4,h9,y0,y1,y2,y3,y4]
  ·cases h
 ·cases h
def vm:List V→Option Plain
 | [a0,a1]=>match gi a0,gs .u8 a1 with
   |some x0,some x1=>some ⟨x0,x1⟩
   |_,_=>none
 |_=>none
theorem yl{w:World}{c:List V}{us:List Value}{fp:List Nat}{x:Plain}(h:vm c=some x)(hr:bW w c us fp):G1 w us x fp:=by
 unfold vm at h
 split at h
 ·rename_i a0 a1
  split at h
  ·rename_i x0 x1 e0 e1
   simp only[Option.some.injEq]at h
   subst h
   match us,hr with
   | [u0,u1],⟨f0,g0,r0,⟨f1,g1,r1,h9,q1⟩,q0⟩=>
     have h9:g1= []:=h9
     obtain⟨z0,y0⟩:=eC e0 r0
     have z1:=pZ e1 r1
     refine⟨u1,f1,?_,z1,?_⟩
     ·simp[z0]
     ·simp[q0,q1,h9,y0]
  ·cases h
 ·cases h
def ym:List V→Option bQ
 | [a0,a1,a2,a3,a4]=>match gi a0,gi a1,gs .int a2,gs .u8 a3,gi a4 with
   |some x0,some x1,some x2,some x3,some x4=>some ⟨x0,x1,x2,x3,x4⟩
   |_,_,_,_,_=>none
 |_=>none
theorem Bu{w:World}{c:List V}{us:List Value}{fp:List Nat}{x:bQ}(h:ym c=some x)(hr:bW w c us fp):Nj w us x fp:=by
 unfold ym at h
 split at h
 ·rename_i a0 a1 a2 a3 a4
  split at h
  ·rename_i x0 x1 x2 x3 x4 e0 e1 e2 e3 e4
   simp only[Option.some.injEq]at h
   subst h
   match us,hr with
   | [u0,u1,u2,u3,u4],⟨f0,g0,r0,⟨f1,g1,r1,⟨f2,g2,r2,⟨f3,g3,r3,⟨f4,g4,r4,h9,q4⟩,q3⟩,q2⟩,q1⟩,q0⟩=>
     have h9:g4= []:=h9
     obtain⟨z0,y0⟩:=eC e0 r0
     obtain⟨z1,y1⟩:=eC e1 r1
     have z2:=pZ e2 r2
     have z3:=pZ e3 r3
     obtain⟨z4,y4⟩:=eC e4 r4
     refine⟨u2,u3,f2,f3,?_,z2,z3,?_⟩
     ·simp[z0,z1,z4]
     ·simp[q0,q1,q2,q3,q4,h9,y0,y1,y4]
  ·cases h
 ·cases h
def G6:List V→Option (List Prop×Int)
 | [v]=>match gi v with|some n=>some ([],n)|none=>none
 |_=>none
def LK:List V→Option (List Prop×UInt8)
 | [.lit (.int .u8 n)]=>some ([0≤n∧n<256],UInt8.ofNat n.toNat)
 |_=>none
def G7:List V→Option (List Prop×List UInt8)
 | [.lit (.string s)]=>some ([s.size≤maxLen],s.data.toList)
 |_=>none
def LL(t:Tag):List V→Option (List Prop×List (T t))
 | [v]=>match gs t v with|some l=>some ([],l)|none=>none
 |_=>none
def kV{α:Type}:Option α→Option (List Prop×α)
 |some x=>some ([],x)
 |none=>none
theorem eX{α:Type}{o:Option α}{vc:List Prop}{x:α}(h:kV o=some (vc,x)):o=some x:=by
 cases o with
 |none=>cases h
 |some y=>simp only[kV,Option.some.injEq,Prod.mk.injEq]at h;rw[h.2]
def enc:(t:Tag)→List V→Option (List Prop×T t)
 | .int,c=>G6 c
 | .u8,c=>LK c
 | .str,c=>G7 c
 | .sl t,c=>LL t c
 | .DB,c=>kV (Am c)
 | .aA,c=>kV (rD c)
 | .aO,c=>kV (Cw c)
 | .ay,c=>kV (rE c)
 | .gW,c=>kV (yj c)
 | .ep,c=>kV (vl c)
 | .aL,c=>kV (Cx c)
 | .aJ,c=>kV (Cy c)
 | .Ev,c=>kV (G5 c)
 | .vi,c=>kV (Cz c)
 | .dP,c=>kV (CA c)
 | .Plain,c=>kV (vm c)
 | .bQ,c=>kV (ym c)
theorem tJ{w:World}:(t:Tag)→{c:List V}→{us:List Value}→{fp:List Nat}→{vc:List Prop}→{x:T t}→enc t c=some (vc,x)→(∀q,q∈vc→q)→bW w c us fp→rd t w us x fp
 | .int,c,us,fp,vc,x,h,hv,hr=>by
   have h:G6 c=some (vc,x):=h
   unfold G6 at h
   split at h<;>first| (cases h;done)|skip
   ·split at h
    ·rename_i v _ n e
     simp only[Option.some.injEq,Prod.mk.injEq]at h
     obtain⟨rfl,rfl⟩:=h
     match us,hr with
     | [u],⟨f,g,r,h9,q⟩=>
       obtain⟨z,y⟩:=eC e r
       have h9:g= []:=h9
       exact⟨by rw[z],by simp[q,y,h9]⟩
    ·cases h
 | .u8,c,us,fp,vc,x,h,hv,hr=>by
   have h:LK c=some (vc,x):=h
   unfold LK at h
   split at h<;>first| (cases h;done)|skip
   ·rename_i n _
    simp only[Option.some.injEq,Prod.mk.injEq]at h
    obtain⟨rfl,rfl⟩:=h
    obtain⟨h0,h1⟩:=hv _ (List.mem_singleton.2 rfl)
    match us,hr with
    | [u],⟨f,g,r,h9,q⟩=>
      have h9:g= []:=h9
      obtain⟨rfl,_,rfl⟩:=r
      refine⟨?_,by simp[q,h9]⟩
      have:((UInt8.ofNat n.toNat).toNat:Int)=n:=by rw[UInt8.toNat_ofNat'];omega
      rw[this]
 | .str,c,us,fp,vc,x,h,hv,hr=>by
   have h:G7 c=some (vc,x):=h
   unfold G7 at h
   split at h<;>first| (cases h;done)|skip
   ·rename_i s _
    simp only[Option.some.injEq,Prod.mk.injEq]at h
    obtain⟨rfl,rfl⟩:=h
    have h0:=hv _ (List.mem_singleton.2 rfl)
    match us,hr with
    | [u],⟨f,g,r,h9,q⟩=>
      have h9:g= []:=h9
      obtain⟨rfl,_,rfl⟩:=r
      exact⟨rfl,h0,by simp[q,h9]⟩
 | .sl t,c,us,fp,vc,x,h,hv,hr=>by
   have h:LL t c=some (vc,x):=h
   unfold LL at h
   split at h<;>first| (cases h;done)|skip
   ·split at h
    ·rename_i v _ l e
     simp only[Option.some.injEq,Prod.mk.injEq]at h
     obtain⟨rfl,rfl⟩:=h
     match us,hr with
     | [u],⟨f,g,r,h9,q⟩=>
       have h9:g= []:=h9
       refine⟨u,rfl,?_⟩
       have:=pZ e r
       rw[q,h9,List.append_nil];exact this
    ·cases h
 | .DB,c,us,fp,vc,x,h,hv,hr=>by
   exact vk (eX (show kV (Am c)=_ from h)) hr
 | .aA,c,us,fp,vc,x,h,hv,hr=>by
   exact wA (eX (show kV (rD c)=_ from h)) hr
 | .aO,c,us,fp,vc,x,h,hv,hr=>by
   exact Dq (eX (show kV (Cw c)=_ from h)) hr
 | .ay,c,us,fp,vc,x,h,hv,hr=>by
   exact wD (eX (show kV (rE c)=_ from h)) hr
 | .gW,c,us,fp,vc,x,h,hv,hr=>by
   exact wS (eX (show kV (yj c)=_ from h)) hr
 | .ep,c,us,fp,vc,x,h,hv,hr=>by
   exact rF (eX (show kV (vl c)=_ from h)) hr
 | .aL,c,us,fp,vc,x,h,hv,hr=>by
   exact Dr (eX (show kV (Cx c)=_ from h)) hr
 | .aJ,c,us,fp,vc,x,h,hv,hr=>by
   exact Ds (eX (show kV (Cy c)=_ from h)) hr
 | .Ev,c,us,fp,vc,x,h,hv,hr=>by
   exact FW (eX (show kV (G5 c)=_ from h)) hr
 | .vi,c,us,fp,vc,x,h,hv,hr=>by
   exact Dt (eX (show kV (Cz c)=_ from h)) hr
 | .dP,c,us,fp,vc,x,h,hv,hr=>by
   exact Du (eX (show kV (CA c)=_ from h)) hr
 | .Plain,c,us,fp,vc,x,h,hv,hr=>by
   exact yl (eX (show kV (vm c)=_ from h)) hr
 | .bQ,c,us,fp,vc,x,h,hv,hr=>by
   exact Bu (eX (show kV (ym c)=_ from h)) hr
def eZ:Tag→Value
 | .int=> .int .i64 0
 | .u8=> .int .u8 0
 | .str=> .string ⟨#[]⟩
 | .sl _=> .slice none 0 0
 | .DB=> .agg #[.slice none 0 0]
 | .aA=> .agg #[.int .i64 0, .slice none 0 0]
 | .aO=> .agg #[.int .i64 0, .int .i64 0, .int .i64 0, .slice none 0 0, .int .i64 0]
 | .ay=> .agg #[.int .i64 0, .slice none 0 0]
 | .gW=> .agg #[.int .i64 0, .slice none 0 0]
 | .ep=> .agg #[.int .i64 0, .int .i64 0, .int .i64 0, .int .i64 0, .slice none 0 0, .int .i64 0, .slice none 0 0, .int .i64 0]
 | .aL=> .agg #[.int .i64 0, .int .i64 0, .int .i64 0, .int .i64 0, .slice none 0 0, .int .i64 0, .slice none 0 0, .int .i64 0, .int .i64 0, .int .i64 0, .int .i64 0, .int .i64 0, .slice none 0 0, .int .i64 0, .slice none 0 0, .int .i64 0]
 | .aJ=> .agg #[.int .i64 0, .slice none 0 0, .slice none 0 0, .int .i64 0, .slice none 0 0, .int .i64 0, .int .i64 0, .int .i64 0, .slice none 0 0, .int .i64 0]
 | .Ev=> .agg #[.int .i64 0, .int .i64 0, .int .i64 0, .slice none 0 0]
 | .vi=> .agg #[.int .i64 0, .int .i64 0, .int .i64 0]
 | .dP=> .agg #[.int .i64 0, .int .i64 0, .int .i64 0, .int .i64 0, .int .i64 0]
 | .Plain=> .agg #[.int .i64 0, .slice none 0 0]
 | .bQ=> .agg #[.int .i64 0, .int .i64 0, .slice none 0 0, .slice none 0 0, .int .i64 0]
def cT:Tag→Nat
 | .int=>8
 | .u8=>1
 | .str=>16
 | .sl _=>24
 | .DB=>24
 | .aA=>32
 | .aO=>56
 | .ay=>32
 | .gW=>32
 | .ep=>96
 | .aL=>192
 | .aJ=>144
 | .Ev=>48
 | .vi=>24
 | .dP=>40
 | .Plain=>32
 | .bQ=>72
theorem nK:(t:Tag)→(eZ t).cells.size=kk t
 | .int=>rfl
 | .u8=>rfl
 | .str=>rfl
 | .sl _=>rfl
 | .DB=>rfl
 | .aA=>rfl
 | .aO=>rfl
 | .ay=>rfl
 | .gW=>rfl
 | .ep=>rfl
 | .aL=>rfl
 | .aJ=>rfl
 | .Ev=>rfl
 | .vi=>rfl
 | .dP=>rfl
 | .Plain=>rfl
 | .bQ=>rfl
def flat:Tag→Bool
 | .int=>true
 | .u8=>true
 | .str=>true
 | .sl _=>false
 | .DB=>false
 | .aA=>false
 | .aO=>false
 | .ay=>false
 | .gW=>false
 | .ep=>false
 | .aL=>false
 | .aJ=>false
 | .Ev=>false
 | .vi=>true
 | .dP=>true
 | .Plain=>false
 | .bQ=>false
theorem Vf{w:World}(t:Tag){cs:List Value}{x:T t}{fp:List Nat}(hf:flat t=true)(h:rd t w cs x fp):fp= []:=by
 cases t with
 |int=>exact(show mL w cs x fp from h).2
 |u8=>exact(show Fu w cs x fp from h).2
 |str=>exact(show Yv w cs x fp from h).2.2
 |sl _=>cases hf
 |DB=>cases hf
 |aA=>cases hf
 |aO=>cases hf
 |ay=>cases hf
 |gW=>cases hf
 |ep=>cases hf
 |aL=>cases hf
 |aJ=>cases hf
 |Ev=>cases hf
 |vi=>exact(show QS w cs x fp from h).2
 |dP=>exact(show QU w cs x fp from h).2
 |Plain=>cases hf
 |bQ=>cases hf
theorem bW.lits{w:World}: ∀{z:List Value},(∀v,v∈z→v.oneCell'=true)→bW w (z.map V.lit) z []
 | [],_=>rfl
 |v::r,h=>⟨[],[],⟨rfl,h v (by simp),rfl⟩,bW.lits fun u hu=>h u (by simp[hu]),rfl⟩
theorem Vg{w:World}:(t:Tag)→rd t w (eZ t).cells.toList (au t) []
 | .int=>⟨rfl,rfl⟩
 | .u8=>⟨rfl,rfl⟩
 | .str=>⟨rfl,by decide,rfl⟩
 | .sl _=>⟨_,rfl,none,0,rfl,Nat.le_refl _,Nat.zero_le _,Or.inl ⟨rfl,rfl,fun _=>rfl⟩⟩
 | .DB=>vk (c:=(eZ .DB).cells.toList.map V.lit) rfl (bW.lits (by simp[eZ,Value.cells,Value.oneCell']))
 | .aA=>wA (c:=(eZ .aA).cells.toList.map V.lit) rfl (bW.lits (by simp[eZ,Value.cells,Value.oneCell']))
 | .aO=>Dq (c:=(eZ .aO).cells.toList.map V.lit) rfl (bW.lits (by simp[eZ,Value.cells,Value.oneCell']))
 | .ay=>wD (c:=(eZ .ay).cells.toList.map V.lit) rfl (bW.lits (by simp[eZ,Value.cells,Value.oneCell']))
 | .gW=>wS (c:=(eZ .gW).cells.toList.map V.lit) rfl (bW.lits (by simp[eZ,Value.cells,Value.oneCell']))
 | .ep=>rF (c:=(eZ .ep).cells.toList.map V.lit) rfl (bW.lits (by simp[eZ,Value.cells,Value.oneCell']))
 | .aL=>Dr (c:=(eZ .aL).cells.toList.map V.lit) rfl (bW.lits (by simp[eZ,Value.cells,Value.oneCell']))
 | .aJ=>Ds (c:=(eZ .aJ).cells.toList.map V.lit) rfl (bW.lits (by simp[eZ,Value.cells,Value.oneCell']))
 | .Ev=>FW (c:=(eZ .Ev).cells.toList.map V.lit) rfl (bW.lits (by simp[eZ,Value.cells,Value.oneCell']))
 | .vi=>Dt (c:=(eZ .vi).cells.toList.map V.lit) rfl (bW.lits (by simp[eZ,Value.cells,Value.oneCell']))
 | .dP=>Du (c:=(eZ .dP).cells.toList.map V.lit) rfl (bW.lits (by simp[eZ,Value.cells,Value.oneCell']))
 | .Plain=>yl (c:=(eZ .Plain).cells.toList.map V.lit) rfl (bW.lits (by simp[eZ,Value.cells,Value.oneCell']))
 | .bQ=>Bu (c:=(eZ .bQ).cells.toList.map V.lit) rfl (bW.lits (by simp[eZ,Value.cells,Value.oneCell']))
end
section
def IX(_:Nat):Prop:=False
def FX(_:World):Prop:=True
theorem FX.keep{w w':World}(_:FX w)(_: ∀b,IX b→b<w.heap.size→w'.heap[b]? =w.heap[b]?):FX w':=trivial
theorem FX.lt{w:World}(_:FX w){b:Nat}(hb:IX b):b<w.heap.size:=hb.elim
end
section
inductive S1 where
 |a(v:V)
 |agg(l:List V)
inductive SV where
 |one(x:S1)
 |tK(l:List S1)
 |cond(p:List (Nat×Bool))(x:S1)
inductive CB where
 |gone
 |oB
 |of(n:Nat)
def CB.name:CB→Option Nat
 | .of n=>some n
 |_=>none
inductive Obj where
 |box(c:List V)
 |arr(t:Tag)(l:List (T t))
 |lZ(t:Tag)(l:List (T t))(s:CB)
structure St where
 n:Nat
 sl:List (Nat×SV)
 hp:List (Nat×Obj)
inductive TK where
 |int(k:IntKind)
 |bool
 |str
 |sl(t:Tag)(e:Nat)
 |st(z:List Value)(tg:List (Option Tag))(fo:List Nat)
 |other
abbrev Dv:Value:= .slice none 0 0
def jk(n:Nat):Bool:=Nat.ble 1000 n
def soft(n:Nat):Bool:=Nat.ble 900 n
def V.An:V→V
 | .vw _ _ t l=> .sl t l
 |v=>v
def V.Q5:V→V
 | .fY _ t l=> .sl t l
 |v=>v
def S1.Q5:S1→S1
 | .a v=> .a v.Q5
 |x=>x
def V.Yz:V→Bool
 | .vw _ _ _ _=>true
 |_=>false
def look{α:Type}:List (Nat×α)→Nat→Option α
 | [],_=>none
 | (j,x)::r,i=>match Nat.beq i j with|true=>some x|false=>look r i
def YA(q p:List (Nat×Bool)):Bool:=q.all fun e=>p.any fun f=>Nat.beq e.1 f.1&&e.2==f.2
def SV.mentions(d:Nat):SV→Bool
 | .cond p _=>p.any fun e=>Nat.beq e.1 d
 |_=>false
def SV.Q6(d:Nat)(v:SV):SV:=match v.mentions d with|true=> .one (.a .any)|false=>v
def St.put(st:St)(d:Option Nat)(v:SV):St:=
 match d with
 |some d=>match st.sl.any fun e=>e.2.mentions d with
  |false=>⟨st.n,(d,v)::st.sl,st.hp⟩
  |true=>⟨st.n,(d,v)::st.sl.map fun e=>(e.1,e.2.Q6 d),st.hp⟩
 |none=>st
def Lm(st:St)(p:List (Nat×Bool)):Operand→Option S1
 | .tmp t=>match look st.sl t with
   |some (.one x)=>some x
   |some (.cond q x)=>match YA q p with|true=>some x|false=>none
   |_=>none
 | .const v=>match v.oneCell' with|true=>some (.a (.lit v))|false=>none
 | .func f=>some (.a (.lit (.func (.func f) #[] #[])))
 | .global _=>none
def iO(st:St)(p:List (Nat×Bool))(x:Operand):Option S1:=match Lm st p x with|some v=>some v.Q5|none=>none
def bop(op:BinOp)(k:IntKind)(x y:Int):Option (List Prop×Value):=
 match op with
 | .add=>some ([], .int k (k.wrap (x+y)))
 | .sub=>some ([], .int k (k.wrap (x-y)))
 | .mul=>some ([], .int k (k.wrap (x*y)))
 | .quo=>some ([y≠0], .int k (k.wrap (x.tdiv y)))
 | .rem=>some ([y≠0], .int k (x.tmod y))
 | .eql=>some ([], .bool (x==y))
 | .neq=>some ([], .bool (x !=y))
 | .lss=>some ([], .bool (decide (x<y)))
 | .leq=>some ([], .bool (decide (x≤y)))
 | .gtr=>some ([], .bool (decide (x>y)))
 | .geq=>some ([], .bool (decide (x≥y)))
 | .and=>some ([], .int k (k.wrap (BitVec.ofInt k.bits x&&&BitVec.ofInt k.bits y).toNat))
 | .or=>some ([], .int k (k.wrap (BitVec.ofInt k.bits x|||BitVec.ofInt k.bits y).toNat))
 | .xor=>some ([], .int k (k.wrap (BitVec.ofInt k.bits x^^^BitVec.ofInt k.bits y).toNat))
 |_=>none
def Vh(op:BinOp)(k k':IntKind)(x y:Int):Option (List Prop×Value):=
 match op with
 | .shl=>some ([0≤y], .int k (k.wrap (x*2^(min y.toNat k.bits))))
 | .shr=>some ([0≤y], .int k (x.fdiv (2^(min y.toNat k.bits))))
 |op=>match decEq k k' with|isTrue _=>bop op k x y|isFalse _=>none
def Pe(op:BinOp)(x y:ByteArray):Option (List Prop×Value):=
 match op with
 | .eql=>some ([], .bool (x.toList==y.toList))
 | .neq=>some ([], .bool !(x.toList==y.toList))
 | .add=>some ([((x.size+y.size:Nat):Int)≤IntKind.i64.max], .string (x++y))
 |_=>none
def Fv(l:List UInt8):ByteArray:=⟨l.toArray⟩
def bytesOf(st:St):V→Option (List UInt8)
 | .sl .u8 l=>some l
 | .own n=>match look st.hp n with|some (.arr .u8 l)=>some l|_=>none
 | .vw _ _ .u8 l=>some l
 | .lit (.slice none 0 0)=>some []
 |_=>none
def lenOf(st:St)(k:TK):V→Option Int
 | .sl _ l=>match k with| .sl _ _=>some (l.length:Int)|_=>none
 | .own n=>match k with
   | .sl _ _=>match look st.hp n with|some (.arr _ l)=>some (l.length:Int)|_=>none
   |_=>none
 | .vw _ _ _ l=>match k with| .sl _ _=>some (l.length:Int)|_=>none
 | .lit (.slice none 0 0)=>match k with| .sl _ _=>some 0|_=>none
 | .lit (.string s)=>match k with| .str=>some (s.size:Int)|_=>none
 |_=>none
def oB(st:St)(tg:Option Tag):V→Option V
 | .sl t l=>some (.sl t l)
 | .own n=>match look st.hp n with|some (.arr t l)=>some (.sl t l)|_=>none
 | .vw _ _ t l=>some (.sl t l)
 | .mix _ _ t l=>some (.sl t l)
 | .Ag n=>match look st.hp n with
   |some (.lZ t l .oB)=>some (.sl t l)
   |some (.lZ t l (.of _))=>some (.sl t l)
   |_=>none
 | .lit (.slice none 0 0)=>match tg with|some t=>some (.sl t [])|none=>none
 | .lit (.slice _ _ _)=>none
 | .lit v=>some (.lit v)
 |_=>none
def IY(st:St):List (Option Tag)→List V→Option (List V)
 |_,[]=>some []
 |tg,v::r=>match oB st (match tg with|t::_=>t| []=>none) v,IY st (match tg with|_::ts=>ts| []=> []) r with
  |some x,some y=>some (x::y)
  |_,_=>none
def arg1(st:St)(k:TK):S1→Option S1
 | .a v=>match oB st (match k with| .sl t _=>some t|_=>none) v with|some x=>some (.a x)|none=>none
 | .agg l=>match IY st (match k with| .st _ tg _=>tg|_=> []) l with|some x=>some (.agg x)|none=>none
def YB:S1→Bool
 | .a (.lit (.slice none 0 0))=>true
 |_=>false
def Pf(b:Bool)(st:St)(k:TK)(v:S1):Option S1:=match b&&YB v with|true=>some v|false=>arg1 st k v
def args(b:Bool)(Γ:Nat→TK)(st:St)(p:List (Nat×Bool)):List Operand→List Nat→Option (List S1)
 | [],_=>some []
 |x::r,t=>match iO st p x with
  |some v=>match Pf b st (match t with|t::_=>Γ t| []=> .other) v,args b Γ st p r (match t with|_::ts=>ts| []=> [])with
   |some y,some ys=>some (y::ys)
   |_,_=>none
  |none=>none
structure CR where
 own:Bool
 rs:List S1
def oH(m:Nat):List V→List V×List (Nat×Obj)
 | []=>([],[])
 | .sl t l::r=>match oH (m+1) r with| (vs,os)=>(.own m::vs,(m, .arr t l)::os)
 | .vw _ _ t l::r=>match oH (m+1) r with| (vs,os)=>(.own (m+900)::vs,(m+900, .arr t l)::os)
 |v::r=>match oH (m+1) r with| (vs,os)=>(v::vs,os)
def tL(m:Nat):S1→S1×List (Nat×Obj)
 | .a v=>match oH m [v]with| ([v'],os)=>(.a v',os)|_=>(.a .any,[])
 | .agg l=>match oH m l with| (l',os)=>(.agg l',os)
def rG(m:Nat):List S1→List S1×List (Nat×Obj)
 | []=>([],[])
 |x::r=>match tL m x,rG (m+20) r with| (x',os),(r',os')=>(x'::r',os++os')
def gR:List (Nat×Obj)→Bool
 | []=>true
 | (n,_)::r=>(match look r n with|none=>true|some _=>false)&&gR r
def fresh(hp:List (Nat×Obj)):List (Nat×Obj)→Bool
 | []=>true
 | (n,_)::r=>((match look hp n with|none=>true|some _=>false)&& !jk n)&&fresh hp r
structure Out where
 vc:List Prop
 v:SV
 o:List (Nat×Obj)
def S1.IZ:S1→Bool
 | .a v=> !v.Yz
 | .agg l=>l.all fun v=> !v.Yz
def S1.An:S1→S1
 | .a v=> .a v.An
 | .agg l=> .agg (l.map V.An)
def outs(m:Nat)(c:CR)(vc:List Prop):Out:=
 match c.own with
 |true=>match rG m c.rs with
  | ([x],os)=>⟨vc, .one x,os⟩
  | (l,os)=>⟨vc, .tK l,os⟩
 |false=>match c.rs with
  | [x]=>match x.IZ with
    |true=>⟨vc, .one x,[]⟩
    |false=>⟨vc, .one x.An,[]⟩
  |l=>match l.all S1.IZ with
   |true=>⟨vc, .tK l,[]⟩
   |false=>⟨vc, .tK (l.map S1.An),[]⟩
def sub(c:List V)(off k:Nat):Option (List V):=match Nat.ble (off+k) c.length with|true=>some ((c.drop off).take k)|false=>none
def yp:List V→Nat→Option V
 | [],_=>none
 |v::_,0=>some v
 |_::r,n+1=>yp r n
def oC:List Nat→Nat→Option Nat
 | [],_=>none
 |v::_,0=>some v
 |_::r,n+1=>oC r n
def Vi:S1→Option FuncId
 | .a (.lit (.func (.func f) ⟨[]⟩ ⟨[]⟩))=>some f
 |_=>none
def IJ(st:St)(p:List (Nat×Bool))(z:Int):Option Operand→Option Int
 |none=>some z
 |some x=>match iO st p x with|some (.a (.lit (.int _ i)))=>some i|_=>none
def bor(n:Nat)(p:Option (Nat×Nat)):V→V
 | .sl t l=> .vw n p t l
 | .lit v=> .lit v
 |_=> .any
def YC(n i:Nat):Nat→List V→List V
 |_,[]=> []
 |o,v::r=>bor n (some (i,o)) v::YC n i (o+1) r
def YD(n:Nat):List V→List V
 | []=> []
 |v::r=>bor n none v::YD n r
def Vj(st:St)(p:List (Nat×Bool))(x:Operand):Option (IntKind×Int):=match iO st p x with|some (.a (.lit (.int k i)))=>some (k,i)|_=>none
def yq(st:St)(p:List (Nat×Bool)):List Operand→Option (List (IntKind×Int))
 | []=>some []
 |x::r=>match Vj st p x,yq st p r with|some y,some ys=>some (y::ys)|_,_=>none
def Vk(x y:Int):Int:=if y>x then y else x
def p7(x y:Int):Int:=if y<x then y else x
def FY(f:Int→Int→Int)(k:IntKind):Int→List (IntKind×Int)→Option Int
 |x,[]=>some x
 |x,(k',y)::r=>match decEq k k' with|isTrue _=>FY f k (f x y) r|isFalse _=>none
def plain:List V→Bool
 | []=>true
 | .lit (.slice _ _ _)::_=>false
 | .lit _::r=>plain r
 |_=>false
def cellsOf:S1→List V
 | .a v=> [v]
 | .agg l=>l
def wT(hp:List (Nat×Obj)):List V→Option (List V×Nat)
 | .own n::r=>match look hp n,plain r with
   |some (.arr t l),true=>some (.sl t l::r,n)
   |_,_=>none
 | .vw n _ t l::r=>match look hp n,plain r with
   |some (.arr _ _),true=>some (.sl t l::r,n)
   |_,_=>none
 | .lit (.slice _ _ _)::_=>none
 | .lit v::r=>match wT hp r with|some (c,n)=>some (.lit v::c,n)|none=>none
 |_=>none
def pM(st:St)(p:List (Nat×Bool))(g:Tag):Nat→List (Nat×Operand)→Option (List Prop×List (T g))
 |_,[]=>some ([],[])
 |i,(j,x)::r=>match Nat.beq i j,iO st p x with
  |true,some s=>match plain (cellsOf s),enc g (cellsOf s),pM st p g (i+1) r with
   |true,some (vc,y),some (vcs,ys)=>some (vc++vcs,y::ys)
   |_,_,_=>none
  |_,_=>none
def XD(n:Nat)(fo:List Nat)(j:Nat):Option Nat:=match oC fo j,oC fo (j+1)with
 |some a,some b=>some (b-a)
 |some a,none=>some (n-a)
 |_,_=>none
def tM:List V→Bool
 | []=>true
 | .any::_=>false
 |_::r=>tM r
def Ln(c:List V)(off:Nat)(vs:List V):Option (List V):=match Nat.ble (off+vs.length) c.length with
 |true=>some (c.take off++(vs++c.drop (off+vs.length)))
 |false=>none
def sG(st:St)(p:List (Nat×Bool))(n:Nat)(fo:List Nat):List (Nat×Operand)→List V→Option (List V)
 | [],c=>some c
 | (j,x)::r,c=>match oC fo j,XD n fo j,Lm st p x with
   |some o,some k,some s=>match tM (cellsOf s)&&Nat.beq (cellsOf s).length k,Ln c o (cellsOf s)with
    |true,some c'=>sG st p n fo r c'
    |_,_=>none
   |_,_,_=>none
def YE:Option (Nat×Nat)→Nat→Option (Nat×Nat×Nat)
 |some (a,b),j=>some (a,b,j)
 |none,_=>none
def dX(x:S1):Option Out:=some ⟨[], .one x,[]⟩
def Q7(st:St):Operand→Option Out
 | .tmp t=>match look st.sl t with|some (.tK l)=>some ⟨[], .tK l,[]⟩|_=>none
 |_=>none
def quiet(Γ:Nat→TK)(E:Tag→Nat→Prop)(S:FuncId→List S1→List S1→Prop)(cr:List (Nat×CR))(st:St)(p:List (Nat×Bool))(d m:Nat):Op→Option Out
 | .move x| .assign x=>match Lm st p x with|some v=>dX v|none=>Q7 st x
 | .pick (.tmp c) x y=>match iO st p (.tmp c),iO st ((c,true)::p) x,iO st ((c,false)::p) y with
   |some (.a (.lit (.bool t))),some (.a (.lit (.bool u))),some (.a (.lit (.bool v)))=>dX (.a (.lit (.bool (if t then u else v))))
   |_,_,_=>none
 | .box _ x=>match iO st p x with
   |some (.agg l)=>some ⟨[], .one (.a (.ptr m 0)),[(m, .box l)]⟩
   |some (.a .any)=>none
   |some (.a v)=>some ⟨[], .one (.a (.ptr m 0)),[(m, .box [v])]⟩
   |none=>none
 | .alloc t=>match Γ t with
   | .st z _ _=>some ⟨[], .one (.a (.ptr m 0)),[(m, .box (z.map .lit))]⟩
   |_=>none
 | .load t x=>match iO st p x with
   |some (.a (.ptr n off))=>match look st.hp n with
    |some (.box c)=>match Γ t with
     | .st z _ _=>match sub c off z.length with|some l=>dX (.agg l)|none=>none
     | .other=>none
     |_=>match yp c off with|some v=>dX (.a v.Q5)|none=>none
    |_=>none
   |some (.a (.ip g y off))=>match Γ t with
     | .st z _ _=>match sub (dec g y) off z.length with|some l=>dX (.agg l)|none=>none
     | .other=>none
     |_=>match yp (dec g y) off with|some v=>dX (.a v)|none=>none
   |some (.a (.BY n _ g y off))=>match Γ t with
     | .st z _ _=>match sub (dec g y) off z.length with|some l=>dX (.agg (YD n l))|none=>none
     | .other=>none
     |_=>match yp (dec g y) off with|some v=>dX (.a (bor n none v))|none=>none
   |some (.a (.mM n i off))=>match look st.hp n with
    |some (.arr g l)=>match Γ t with
     | .st z _ _=>match sub (dec g (l.getD i (au g))) off z.length with|some c=>some ⟨[i<l.length], .one (.agg (YC n i off c)),[]⟩|none=>none
     | .other=>none
     |_=>match yp (dec g (l.getD i (au g))) off with|some v=>some ⟨[i<l.length], .one (.a (bor n (some (i,off)) v)),[]⟩|none=>none
    |_=>none
   |_=>none
 | .binOp op t x y _=>match iO st p x,iO st p y with
   |some (.a (.lit (.int k a))),some (.a (.lit (.int k' b)))=>match Vh op k k' a b with|some (vc,v)=>some ⟨vc, .one (.a (.lit v)),[]⟩|none=>none
   |some (.a (.lit (.string a))),some (.a (.lit (.string b)))=>match Pe op a b with|some (vc,v)=>some ⟨vc, .one (.a (.lit v)),[]⟩|none=>none
   |some (.a (.lit (.bool a))),some (.a (.lit (.bool b)))=>match Γ t,op with
    | .bool, .eql=>dX (.a (.lit (.bool (a==b))))
    | .bool, .neq=>dX (.a (.lit (.bool (a !=b))))
    |_,_=>none
   |_,_=>none
 | .unOp .not _ x=>match iO st p x with
   |some (.a (.lit (.bool t)))=>dX (.a (.lit (.bool (!t))))
   |_=>none
 | .unOp .neg _ x=>match iO st p x with
   |some (.a (.lit (.int k n)))=>dX (.a (.lit (.int k (k.wrap (0-n)))))
   |_=>none
 | .convert s t x=>match iO st p x,Γ s,Γ t with
   |some (.a (.lit (.int _ n))), .int _, .int k=>dX (.a (.lit (.int k (k.wrap n))))
   |some (.a v), .sl _ e, .str=>match Γ e,bytesOf st v with
    | .int .u8,some l=>dX (.a (.lit (.string (Fv l))))
    |_,_=>none
   |_,_,_=>none
 | .makeFunc (.func f) first captured=>match first.toList,captured.toList with
   | [],[x]=>match iO st p x with
     |some (.a (.ptr n 0))=>dX (.a (.Aj f n))
     |_=>none
   |_,_=>none
 | .slice t x lo hi none=>match Γ t with
   | .sl g _=>match(look cr (d+600000)).isSome with
     |true=>match iO st p x,IJ st p 0 lo,hi with
      |some (.a (.vw _ _ _ l)),some lo,none=>some ⟨[lo=(l.length:Int)], .one (.a (.sl g [])),[]⟩
      |some (.a (.vR k)),some lo,none=>some ⟨[lo=(k:Int)], .one (.a (.sl g [])),[]⟩
      |_,_,_=>none
     |false=>match iO st p x,IJ st p 0 lo with
      |some (.a (.sl t' l)),some lo=>match IJ st p l.length hi with
       |some hi=>match Nat.beq (kk g) (kk t')with
        |true=>some ⟨[0≤lo∧lo≤hi∧hi≤(l.length:Int)], .one (.a (.sl t' ((l.take hi.toNat).drop lo.toNat))),[]⟩
        |false=>none
       |none=>none
      |some (.a (.vw n _ t' l)),some lo=>match IJ st p l.length hi with
       |some hi=>match Nat.beq (kk g) (kk t')with
        |true=>some ⟨[0≤lo∧lo≤hi∧hi≤(l.length:Int)], .one (.a (.vw n none t' ((l.take hi.toNat).drop lo.toNat))),[]⟩
        |false=>none
       |none=>none
      |some (.a (.own n)),some lo=>match look st.hp n with
       |some (.arr t' l)=>match IJ st p l.length hi with
        |some hi=>match Nat.beq (kk g) (kk t')with
         |true=>some ⟨[0≤lo∧lo≤hi∧hi≤(l.length:Int)], .one (.a (.vw n none t' ((l.take hi.toNat).drop lo.toNat))),[]⟩
         |false=>none
        |none=>none
       |_=>none
      |_,_=>none
   | .str=>match iO st p x,IJ st p 0 lo with
     |some (.a (.lit (.string s))),some lo=>match IJ st p s.size hi with
      |some hi=>some ⟨[0≤lo∧lo≤hi∧hi≤(s.size:Int)], .one (.a (.lit (.string (s.extract lo.toNat hi.toNat)))),[]⟩
      |none=>none
     |_,_=>none
   |_=>none
 | .slice t x none (some hi) (some mx)=>match Γ t with
   | .sl g _=>match iO st p x,IJ st p 0 (some hi),IJ st p 0 (some mx)with
     |some (.a (.own n)),some hi,some mx=>match look st.hp n with
      |some (.arr t' l)=>match Nat.beq (kk g) (kk t')with
       |true=>some ⟨[0≤hi∧hi=mx∧hi≤(l.length:Int)], .one (.a (.mix n true t' (l.take hi.toNat))),[]⟩
       |false=>none
      |_=>none
     |_,_,_=>none
   |_=>none
 | .fieldAddr t x f=>match Γ t with
   | .st _ _ fo=>match oC fo f with
     |some k=>match iO st p x with
      |some (.a (.ptr n off))=>dX (.a (.ptr n (off+k)))
      |some (.a (.ip t x off))=>dX (.a (.ip t x (off+k)))
      |some (.a (.mM n i off))=>dX (.a (.mM n i (off+k)))
      |some (.a (.BY n q t x off))=>dX (.a (.BY n q t x (off+k)))
      |_=>none
     |none=>none
   |_=>none
 | .indexAddr ty x i=>match Γ ty with
   | .sl g _=>match iO st p x,iO st p i with
     |some (.a (.sl t l)),some (.a (.lit (.int _ i)))=>match Nat.beq (kk g) (kk t)with
      |true=>some ⟨[0≤i∧i<(l.length:Int)], .one (.a (.ip t (l.getD i.toNat (au t)) 0)),[]⟩
      |false=>none
     |some (.a (.own n)),some (.a (.lit (.int _ i)))=>match look st.hp n with
      |some (.arr t l)=>match Nat.beq (kk g) (kk t)with
       |true=>some ⟨[0≤i∧i<(l.length:Int)], .one (.a (.mM n i.toNat 0)),[]⟩
       |false=>none
      |_=>none
     |some (.a (.vw n q t l)),some (.a (.lit (.int _ i)))=>match Nat.beq (kk g) (kk t)with
      |true=>some ⟨[0≤i∧i<(l.length:Int)], .one (.a (.BY n (YE q i.toNat) t (l.getD i.toNat (au t)) 0)),[]⟩
      |false=>none
     |_,_=>none
   |_=>none
 | .makeSlice ty x y=>match Γ ty with
   | .sl g e=>match iO st p x,iO st p y with
     |some (.a (.lit (.int _ a))),some (.a (.lit (.int _ b)))=>some ⟨[E g e,a=b,0≤a,a.toNat*cT g≤140737488355328∧a.toNat≤maxLen], .one (.a (.own m)),[(m, .arr g (List.replicate a.toNat (au g)))]⟩
     |_,_=>none
   |_=>none
 | .buildSlice ty len parts=>match Γ ty with
   | .sl g e=>match(look cr (d+500000)).isSome with
     |true=>match Nat.beq len 1,parts.toList with
      |true,[(0,x)]=>match iO st p x with
       |some s=>match wT st.hp (cellsOf s)with
        |some (c,n)=>match enc g c,Nat.ble (kk g) 16777216 with
         |some (vc,y),true=>some ⟨E g e::vc, .one (.a (.BZ n g [y])),[]⟩
         |_,_=>none
        |none=>none
       |none=>none
      |_,_=>none
     |false=>match Nat.beq parts.toList.length len,Nat.ble (len*kk g) 16777216,pM st p g 0 parts.toList with
      |true,true,some (vc,xs)=>some ⟨E g e::vc, .one (.a (.own m)),[(m, .arr g xs)]⟩
      |_,_,_=>none
   |_=>none
 | .build ty parts=>match Γ ty with
   | .st z _ fo=>match sG st p z.length fo parts.toList (z.map .lit)with
     |some c=>dX (.agg c)
     |none=>none
   |_=>none
 | .nilCheck x=>match iO st p x with
   |some (.a (.ptr n off))=>dX (.a (.ptr n off))
   |some (.a (.mM n i off))=>dX (.a (.mM n i off))
   |_=>none
 | .call ⟨.builtin .max,xs,_⟩=>match yq st p xs.toList with
   |some ((k,x)::r)=>match FY Vk k x r with|some y=>dX (.a (.lit (.int k y)))|none=>none
   |_=>none
 | .call ⟨.builtin .min,xs,_⟩=>match yq st p xs.toList with
   |some ((k,x)::r)=>match FY p7 k x r with|some y=>dX (.a (.lit (.int k y)))|none=>none
   |_=>none
 | .extract (.tmp t) i=>match look st.sl t with
   |some (.tK l)=>match l[i]? with|some x=>dX x|none=>none
   |_=>none
 | .call ⟨.builtin .append,xs,ts⟩=>match(look cr (d+650000)).isSome,xs.toList,ts.toList with
   |true,[x,y],[t1,t2]=>match Nat.beq t1 t2,Γ t1 with
    |true, .sl g e=>match iO st p x,iO st p y with
     |some (.a (.mix n true t l)),some (.a (.vw n2 _ t' l'))=>match Nat.beq n n2,jj g t l,jj g t' l' with
      |true,some a,some b=>some ⟨[E g e,(a.length+b.length)*cT g≤140737488355328∧a.length+b.length≤maxLen], .one (.a (.mix n false g (a++b))),[]⟩
      |_,_,_=>none
     |_,_=>none
    |_,_=>none
   |_,_,_=>none
 | .call ⟨.builtin .len,xs,ts⟩=>match xs.toList,ts.toList with
   | [x],[t]=>match iO st p x with
     |some (.a v)=>match lenOf st (Γ t) v with|some n=>dX (.a (.lit (.int .i64 n)))|none=>none
     |_=>none
   |_,_=>none
 | .call ⟨.value (.func f),xs,ts⟩=>match args (look cr (d+300000)).isSome Γ st p xs.toList ts.toList,look cr d with
   |some as,some c=>some (outs m c [S f as c.rs])
   |_,_=>none
 | .call ⟨.value (.tmp x),xs,ts⟩=>match iO st p (.tmp x)with
   |some v=>match Vi v with
    |some f=>match args (look cr (d+300000)).isSome Γ st p xs.toList ts.toList,look cr d with
     |some as,some c=>some (outs m c [S f as c.rs])
     |_,_=>none
    |none=>none
   |none=>none
 |_=>none
def hyps(st:St):List (Nat×Bool)→List Prop
 | []=> []
 | (d,x)::r=>match look st.sl d with
   |some (.one (.a (.lit (.bool b))))=>(b=x)::hyps st r
   |some (.cond _ (.a (.lit (.bool b))))=>(b=x)::hyps st r
   |_=>hyps st r
def G8:List Prop→Prop→Prop
 | [],q=>q
 |h::r,q=>h→G8 r q
def fB(st:St)(ops:List Oper)(o:Oper):Option (List (Nat×Bool)):=
 match o.guard with
 |none=>some []
 |some (j,x)=>match ops[j]? with
  |some q=>match q.dst with
   |some d=>match look st.sl d with
    |some (.one (.a (.lit (.bool _))))=>some [(d,x)]
    |some (.cond p (.a (.lit (.bool _))))=>some ((d,x)::p)
    |_=>none
   |none=>none
  |none=>none
def wE(st:St):Option Nat→Bool
 |some d=>Nat.blt d st.n
 |none=>true
def aaY(dc:List (Nat×Nat)):Option Nat→Option Nat
 |some d=>match look dc d with|some m=>some m|none=>some d
 |none=>some 99999
def l5(Γ:Nat→TK)(E:Tag→Nat→Prop)(S:FuncId→List S1→List S1→Prop)(dc:List (Nat×Nat))(cr:List (Nat×CR))(ops:List Oper)(st:St)(o:Oper):Option (List Prop×SV×List (Nat×Obj)):=
 match wE st o.dst,aaY dc o.dst,fB st ops o with
 |true,some m,some []=>match quiet Γ E S cr st [] (o.dst.getD 0) m o.op with
  |some ⟨vc,v,os⟩=>match fresh st.hp os,gR os with
   |true,true=>some (vc,v,os)
   |_,_=>none
  |none=>none
 |true,some m,some (e::p)=>match(e::p).any (fun e=>o.dst==some e.1)with
  |false=>match quiet Γ E S cr st (e::p) (o.dst.getD 0) m o.op with
   |some ⟨vc, .one v,[]⟩=>some (vc.map (G8 (hyps st (e::p))), .cond (e::p) v,[])
   |_=>none
  |true=>none
 |_,_,_=>none
def Q8(Γ:Nat→TK)(E:Tag→Nat→Prop)(S:FuncId→List S1→List S1→Prop)(dc:List (Nat×Nat))(cr:List (Nat×CR))(ops:List Oper)(st:St)(o:Oper):Option (List Prop×St):=
 match l5 Γ E S dc cr ops st o with
 |some (vc,v,os)=>some (vc,St.put ⟨st.n,st.sl,os++st.hp⟩ o.dst v)
 |none=>none
end
section
structure CO where
 v:Value
 fp:List Nat
abbrev Env:=Nat→CO
abbrev Hp:=List (Nat×Obj)
def Ow(hp:Hp)(env:Env)(b:Nat):Prop:= ∃n o,look hp n=some o∧b∈(env n).fp
def RV(w:World)(hp:Hp)(env:Env)(n:Nat)(p:Option (Nat×Nat))(t:Tag)(l:List (T t))(u:Value):Prop:=
 (∃t l,look hp n=some (.arr t l))∧(∃fp,Sl (kk t) (rd t) w u l fp∧fp.Nodup∧ ∀b,b∈fp→b∈(env n).fp)∧
   ∀i off,p=some (i,off)→ ∃t0 l0 b o len cap,look hp n=some (.arr t0 l0)∧i<l0.length∧yp (dec t0 (l0.getD i (au t0))) off=some (.sl t l)∧(env n).v= .slice (some ⟨b,o,none⟩) len cap∧b∈(env n).fp∧w.cell? ⟨b,o+i*kk t0+off,none⟩=some u
def Q9:ER Value:=fun _ cs x fp=>cs= [x]∧fp= []∧x.oneCell'=true
theorem yt:gd 1 Q9 where
 bu:=by rintro w w' cs x fp ⟨rfl,rfl,h⟩ _;exact⟨rfl,rfl,h⟩
 lt:=by rintro w cs x fp ⟨rfl,rfl,_⟩ b hb;cases hb
 len:=by rintro w cs x fp ⟨rfl,rfl,_⟩;rfl
 one:=by rintro w cs x fp ⟨rfl,rfl,h⟩ u hu;rw[List.mem_singleton.1 hu];exact h
theorem I0{α:Type}{E:ER α}{w:World}{Pb:Nat→Prop}: ∀(us:List Value) (l:List α),us.length=l.length→(∀(i:Nat) (x:α) (u:Value),l[i]? =some x→us[i]? =some u→ ∃f,E w [u] x f∧ ∀b,b∈f→Pb b)→
  ∃bh:List (List Nat),bh.length=l.length∧ ∀(i:Nat) (x:α) (u:Value) (f:List Nat),l[i]? =some x→us[i]? =some u→bh[i]? =some f→E w [u] x f∧ ∀b,b∈f→Pb b
 | [],[],_,_=>⟨[],rfl,fun i x u f h=>by simp at h⟩
 |u::us,x::l,hl,h=>by
  obtain⟨f,hf⟩:=h 0 x u rfl rfl
  obtain⟨bh,h1,h2⟩:=I0 us l (by simpa using hl) (fun i y v hy hv=>h (i+1) y v (by simpa using hy) (by simpa using hv))
  refine⟨f::bh,by simp[h1],fun i y v g hy hv hg=> ?_⟩
  cases i with
  |zero=>
   simp at hy hv hg
   subst hy;subst hv;subst hg
   exact hf
  |succ i=>exact h2 i y v g (by simpa using hy) (by simpa using hv) (by simpa using hg)
 | [],_::_,h,_=>by simp at h
 |_::_,[],h,_=>by simp at h
theorem Pg{α:Type}{E:ER α}{w:World}{v:Value}{us:List Value}{l:List α}{fp:List Nat}{Pb:Nat→Prop}(h:Sl 1 Q9 w v us fp)(hl:us.length=l.length)
  (hE: ∀(i:Nat) (x:α) (u:Value),l[i]? =some x→us[i]? =some u→ ∃f,E w [u] x f∧ ∀b,b∈f→Pb b): ∃gA,Sl 1 E w v l gA∧ ∀b,b∈gA→b∈fp∨Pb b:=by
 obtain⟨oa,cap,rfl,hc,hm,h3⟩:=h
 rcases h3 with⟨rfl,_,hn⟩| ⟨b,off,fs,rfl,hb,rfl,hE2⟩
 ·have:l= []:=List.length_eq_zero_iff.1 (by rw[←hl];rfl)
  subst this
  exact⟨[],⟨oa,cap,rfl,Nat.zero_le _,hm,Or.inl ⟨rfl,rfl,hn⟩⟩,by simp⟩
 ·obtain⟨bh,q1,q2⟩:=I0 us l hl hE
  refine⟨b::bh.flatten,⟨_,cap,by rw[hl],by omega,hm,Or.inr ⟨b,off,bh,rfl,hb,rfl,q1,fun i x f hx hf=> ?_⟩⟩,fun c hc=> ?_⟩
  ·have hi:=(List.getElem?_eq_some_iff.1 hx).1
   obtain⟨u,hu⟩: ∃u,us[i]? =some u:=⟨_,List.getElem?_eq_getElem (by omega)⟩
   obtain⟨g,hg⟩: ∃g,fs[i]? =some g:=⟨_,List.getElem?_eq_getElem (by rw[hE2.1];omega)⟩
   obtain⟨cs,k1,k2,_,_⟩:=hE2.2 i u g hu hg
   subst k2
   exact⟨[u],k1,(q2 i x u f hx hu hf).1⟩
  ·rcases List.mem_cons.1 hc with rfl|hc
   ·exact Or.inl (by simp)
   ·obtain⟨f,hf,hcf⟩:=List.mem_flatten.1 hc
    obtain⟨i,hi⟩:=List.getElem?_of_mem hf
    have hil:=(List.getElem?_eq_some_iff.1 hi).1
    exact Or.inr ((q2 i l[i] us[i] f (List.getElem?_eq_getElem (by omega)) (List.getElem?_eq_getElem (by omega)) hi).2 c hcf)
def BE(w:World)(hp:Hp)(env:Env)(s:CB)(t:Tag)(x:T t)(u:Value):Prop:=match s with
 | .gone=>True
 | .oB=> ∃f,rd t w [u] x f∧ ∀b,b∈f→ ¬Ow hp env b
 | .of n=>(∃t l,look hp n=some (.arr t l))∧ ∃f,rd t w [u] x f∧ ∀b,b∈f→b∈(env n).fp∨ ¬Ow hp env b
def RA(w:World)(hp:Hp)(env:Env):V→Value→Prop
 | .any,_=>True
 | .lit v,u=>u=v∧v.oneCell'=true
 | .sl t l,u=> ∃fp,Sl (kk t) (rd t) w u l fp∧ ∀b,b∈fp→ ¬Ow hp env b
 | .own n,u=>(∃t l,look hp n=some (.arr t l))∧u=(env n).v
 | .ptr n off,u=>(∃c,look hp n=some (.box c))∧ ∃b,(env n).v= .pointer (some ⟨b,0,none⟩)∧u= .pointer (some ⟨b,off,none⟩)
 | .mM n i off,u=> ∃t l,look hp n=some (.arr t l)∧ ∃b o len cap,(env n).v= .slice (some ⟨b,o,none⟩) len cap∧u= .pointer (some ⟨b,o+i*kk t+off,none⟩)
 | .vw n p t l,u=>RV w hp env n p t l u
 | .BZ n t l,u=>(∃t l,look hp n=some (.arr t l))∧ ∃b fp,Sl (kk t) (rd t) w u l (b::fp)∧ ¬Ow hp env b∧fp.Nodup∧ ∀c,c∈fp→c∈(env n).fp
 | .Ag n,u=>(∃t l s,look hp n=some (.lZ t l s))∧u=(env n).v
 | .mix n c t l,u=>(∃t l,look hp n=some (.arr t l))∧(∃fp,Sl (kk t) (rd t) w u l fp∧ ∀b,b∈fp→b∈(env n).fp∨ ¬Ow hp env b)∧(c=true→ ∃oa,u= .slice oa l.length l.length)
 | .BY n p t x off,u=>(∃t l,look hp n=some (.arr t l))∧ ∃b o cs fp,u= .pointer (some ⟨b,o+off,none⟩)∧b∈(env n).fp∧w.rangeAt b o cs∧rd t w cs x fp∧fp.Nodup∧(∀c,c∈fp→c∈(env n).fp)∧
   ∀i o2 j,p=some (i,o2,j)→ ∃l u0 b0 pN len cap,RV w hp env n (some (i,o2)) t l u0∧j<l.length∧x=l.getD j (au t)∧u0= .slice (some ⟨b0,pN,none⟩) len cap∧u= .pointer (some ⟨b0,pN+j*kk t+off,none⟩)
 | .Aj f n,u=>(∃c,look hp n=some (.box c))∧ ∃b,(env n).v= .pointer (some ⟨b,0,none⟩)∧u= .func (.func f) #[] #[.pointer (some ⟨b,0,none⟩)]
 | .vR k,u=> ∃oa cap,u= .slice oa k cap∧k≤cap∧cap≤maxLen∧(oa=none→cap=0)
 | .fY v t l,u=>u=v∧ ∃fp,Sl (kk t) (rd t) w u l fp∧ ∀b,b∈fp→ ¬Ow hp env b
 | .ip t x off,u=> ∃b o cs fp,u= .pointer (some ⟨b,o+off,none⟩)∧b<w.heap.size∧w.rangeAt b o cs∧rd t w cs x fp∧ ¬Ow hp env b∧ ∀c,c∈fp→ ¬Ow hp env c
theorem RA.Q5{w:World}{hp:Hp}{env:Env}{v:V}{u:Value}(h:RA w hp env v u):RA w hp env v.Q5 u:=by
 cases v with
 |fY v t l=>exact h.2
 |_=>exact h
def bt{α β:Type}(R:α→β→Prop):List α→List β→Prop
 | [],[]=>True
 |a::as,b::bs=>R a b∧bt R as bs
 |_,_=>False
theorem bt.mono{α β:Type}{R R':α→β→Prop}: ∀{as:List α} {bs:List β},(∀a b,a∈as→R a b→R' a b)→bt R as bs→bt R' as bs
 | [],[],_,_=>trivial
 |a::as,b::bs,h,⟨h1,h2⟩=>⟨h a b (by simp) h1,bt.mono (fun a b ha=>h a b (List.mem_cons_of_mem _ ha)) h2⟩
 | [],_::_,_,h=>h.elim
 |_::_,[],_,h=>h.elim
theorem bt.len{α β:Type}{R:α→β→Prop}: ∀{as:List α} {bs:List β},bt R as bs→bs.length=as.length
 | [],[],_=>rfl
 |_::_,_::_,⟨_,h⟩=>by simp[bt.len h]
 | [],_::_,h=>h.elim
 |_::_,[],h=>h.elim
theorem bt.app{α β:Type}{R:α→β→Prop}: ∀{as as':List α} {bs bs':List β},bt R as bs→bt R as' bs'→bt R (as++as') (bs++bs')
 | [],_,[],_,_,h=>h
 |_::_,_,_::_,_,⟨h1,h2⟩,h=>⟨h1,bt.app h2 h⟩
 | [],_,_::_,_,h,_=>h.elim
 |_::_,_,[],_,h,_=>h.elim
theorem bt.drop{α β:Type}{R:α→β→Prop}: ∀{as:List α} {bs:List β} (n:Nat),bt R as bs→bt R (as.drop n) (bs.drop n)
 |_,_,0,h=>h
 | [],[],_+1,_=>trivial
 |_::_,_::_,n+1,⟨_,h⟩=>bt.drop n h
 | [],_::_,_,h=>h.elim
 |_::_,[],_,h=>h.elim
theorem bt.take{α β:Type}{R:α→β→Prop}: ∀{as:List α} {bs:List β} (n:Nat),bt R as bs→bt R (as.take n) (bs.take n)
 |_,_,0,_=>by simp[bt]
 | [],[],_+1,_=>trivial
 |_::_,_::_,n+1,⟨h1,h⟩=>⟨h1,bt.take n h⟩
 | [],_::_,_,h=>h.elim
 |_::_,[],_,h=>h.elim
theorem bt.at{α β:Type}{R:α→β→Prop}: ∀{as:List α} {bs:List β} {i:Nat} {x:α},bt R as bs→as[i]? =some x→ ∃y,bs[i]? =some y∧R x y
 |a::as,b::bs,0,x,⟨h1,_⟩,hx=>⟨b,rfl,by simp at hx;rw[←hx];exact h1⟩
 |a::as,b::bs,i+1,x,⟨_,h⟩,hx=>by
  obtain⟨y,hy,hr⟩:=bt.at (i:=i) h (by simpa using hx)
  exact⟨y,by simpa using hy,hr⟩
 | [],_,_,_,_,hx=>by simp at hx
 |_::_,[],_,_,h,_=>h.elim
def fP(w:World)(hp:Hp)(env:Env):S1→Value→Prop
 | .a v,u=>RA w hp env v u
 | .agg l,u=> ∃cs,u= .agg cs.toArray∧bt (RA w hp env) l cs
theorem fP.Q5{w:World}{hp:Hp}{env:Env}{x:S1}{u:Value}(h:fP w hp env x u):fP w hp env x.Q5 u:=by
 cases x with
 |a v=>exact RA.Q5 h
 |agg l=>exact h
def holds(tmps:Array Value)(p:List (Nat×Bool)):Prop:= ∀e,e∈p→tmps[e.1]? =some (.bool e.2)
def p8(w:World)(hp:Hp)(env:Env)(tmps:Array Value):SV→Value→Prop
 | .one x,u=>fP w hp env x u
 | .tK l,u=> ∃us,u= .tuple us.toArray∧bt (fP w hp env) l us
 | .cond p x,u=>(holds tmps p→fP w hp env x u)∧(¬holds tmps p→u=undef)
variable(ty:Tag→Nat)
structure bY where
 w:World
 L:List Nat
 pv:Nat→CO
def ng(w:World)(n:Nat)(t:Tag)(l:List (T t))(co:CO):Prop:=
 match soft n with
 |true=>Sl (kk t) (rd t) w co.v l co.fp∧Own 0 w co.fp
 |false=>jE (kk t) (rd t) 0 (ty t) w co.v l co.fp
def RO(w:World)(hp:Hp)(env:Env)(n:Nat):Obj→CO→Prop
 | .box c,co=> ∃b cs e,co=⟨.pointer (some ⟨b,0,none⟩),[b]⟩∧w.heap[b]? =some (.cells (Array.mk cs) e (0,0))∧bt (RA w hp env) c cs
 | .arr t l,co=>ng ty w n t l co
 | .lZ t l s,co=>kk t=1∧ ∃us,jE 1 Q9 0 (ty t) w co.v us co.fp∧us.length=l.length∧ ∀(i:Nat) (x:T t) (u:Value),l[i]? =some x→us[i]? =some u→BE w hp env s t x u
structure Good(zb:bY)(st:St)(tmps:Array Value)(w:World)(env:Env):Prop where
 obj: ∀n o,look st.hp n=some o→RO ty w st.hp env n o (env n)
 kW: ∀n m o o',n≠m→look st.hp n=some o→look st.hp m=some o'→ ∀b,b∈(env n).fp→b∉(env m).fp
 slot: ∀s v,look st.sl s=some v→p8 w st.hp env tmps v (tmps.getD s undef)
 dom: ∀n o,look st.hp n=some o→ ∀b,b∈(env n).fp→b∈zb.L∨zb.w.heap.size≤b
 pins: ∀n,jk n=true→(env n).v=(zb.pv n).v∧ ∀b,b∈(env n).fp→b∈(zb.pv n).fp
structure Kept(zb:bY)(w w':World):Prop where
 os:w'.os=w.os
 tape:w'.tape=w.tape
 output:w'.output=w.output
 size:w.heap.size≤w'.heap.size
 block: ∀b,b<zb.w.heap.size→b∉zb.L→w'.heap[b]? =w.heap[b]?
 shape: ∀(b:Nat) (c:Array Value) (e:TypeId),w.heap[b]? =some (Go.Obj.cells c e (0,0))→ ∃c':Array Value,w'.heap[b]? =some (Go.Obj.cells c' e (0,0))∧c'.size=c.size
theorem Kept.refl(zb:bY)(w:World):Kept zb w w:=⟨rfl,rfl,rfl,Nat.le_refl _,fun _ _ _=>rfl,fun _ c _ h=>⟨c,h,rfl⟩⟩
theorem Kept.trans{zb:bY}{a b c:World}(h:Kept zb a b)(k:Kept zb b c):Kept zb a c:=
 ⟨k.os.trans h.os,k.tape.trans h.tape,k.output.trans h.output,Nat.le_trans h.size k.size,fun i hi hn=>(k.block i hi hn).trans (h.block i hi hn),fun i x e hx=>by
   obtain⟨c1,h1,h2⟩:=h.shape i x e hx
   obtain⟨c2,h3,h4⟩:=k.shape i c1 e h1
   exact⟨c2,h3,h4.trans h2⟩⟩
theorem jF{zb:bY}{w w':World}(h:Below w.heap.size w w')(hz:zb.w.heap.size≤w.heap.size):Kept zb w w':=
 ⟨h.os,h.tape,h.output,h.size,fun b hb _=>h.block b (Nat.lt_of_lt_of_le hb hz),fun b c e hc=>⟨c,by rw[h.block b (Q2 hc)];exact hc,rfl⟩⟩
def G9(zb:bY):Prop:=FX zb.w∧ ∀b,IX b→b∉zb.L
theorem G9.now{zb:bY}{w:World}(h:G9 zb)(k:Kept zb zb.w w):FX w:=h.1.keep fun b hb hlt=>k.block b hlt (h.2 b hb)
theorem G9.free{zb:bY}(h:G9 zb){b:Nat}(hb:b∈zb.L∨zb.w.heap.size≤b): ¬IX b:=fun h0=>by
 rcases hb with hb|hb
 ·exact h.2 b h0 hb
 ·have:=h.1.lt h0;omega
structure Inv(zb:bY)(st:St)(a:Act)(w:World):Prop where
 size:a.tmps.size=st.n
 defers:a.defers= []
 kept:Kept zb zb.w w
 B0:G9 zb
 good: ∃env,Good ty zb st a.tmps w env
variable{ty}
theorem RO.own{w:World}{hp:Hp}{env:Env}{n:Nat}{t:Tag}{l:List (T t)}{co:CO}(h:RO ty w hp env n (.arr t l) co):Own 0 w co.fp:=by
 replace h:ng ty w n t l co:=h
 unfold ng at h
 split at h
 ·exact h.2
 ·exact jE.own h
theorem RO.sl{w:World}{hp:Hp}{env:Env}{n:Nat}{t:Tag}{l:List (T t)}{co:CO}(h:RO ty w hp env n (.arr t l) co):Sl (kk t) (rd t) w co.v l co.fp:=by
 replace h:ng ty w n t l co:=h
 unfold ng at h
 split at h
 ·exact h.1
 ·exact jE.sl h
theorem RO.BZ{w:World}{hp:Hp}{env:Env}{n:Nat}{t:Tag}{l:List (T t)}{s:CB}{co:CO}(hs:s≠ .gone)(h:RO ty w hp env n (.lZ t l s) co): ∃fp,Sl (kk t) (rd t) w co.v l fp:=by
 obtain⟨h1,us,hB,h2,h3⟩:=h
 obtain⟨fp,h4,_⟩:=Pg (E:=rd t) (Pb:=fun _=>True) hB.sl h2 (fun i x u hx hu=>by
  have:=h3 i x u hx hu
  cases s with
  |gone=>exact absurd rfl hs
  |oB=>obtain⟨f,q,_⟩:=this;exact⟨f,q,fun _ _=>trivial⟩
  |of n=>obtain⟨_,f,q,_⟩:=this;exact⟨f,q,fun _ _=>trivial⟩)
 rw[h1]
 exact⟨fp,h4⟩
theorem RO.Nk{w:World}{hp:Hp}{env:Env}{n:Nat}{t:Tag}{l:List (T t)}{co:CO}(hn:soft n=false)(h:RO ty w hp env n (.arr t l) co):jE (kk t) (rd t) 0 (ty t) w co.v l co.fp:=by
 replace h:ng ty w n t l co:=h
 unfold ng at h
 rw[hn]at h
 exact h
theorem RO.FZ{w:World}{hp:Hp}{env:Env}{n:Nat}{t:Tag}{l:List (T t)}{co:CO}(h:jE (kk t) (rd t) 0 (ty t) w co.v l co.fp):RO ty w hp env n (.arr t l) co:=by
 show ng ty w n t l co
 unfold ng
 split
 ·exact⟨jE.sl h,jE.own h⟩
 ·exact h
theorem RO.Ra{w:World}{hp:Hp}{env:Env}{n:Nat}{t:Tag}{l:List (T t)}{co:CO}(hn:soft n=true)(h:Sl (kk t) (rd t) w co.v l co.fp)(ho:Own 0 w co.fp):RO ty w hp env n (.arr t l) co:=by
 show ng ty w n t l co
 unfold ng
 rw[hn]
 exact⟨h,ho⟩
theorem Rb(m:Nat):soft (m+900)=true:=by
 unfold soft
 exact Nat.ble_eq_true_of_le (Nat.le_add_left 900 m)
theorem I1{n:Nat}(h:jk n=true):soft n=true:=by
 unfold jk at h;unfold soft
 exact Nat.ble_eq_true_of_le (Nat.le_trans (by decide) (Nat.le_of_ble_eq_true h))
theorem Rc{n:Nat}(h:soft n=false):jk n=false:=by
 cases hp:jk n with
 |false=>rfl
 |true=>rw[I1 hp]at h;cases h
theorem RO.bu{w w':World}{hp iZ:Hp}{env env':Env}{n:Nat}{t:Tag}{l:List (T t)}{co:CO}(h:RO ty w hp env n (.arr t l) co)(hk: ∀b,b∈co.fp→w'.heap[b]? =w.heap[b]?):RO ty w' iZ env' n (.arr t l) co:=by
 replace h:ng ty w n t l co:=h
 show ng ty w' n t l co
 unfold ng at h ⊢
 split at h
 ·exact⟨Sl.bu (eK t) h.1 hk,h.2.bu hk⟩
 ·exact jE.bu (eK t) h hk
theorem RO.wQ{w:World}{hp:Hp}{env:Env}{n:Nat}{o:Obj}{co:CO}(h:RO ty w hp env n o co): ∀b,b∈co.fp→b<w.heap.size:=by
 cases o with
 |box c=>
  obtain⟨b,cs,e,rfl,hh,_⟩:=h
  intro x hx
  simp at hx
  subst hx
  exact Q2 hh
 |arr t l=>exact fun b hb=>(RO.own h).lt b hb
 |lZ t l s=>obtain⟨_,us,hB,_⟩:=h;exact fun b hb=>hB.own.lt b hb
theorem Good.ow{zb:bY}{st:St}{tmps:Array Value}{w:World}{env:Env}(h:Good ty zb st tmps w env){b:Nat}(hb:Ow st.hp env b):(b∈zb.L∨zb.w.heap.size≤b)∧b<w.heap.size:=by
 obtain⟨n,o,h1,h2⟩:=hb
 exact⟨h.dom n o h1 b h2,(h.obj n o h1).wQ b h2⟩
def V.name:V→Option Nat
 | .own n| .ptr n _| .mM n _ _| .vw n _ _ _| .BY n _ _ _ _| .BZ n _ _| .Aj _ n| .mix n _ _ _| .Ag n=>some n
 |_=>none
def V.view:V→Option Nat
 | .vw n _ _ _| .BY n _ _ _ _| .BZ n _ _| .mix n _ _ _=>some n
 |_=>none
def V.tN(K KV:Nat→Prop)(v:V):Prop:=(∀n,v.name=some n→K n)∧ ∀n,v.view=some n→KV n
theorem V.p9{v:V}{n:Nat}(h:v.view=some n):v.name=some n:=by
 cases v<;>simp_all [V.view,V.name]
theorem V.eY(v:V):v.tN (fun _=>True) (fun _=>True):=⟨fun _ _=>trivial,fun _ _=>trivial⟩
def Obj.like:Obj→Obj→Prop
 | .box _, .box _=>True
 | .arr t _, .arr t' _=>t=t'
 | .lZ t _ _, .lZ t' _ _=>t=t'
 |_,_=>False
structure Step(K KV:Nat→Prop)(w:World)(hp:Hp)(env:Env)(w':World)(iZ:Hp)(env':Env):Prop where
 keep: ∀b,b<w.heap.size→ ¬Ow hp env b→w'.heap[b]? =w.heap[b]?
 own: ∀b,b<w.heap.size→Ow iZ env' b→Ow hp env b
 name: ∀n o,K n→look hp n=some o→ ∃o',look iZ n=some o'∧o.like o'∧(env' n).v=(env n).v
 view: ∀n t l,KV n→look hp n=some (.arr t l)→look iZ n=some (.arr t l)∧env' n=env n∧ ∀b,b∈(env n).fp→w'.heap[b]? =w.heap[b]?
section
variable{K KV:Nat→Prop}{w w':World}{hp iZ:Hp}{env env':Env}
theorem RA.step(s:Step K KV w hp env w' iZ env'){v:V}{u:Value}(hv:v.tN K KV)(h:RA w hp env v u):RA w' iZ env' v u:=by
 obtain⟨hv,hw⟩:=hv
 cases v with
 |any=>trivial
 |lit v=>exact h
 |sl t l=>
  obtain⟨fp,h1,h2⟩:=h
  have hlt:=Sl.lt (eK t) h1
  exact⟨fp,Sl.bu (eK t) h1 (fun b hb=>s.keep b (hlt b hb) (h2 b hb)),fun b hb hw=>h2 b hb (s.own b (hlt b hb) hw)⟩
 |fY v t l=>
  obtain⟨hu,fp,h1,h2⟩:=h
  have hlt:=Sl.lt (eK t) h1
  exact⟨hu,fp,Sl.bu (eK t) h1 (fun b hb=>s.keep b (hlt b hb) (h2 b hb)),fun b hb hw=>h2 b hb (s.own b (hlt b hb) hw)⟩
 |own n=>
  obtain⟨⟨t,l,hl⟩,hu⟩:=h
  obtain⟨o',h1,h2,h3⟩:=s.name n _ (hv n rfl) hl
  cases o' with
  |box c=>exact h2.elim
  |arr t' l'=>exact⟨⟨t',l',h1⟩,by rw[hu,h3]⟩
  |lZ t' l' s'=>exact h2.elim
 |ptr n off=>
  obtain⟨⟨c,hl⟩,b,hb,hu⟩:=h
  obtain⟨o',h1,h2,h3⟩:=s.name n _ (hv n rfl) hl
  cases o' with
  |box c'=>exact⟨⟨c',h1⟩,b,by rw[h3,hb],hu⟩
  |arr t' l'=>exact h2.elim
  |lZ t' l' s'=>exact h2.elim
 |vR k=>exact h
 |Aj f n=>
  obtain⟨⟨c,hl⟩,b,hb,hu⟩:=h
  obtain⟨o',h1,h2,h3⟩:=s.name n _ (hv n rfl) hl
  cases o' with
  |box c'=>exact⟨⟨c',h1⟩,b,by rw[h3,hb],hu⟩
  |arr t' l'=>exact h2.elim
  |lZ t' l' s'=>exact h2.elim
 |mM n i off=>
  obtain⟨t,l,hl,b,o,len,cap,hb,hu⟩:=h
  obtain⟨o',h1,h2,h3⟩:=s.name n _ (hv n rfl) hl
  cases o' with
  |box c'=>exact h2.elim
  |arr t' l'=>
   have:t=t':=h2
   subst this
   exact⟨t,l',h1,b,o,len,cap,by rw[h3,hb],hu⟩
  |lZ t' l' s'=>exact h2.elim
 |ip t x off=>
  obtain⟨b,o,cs,fp,hu,hb,hr,hE,h1,h2⟩:=h
  have hlt:=(eK t).lt hE
  have hkb:=s.keep b hb h1
  refine⟨b,o,cs,fp,hu,?_,fun j v hv=> ?_,(eK t).bu hE (fun c hc=>s.keep c (hlt c hc) (h2 c hc)),fun hw=>h1 (s.own b hb hw),fun c hc hw=>h2 c hc (s.own c (hlt c hc) hw)⟩
  ·have h3:w.heap[b]? =some w.heap[b]:=by simp[hb]
   rw[h3]at hkb
   exact(Array.getElem?_eq_some_iff.1 hkb).1
  ·rw[World.cell?_of_block (w:=w) (a:=⟨b,_,none⟩) hkb];exact hr j v hv
 |vw n p t l=>
  have vwk: ∀{p:Option (Nat×Nat)} {l:List (T t)} {u:Value},RV w hp env n p t l u→RV w' iZ env' n p t l u:=by
   rintro p l u ⟨⟨tA,lA,hl⟩,⟨fp,h1,hnd,h2⟩,h3⟩
   obtain⟨q1,q2,q3⟩:=s.view n _ _ (hw n rfl) hl
   refine⟨⟨tA,lA,q1⟩,⟨fp,Sl.bu (eK t) h1 (fun b hb=>q3 b (h2 b hb)),hnd,fun b hb=>by rw[q2];exact h2 b hb⟩,fun i off hp=> ?_⟩
   obtain⟨t0,l0,b,o,len,cap,k1,k2,k3,k4,k5,k6⟩:=h3 i off hp
   rw[hl]at k1
   refine⟨t0,l0,b,o,len,cap,by rw[q1];exact k1,k2,k3,by rw[q2];exact k4,by rw[q2];exact k5,?_⟩
   rw[World.cell?_of_block (w:=w) (a:=⟨b,_,none⟩) (q3 b k5)];exact k6
  exact vwk h
 |Ag n=>
  obtain⟨⟨t,l,r,hl⟩,hu⟩:=h
  obtain⟨o',h1,h2,h3⟩:=s.name n _ (hv n rfl) hl
  cases o' with
  |box c=>exact h2.elim
  |arr t' l'=>exact h2.elim
  |lZ t' l' s'=>exact⟨⟨t',l',s',h1⟩,by rw[hu,h3]⟩
 |mix n c t l=>
  obtain⟨⟨tA,lA,hl⟩,⟨fp,h1,h2⟩,h3⟩:=h
  obtain⟨q1,q2,q3⟩:=s.view n _ _ (hw n rfl) hl
  have hlt:=Sl.lt (eK t) h1
  refine⟨⟨tA,lA,q1⟩,⟨fp,Sl.bu (eK t) h1 (fun b hb=> ?_),fun b hb=> ?_⟩,h3⟩
  ·rcases h2 b hb with h4|h4
   ·exact q3 b h4
   ·exact s.keep b (hlt b hb) h4
  ·rcases h2 b hb with h4|h4
   ·exact Or.inl (by rw[q2];exact h4)
   ·exact Or.inr fun hw=>h4 (s.own b (hlt b hb) hw)
 |BZ n t l=>
  obtain⟨⟨tA,lA,hl⟩,b,fp,h1,hb,hnd,h2⟩:=h
  obtain⟨q1,q2,q3⟩:=s.view n _ _ (hw n rfl) hl
  have hlt:=Sl.lt (eK t) h1
  have B1:=hlt b (by simp)
  refine⟨⟨tA,lA,q1⟩,b,fp,Sl.bu (eK t) h1 (fun c hc=> ?_),fun hw=>hb (s.own b B1 hw),hnd,fun c hc=>by rw[q2];exact h2 c hc⟩
  rcases List.mem_cons.1 hc with rfl|hc
  ·exact s.keep _ B1 hb
  ·exact q3 c (h2 c hc)
 |BY n p t x off=>
  have vwk: ∀{p:Option (Nat×Nat)} {l:List (T t)} {u:Value},RV w hp env n p t l u→RV w' iZ env' n p t l u:=by
   rintro p l u ⟨⟨tA,lA,hl⟩,⟨fp,h1,hnd,h2⟩,h3⟩
   obtain⟨q1,q2,q3⟩:=s.view n _ _ (hw n rfl) hl
   refine⟨⟨tA,lA,q1⟩,⟨fp,Sl.bu (eK t) h1 (fun b hb=>q3 b (h2 b hb)),hnd,fun b hb=>by rw[q2];exact h2 b hb⟩,fun i off hp=> ?_⟩
   obtain⟨t0,l0,b,o,len,cap,k1,k2,k3,k4,k5,k6⟩:=h3 i off hp
   rw[hl]at k1
   refine⟨t0,l0,b,o,len,cap,by rw[q1];exact k1,k2,k3,by rw[q2];exact k4,by rw[q2];exact k5,?_⟩
   rw[World.cell?_of_block (w:=w) (a:=⟨b,_,none⟩) (q3 b k5)];exact k6
  obtain⟨⟨tA,lA,hl⟩,b,o,cs,fp,hu,hb,hr,hE,hnd,h2,h3⟩:=h
  obtain⟨q1,q2,q3⟩:=s.view n _ _ (hw n rfl) hl
  refine⟨⟨tA,lA,q1⟩,b,o,cs,fp,hu,by rw[q2];exact hb,fun j v hv=> ?_,(eK t).bu hE (fun c hc=>q3 c (h2 c hc)),hnd,fun c hc=>by rw[q2];exact h2 c hc,fun i o2 j hp=> ?_⟩
  ·rw[World.cell?_of_block (w:=w) (a:=⟨b,_,none⟩) (q3 b hb)];exact hr j v hv
  ·obtain⟨l,u0,b0,pN,len,cap,k1,k2⟩:=h3 i o2 j hp
   exact⟨l,u0,b0,pN,len,cap,vwk k1,k2⟩
end
def S1.vs:S1→List V
 | .a v=> [v]
 | .agg l=>l
def SV.vs:SV→List V
 | .one x=>x.vs
 | .tK l=>l.flatMap S1.vs
 | .cond _ x=>x.vs
section
variable{K KV:Nat→Prop}{w w':World}{hp iZ:Hp}{env env':Env}
theorem fP.step(s:Step K KV w hp env w' iZ env'){x:S1}{u:Value}(hv: ∀v,v∈x.vs→v.tN K KV)(h:fP w hp env x u):fP w' iZ env' x u:=by
 cases x with
 |a v=>exact RA.step s (hv v (by simp[S1.vs])) h
 |agg l=>
  obtain⟨cs,hu,hl⟩:=h
  exact⟨cs,hu,hl.mono fun a b ha hr=>RA.step s (hv a ha) hr⟩
theorem p8.step(s:Step K KV w hp env w' iZ env'){tmps:Array Value}{x:SV}{u:Value}(hv: ∀v,v∈x.vs→v.tN K KV)(h:p8 w hp env tmps x u):p8 w' iZ env' tmps x u:=by
 cases x with
 |one x=>exact fP.step s hv h
 |tK l=>
  obtain⟨us,hu,hl⟩:=h
  exact⟨us,hu,hl.mono fun a b ha hr=>fP.step s (fun v hn=>hv v (by simp only[SV.vs,List.mem_flatMap];exact⟨a,ha,hn⟩)) hr⟩
 |cond p x=>exact⟨fun hh=>fP.step s hv (h.1 hh),h.2⟩
theorem BE.step(s:Step K KV w hp env w' iZ env'){r:CB}{t:Tag}{x:T t}{u:Value}(hv: ∀n,r.name=some n→KV n)(h:BE w hp env r t x u):BE w' iZ env' r t x u:=by
 cases r with
 |gone=>trivial
 |oB=>
  obtain⟨f,h1,h2⟩:=h
  have hlt:=(eK t).lt h1
  exact⟨f,(eK t).bu h1 (fun b hb=>s.keep b (hlt b hb) (h2 b hb)),fun b hb hw=>h2 b hb (s.own b (hlt b hb) hw)⟩
 |of n=>
  obtain⟨⟨tA,lA,hl⟩,f,h1,h2⟩:=h
  obtain⟨q1,q2,q3⟩:=s.view n _ _ (hv n rfl) hl
  have hlt:=(eK t).lt h1
  refine⟨⟨tA,lA,q1⟩,f,(eK t).bu h1 (fun b hb=> ?_),fun b hb=> ?_⟩
  ·rcases h2 b hb with h4|h4
   ·exact q3 b h4
   ·exact s.keep b (hlt b hb) h4
  ·rcases h2 b hb with h4|h4
   ·exact Or.inl (by rw[q2];exact h4)
   ·exact Or.inr fun hw=>h4 (s.own b (hlt b hb) hw)
def Obj.tN(K KV:Nat→Prop):Obj→Prop
 | .box c=> ∀v,v∈c→v.tN K KV
 | .arr _ _=>True
 | .lZ _ _ s=> ∀n,s.name=some n→KV n
theorem Obj.eY(o:Obj):o.tN (fun _=>True) (fun _=>True):=by
 cases o with
 |box c=>exact fun v _=>v.eY
 |arr t l=>trivial
 |lZ t l s=>exact fun _ _=>trivial
theorem RO.step(s:Step K KV w hp env w' iZ env'){n:Nat}{o:Obj}{co:CO}(hv:o.tN K KV)
  (hk: ∀b,b∈co.fp→w'.heap[b]? =w.heap[b]?)(h:RO ty w hp env n o co):RO ty w' iZ env' n o co:=by
 cases o with
 |box c=>
  obtain⟨b,cs,e,rfl,hh,hc⟩:=h
  exact⟨b,cs,e,rfl,by rw[hk b (by simp)];exact hh,hc.mono fun a u ha hr=>RA.step s (hv a ha) hr⟩
 |arr t l=>exact RO.bu h hk
 |lZ t l r=>
  obtain⟨h1,us,hB,h2,h3⟩:=h
  exact⟨h1,us,jE.bu yt hB hk,h2,fun i x u hx hu=>BE.step s hv (h3 i x u hx hu)⟩
end
theorem aS{α:Type}: ∀{os:List (Nat×α)} {l:List (Nat×α)} {n:Nat},look os n=none→look (os++l) n=look l n
 | [],_,_,_=>rfl
 | (j,x)::r,l,n,h=>by
   simp only[look,List.cons_append]at h ⊢
   split at h
   ·cases h
   ·exact aS h
theorem bJ{α:Type}: ∀{os:List (Nat×α)} {l:List (Nat×α)} {n:Nat} {x:α},look os n=some x→look (os++l) n=some x
 | (j,y)::r,l,n,x,h=>by
   simp only[look,List.cons_append]at h ⊢
   split at h
   ·exact h
   ·exact bJ h
theorem ew{α:Type}: ∀{os:List (Nat×α)} {n:Nat} {x:α},look os n=some x→(n,x)∈os
 | (j,y)::r,n,x,h=>by
   simp only[look]at h
   split at h
   ·rename_i hb
    have:n=j:=Nat.eq_of_beq_eq_true hb
    simp at h
    simp[h,this]
   ·exact List.mem_cons_of_mem _ (ew h)
theorem nL{hp:Hp}: ∀{os:Hp},fresh hp os=true→ ∀n o,look os n=some o→look hp n=none
 | (j,y)::r,h,n,o,hl=>by
   simp only[fresh,Bool.and_eq_true]at h
   simp only[look]at hl
   split at hl
   ·rename_i hb
    have:n=j:=Nat.eq_of_beq_eq_true hb
    subst this
    cases hq:look hp n with
    |none=>rfl
    |some z=>simp[hq]at h
   ·exact nL h.2 n o hl
theorem Ao{hp:Hp}: ∀{os:Hp},fresh hp os=true→ ∀n o,look os n=some o→jk n=false
 | (j,y)::r,h,n,o,hl=>by
   simp only[fresh,Bool.and_eq_true]at h
   simp only[look]at hl
   split at hl
   ·rename_i hb
    have:n=j:=Nat.eq_of_beq_eq_true hb
    subst this
    simpa using h.1.2
   ·exact Ao h.2 n o hl
structure ld(w w':World)(hp:Hp)(os:Hp)(env env':Env):Prop where
 below:Below w.heap.size w w'
 old: ∀n,look os n=none→env' n=env n
 obj: ∀n o,look os n=some o→RO ty w' (os++hp) env' n o (env' n)∧ ∀b,b∈(env' n).fp→w.heap.size≤b
 kW: ∀n m o o',n≠m→look os n=some o→look os m=some o'→ ∀b,b∈(env' n).fp→b∉(env' m).fp
theorem ld.none{w w':World}{hp:Hp}{env:Env}(h:Below w.heap.size w w'):ld (ty:=ty) w w' hp [] env env:=
 ⟨h,fun _ _=>rfl,fun _ _ h=>by simp[look]at h,fun _ _ _ _ _ h=>by simp[look]at h⟩
theorem ld.step{zb:bY}{st:St}{tmps:Array Value}{w w':World}{os:Hp}{env env':Env}(g:Good ty zb st tmps w env)(hf:fresh st.hp os=true)(h:ld (ty:=ty) w w' st.hp os env env'):
  Step (fun _=>True) (fun _=>True) w st.hp env w' (os++st.hp) env' where
 keep:=fun b hb _=>h.below.block b hb
 own:=by
  rintro b hb ⟨n,o,h1,h2⟩
  cases hn:look os n with
  |none=>
   rw[aS hn]at h1
   rw[h.old n hn]at h2
   exact⟨n,o,h1,h2⟩
  |some o'=>
   have:=(h.obj n o' hn).2 b h2
   omega
 name:=by
  intro n o _ h1
  have hn:look os n= .none:=by
   cases hn:look os n with
   |none=>rfl
   |some o'=>rw[nL hf n o' hn]at h1;cases h1
  refine⟨o,by rw[aS hn];exact h1,?_,by rw[h.old n hn]⟩
  cases o<;>simp[Obj.like]
 view:=by
  intro n t l _ h1
  have hn:look os n= .none:=by
   cases hn:look os n with
   |none=>rfl
   |some o'=>rw[nL hf n o' hn]at h1;cases h1
  exact⟨by rw[aS hn];exact h1,h.old n hn,fun b hb=>h.below.block b ((g.obj n _ h1).wQ b hb)⟩
theorem Good.grow{zb:bY}{st:St}{tmps:Array Value}{w w':World}{os:Hp}{env env':Env}(hB:zb.w.heap.size≤w.heap.size)(g:Good ty zb st tmps w env)(hf:fresh st.hp os=true)(h:ld (ty:=ty) w w' st.hp os env env'):
  Good ty zb ⟨st.n,st.sl,os++st.hp⟩ tmps w' env':=by
 have s:=h.step g hf
 refine⟨fun n o hl=> ?_,fun n m o o' hne h1 h2 b hb hb'=> ?_,fun t v hl=>p8.step s (fun v _=>v.eY) (g.slot t v hl),fun n o hl b hb=> ?_,fun n hn=> ?_⟩
 ·cases hn:look os n with
  |some o'=>
   rw[bJ hn]at hl
   simp only[Option.some.injEq]at hl
   subst hl
   exact(h.obj n _ hn).1
  |none=>
   rw[aS hn]at hl
   rw[h.old n hn]
   have hro:=g.obj n o hl
   exact hro.step s o.eY (fun b hb=>h.below.block b (hro.wQ b hb))
 ·cases hn:look os n with
  |some x=>
   cases hm:look os m with
   |some y=>exact h.kW n m x y hne hn hm b hb hb'
   |none=>
    rw[aS hm]at h2
    rw[h.old m hm]at hb'
    have h3:=(h.obj n x hn).2 b hb
    have h4:=(g.obj m o' h2).wQ b hb'
    omega
  |none=>
   rw[aS hn]at h1
   rw[h.old n hn]at hb
   cases hm:look os m with
   |some y=>
    have h3:=(h.obj m y hm).2 b hb'
    have h4:=(g.obj n o h1).wQ b hb
    omega
   |none=>
    rw[aS hm]at h2
    rw[h.old m hm]at hb'
    exact g.kW n m o o' hne h1 h2 b hb hb'
 ·cases hn:look os n with
  |some x=>exact Or.inr (Nat.le_trans hB ((h.obj n x hn).2 b hb))
  |none=>
   rw[aS hn]at hl
   rw[h.old n hn]at hb
   exact g.dom n o hl b hb
 ·cases hq:look os n with
  |none=>rw[h.old n hq];exact g.pins n hn
  |some x=>have:=Ao hf n x hq;rw[hn]at this;cases this
end
end Go.Proofs.YteodajeiagmekaaGreat.G
namespace Go.Proofs.YteodajeiagmekaaGreat.L
set_option linter.all false
open Go.RowKit
section
structure gf(fp:List Nat)(w w':World):Prop where
 os:w'.os=w.os
 tape:w'.tape=w.tape
 output:w'.output=w.output
 size:w.heap.size≤w'.heap.size
 block: ∀b,b<w.heap.size→b∉fp→w'.heap[b]? =w.heap[b]?
theorem gf.refl(fp:List Nat)(w:World):gf fp w w:=⟨rfl,rfl,rfl,Nat.le_refl _,fun _ _ _=>rfl⟩
theorem gf.mono{fp fq:List Nat}{w w':World}(h:gf fp w w')(hs: ∀b,b∈fp→b∈fq):gf fq w w':=⟨h.os,h.tape,h.output,h.size,fun b hb hn=>h.block b hb fun hm=>hn (hs b hm)⟩
theorem gf.trans{fp:List Nat}{a b c:World}(h:gf fp a b)(k:gf fp b c):gf fp a c:=
 ⟨k.os.trans h.os,k.tape.trans h.tape,k.output.trans h.output,Nat.le_trans h.size k.size,fun i hi hn=>(k.block i (Nat.lt_of_lt_of_le hi h.size) hn).trans (h.block i hi hn)⟩
theorem gf.below{fp:List Nat}{w w':World}{B:Nat}(h:gf fp w w')(hB:B≤w.heap.size)(hg: ∀b,b∈fp→B≤b):Below B w w':=
 ⟨h.os,h.tape,h.output,h.size,fun b hb=>h.block b (Nat.lt_of_lt_of_le hb hB) fun hm=>Nat.not_le_of_lt hb (hg b hm)⟩
theorem gf.bu{fp fq:List Nat}{w w':World}(h:gf fp w w')(hl: ∀b,b∈fq→b<w.heap.size)(hd: ∀b,b∈fq→b∉fp):eS w w' fq:=fun b hb=>h.block b (hl b hb) (hd b hb)
section
variable{α:Type}{k:Nat}{E:ER α}{lo e g n:Nat}{w w':World}{l:List α}{bh:List (List Nat)}
theorem vv{bh:List (List Nat)}(h:bh.flatten.Nodup){i j:Nat}{f f':List Nat}(hi:bh[i]? =some f)(hj:bh[j]? =some f')(hne:i≠j): ∀b,b∈f→b∉f':=by
 intro b hb hb'
 have hp:=(List.pairwise_flatten.1 h).2
 rw[List.pairwise_iff_getElem]at hp
 obtain⟨hi1,rfl⟩:=List.getElem?_eq_some_iff.1 hi
 obtain⟨Rt,rfl⟩:=List.getElem?_eq_some_iff.1 hj
 rcases Nat.lt_or_ge i j with h1|h1
 ·exact hp i j hi1 Rt h1 b hb b hb' rfl
 ·exact hp j i Rt hi1 (by omega) b hb' b hb rfl
theorem Part.set(G:gd k E)(h:Part k E lo e w g n l bh){i:Nat}{f:List Nat}{cs:List Value}{x':α}(hi:i<l.length)(hin:i<n)(hf:bh[i]? =some f)(hE:E w cs x' f):
  Part k E lo e (w.setCells g (i*k) cs) g n (l.set i x') bh:=by
 have hlen:=G.len hE
 have hnd:=h.own.nodup
 rw[List.nodup_cons]at hnd
 obtain⟨c,hc,hs⟩:=h.wQ
 obtain⟨c',Ll,hs'⟩:=eP g e cs (i*k) w c hc
 have Vb:w.there g (i*k) cs.length:=by rw[hlen];exact h.there _ hin
 have Db: ∀b,b∈bh.flatten→b≠g:=fun b hb e=>hnd.1 (e▸hb)
 have Nb:eS w (w.setCells g (i*k) cs) bh.flatten:=fun b hb=>cH g cs _ w b (Db b hb)
 refine⟨⟨c',Ll,by rw[hs',hs]⟩,⟨by rw[List.length_set];exact h.el.1,fun j y fy hy vh=> ?_⟩,⟨h.own.nodup,h.own.ge,fun b hb=> ?_⟩,h.cap⟩
 ·by_cases hj:i=j
  ·subst hj
   rw[List.getElem?_set_self hi]at hy
   simp only[Option.some.injEq]at hy
   subst hy
   rw[hf]at vh
   simp only[Option.some.injEq]at vh
   subst vh
   refine⟨cs,?_,G.bu hE (Nb.sub fun b hb=>cC hf hb)⟩
   rw[Nat.zero_add]
   exact World.rangeAt_setCells_same w g _ cs Vb
  ·rw[List.getElem?_set_ne hj]at hy
   obtain⟨cy,hr,QJ⟩:=h.el.2 j y fy hy vh
   refine⟨cy,World.rangeAt_setCells_apart hr _ _ _ (Or.inr ?_),G.bu QJ (Nb.sub fun b hb=>cC vh hb)⟩
   rw[G.len QJ,hlen]
   rcases Nat.lt_or_ge j i with h1|h1
   ·left
    have:=Nat.mul_le_mul_right k (show j+1≤i by omega)
    rw[Nat.add_mul]at this;omega
   ·right
    have:=Nat.mul_le_mul_right k (show i+1≤j by omega)
    rw[Nat.add_mul]at this;omega
 ·rcases List.mem_cons.1 hb with rfl|hb
  ·exact⟨_,_,Ll⟩
  ·rw[Nb b hb];exact h.own.kind b (List.mem_cons_of_mem _ hb)
theorem Part.Nk(G:gd k E)(h:Part k E lo e w g n l bh)(hn:l.length≤n):jE k E lo e w (.slice (some ⟨g,0,none⟩) l.length n) l (g::bh.flatten):=by
 obtain⟨c,hc,hs⟩:=h.wQ
 have hk:l.length*k≤n*k:=Nat.mul_le_mul_right k hn
 refine⟨c.toList.take (l.length*k),bh,⟨by rw[List.length_take,show c.toList.length=n*k from hs];exact Nat.min_eq_left hk,Or.inr ⟨g,n,c,rfl,h.own.ge g (by simp),hc,hn,h.cap,hs,rfl⟩⟩,h.el.1,fun i x f hx hf=> ?_,rfl,h.own⟩
 obtain⟨cs,hr,hE⟩:=h.el.2 i x f hx hf
 have hlen:=G.len hE
 have hi:i<l.length:=(List.getElem?_eq_some_iff.1 hx).1
 have h5:i*k+k≤l.length*k:=by
  have:=Nat.mul_le_mul_right k (show i+1≤l.length by omega)
  rw[Nat.add_mul]at this;omega
 have:((c.toList.take (l.length*k)).drop (i*k)).take k=cs:=by
  apply List.ext_getElem?
  intro j
  by_cases hj:j<k
  ·rw[List.getElem?_take,if_pos hj,List.getElem?_drop,List.getElem?_take,if_pos (by omega)]
   have h6:=hr j _ (List.getElem?_eq_getElem (by omega))
   rw[Nat.zero_add]at h6
   simp[World.cell?,hc]at h6
   rw[List.getElem?_eq_getElem (show j<cs.length by omega)]
   simp[h6]
  ·rw[List.getElem?_take,if_neg hj,List.getElem?_eq_none (by omega)]
 rw[this];exact hE
theorem jE.part{v:Value}{fp:List Nat}(h:jE k E lo e w v l fp):(v= .slice none 0 0∧l= []∧fp= [])∨ ∃g n bh,v= .slice (some ⟨g,0,none⟩) l.length n∧l.length≤n∧fp=g::bh.flatten∧Part k E lo e w g n l bh:=by
 obtain⟨xs,bh,⟨hxl,ho⟩,hl,hel,ig,hown⟩:=h
 rcases ho with⟨rfl,h0⟩| ⟨g,cap,cur,rfl,hg,hc,hn,U9,hcs,Pr⟩
 ·have hl0:l= []:=List.eq_nil_of_length_eq_zero h0
  have:bh= []:=List.eq_nil_of_length_eq_zero (by omega)
  exact Or.inl ⟨rfl,hl0,by rw[ig,this];rfl⟩
 ·refine Or.inr ⟨g,cap,bh,rfl,hn,ig,⟨⟨cur,hc,hcs⟩,⟨hl,fun i x f hx hf=>⟨_,?_,hel i x f hx hf⟩⟩,by rw[ig]at hown;exact hown,U9⟩⟩
  intro j u hu
  have hi:i<l.length:=(List.getElem?_eq_some_iff.1 hx).1
  rw[List.getElem?_take]at hu
  split at hu
  ·rename_i hj
   rw[List.getElem?_drop, ←Pr,List.getElem?_take]at hu
   split at hu
   ·simp only[World.cell?,hc]
    rw[Array.getElem?_toList]at hu
    rw[Nat.zero_add]
    simpa using hu
   ·cases hu
  ·cases hu
structure Ru{α:Type}(k:Nat)(E:ER α)(lo:Nat)(w:World)(b off:Nat)(l:List α)(bh:List (List Nat)):Prop where
 el:wz k E w b off l bh
 own:Own lo w (b::bh.flatten)
theorem Ru.lt{b off:Nat}(h:Ru k E lo w b off l bh):b<w.heap.size:=h.own.lt b (by simp)
theorem Ru.set(G:gd k E){b off:Nat}(h:Ru k E lo w b off l bh){i o:Nat}{f:List Nat}{vs cs:List Value}{x':α}(hi:i<l.length)(ho:o+vs.length≤k)(hf:bh[i]? =some f)
  (hr:(w.setCells b (off+i*k+o) vs).rangeAt b (off+i*k) cs)(hE:E w cs x' f):
  Ru k E lo (w.setCells b (off+i*k+o) vs) b off (l.set i x') bh:=by
 have hlen:=G.len hE
 have hnd:=h.own.nodup
 rw[List.nodup_cons]at hnd
 have Db: ∀c,c∈bh.flatten→c≠b:=fun c hc e=>hnd.1 (e▸hc)
 have Nb:eS w (w.setCells b (off+i*k+o) vs) bh.flatten:=fun c hc=>cH b vs _ w c (Db c hc)
 refine⟨⟨by rw[List.length_set];exact h.el.1,fun j y fy hy vh=> ?_⟩,⟨h.own.nodup,h.own.ge,fun c hc=> ?_⟩⟩
 ·by_cases hj:i=j
  ·subst hj
   rw[List.getElem?_set_self hi]at hy
   simp only[Option.some.injEq]at hy
   subst hy
   rw[hf]at vh
   simp only[Option.some.injEq]at vh
   subst vh
   exact⟨cs,hr,G.bu hE (Nb.sub fun b hb=>cC hf hb)⟩
  ·rw[List.getElem?_set_ne hj]at hy
   obtain⟨cy,hr,QJ⟩:=h.el.2 j y fy hy vh
   refine⟨cy,World.rangeAt_setCells_apart hr _ _ _ (Or.inr ?_),G.bu QJ (Nb.sub fun b hb=>cC vh hb)⟩
   rw[G.len QJ]
   rcases Nat.lt_or_ge j i with h1|h1
   ·left
    have:=Nat.mul_le_mul_right k (show j+1≤i by omega)
    rw[Nat.add_mul]at this;omega
   ·right
    have:=Nat.mul_le_mul_right k (show i+1≤j by omega)
    rw[Nat.add_mul]at this;omega
 ·rcases List.mem_cons.1 hc with rfl|hc
  ·obtain⟨c0,e0,hk⟩:=h.own.kind c (by simp)
   obtain⟨c',Ll,_⟩:=eP c e0 vs (off+i*k+o) w c0 hk
   exact⟨_,_,Ll⟩
  ·rw[Nb c hc];exact h.own.kind c (List.mem_cons_of_mem _ hc)
end
end
end Go.Proofs.YteodajeiagmekaaGreat.L
