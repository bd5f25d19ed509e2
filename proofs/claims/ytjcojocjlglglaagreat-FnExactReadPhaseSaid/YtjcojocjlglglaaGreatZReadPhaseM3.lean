/-
  Slices that the call has made, written again: an element replaced; an element's own memory written by a call.
-/
import Derived.Test.YtjcojocjlglglaaGreatZReadPhaseM2
import Derived.ProofKit
import Derived.OpenShut
namespace Go.Proofs.YtjcojocjlglglaaGreat.L
set_option linter.all false
open Go.RowKit Go.ChangeShapes Go.WideShapes Go.ChangeAt D
theorem Eb{n:Int}(h:(Lit.int .i64 n).wf=true):wJ n:=by
 have:=bounds_i64 h
 unfold wJ;omega
section
variable{H:Type}(enc:TypeId×Value→H)(P:Program)(w:World)(spare:Nat→Bool)(held:Bool)
def lH{α:Type}(t:TypeId)(E:ER α)(W:α→Prop):Prop:=
 ∀fuel cs y,DataW.trod enc P w 0 spare held fuel t cs=some y→ ∃x fp,E w cs x fp∧W x
variable{enc P w spare held}
theorem bQ{t:TypeId}(ht:P.underlying t=some (.int .i64)):lH enc P w spare held t iq wJ:=by
 intro fuel cs y h
 obtain⟨n,rfl,_,hw⟩:=DataW.trod_int ht h
 exact⟨n,[],⟨rfl,rfl⟩,Eb hw⟩
theorem uC{t:TypeId}(ht:P.underlying t=some (.int .u8)):lH enc P w spare held t Bz (fun _=>True):=by
 intro fuel cs y h
 obtain⟨n,rfl,_,hw⟩:=DataW.trod_int ht h
 have hb:=bounds_u8 hw
 refine⟨UInt8.ofNat n.toNat,[],⟨?_,rfl⟩,trivial⟩
 have:((UInt8.ofNat n.toNat).toNat:Int)=n:=by
  rw[UInt8.toNat_ofNat'];omega
 rw[this]
theorem eA{α:Type} [Inhabited α]{k:Nat}{E:ER α}{W:α→Prop}{t e:TypeId}(ht:P.underlying t=some (.slice e))(hk:P.cellsOf e=k)(hpos:0<k)(ho:lH enc P w spare held e E W):
  lH enc P w spare held t (zV k E) (fun l=> ∀x,x∈l→W x):=by
 intro fuel cs y h
 rcases Go.Deep.open_slice ht h with⟨rfl,_⟩| ⟨a,len,cap,m,n,D,Pl,rfl,_,hl,hm,P3,_,hx⟩
 ·exact⟨[],[],⟨_,rfl,none,0,rfl,Nat.le_refl _,Nat.zero_le _,Or.inl ⟨rfl,rfl,fun _=>rfl⟩⟩,by simp⟩
 rw[hk]at hx
 have Pg:len≤m:=by rw[P3];split<;>omega
 by_cases h0:len=0
 ·subst h0
  exact⟨[],[],⟨_,rfl,some a,cap,rfl,hl,hm,Or.inl ⟨rfl,rfl,by simp⟩⟩,by simp⟩
 have hsp:a.spot=none:=by
  obtain⟨cs',hc,_⟩:=hx 0 (by omega)
  obtain⟨_,h1,h2⟩:=World.cells?_some hc
  have h3:=h2 0 (by omega)
  have ha:((a.add (0*k)).add 0)=a:=by simp[Addr.add]
  rw[ha]at h3
  have hlen:0<cs'.length:=by omega
  rw[List.getElem?_eq_getElem hlen]at h3
  simp only[World.cell?]at h3
  split at h3
  ·split at h3
   ·cases h3
   ·rename_i hs;simpa using hs
  ·cases h3
 obtain⟨b,off,rfl⟩: ∃b off,a=⟨b,off,none⟩:=⟨a.block,a.off,by cases a;simp_all⟩
 have hel: ∀i,i<len→ ∃q:α×List Nat,(∃cs',w.rangeAt b (off+i*k) cs'∧E w cs' q.1 q.2)∧W q.1:=by
  intro i hi
  obtain⟨cs',hc,P4⟩:=hx i (by omega)
  obtain⟨x,fp,hE,hW⟩:=ho _ _ _ P4
  obtain⟨_,h1,h2⟩:=World.cells?_some hc
  refine⟨(x,fp),⟨cs',fun j v hv=> ?_,hE⟩,hW⟩
  have hj:=(List.getElem?_eq_some_iff.1 hv).1
  have:=h2 j (by omega)
  rw[Addr.add_mid,Addr.add_mid,hv]at this
  exact this
 obtain⟨f,hf⟩:=Go.Deep.choose_lt hel
 refine⟨(List.range len).map fun i=>(f i).1,b::((List.range len).map fun i=>(f i).2).flatten,⟨_,rfl,some ⟨b,off,none⟩,cap,by simp,by simpa using hl,hm,Or.inr ⟨b,off,(List.range len).map fun i=>(f i).2,rfl,?_,rfl,by simp,?_⟩⟩,?_⟩
 ·obtain⟨cs',hc,_⟩:=hx 0 (by omega)
  have:=World.cells?_block hc (by omega)
  rw[Addr.add_mid]at this
  exact this
 ·intro i x fp hx eN
  have hi:i<len:=by have:=(List.getElem?_eq_some_iff.1 hx).1;simpa using this
  simp[hi]at hx eN
  subst hx;subst eN
  exact(hf i hi).1
 ·intro x hx
  simp only[List.mem_map,List.mem_range]at hx
  obtain⟨i,hi,rfl⟩:=hx
  exact(hf i hi).2
end
end Go.Proofs.YtjcojocjlglglaaGreat.L
namespace Go.Proofs.YtjcojocjlglglaaGreat.G
set_option linter.all false
open Go.RowKit L D
inductive Tag where
 |int|u8|str|sl(t:Tag)|DB|aE|bO|az|gJ|dL|aO|b7|Ev|qO|oq|Plain|bw
 deriving DecidableEq
@[reducible] def T:Tag→Type
  | .int=>Int
  | .u8=>UInt8
  | .str=>List UInt8
  | .sl t=>List (T t)
  | .DB=>DB
  | .aE=>aE
  | .bO=>bO
  | .az=>az
  | .gJ=>gJ
  | .dL=>dL
  | .aO=>aO
  | .b7=>b7
  | .Ev=>Ev
  | .qO=>qO
  | .oq=>oq
  | .Plain=>Plain
  | .bw=>bw
def kk:Tag→Nat
 | .int=>1
 | .u8=>1
 | .str=>1
 | .sl _=>1
 | .DB=>1
 | .aE=>2
 | .bO=>5
 | .az=>2
 | .gJ=>2
 | .dL=>8
 | .aO=>16
 | .b7=>10
 | .Ev=>4
 | .qO=>3
 | .oq=>5
 | .Plain=>2
 | .bw=>5
def rd:(t:Tag)→ER (T t)
 | .int=>iq
 | .u8=>Bz
 | .str=>Kp
 | .sl t=>zV (kk t) (rd t)
 | .DB=>Im
 | .aE=>kK
 | .bO=>BM
 | .az=>kL
 | .gJ=>BN
 | .dL=>yD
 | .aO=>BP
 | .b7=>BR
 | .Ev=>NL
 | .qO=>Fx
 | .oq=>Fz
 | .Plain=>yE
 | .bw=>C0
theorem cY:(t:Tag)→dK (kk t) (rd t)
 | .int=>lW
 | .u8=>eL
 | .str=>Fj
 | .sl t=>kJ (cY t)
 | .DB=>iF
 | .aE=>lY
 | .bO=>uu
 | .az=>lZ
 | .gJ=>l5
 | .dL=>gb
 | .aO=>uw
 | .b7=>Fw
 | .Ev=>Io
 | .qO=>Fy
 | .oq=>FA
 | .Plain=>BT
 | .bw=>D9
theorem gA:(t:Tag)→0<kk t
 | .int=>by decide
 | .u8=>by decide
 | .str=>by decide
 | .sl _=>Nat.one_pos
 | .DB=>by decide
 | .aE=>by decide
 | .bO=>by decide
 | .az=>by decide
 | .gJ=>by decide
 | .dL=>by decide
 | .aO=>by decide
 | .b7=>by decide
 | .Ev=>by decide
 | .qO=>by decide
 | .oq=>by decide
 | .Plain=>by decide
 | .bw=>by decide
def au:(t:Tag)→T t
 | .int=>(0:Int)
 | .u8=>(0:UInt8)
 | .str=>([]:List UInt8)
 | .sl t=>([]:List (T t))
 | .DB=>(default:DB)
 | .aE=>(default:aE)
 | .bO=>(default:bO)
 | .az=>(default:az)
 | .gJ=>(default:gJ)
 | .dL=>(default:dL)
 | .aO=>(default:aO)
 | .b7=>(default:b7)
 | .Ev=>(default:Ev)
 | .qO=>(default:qO)
 | .oq=>(default:oq)
 | .Plain=>(default:Plain)
 | .bw=>(default:bw)
inductive V where
 |any
 |lit(v:Value)
 |sl(t:Tag)(l:List (T t))
 |own(n:Nat)
 |ptr(n off:Nat)
 |jm(n i off:Nat)
 |ip(t:Tag)(x:T t)(off:Nat)
 |vw(n:Nat)(p:Option (Nat×Nat))(t:Tag)(l:List (T t))
 |wL(n:Nat)(p:Option (Nat×Nat×Nat))(t:Tag)(x:T t)(off:Nat)
 |wQ(n:Nat)(t:Tag)(l:List (T t))
 |mix(n:Nat)(c:Bool)(t:Tag)(l:List (T t))
 |s8(n:Nat)
 |uD(f:FuncId)(n:Nat)
 |ot(k:Nat)
def RI(w:World):V→Value→List Nat→Prop
 | .lit v,u,fp=>u=v∧v.oneCell'=true∧fp= []
 | .sl t l,u,fp=>Sl (kk t) (rd t) w u l fp
 |_,_,_=>False
def bA(w:World):List V→List Value→List Nat→Prop
 | [],[],fp=>fp= []
 |V::Vs,u::us,fp=> ∃f g,RI w V u f∧bA w Vs us g∧fp=f++g
 |_,_,_=>False
theorem bA.nil{w:World}:bA w [] [] []:=rfl
theorem bA.lit{w:World}{v:Value}{Vs:List V}{us:List Value}{g:List Nat}(hv:v.oneCell'=true)(h:bA w Vs us g):bA w (.lit v::Vs) (v::us) g:=⟨[],g,⟨rfl,hv,rfl⟩,h,rfl⟩
theorem bA.sl{w:World}{u:Value}{t:Tag}{l:List (T t)}{f g:List Nat}{Vs:List V}{us:List Value}(k:Sl (kk t) (rd t) w u l f)(h:bA w Vs us g):bA w (.sl t l::Vs) (u::us) (f++g):=⟨f,g,k,h,rfl⟩
theorem bA.app{w:World}: ∀{Vs Us:List V} {vs us:List Value} {f g:List Nat},bA w Vs vs f→bA w Us us g→bA w (Vs++Us) (vs++us) (f++g)
 | [],_,[],_,_,_,h,k=>by rw[show _=_ from h];exact k
 |_::_,_,_::_,_,_,_,⟨f1,f2,h1,h2,e⟩,k=>⟨f1,f2++_,h1,bA.app h2 k,by rw[e,List.append_assoc]⟩
 | [],_,_::_,_,_,_,h,_=>h.elim
 |_::_,_,[],_,_,_,h,_=>h.elim
theorem bA.len{w:World}: ∀{Vs:List V} {us:List Value} {fp:List Nat},bA w Vs us fp→us.length=Vs.length
 | [],[],_,_=>rfl
 |_::_,_::_,_,⟨_,_,_,h,_⟩=>by simp[bA.len h]
 | [],_::_,_,h=>h.elim
 |_::_,[],_,h=>h.elim
def bR(x:DB):List V:= [.sl (.sl .u8) x.rows]
def dO(x:aE):List V:= [.lit (.int .i64 x.client)]++bR x.share
def cG(x:bO):List V:= [.lit (.int .i64 x.id), .lit (.int .i64 x.rows), .lit (.int .i64 x.round), .sl .aE x.received, .lit (.int .i64 x.behavior)]
def dP(x:az):List V:= [.lit (.int .i64 x.round)]++bR x.db
def bN(x:gJ):List V:= [.lit (.int .i64 x.rows), .sl .az x.rounds]
def bf(x:dL):List V:= [.lit (.int .i64 x.id), .lit (.int .i64 x.dD), .lit (.int .i64 x.key), .lit (.int .i64 x.seed), .sl (.sl .u8) x.aj, .lit (.int .i64 x.sent), .sl (.sl .u8) x.inbox, .lit (.int .i64 x.next)]
def bq(x:aO):List V:=bf x.live++bf x.saved
def bz(x:b7):List V:= [.lit (.int .i64 x.rows), .sl .bO x.aq, .sl .aO x.ah]++bN x.aA++ [.lit (.int .i64 x.cU), .lit (.int .i64 x.seed), .lit (.int .i64 x.round), .sl .int x.replaced, .lit (.int .i64 x.cancelled)]
def BV(x:Ev):List V:= [.lit (.int .i64 x.kind), .lit (.int .i64 x.node), .lit (.int .i64 x.value), .sl .u8 x.body]
def yF(x:qO):List V:= [.lit (.int .i64 x.fr), .lit (.int .i64 x.to), .lit (.int .i64 x.bytes)]
def yG(x:oq):List V:= [.lit (.int .i64 x.server), .lit (.int .i64 x.client), .lit (.int .i64 x.round), .lit (.int .i64 x.BS), .lit (.int .i64 x.wK)]
def cO(x:Plain):List V:= [.lit (.int .i64 x.kind), .sl .u8 x.body]
def dF(x:bw):List V:= [.lit (.int .i64 x.server), .lit (.int .i64 x.round), .sl .int x.selection, .sl .u8 x.data, .lit (.int .i64 x.wK)]
def dec:(t:Tag)→T t→List V
 | .int,n=> [.lit (.int .i64 n)]
 | .u8,n=> [.lit (.int .u8 n.toNat)]
 | .str,s=> [.lit (.string ⟨s.toArray⟩)]
 | .sl t,l=> [.sl t l]
 | .DB,x=>bR x
 | .aE,x=>dO x
 | .bO,x=>cG x
 | .az,x=>dP x
 | .gJ,x=>bN x
 | .dL,x=>bf x
 | .aO,x=>bq x
 | .b7,x=>bz x
 | .Ev,x=>BV x
 | .qO,x=>yF x
 | .oq,x=>yG x
 | .Plain,x=>cO x
 | .bw,x=>dF x
theorem uE{w:World}{cs:List Value}{x:DB}{fp:List Nat}:Im w cs x fp→bA w (bR x) cs fp:=by
 rintro⟨v0,f0,rfl,h0,rfl⟩
 have h:=(bA.sl (t:=(.sl .u8)) h0 bA.nil)
 simpa[bR]using h
theorem yH{w:World}{cs:List Value}{x:aE}{fp:List Nat}:kK w cs x fp→bA w (dO x) cs fp:=by
 rintro⟨v0,f0,rfl,h0,rfl⟩
 have h:=(bA.app (bA.lit (w:=w) (v:= .int .i64 x.client) rfl bA.nil) (uE h0))
 simpa[dO]using h
theorem Ec{w:World}{cs:List Value}{x:bO}{fp:List Nat}:BM w cs x fp→bA w (cG x) cs fp:=by
 rintro⟨v0,f0,rfl,h0,rfl⟩
 have h:=(bA.lit (w:=w) (v:= .int .i64 x.id) rfl (bA.lit (w:=w) (v:= .int .i64 x.rows) rfl (bA.lit (w:=w) (v:= .int .i64 x.round) rfl (bA.sl (t:= .aE) h0 (bA.lit (w:=w) (v:= .int .i64 x.behavior) rfl bA.nil)))))
 simpa[cG]using h
theorem yI{w:World}{cs:List Value}{x:az}{fp:List Nat}:kL w cs x fp→bA w (dP x) cs fp:=by
 rintro⟨v0,f0,rfl,h0,rfl⟩
 have h:=(bA.app (bA.lit (w:=w) (v:= .int .i64 x.round) rfl bA.nil) (uE h0))
 simpa[dP]using h
theorem xB{w:World}{cs:List Value}{x:gJ}{fp:List Nat}:BN w cs x fp→bA w (bN x) cs fp:=by
 rintro⟨v0,f0,rfl,h0,rfl⟩
 have h:=(bA.lit (w:=w) (v:= .int .i64 x.rows) rfl (bA.sl (t:= .az) h0 bA.nil))
 simpa[bN]using h
theorem qQ{w:World}{cs:List Value}{x:dL}{fp:List Nat}:yD w cs x fp→bA w (bf x) cs fp:=by
 rintro⟨v0,v1,f0,f1,rfl,h0,h1,rfl⟩
 have h:=(bA.lit (w:=w) (v:= .int .i64 x.id) rfl (bA.lit (w:=w) (v:= .int .i64 x.dD) rfl (bA.lit (w:=w) (v:= .int .i64 x.key) rfl (bA.lit (w:=w) (v:= .int .i64 x.seed) rfl (bA.sl (t:=(.sl .u8)) h0 (bA.lit (w:=w) (v:= .int .i64 x.sent) rfl (bA.sl (t:=(.sl .u8)) h1 (bA.lit (w:=w) (v:= .int .i64 x.next) rfl bA.nil))))))))
 simpa[bf]using h
theorem Ed{w:World}{cs:List Value}{x:aO}{fp:List Nat}:BP w cs x fp→bA w (bq x) cs fp:=by
 rintro⟨v0,v1,f0,f1,rfl,h0,h1,rfl⟩
 have h:=(bA.app (qQ h0) (qQ h1))
 simpa[bq]using h
theorem xC{w:World}{cs:List Value}{x:b7}{fp:List Nat}:BR w cs x fp→bA w (bz x) cs fp:=by
 rintro⟨v0,v1,v2,v3,f0,f1,f2,f3,rfl,h0,h1,h2,h3,rfl⟩
 have h:=(bA.app (bA.app (bA.lit (w:=w) (v:= .int .i64 x.rows) rfl (bA.sl (t:= .bO) h0 (bA.sl (t:= .aO) h1 bA.nil))) (xB h2)) (bA.lit (w:=w) (v:= .int .i64 x.cU) rfl (bA.lit (w:=w) (v:= .int .i64 x.seed) rfl (bA.lit (w:=w) (v:= .int .i64 x.round) rfl (bA.sl (t:= .int) h3 (bA.lit (w:=w) (v:= .int .i64 x.cancelled) rfl bA.nil))))))
 simpa[bz]using h
theorem FF{w:World}{cs:List Value}{x:Ev}{fp:List Nat}:NL w cs x fp→bA w (BV x) cs fp:=by
 rintro⟨v0,f0,rfl,h0,rfl⟩
 have h:=(bA.lit (w:=w) (v:= .int .i64 x.kind) rfl (bA.lit (w:=w) (v:= .int .i64 x.node) rfl (bA.lit (w:=w) (v:= .int .i64 x.value) rfl (bA.sl (t:= .u8) h0 bA.nil))))
 simpa[BV]using h
theorem Ee{w:World}{cs:List Value}{x:qO}{fp:List Nat}:Fx w cs x fp→bA w (yF x) cs fp:=by
 rintro⟨rfl,rfl⟩
 have h:=(bA.lit (w:=w) (v:= .int .i64 x.fr) rfl (bA.lit (w:=w) (v:= .int .i64 x.to) rfl (bA.lit (w:=w) (v:= .int .i64 x.bytes) rfl bA.nil)))
 simpa[yF]using h
theorem Ef{w:World}{cs:List Value}{x:oq}{fp:List Nat}:Fz w cs x fp→bA w (yG x) cs fp:=by
 rintro⟨rfl,rfl⟩
 have h:=(bA.lit (w:=w) (v:= .int .i64 x.server) rfl (bA.lit (w:=w) (v:= .int .i64 x.client) rfl (bA.lit (w:=w) (v:= .int .i64 x.round) rfl (bA.lit (w:=w) (v:= .int .i64 x.BS) rfl (bA.lit (w:=w) (v:= .int .i64 x.wK) rfl bA.nil)))))
 simpa[yG]using h
theorem Aa{w:World}{cs:List Value}{x:Plain}{fp:List Nat}:yE w cs x fp→bA w (cO x) cs fp:=by
 rintro⟨v0,f0,rfl,h0,rfl⟩
 have h:=(bA.lit (w:=w) (v:= .int .i64 x.kind) rfl (bA.sl (t:= .u8) h0 bA.nil))
 simpa[cO]using h
theorem BW{w:World}{cs:List Value}{x:bw}{fp:List Nat}:C0 w cs x fp→bA w (dF x) cs fp:=by
 rintro⟨v0,v1,f0,f1,rfl,h0,h1,rfl⟩
 have h:=(bA.lit (w:=w) (v:= .int .i64 x.server) rfl (bA.lit (w:=w) (v:= .int .i64 x.round) rfl (bA.sl (t:= .int) h0 (bA.sl (t:= .u8) h1 (bA.lit (w:=w) (v:= .int .i64 x.wK) rfl bA.nil)))))
 simpa[dF]using h
theorem reads{w:World}:(t:Tag)→{cs:List Value}→{x:T t}→{fp:List Nat}→rd t w cs x fp→bA w (dec t x) cs fp
 | .int,_,_,_,⟨rfl,rfl⟩=>bA.lit (v:= .int .i64 _) rfl bA.nil
 | .u8,_,_,_,⟨rfl,rfl⟩=>bA.lit (v:= .int .u8 _) rfl bA.nil
 | .str,_,_,_,⟨rfl,_,rfl⟩=>bA.lit (v:= .string _) rfl bA.nil
 | .sl t,_,_,_,⟨v,rfl,h⟩=>by have:=bA.sl (t:=t) h (bA.nil);rwa [List.append_nil]at this
 | .DB,_,_,_,h=>uE h
 | .aE,_,_,_,h=>yH h
 | .bO,_,_,_,h=>Ec h
 | .az,_,_,_,h=>yI h
 | .gJ,_,_,_,h=>xB h
 | .dL,_,_,_,h=>qQ h
 | .aO,_,_,_,h=>Ed h
 | .b7,_,_,_,h=>xC h
 | .Ev,_,_,_,h=>FF h
 | .qO,_,_,_,h=>Ee h
 | .oq,_,_,_,h=>Ef h
 | .Plain,_,_,_,h=>Aa h
 | .bw,_,_,_,h=>BW h
end Go.Proofs.YtjcojocjlglglaaGreat.G
namespace Go.Proofs.YtjcojocjlglglaaGreat.G
set_option linter.all false
open Go.RowKit L D
def gy:(t t':Tag)→List (T t')→Option (List (T t))
 | .int, .int,l=>some l
 | .u8, .u8,l=>some l
 | .str, .str,l=>some l
 | .sl .int, .sl .int,l=>some l
 | .sl .u8, .sl .u8,l=>some l
 | .sl .str, .sl .str,l=>some l
 | .sl (.sl .u8), .sl (.sl .u8),l=>some l
 | .sl (.sl .int), .sl (.sl .int),l=>some l
 | .DB, .DB,l=>some l
 | .aE, .aE,l=>some l
 | .bO, .bO,l=>some l
 | .az, .az,l=>some l
 | .gJ, .gJ,l=>some l
 | .dL, .dL,l=>some l
 | .aO, .aO,l=>some l
 | .b7, .b7,l=>some l
 | .Ev, .Ev,l=>some l
 | .qO, .qO,l=>some l
 | .oq, .oq,l=>some l
 | .Plain, .Plain,l=>some l
 | .bw, .bw,l=>some l
 |_,_,_=>none
theorem cD{t t':Tag}{l:List (T t')}{l2:List (T t)}(h:gy t t' l=some l2): ∃e:t'=t,l2=e▸l:=by
 unfold gy at h
 split at h<;>first
  | (simp only[Option.some.injEq]at h;exact⟨rfl,h.symm⟩)
  |cases h
def gi:V→Option Int
 | .lit (.int .i64 n)=>some n
 |_=>none
def gs(t:Tag):V→Option (List (T t))
 | .sl t' l=>gy t t' l
 | .lit (.slice none 0 0)=>some []
 |_=>none
theorem cw{w:World}{v:V}{u:Value}{f:List Nat}{n:Int}(h:gi v=some n)(hr:RI w v u f):u= .int .i64 n∧f= []:=by
 unfold gi at h
 split at h
 ·simp only[Option.some.injEq]at h
  subst h
  exact⟨hr.1,hr.2.2⟩
 ·cases h
theorem jV{w:World}{t:Tag}{v:V}{u:Value}{f:List Nat}{l:List (T t)}(h:gs t v=some l)(hr:RI w v u f):Sl (kk t) (rd t) w u l f:=by
 unfold gs at h
 split at h
 ·rename_i t' l'
  obtain⟨he,rfl⟩:=cD h
  subst he
  exact hr
 ·simp only[Option.some.injEq]at h
  subst h
  obtain⟨rfl,_,rfl⟩:=hr
  exact⟨none,0,rfl,Nat.le_refl _,Nat.zero_le _,Or.inl ⟨rfl,rfl,fun _=>rfl⟩⟩
 ·cases h
def qR:List V→Option DB
 | [a0]=>match gs (.sl .u8) a0 with
   |some x0=>some ⟨x0⟩
   |_=>none
 |_=>none
theorem m7{w:World}{c:List V}{us:List Value}{fp:List Nat}{x:DB}(h:qR c=some x)(hr:bA w c us fp):Im w us x fp:=by
 unfold qR at h
 split at h
 ·rename_i a0
  split at h
  ·rename_i x0 e0
   simp only[Option.some.injEq]at h
   subst h
   match us,hr with
   | [u0],⟨f0,g0,r0,h9,q0⟩=>
     have h9:g0= []:=h9
     have z0:=jV e0 r0
     refine⟨u0,f0,?_,z0,?_⟩
     ·rfl
     ·simp[q0,h9]
  ·cases h
 ·cases h
def kM:List V→Option aE
 | [a0,a1]=>match gi a0,qR [a1]with
   |some x0,some x1=>some ⟨x0,x1⟩
   |_,_=>none
 |_=>none
theorem nT{w:World}{c:List V}{us:List Value}{fp:List Nat}{x:aE}(h:kM c=some x)(hr:bA w c us fp):kK w us x fp:=by
 unfold kM at h
 split at h
 ·rename_i a0 a1
  split at h
  ·rename_i x0 x1 e0 e1
   simp only[Option.some.injEq]at h
   subst h
   match us,hr with
   | [u0,u1],⟨f0,g0,r0,⟨f1,g1,r1,h9,q1⟩,q0⟩=>
     have h9:g1= []:=h9
     obtain⟨z0,y0⟩:=cw e0 r0
     have z1:=m7 (w:=w) (us:= [u1]) (fp:=(f1++ [])) e1 ⟨f1,_,r1,rfl,rfl⟩
     refine⟨[u1],(f1++ []),?_,z1,?_⟩
     ·simp[z0]
     ·simp[q0,q1,h9,y0]
  ·cases h
 ·cases h
def tG:List V→Option bO
 | [a0,a1,a2,a3,a4]=>match gi a0,gi a1,gi a2,gs .aE a3,gi a4 with
   |some x0,some x1,some x2,some x3,some x4=>some ⟨x0,x1,x2,x3,x4⟩
   |_,_,_,_,_=>none
 |_=>none
theorem uF{w:World}{c:List V}{us:List Value}{fp:List Nat}{x:bO}(h:tG c=some x)(hr:bA w c us fp):BM w us x fp:=by
 unfold tG at h
 split at h
 ·rename_i a0 a1 a2 a3 a4
  split at h
  ·rename_i x0 x1 x2 x3 x4 e0 e1 e2 e3 e4
   simp only[Option.some.injEq]at h
   subst h
   match us,hr with
   | [u0,u1,u2,u3,u4],⟨f0,g0,r0,⟨f1,g1,r1,⟨f2,g2,r2,⟨f3,g3,r3,⟨f4,g4,r4,h9,q4⟩,q3⟩,q2⟩,q1⟩,q0⟩=>
     have h9:g4= []:=h9
     obtain⟨z0,y0⟩:=cw e0 r0
     obtain⟨z1,y1⟩:=cw e1 r1
     obtain⟨z2,y2⟩:=cw e2 r2
     have z3:=jV e3 r3
     obtain⟨z4,y4⟩:=cw e4 r4
     refine⟨u3,f3,?_,z3,?_⟩
     ·simp[z0,z1,z2,z4]
     ·simp[q0,q1,q2,q3,q4,h9,y0,y1,y2,y4]
  ·cases h
 ·cases h
def kN:List V→Option az
 | [a0,a1]=>match gi a0,qR [a1]with
   |some x0,some x1=>some ⟨x0,x1⟩
   |_,_=>none
 |_=>none
theorem nU{w:World}{c:List V}{us:List Value}{fp:List Nat}{x:az}(h:kN c=some x)(hr:bA w c us fp):kL w us x fp:=by
 unfold kN at h
 split at h
 ·rename_i a0 a1
  split at h
  ·rename_i x0 x1 e0 e1
   simp only[Option.some.injEq]at h
   subst h
   match us,hr with
   | [u0,u1],⟨f0,g0,r0,⟨f1,g1,r1,h9,q1⟩,q0⟩=>
     have h9:g1= []:=h9
     obtain⟨z0,y0⟩:=cw e0 r0
     have z1:=m7 (w:=w) (us:= [u1]) (fp:=(f1++ [])) e1 ⟨f1,_,r1,rfl,rfl⟩
     refine⟨[u1],(f1++ []),?_,z1,?_⟩
     ·simp[z0]
     ·simp[q0,q1,h9,y0]
  ·cases h
 ·cases h
def pg:List V→Option gJ
 | [a0,a1]=>match gi a0,gs .az a1 with
   |some x0,some x1=>some ⟨x0,x1⟩
   |_,_=>none
 |_=>none
theorem ou{w:World}{c:List V}{us:List Value}{fp:List Nat}{x:gJ}(h:pg c=some x)(hr:bA w c us fp):BN w us x fp:=by
 unfold pg at h
 split at h
 ·rename_i a0 a1
  split at h
  ·rename_i x0 x1 e0 e1
   simp only[Option.some.injEq]at h
   subst h
   match us,hr with
   | [u0,u1],⟨f0,g0,r0,⟨f1,g1,r1,h9,q1⟩,q0⟩=>
     have h9:g1= []:=h9
     obtain⟨z0,y0⟩:=cw e0 r0
     have z1:=jV e1 r1
     refine⟨u1,f1,?_,z1,?_⟩
     ·simp[z0]
     ·simp[q0,q1,h9,y0]
  ·cases h
 ·cases h
def m8:List V→Option dL
 | [a0,a1,a2,a3,a4,a5,a6,a7]=>match gi a0,gi a1,gi a2,gi a3,gs (.sl .u8) a4,gi a5,gs (.sl .u8) a6,gi a7 with
   |some x0,some x1,some x2,some x3,some x4,some x5,some x6,some x7=>some ⟨x0,x1,x2,x3,x4,x5,x6,x7⟩
   |_,_,_,_,_,_,_,_=>none
 |_=>none
theorem kO{w:World}{c:List V}{us:List Value}{fp:List Nat}{x:dL}(h:m8 c=some x)(hr:bA w c us fp):yD w us x fp:=by
 unfold m8 at h
 split at h
 ·rename_i a0 a1 a2 a3 a4 a5 a6 a7
  split at h
  ·rename_i x0 x1 x2 x3 x4 x5 x6 x7 e0 e1 e2 e3 e4 e5 e6 e7
   simp only[Option.some.injEq]at h
   subst h
   match us,hr with
   | [u0,u1,u2,u3,u4,u5,u6,u7],⟨f0,g0,r0,⟨f1,g1,r1,⟨f2,g2,r2,⟨f3,g3,r3,⟨f4,g4,r4,⟨f5,g5,r5,⟨f6,g6,r6,⟨f7,g7,r7,h9,q7⟩,q6⟩,q5⟩,q4⟩,q3⟩,q2⟩,q1⟩,q0⟩=>
     have h9:g7= []:=h9
     obtain⟨z0,y0⟩:=cw e0 r0
     obtain⟨z1,y1⟩:=cw e1 r1
     obtain⟨z2,y2⟩:=cw e2 r2
     obtain⟨z3,y3⟩:=cw e3 r3
     have z4:=jV e4 r4
     obtain⟨z5,y5⟩:=cw e5 r5
     have z6:=jV e6 r6
     obtain⟨z7,y7⟩:=cw e7 r7
     refine⟨u4,u6,f4,f6,?_,z4,z6,?_⟩
     ·simp[z0,z1,z2,z3,z5,z7]
     ·simp[q0,q1,q2,q3,q4,q5,q6,q7,h9,y0,y1,y2,y3,y5,y7]
  ·cases h
 ·cases h
def tH:List V→Option aO
 | [a0,a1,a2,a3,a4,a5,a6,a7,a8,a9,Ph,Pj,Pk,Pm,Pn,Po]=>match m8 [a0,a1,a2,a3,a4,a5,a6,a7],m8 [a8,a9,Ph,Pj,Pk,Pm,Pn,Po]with
   |some x0,some x8=>some ⟨x0,x8⟩
   |_,_=>none
 |_=>none
theorem uG{w:World}{c:List V}{us:List Value}{fp:List Nat}{x:aO}(h:tH c=some x)(hr:bA w c us fp):BP w us x fp:=by
 unfold tH at h
 split at h
 ·rename_i a0 a1 a2 a3 a4 a5 a6 a7 a8 a9 Ph Pj Pk Pm Pn Po
  split at h
  ·rename_i x0 x8 e0 e1
   simp only[Option.some.injEq]at h
   subst h
   match us,hr with
   | [u0,u1,u2,u3,u4,u5,u6,u7,u8,u9,Pp,Pq,Pr,Pt,Pu,Pv],⟨f0,g0,r0,⟨f1,g1,r1,⟨f2,g2,r2,⟨f3,g3,r3,⟨f4,g4,r4,⟨f5,g5,r5,⟨f6,g6,r6,⟨f7,g7,r7,⟨f8,g8,r8,⟨f9,g9,r9,⟨f10,Rp,P5,⟨f11,Rq,P6,⟨f12,Rr,P7,⟨f13,Rs,P8,⟨f14,Rt,P9,⟨f15,Qa,Qc,h9,Qd⟩,Qe⟩,Qf⟩,Qg⟩,Qh⟩,Qi⟩,q9⟩,q8⟩,q7⟩,q6⟩,q5⟩,q4⟩,q3⟩,q2⟩,q1⟩,q0⟩=>
     have h9:Qa= []:=h9
     have z0:=kO (w:=w) (us:= [u0,u1,u2,u3,u4,u5,u6,u7]) (fp:=(f0++(f1++(f2++(f3++(f4++(f5++(f6++(f7++ []))))))))) e0 ⟨f0,_,r0,⟨f1,_,r1,⟨f2,_,r2,⟨f3,_,r3,⟨f4,_,r4,⟨f5,_,r5,⟨f6,_,r6,⟨f7,_,r7,rfl,rfl⟩,rfl⟩,rfl⟩,rfl⟩,rfl⟩,rfl⟩,rfl⟩,rfl⟩
     have z8:=kO (w:=w) (us:= [u8,u9,Pp,Pq,Pr,Pt,Pu,Pv]) (fp:=(f8++(f9++(f10++(f11++(f12++(f13++(f14++(f15++ []))))))))) e1 ⟨f8,_,r8,⟨f9,_,r9,⟨f10,_,P5,⟨f11,_,P6,⟨f12,_,P7,⟨f13,_,P8,⟨f14,_,P9,⟨f15,_,Qc,rfl,rfl⟩,rfl⟩,rfl⟩,rfl⟩,rfl⟩,rfl⟩,rfl⟩,rfl⟩
     refine⟨[u0,u1,u2,u3,u4,u5,u6,u7],[u8,u9,Pp,Pq,Pr,Pt,Pu,Pv],(f0++(f1++(f2++(f3++(f4++(f5++(f6++(f7++ [])))))))),(f8++(f9++(f10++(f11++(f12++(f13++(f14++(f15++ [])))))))),?_,z0,z8,?_⟩
     ·rfl
     ·simp[q0,q1,q2,q3,q4,q5,q6,q7,q8,q9,Qi,Qh,Qg,Qf,Qe,Qd,h9]
  ·cases h
 ·cases h
def tI:List V→Option b7
 | [a0,a1,a2,a3,a4,a5,a6,a7,a8,a9]=>match gi a0,gs .bO a1,gs .aO a2,pg [a3,a4],gi a5,gi a6,gi a7,gs .int a8,gi a9 with
   |some x0,some x1,some x2,some x3,some x5,some x6,some x7,some x8,some x9=>some ⟨x0,x1,x2,x3,x5,x6,x7,x8,x9⟩
   |_,_,_,_,_,_,_,_,_=>none
 |_=>none
theorem uH{w:World}{c:List V}{us:List Value}{fp:List Nat}{x:b7}(h:tI c=some x)(hr:bA w c us fp):BR w us x fp:=by
 unfold tI at h
 split at h
 ·rename_i a0 a1 a2 a3 a4 a5 a6 a7 a8 a9
  split at h
  ·rename_i x0 x1 x2 x3 x5 x6 x7 x8 x9 e0 e1 e2 e3 e4 e5 e6 e7 e8
   simp only[Option.some.injEq]at h
   subst h
   match us,hr with
   | [u0,u1,u2,u3,u4,u5,u6,u7,u8,u9],⟨f0,g0,r0,⟨f1,g1,r1,⟨f2,g2,r2,⟨f3,g3,r3,⟨f4,g4,r4,⟨f5,g5,r5,⟨f6,g6,r6,⟨f7,g7,r7,⟨f8,g8,r8,⟨f9,g9,r9,h9,q9⟩,q8⟩,q7⟩,q6⟩,q5⟩,q4⟩,q3⟩,q2⟩,q1⟩,q0⟩=>
     have h9:g9= []:=h9
     obtain⟨z0,y0⟩:=cw e0 r0
     have z1:=jV e1 r1
     have z2:=jV e2 r2
     have z3:=ou (w:=w) (us:= [u3,u4]) (fp:=(f3++(f4++ []))) e3 ⟨f3,_,r3,⟨f4,_,r4,rfl,rfl⟩,rfl⟩
     obtain⟨z5,y5⟩:=cw e4 r5
     obtain⟨z6,y6⟩:=cw e5 r6
     obtain⟨z7,y7⟩:=cw e6 r7
     have z8:=jV e7 r8
     obtain⟨z9,y9⟩:=cw e8 r9
     refine⟨u1,u2,[u3,u4],u8,f1,f2,(f3++(f4++ [])),f8,?_,z1,z2,z3,z8,?_⟩
     ·simp[z0,z5,z6,z7,z9]
     ·simp[q0,q1,q2,q3,q4,q5,q6,q7,q8,q9,h9,y0,y5,y6,y7,y9]
  ·cases h
 ·cases h
def yJ:List V→Option Ev
 | [a0,a1,a2,a3]=>match gi a0,gi a1,gi a2,gs .u8 a3 with
   |some x0,some x1,some x2,some x3=>some ⟨x0,x1,x2,x3⟩
   |_,_,_,_=>none
 |_=>none
theorem xD{w:World}{c:List V}{us:List Value}{fp:List Nat}{x:Ev}(h:yJ c=some x)(hr:bA w c us fp):NL w us x fp:=by
 unfold yJ at h
 split at h
 ·rename_i a0 a1 a2 a3
  split at h
  ·rename_i x0 x1 x2 x3 e0 e1 e2 e3
   simp only[Option.some.injEq]at h
   subst h
   match us,hr with
   | [u0,u1,u2,u3],⟨f0,g0,r0,⟨f1,g1,r1,⟨f2,g2,r2,⟨f3,g3,r3,h9,q3⟩,q2⟩,q1⟩,q0⟩=>
     have h9:g3= []:=h9
     obtain⟨z0,y0⟩:=cw e0 r0
     obtain⟨z1,y1⟩:=cw e1 r1
     obtain⟨z2,y2⟩:=cw e2 r2
     have z3:=jV e3 r3
     refine⟨u3,f3,?_,z3,?_⟩
     ·simp[z0,z1,z2]
     ·simp[q0,q1,q2,q3,h9,y0,y1,y2]
  ·cases h
 ·cases h
def tJ:List V→Option qO
 | [a0,a1,a2]=>match gi a0,gi a1,gi a2 with
   |some x0,some x1,some x2=>some ⟨x0,x1,x2⟩
   |_,_,_=>none
 |_=>none
theorem uI{w:World}{c:List V}{us:List Value}{fp:List Nat}{x:qO}(h:tJ c=some x)(hr:bA w c us fp):Fx w us x fp:=by
 unfold tJ at h
 split at h
 ·rename_i a0 a1 a2
  split at h
  ·rename_i x0 x1 x2 e0 e1 e2
   simp only[Option.some.injEq]at h
   subst h
   match us,hr with
   | [u0,u1,u2],⟨f0,g0,r0,⟨f1,g1,r1,⟨f2,g2,r2,h9,q2⟩,q1⟩,q0⟩=>
     have h9:g2= []:=h9
     obtain⟨z0,y0⟩:=cw e0 r0
     obtain⟨z1,y1⟩:=cw e1 r1
     obtain⟨z2,y2⟩:=cw e2 r2
     refine⟨?_,?_⟩
     ·simp[z0,z1,z2]
     ·simp[q0,q1,q2,h9,y0,y1,y2]
  ·cases h
 ·cases h
def tK:List V→Option oq
 | [a0,a1,a2,a3,a4]=>match gi a0,gi a1,gi a2,gi a3,gi a4 with
   |some x0,some x1,some x2,some x3,some x4=>some ⟨x0,x1,x2,x3,x4⟩
   |_,_,_,_,_=>none
 |_=>none
theorem uJ{w:World}{c:List V}{us:List Value}{fp:List Nat}{x:oq}(h:tK c=some x)(hr:bA w c us fp):Fz w us x fp:=by
 unfold tK at h
 split at h
 ·rename_i a0 a1 a2 a3 a4
  split at h
  ·rename_i x0 x1 x2 x3 x4 e0 e1 e2 e3 e4
   simp only[Option.some.injEq]at h
   subst h
   match us,hr with
   | [u0,u1,u2,u3,u4],⟨f0,g0,r0,⟨f1,g1,r1,⟨f2,g2,r2,⟨f3,g3,r3,⟨f4,g4,r4,h9,q4⟩,q3⟩,q2⟩,q1⟩,q0⟩=>
     have h9:g4= []:=h9
     obtain⟨z0,y0⟩:=cw e0 r0
     obtain⟨z1,y1⟩:=cw e1 r1
     obtain⟨z2,y2⟩:=cw e2 r2
     obtain⟨z3,y3⟩:=cw e3 r3
     obtain⟨z4,y4⟩:=cw e4 r4
     refine⟨?_,?_⟩
     ·simp[z0,z1,z2,z3,z4]
     ·simp[q0,q1,q2,q3,q4,h9,y0,y1,y2,y3,y4]
  ·cases h
 ·cases h
def ng:List V→Option Plain
 | [a0,a1]=>match gi a0,gs .u8 a1 with
   |some x0,some x1=>some ⟨x0,x1⟩
   |_,_=>none
 |_=>none
theorem pq{w:World}{c:List V}{us:List Value}{fp:List Nat}{x:Plain}(h:ng c=some x)(hr:bA w c us fp):yE w us x fp:=by
 unfold ng at h
 split at h
 ·rename_i a0 a1
  split at h
  ·rename_i x0 x1 e0 e1
   simp only[Option.some.injEq]at h
   subst h
   match us,hr with
   | [u0,u1],⟨f0,g0,r0,⟨f1,g1,r1,h9,q1⟩,q0⟩=>
     have h9:g1= []:=h9
     obtain⟨z0,y0⟩:=cw e0 r0
     have z1:=jV e1 r1
     refine⟨u1,f1,?_,z1,?_⟩
     ·simp[z0]
     ·simp[q0,q1,h9,y0]
  ·cases h
 ·cases h
def pz:List V→Option bw
 | [a0,a1,a2,a3,a4]=>match gi a0,gi a1,gs .int a2,gs .u8 a3,gi a4 with
   |some x0,some x1,some x2,some x3,some x4=>some ⟨x0,x1,x2,x3,x4⟩
   |_,_,_,_,_=>none
 |_=>none
theorem sE{w:World}{c:List V}{us:List Value}{fp:List Nat}{x:bw}(h:pz c=some x)(hr:bA w c us fp):C0 w us x fp:=by
 unfold pz at h
 split at h
 ·rename_i a0 a1 a2 a3 a4
  split at h
  ·rename_i x0 x1 x2 x3 x4 e0 e1 e2 e3 e4
   simp only[Option.some.injEq]at h
   subst h
   match us,hr with
   | [u0,u1,u2,u3,u4],⟨f0,g0,r0,⟨f1,g1,r1,⟨f2,g2,r2,⟨f3,g3,r3,⟨f4,g4,r4,h9,q4⟩,q3⟩,q2⟩,q1⟩,q0⟩=>
     have h9:g4= []:=h9
     obtain⟨z0,y0⟩:=cw e0 r0
     obtain⟨z1,y1⟩:=cw e1 r1
     have z2:=jV e2 r2
     have z3:=jV e3 r3
     obtain⟨z4,y4⟩:=cw e4 r4
     refine⟨u2,u3,f2,f3,?_,z2,z3,?_⟩
     ·simp[z0,z1,z4]
     ·simp[q0,q1,q2,q3,q4,h9,y0,y1,y4]
  ·cases h
 ·cases h
def yK:List V→Option (List Prop×Int)
 | [v]=>match gi v with|some n=>some ([],n)|none=>none
 |_=>none
def BX:List V→Option (List Prop×UInt8)
 | [.lit (.int .u8 n)]=>some ([0≤n∧n<256],UInt8.ofNat n.toNat)
 |_=>none
def yL:List V→Option (List Prop×List UInt8)
 | [.lit (.string s)]=>some ([s.size≤maxLen],s.data.toList)
 |_=>none
def BY(t:Tag):List V→Option (List Prop×List (T t))
 | [v]=>match gs t v with|some l=>some ([],l)|none=>none
 |_=>none
def gx{α:Type}:Option α→Option (List Prop×α)
 |some x=>some ([],x)
 |none=>none
theorem cP{α:Type}{o:Option α}{vc:List Prop}{x:α}(h:gx o=some (vc,x)):o=some x:=by
 cases o with
 |none=>cases h
 |some y=>simp only[gx,Option.some.injEq,Prod.mk.injEq]at h;rw[h.2]
def enc:(t:Tag)→List V→Option (List Prop×T t)
 | .int,c=>yK c
 | .u8,c=>BX c
 | .str,c=>yL c
 | .sl t,c=>BY t c
 | .DB,c=>gx (qR c)
 | .aE,c=>gx (kM c)
 | .bO,c=>gx (tG c)
 | .az,c=>gx (kN c)
 | .gJ,c=>gx (pg c)
 | .dL,c=>gx (m8 c)
 | .aO,c=>gx (tH c)
 | .b7,c=>gx (tI c)
 | .Ev,c=>gx (yJ c)
 | .qO,c=>gx (tJ c)
 | .oq,c=>gx (tK c)
 | .Plain,c=>gx (ng c)
 | .bw,c=>gx (pz c)
theorem l6{w:World}:(t:Tag)→{c:List V}→{us:List Value}→{fp:List Nat}→{vc:List Prop}→{x:T t}→enc t c=some (vc,x)→(∀q,q∈vc→q)→bA w c us fp→rd t w us x fp
 | .int,c,us,fp,vc,x,h,hv,hr=>by
   have h:yK c=some (vc,x):=h
   unfold yK at h
   split at h<;>first| (cases h;done)|skip
   ·split at h
    ·rename_i v _ n e
     simp only[Option.some.injEq,Prod.mk.injEq]at h
     obtain⟨rfl,rfl⟩:=h
     match us,hr with
     | [u],⟨f,g,r,h9,q⟩=>
       obtain⟨z,y⟩:=cw e r
       have h9:g= []:=h9
       exact⟨by rw[z],by simp[q,y,h9]⟩
    ·cases h
 | .u8,c,us,fp,vc,x,h,hv,hr=>by
   have h:BX c=some (vc,x):=h
   unfold BX at h
   split at h<;>first| (cases h;done)|skip
   ·rename_i n _
    simp only[Option.some.injEq,Prod.mk.injEq]at h
    obtain⟨rfl,rfl⟩:=h
    obtain⟨h0,h1⟩:=hv _ (List.mem_singleton.2 rfl)
    match us,hr with
    | [u],⟨f,g,r,h9,q⟩=>
      have h9:g= []:=h9
      obtain⟨rfl,_,rfl⟩:=r
      refine⟨?_,by simp[q,h9]⟩
      have:((UInt8.ofNat n.toNat).toNat:Int)=n:=by rw[UInt8.toNat_ofNat'];omega
      rw[this]
 | .str,c,us,fp,vc,x,h,hv,hr=>by
   have h:yL c=some (vc,x):=h
   unfold yL at h
   split at h<;>first| (cases h;done)|skip
   ·rename_i s _
    simp only[Option.some.injEq,Prod.mk.injEq]at h
    obtain⟨rfl,rfl⟩:=h
    have h0:=hv _ (List.mem_singleton.2 rfl)
    match us,hr with
    | [u],⟨f,g,r,h9,q⟩=>
      have h9:g= []:=h9
      obtain⟨rfl,_,rfl⟩:=r
      exact⟨rfl,h0,by simp[q,h9]⟩
 | .sl t,c,us,fp,vc,x,h,hv,hr=>by
   have h:BY t c=some (vc,x):=h
   unfold BY at h
   split at h<;>first| (cases h;done)|skip
   ·split at h
    ·rename_i v _ l e
     simp only[Option.some.injEq,Prod.mk.injEq]at h
     obtain⟨rfl,rfl⟩:=h
     match us,hr with
     | [u],⟨f,g,r,h9,q⟩=>
       have h9:g= []:=h9
       refine⟨u,rfl,?_⟩
       have:=jV e r
       rw[q,h9,List.append_nil];exact this
    ·cases h
 | .DB,c,us,fp,vc,x,h,hv,hr=>by
   exact m7 (cP (show gx (qR c)=_ from h)) hr
 | .aE,c,us,fp,vc,x,h,hv,hr=>by
   exact nT (cP (show gx (kM c)=_ from h)) hr
 | .bO,c,us,fp,vc,x,h,hv,hr=>by
   exact uF (cP (show gx (tG c)=_ from h)) hr
 | .az,c,us,fp,vc,x,h,hv,hr=>by
   exact nU (cP (show gx (kN c)=_ from h)) hr
 | .gJ,c,us,fp,vc,x,h,hv,hr=>by
   exact ou (cP (show gx (pg c)=_ from h)) hr
 | .dL,c,us,fp,vc,x,h,hv,hr=>by
   exact kO (cP (show gx (m8 c)=_ from h)) hr
 | .aO,c,us,fp,vc,x,h,hv,hr=>by
   exact uG (cP (show gx (tH c)=_ from h)) hr
 | .b7,c,us,fp,vc,x,h,hv,hr=>by
   exact uH (cP (show gx (tI c)=_ from h)) hr
 | .Ev,c,us,fp,vc,x,h,hv,hr=>by
   exact xD (cP (show gx (yJ c)=_ from h)) hr
 | .qO,c,us,fp,vc,x,h,hv,hr=>by
   exact uI (cP (show gx (tJ c)=_ from h)) hr
 | .oq,c,us,fp,vc,x,h,hv,hr=>by
   exact uJ (cP (show gx (tK c)=_ from h)) hr
 | .Plain,c,us,fp,vc,x,h,hv,hr=>by
   exact pq (cP (show gx (ng c)=_ from h)) hr
 | .bw,c,us,fp,vc,x,h,hv,hr=>by
   exact sE (cP (show gx (pz c)=_ from h)) hr
def cT:Tag→Value
 | .int=> .int .i64 0
 | .u8=> .int .u8 0
 | .str=> .string ⟨#[]⟩
 | .sl _=> .slice none 0 0
 | .DB=> .agg #[.slice none 0 0]
 | .aE=> .agg #[.int .i64 0, .slice none 0 0]
 | .bO=> .agg #[.int .i64 0, .int .i64 0, .int .i64 0, .slice none 0 0, .int .i64 0]
 | .az=> .agg #[.int .i64 0, .slice none 0 0]
 | .gJ=> .agg #[.int .i64 0, .slice none 0 0]
 | .dL=> .agg #[.int .i64 0, .int .i64 0, .int .i64 0, .int .i64 0, .slice none 0 0, .int .i64 0, .slice none 0 0, .int .i64 0]
 | .aO=> .agg #[.int .i64 0, .int .i64 0, .int .i64 0, .int .i64 0, .slice none 0 0, .int .i64 0, .slice none 0 0, .int .i64 0, .int .i64 0, .int .i64 0, .int .i64 0, .int .i64 0, .slice none 0 0, .int .i64 0, .slice none 0 0, .int .i64 0]
 | .b7=> .agg #[.int .i64 0, .slice none 0 0, .slice none 0 0, .int .i64 0, .slice none 0 0, .int .i64 0, .int .i64 0, .int .i64 0, .slice none 0 0, .int .i64 0]
 | .Ev=> .agg #[.int .i64 0, .int .i64 0, .int .i64 0, .slice none 0 0]
 | .qO=> .agg #[.int .i64 0, .int .i64 0, .int .i64 0]
 | .oq=> .agg #[.int .i64 0, .int .i64 0, .int .i64 0, .int .i64 0, .int .i64 0]
 | .Plain=> .agg #[.int .i64 0, .slice none 0 0]
 | .bw=> .agg #[.int .i64 0, .int .i64 0, .slice none 0 0, .slice none 0 0, .int .i64 0]
def cE:Tag→Nat
 | .int=>8
 | .u8=>1
 | .str=>16
 | .sl _=>24
 | .DB=>24
 | .aE=>32
 | .bO=>56
 | .az=>32
 | .gJ=>32
 | .dL=>96
 | .aO=>192
 | .b7=>144
 | .Ev=>48
 | .qO=>24
 | .oq=>40
 | .Plain=>32
 | .bw=>72
theorem kP:(t:Tag)→(cT t).cells.size=kk t
 | .int=>rfl
 | .u8=>rfl
 | .str=>rfl
 | .sl _=>rfl
 | .DB=>rfl
 | .aE=>rfl
 | .bO=>rfl
 | .az=>rfl
 | .gJ=>rfl
 | .dL=>rfl
 | .aO=>rfl
 | .b7=>rfl
 | .Ev=>rfl
 | .qO=>rfl
 | .oq=>rfl
 | .Plain=>rfl
 | .bw=>rfl
def flat:Tag→Bool
 | .int=>true
 | .u8=>true
 | .str=>true
 | .sl _=>false
 | .DB=>false
 | .aE=>false
 | .bO=>false
 | .az=>false
 | .gJ=>false
 | .dL=>false
 | .aO=>false
 | .b7=>false
 | .Ev=>false
 | .qO=>true
 | .oq=>true
 | .Plain=>false
 | .bw=>false
theorem Iq{w:World}(t:Tag){cs:List Value}{x:T t}{fp:List Nat}(hf:flat t=true)(h:rd t w cs x fp):fp= []:=by
 cases t with
 |int=>exact(show iq w cs x fp from h).2
 |u8=>exact(show Bz w cs x fp from h).2
 |str=>exact(show Kp w cs x fp from h).2.2
 |sl _=>cases hf
 |DB=>cases hf
 |aE=>cases hf
 |bO=>cases hf
 |az=>cases hf
 |gJ=>cases hf
 |dL=>cases hf
 |aO=>cases hf
 |b7=>cases hf
 |Ev=>cases hf
 |qO=>exact(show Fx w cs x fp from h).2
 |oq=>exact(show Fz w cs x fp from h).2
 |Plain=>cases hf
 |bw=>cases hf
theorem bA.lits{w:World}: ∀{z:List Value},(∀v,v∈z→v.oneCell'=true)→bA w (z.map V.lit) z []
 | [],_=>rfl
 |v::r,h=>⟨[],[],⟨rfl,h v (by simp),rfl⟩,bA.lits fun u hu=>h u (by simp[hu]),rfl⟩
theorem Ir{w:World}:(t:Tag)→rd t w (cT t).cells.toList (au t) []
 | .int=>⟨rfl,rfl⟩
 | .u8=>⟨rfl,rfl⟩
 | .str=>⟨rfl,by decide,rfl⟩
 | .sl _=>⟨_,rfl,none,0,rfl,Nat.le_refl _,Nat.zero_le _,Or.inl ⟨rfl,rfl,fun _=>rfl⟩⟩
 | .DB=>m7 (c:=(cT .DB).cells.toList.map V.lit) rfl (bA.lits (by simp[cT,Value.cells,Value.oneCell']))
 | .aE=>nT (c:=(cT .aE).cells.toList.map V.lit) rfl (bA.lits (by simp[cT,Value.cells,Value.oneCell']))
 | .bO=>uF (c:=(cT .bO).cells.toList.map V.lit) rfl (bA.lits (by simp[cT,Value.cells,Value.oneCell']))
 | .az=>nU (c:=(cT .az).cells.toList.map V.lit) rfl (bA.lits (by simp[cT,Value.cells,Value.oneCell']))
 | .gJ=>ou (c:=(cT .gJ).cells.toList.map V.lit) rfl (bA.lits (by simp[cT,Value.cells,Value.oneCell']))
 | .dL=>kO (c:=(cT .dL).cells.toList.map V.lit) rfl (bA.lits (by simp[cT,Value.cells,Value.oneCell']))
 | .aO=>uG (c:=(cT .aO).cells.toList.map V.lit) rfl (bA.lits (by simp[cT,Value.cells,Value.oneCell']))
 | .b7=>uH (c:=(cT .b7).cells.toList.map V.lit) rfl (bA.lits (by simp[cT,Value.cells,Value.oneCell']))
 | .Ev=>xD (c:=(cT .Ev).cells.toList.map V.lit) rfl (bA.lits (by simp[cT,Value.cells,Value.oneCell']))
 | .qO=>uI (c:=(cT .qO).cells.toList.map V.lit) rfl (bA.lits (by simp[cT,Value.cells,Value.oneCell']))
 | .oq=>uJ (c:=(cT .oq).cells.toList.map V.lit) rfl (bA.lits (by simp[cT,Value.cells,Value.oneCell']))
 | .Plain=>pq (c:=(cT .Plain).cells.toList.map V.lit) rfl (bA.lits (by simp[cT,Value.cells,Value.oneCell']))
 | .bw=>sE (c:=(cT .bw).cells.toList.map V.lit) rfl (bA.lits (by simp[cT,Value.cells,Value.oneCell']))
end Go.Proofs.YtjcojocjlglglaaGreat.G
namespace Go.Proofs.YtjcojocjlglglaaGreat.G
set_option linter.all false
open Go.RowKit L D
def Ab(_:Nat):Prop:=False
def xE(_:World):Prop:=True
theorem xE.keep{w w':World}(_:xE w)(_: ∀b,Ab b→b<w.heap.size→w'.heap[b]? =w.heap[b]?):xE w':=trivial
theorem xE.lt{w:World}(_:xE w){b:Nat}(hb:Ab b):b<w.heap.size:=hb.elim
end Go.Proofs.YtjcojocjlglglaaGreat.G
namespace Go.Proofs.YtjcojocjlglglaaGreat.G
set_option linter.all false
open Go.RowKit L D
inductive S1 where
 |a(v:V)
 |agg(l:List V)
inductive SV where
 |one(x:S1)
 |nV(l:List S1)
 |cond(p:List (Nat×Bool))(x:S1)
inductive Ff where
 |gone
 |jT
 |of(n:Nat)
def Ff.name:Ff→Option Nat
 | .of n=>some n
 |_=>none
inductive Obj where
 |box(c:List V)
 |arr(t:Tag)(l:List (T t))
 |iM(t:Tag)(l:List (T t))(s:Ff)
structure St where
 n:Nat
 sl:List (Nat×SV)
 hp:List (Nat×Obj)
inductive TK where
 |int(k:IntKind)
 |bool
 |str
 |sl(t:Tag)(e:Nat)
 |st(z:List Value)(tg:List (Option Tag))(fo:List Nat)
 |other
abbrev yM:Value:= .slice none 0 0
def gd(n:Nat):Bool:=Nat.ble 1000 n
def soft(n:Nat):Bool:=Nat.ble 900 n
def V.qS:V→V
 | .vw _ _ t l=> .sl t l
 |v=>v
def V.Kv:V→Bool
 | .vw _ _ _ _=>true
 |_=>false
def look{α:Type}:List (Nat×α)→Nat→Option α
 | [],_=>none
 | (j,x)::r,i=>match Nat.beq i j with|true=>some x|false=>look r i
def Kw(q p:List (Nat×Bool)):Bool:=q.all fun e=>p.any fun f=>Nat.beq e.1 f.1&&e.2==f.2
def SV.mentions(d:Nat):SV→Bool
 | .cond p _=>p.any fun e=>Nat.beq e.1 d
 |_=>false
def SV.FG(d:Nat)(v:SV):SV:=match v.mentions d with|true=> .one (.a .any)|false=>v
def St.put(st:St)(d:Option Nat)(v:SV):St:=
 match d with
 |some d=>match st.sl.any fun e=>e.2.mentions d with
  |false=>⟨st.n,(d,v)::st.sl,st.hp⟩
  |true=>⟨st.n,(d,v)::st.sl.map fun e=>(e.1,e.2.FG d),st.hp⟩
 |none=>st
def ep(st:St)(p:List (Nat×Bool)):Operand→Option S1
 | .tmp t=>match look st.sl t with
   |some (.one x)=>some x
   |some (.cond q x)=>match Kw q p with|true=>some x|false=>none
   |_=>none
 | .const v=>match v.oneCell' with|true=>some (.a (.lit v))|false=>none
 | .func f=>some (.a (.lit (.func (.func f) #[] #[])))
 | .global _=>none
def NM(op:BinOp)(k:IntKind)(x y:Int):Option (List Prop×Value):=
 match op with
 | .add=>some ([], .int k (k.wrap (x+y)))
 | .sub=>some ([], .int k (k.wrap (x-y)))
 | .mul=>some ([], .int k (k.wrap (x*y)))
 | .quo=>some ([y≠0], .int k (k.wrap (x.tdiv y)))
 | .rem=>some ([y≠0], .int k (x.tmod y))
 | .eql=>some ([], .bool (x==y))
 | .neq=>some ([], .bool (x !=y))
 | .lss=>some ([], .bool (decide (x<y)))
 | .leq=>some ([], .bool (decide (x≤y)))
 | .gtr=>some ([], .bool (decide (x>y)))
 | .geq=>some ([], .bool (decide (x≥y)))
 | .and=>some ([], .int k (k.wrap (BitVec.ofInt k.bits x&&&BitVec.ofInt k.bits y).toNat))
 | .or=>some ([], .int k (k.wrap (BitVec.ofInt k.bits x|||BitVec.ofInt k.bits y).toNat))
 | .xor=>some ([], .int k (k.wrap (BitVec.ofInt k.bits x^^^BitVec.ofInt k.bits y).toNat))
 |_=>none
def Is(op:BinOp)(k k':IntKind)(x y:Int):Option (List Prop×Value):=
 match op with
 | .shl=>some ([0≤y], .int k (k.wrap (x*2^(min y.toNat k.bits))))
 | .shr=>some ([0≤y], .int k (x.fdiv (2^(min y.toNat k.bits))))
 |op=>match decEq k k' with|isTrue _=>NM op k x y|isFalse _=>none
def Eg(op:BinOp)(x y:ByteArray):Option (List Prop×Value):=
 match op with
 | .eql=>some ([], .bool (x.toList==y.toList))
 | .neq=>some ([], .bool !(x.toList==y.toList))
 | .add=>some ([((x.size+y.size:Nat):Int)≤IntKind.i64.max], .string (x++y))
 |_=>none
def wR(l:List UInt8):ByteArray:=⟨l.toArray⟩
def bytesOf(st:St):V→Option (List UInt8)
 | .sl .u8 l=>some l
 | .own n=>match look st.hp n with|some (.arr .u8 l)=>some l|_=>none
 | .vw _ _ .u8 l=>some l
 | .lit (.slice none 0 0)=>some []
 |_=>none
def lenOf(st:St)(k:TK):V→Option Int
 | .sl _ l=>match k with| .sl _ _=>some (l.length:Int)|_=>none
 | .own n=>match k with
   | .sl _ _=>match look st.hp n with|some (.arr _ l)=>some (l.length:Int)|_=>none
   |_=>none
 | .vw _ _ _ l=>match k with| .sl _ _=>some (l.length:Int)|_=>none
 | .lit (.slice none 0 0)=>match k with| .sl _ _=>some 0|_=>none
 | .lit (.string s)=>match k with| .str=>some (s.size:Int)|_=>none
 |_=>none
def jT(st:St)(tg:Option Tag):V→Option V
 | .sl t l=>some (.sl t l)
 | .own n=>match look st.hp n with|some (.arr t l)=>some (.sl t l)|_=>none
 | .vw _ _ t l=>some (.sl t l)
 | .mix _ _ t l=>some (.sl t l)
 | .s8 n=>match look st.hp n with
   |some (.iM t l .jT)=>some (.sl t l)
   |some (.iM t l (.of _))=>some (.sl t l)
   |_=>none
 | .lit (.slice none 0 0)=>match tg with|some t=>some (.sl t [])|none=>none
 | .lit (.slice _ _ _)=>none
 | .lit v=>some (.lit v)
 |_=>none
def Ac(st:St):List (Option Tag)→List V→Option (List V)
 |_,[]=>some []
 |tg,v::r=>match jT st (match tg with|t::_=>t| []=>none) v,Ac st (match tg with|_::ts=>ts| []=> []) r with
  |some x,some y=>some (x::y)
  |_,_=>none
def arg1(st:St)(k:TK):S1→Option S1
 | .a v=>match jT st (match k with| .sl t _=>some t|_=>none) v with|some x=>some (.a x)|none=>none
 | .agg l=>match Ac st (match k with| .st _ tg _=>tg|_=> []) l with|some x=>some (.agg x)|none=>none
def Kx:S1→Bool
 | .a (.lit (.slice none 0 0))=>true
 |_=>false
def Eh(b:Bool)(st:St)(k:TK)(v:S1):Option S1:=match b&&Kx v with|true=>some v|false=>arg1 st k v
def args(b:Bool)(Γ:Nat→TK)(st:St)(p:List (Nat×Bool)):List Operand→List Nat→Option (List S1)
 | [],_=>some []
 |x::r,t=>match ep st p x with
  |some v=>match Eh b st (match t with|t::_=>Γ t| []=> .other) v,args b Γ st p r (match t with|_::ts=>ts| []=> [])with
   |some y,some ys=>some (y::ys)
   |_,_=>none
  |none=>none
structure CR where
 own:Bool
 rs:List S1
def jr(m:Nat):List V→List V×List (Nat×Obj)
 | []=>([],[])
 | .sl t l::r=>match jr (m+1) r with| (vs,os)=>(.own m::vs,(m, .arr t l)::os)
 | .vw _ _ t l::r=>match jr (m+1) r with| (vs,os)=>(.own (m+900)::vs,(m+900, .arr t l)::os)
 |v::r=>match jr (m+1) r with| (vs,os)=>(v::vs,os)
def l7(m:Nat):S1→S1×List (Nat×Obj)
 | .a v=>match jr m [v]with| ([v'],os)=>(.a v',os)|_=>(.a .any,[])
 | .agg l=>match jr m l with| (l',os)=>(.agg l',os)
def kQ(m:Nat):List S1→List S1×List (Nat×Obj)
 | []=>([],[])
 |x::r=>match l7 m x,kQ (m+20) r with| (x',os),(r',os')=>(x'::r',os++os')
def ef:List (Nat×Obj)→Bool
 | []=>true
 | (n,_)::r=>(match look r n with|none=>true|some _=>false)&&ef r
def fresh(hp:List (Nat×Obj)):List (Nat×Obj)→Bool
 | []=>true
 | (n,_)::r=>((match look hp n with|none=>true|some _=>false)&& !gd n)&&fresh hp r
structure Out where
 vc:List Prop
 v:SV
 o:List (Nat×Obj)
def S1.Ad:S1→Bool
 | .a v=> !v.Kv
 | .agg l=>l.all fun v=> !v.Kv
def S1.qS:S1→S1
 | .a v=> .a v.qS
 | .agg l=> .agg (l.map V.qS)
def outs(m:Nat)(c:CR)(vc:List Prop):Out:=
 match c.own with
 |true=>match kQ m c.rs with
  | ([x],os)=>⟨vc, .one x,os⟩
  | (l,os)=>⟨vc, .nV l,os⟩
 |false=>match c.rs with
  | [x]=>match x.Ad with
    |true=>⟨vc, .one x,[]⟩
    |false=>⟨vc, .one x.qS,[]⟩
  |l=>match l.all S1.Ad with
   |true=>⟨vc, .nV l,[]⟩
   |false=>⟨vc, .nV (l.map S1.qS),[]⟩
def sub(c:List V)(off k:Nat):Option (List V):=match Nat.ble (off+k) c.length with|true=>some ((c.drop off).take k)|false=>none
def tL:List V→Nat→Option V
 | [],_=>none
 |v::_,0=>some v
 |_::r,n+1=>tL r n
def jo:List Nat→Nat→Option Nat
 | [],_=>none
 |v::_,0=>some v
 |_::r,n+1=>jo r n
def It:S1→Option FuncId
 | .a (.lit (.func (.func f) ⟨[]⟩ ⟨[]⟩))=>some f
 |_=>none
def Ei(st:St)(p:List (Nat×Bool))(z:Int):Option Operand→Option Int
 |none=>some z
 |some x=>match ep st p x with|some (.a (.lit (.int _ i)))=>some i|_=>none
def Mm(n:Nat)(p:Option (Nat×Nat)):V→V
 | .sl t l=> .vw n p t l
 | .lit v=> .lit v
 |_=> .any
def Ky(n i:Nat):Nat→List V→List V
 |_,[]=> []
 |o,v::r=>Mm n (some (i,o)) v::Ky n i (o+1) r
def Kz(n:Nat):List V→List V
 | []=> []
 |v::r=>Mm n none v::Kz n r
def Iu(st:St)(p:List (Nat×Bool))(x:Operand):Option (IntKind×Int):=match ep st p x with|some (.a (.lit (.int k i)))=>some (k,i)|_=>none
def pE(st:St)(p:List (Nat×Bool)):List Operand→Option (List (IntKind×Int))
 | []=>some []
 |x::r=>match Iu st p x,pE st p r with|some y,some ys=>some (y::ys)|_,_=>none
def Iv(x y:Int):Int:=if y>x then y else x
def Mn(x y:Int):Int:=if y<x then y else x
def xF(f:Int→Int→Int)(k:IntKind):Int→List (IntKind×Int)→Option Int
 |x,[]=>some x
 |x,(k',y)::r=>match decEq k k' with|isTrue _=>xF f k (f x y) r|isFalse _=>none
def plain:List V→Bool
 | []=>true
 | .lit (.slice _ _ _)::_=>false
 | .lit _::r=>plain r
 |_=>false
def cellsOf:S1→List V
 | .a v=> [v]
 | .agg l=>l
def pF(hp:List (Nat×Obj)):List V→Option (List V×Nat)
 | .own n::r=>match look hp n,plain r with
   |some (.arr t l),true=>some (.sl t l::r,n)
   |_,_=>none
 | .lit (.slice _ _ _)::_=>none
 | .lit v::r=>match pF hp r with|some (c,n)=>some (.lit v::c,n)|none=>none
 |_=>none
def jJ(st:St)(p:List (Nat×Bool))(g:Tag):Nat→List (Nat×Operand)→Option (List Prop×List (T g))
 |_,[]=>some ([],[])
 |i,(j,x)::r=>match Nat.beq i j,ep st p x with
  |true,some s=>match plain (cellsOf s),enc g (cellsOf s),jJ st p g (i+1) r with
   |true,some (vc,y),some (vcs,ys)=>some (vc++vcs,y::ys)
   |_,_,_=>none
  |_,_=>none
def JQ(n:Nat)(fo:List Nat)(j:Nat):Option Nat:=match jo fo j,jo fo (j+1)with
 |some a,some b=>some (b-a)
 |some a,none=>some (n-a)
 |_,_=>none
def l8:List V→Bool
 | []=>true
 | .any::_=>false
 |_::r=>l8 r
def BC(c:List V)(off:Nat)(vs:List V):Option (List V):=match Nat.ble (off+vs.length) c.length with
 |true=>some (c.take off++(vs++c.drop (off+vs.length)))
 |false=>none
def lI(st:St)(p:List (Nat×Bool))(n:Nat)(fo:List Nat):List (Nat×Operand)→List V→Option (List V)
 | [],c=>some c
 | (j,x)::r,c=>match jo fo j,JQ n fo j,ep st p x with
   |some o,some k,some s=>match l8 (cellsOf s)&&Nat.beq (cellsOf s).length k,BC c o (cellsOf s)with
    |true,some c'=>lI st p n fo r c'
    |_,_=>none
   |_,_,_=>none
def KA:Option (Nat×Nat)→Nat→Option (Nat×Nat×Nat)
 |some (a,b),j=>some (a,b,j)
 |none,_=>none
def cq(x:S1):Option Out:=some ⟨[], .one x,[]⟩
def FH(st:St):Operand→Option Out
 | .tmp t=>match look st.sl t with|some (.nV l)=>some ⟨[], .nV l,[]⟩|_=>none
 |_=>none
def quiet(Γ:Nat→TK)(E:Tag→Nat→Prop)(S:FuncId→List S1→List S1→Prop)(cr:List (Nat×CR))(st:St)(p:List (Nat×Bool))(d m:Nat):Op→Option Out
 | .move x| .assign x=>match ep st p x with|some v=>cq v|none=>FH st x
 | .pick (.tmp c) x y=>match ep st p (.tmp c),ep st ((c,true)::p) x,ep st ((c,false)::p) y with
   |some (.a (.lit (.bool t))),some (.a (.lit (.bool u))),some (.a (.lit (.bool v)))=>cq (.a (.lit (.bool (if t then u else v))))
   |_,_,_=>none
 | .box _ x=>match ep st p x with
   |some (.agg l)=>some ⟨[], .one (.a (.ptr m 0)),[(m, .box l)]⟩
   |some (.a .any)=>none
   |some (.a v)=>some ⟨[], .one (.a (.ptr m 0)),[(m, .box [v])]⟩
   |none=>none
 | .alloc t=>match Γ t with
   | .st z _ _=>some ⟨[], .one (.a (.ptr m 0)),[(m, .box (z.map .lit))]⟩
   |_=>none
 | .load t x=>match ep st p x with
   |some (.a (.ptr n off))=>match look st.hp n with
    |some (.box c)=>match Γ t with
     | .st z _ _=>match sub c off z.length with|some l=>cq (.agg l)|none=>none
     | .other=>none
     |_=>match tL c off with|some v=>cq (.a v)|none=>none
    |_=>none
   |some (.a (.ip g y off))=>match Γ t with
     | .st z _ _=>match sub (dec g y) off z.length with|some l=>cq (.agg l)|none=>none
     | .other=>none
     |_=>match tL (dec g y) off with|some v=>cq (.a v)|none=>none
   |some (.a (.wL n _ g y off))=>match Γ t with
     | .st z _ _=>match sub (dec g y) off z.length with|some l=>cq (.agg (Kz n l))|none=>none
     | .other=>none
     |_=>match tL (dec g y) off with|some v=>cq (.a (Mm n none v))|none=>none
   |some (.a (.jm n i off))=>match look st.hp n with
    |some (.arr g l)=>match Γ t with
     | .st z _ _=>match sub (dec g (l.getD i (au g))) off z.length with|some c=>some ⟨[i<l.length], .one (.agg (Ky n i off c)),[]⟩|none=>none
     | .other=>none
     |_=>match tL (dec g (l.getD i (au g))) off with|some v=>some ⟨[i<l.length], .one (.a (Mm n (some (i,off)) v)),[]⟩|none=>none
    |_=>none
   |_=>none
 | .binOp op t x y _=>match ep st p x,ep st p y with
   |some (.a (.lit (.int k a))),some (.a (.lit (.int k' b)))=>match Is op k k' a b with|some (vc,v)=>some ⟨vc, .one (.a (.lit v)),[]⟩|none=>none
   |some (.a (.lit (.string a))),some (.a (.lit (.string b)))=>match Eg op a b with|some (vc,v)=>some ⟨vc, .one (.a (.lit v)),[]⟩|none=>none
   |some (.a (.lit (.bool a))),some (.a (.lit (.bool b)))=>match Γ t,op with
    | .bool, .eql=>cq (.a (.lit (.bool (a==b))))
    | .bool, .neq=>cq (.a (.lit (.bool (a !=b))))
    |_,_=>none
   |_,_=>none
 | .unOp .not _ x=>match ep st p x with
   |some (.a (.lit (.bool t)))=>cq (.a (.lit (.bool (!t))))
   |_=>none
 | .unOp .neg _ x=>match ep st p x with
   |some (.a (.lit (.int k n)))=>cq (.a (.lit (.int k (k.wrap (0-n)))))
   |_=>none
 | .convert s t x=>match ep st p x,Γ s,Γ t with
   |some (.a (.lit (.int _ n))), .int _, .int k=>cq (.a (.lit (.int k (k.wrap n))))
   |some (.a v), .sl _ e, .str=>match Γ e,bytesOf st v with
    | .int .u8,some l=>cq (.a (.lit (.string (wR l))))
    |_,_=>none
   |_,_,_=>none
 | .makeFunc (.func f) first captured=>match first.toList,captured.toList with
   | [],[x]=>match ep st p x with
     |some (.a (.ptr n 0))=>cq (.a (.uD f n))
     |_=>none
   |_,_=>none
 | .slice t x lo hi none=>match Γ t with
   | .sl g _=>match(look cr (d+600000)).isSome with
     |true=>match ep st p x,Ei st p 0 lo,hi with
      |some (.a (.vw _ _ _ l)),some lo,none=>some ⟨[lo=(l.length:Int)], .one (.a (.sl g [])),[]⟩
      |some (.a (.ot k)),some lo,none=>some ⟨[lo=(k:Int)], .one (.a (.sl g [])),[]⟩
      |_,_,_=>none
     |false=>match ep st p x,Ei st p 0 lo with
      |some (.a (.sl t' l)),some lo=>match Ei st p l.length hi with
       |some hi=>match Nat.beq (kk g) (kk t')with
        |true=>some ⟨[0≤lo∧lo≤hi∧hi≤(l.length:Int)], .one (.a (.sl t' ((l.take hi.toNat).drop lo.toNat))),[]⟩
        |false=>none
       |none=>none
      |some (.a (.vw n _ t' l)),some lo=>match Ei st p l.length hi with
       |some hi=>match Nat.beq (kk g) (kk t')with
        |true=>some ⟨[0≤lo∧lo≤hi∧hi≤(l.length:Int)], .one (.a (.vw n none t' ((l.take hi.toNat).drop lo.toNat))),[]⟩
        |false=>none
       |none=>none
      |some (.a (.own n)),some lo=>match look st.hp n with
       |some (.arr t' l)=>match Ei st p l.length hi with
        |some hi=>match Nat.beq (kk g) (kk t')with
         |true=>some ⟨[0≤lo∧lo≤hi∧hi≤(l.length:Int)], .one (.a (.vw n none t' ((l.take hi.toNat).drop lo.toNat))),[]⟩
         |false=>none
        |none=>none
       |_=>none
      |_,_=>none
   | .str=>match ep st p x,Ei st p 0 lo with
     |some (.a (.lit (.string s))),some lo=>match Ei st p s.size hi with
      |some hi=>some ⟨[0≤lo∧lo≤hi∧hi≤(s.size:Int)], .one (.a (.lit (.string (s.extract lo.toNat hi.toNat)))),[]⟩
      |none=>none
     |_,_=>none
   |_=>none
 | .fieldAddr t x f=>match Γ t with
   | .st _ _ fo=>match jo fo f with
     |some k=>match ep st p x with
      |some (.a (.ptr n off))=>cq (.a (.ptr n (off+k)))
      |some (.a (.ip t x off))=>cq (.a (.ip t x (off+k)))
      |some (.a (.jm n i off))=>cq (.a (.jm n i (off+k)))
      |some (.a (.wL n q t x off))=>cq (.a (.wL n q t x (off+k)))
      |_=>none
     |none=>none
   |_=>none
 | .indexAddr ty x i=>match Γ ty with
   | .sl g _=>match ep st p x,ep st p i with
     |some (.a (.sl t l)),some (.a (.lit (.int _ i)))=>match Nat.beq (kk g) (kk t)with
      |true=>some ⟨[0≤i∧i<(l.length:Int)], .one (.a (.ip t (l.getD i.toNat (au t)) 0)),[]⟩
      |false=>none
     |some (.a (.own n)),some (.a (.lit (.int _ i)))=>match look st.hp n with
      |some (.arr t l)=>match Nat.beq (kk g) (kk t)with
       |true=>some ⟨[0≤i∧i<(l.length:Int)], .one (.a (.jm n i.toNat 0)),[]⟩
       |false=>none
      |_=>none
     |some (.a (.vw n q t l)),some (.a (.lit (.int _ i)))=>match Nat.beq (kk g) (kk t)with
      |true=>some ⟨[0≤i∧i<(l.length:Int)], .one (.a (.wL n (KA q i.toNat) t (l.getD i.toNat (au t)) 0)),[]⟩
      |false=>none
     |_,_=>none
   |_=>none
 | .makeSlice ty x y=>match Γ ty with
   | .sl g e=>match ep st p x,ep st p y with
     |some (.a (.lit (.int _ a))),some (.a (.lit (.int _ b)))=>some ⟨[E g e,a=b,0≤a,a.toNat*cE g≤140737488355328∧a.toNat≤maxLen], .one (.a (.own m)),[(m, .arr g (List.replicate a.toNat (au g)))]⟩
     |_,_=>none
   |_=>none
 | .buildSlice ty len parts=>match Γ ty with
   | .sl g e=>match(look cr (d+500000)).isSome with
     |true=>match Nat.beq len 1,parts.toList with
      |true,[(0,x)]=>match ep st p x with
       |some s=>match pF st.hp (cellsOf s)with
        |some (c,n)=>match enc g c,Nat.ble (kk g) 16777216 with
         |some (vc,y),true=>some ⟨E g e::vc, .one (.a (.wQ n g [y])),[]⟩
         |_,_=>none
        |none=>none
       |none=>none
      |_,_=>none
     |false=>match Nat.beq parts.toList.length len,Nat.ble (len*kk g) 16777216,jJ st p g 0 parts.toList with
      |true,true,some (vc,xs)=>some ⟨E g e::vc, .one (.a (.own m)),[(m, .arr g xs)]⟩
      |_,_,_=>none
   |_=>none
 | .build ty parts=>match Γ ty with
   | .st z _ fo=>match lI st p z.length fo parts.toList (z.map .lit)with
     |some c=>cq (.agg c)
     |none=>none
   |_=>none
 | .nilCheck x=>match ep st p x with
   |some (.a (.ptr n off))=>cq (.a (.ptr n off))
   |some (.a (.jm n i off))=>cq (.a (.jm n i off))
   |_=>none
 | .call ⟨.builtin .max,xs,_⟩=>match pE st p xs.toList with
   |some ((k,x)::r)=>match xF Iv k x r with|some y=>cq (.a (.lit (.int k y)))|none=>none
   |_=>none
 | .call ⟨.builtin .min,xs,_⟩=>match pE st p xs.toList with
   |some ((k,x)::r)=>match xF Mn k x r with|some y=>cq (.a (.lit (.int k y)))|none=>none
   |_=>none
 | .extract (.tmp t) i=>match look st.sl t with
   |some (.nV l)=>match l[i]? with|some x=>cq x|none=>none
   |_=>none
 | .call ⟨.builtin .len,xs,ts⟩=>match xs.toList,ts.toList with
   | [x],[t]=>match ep st p x with
     |some (.a v)=>match lenOf st (Γ t) v with|some n=>cq (.a (.lit (.int .i64 n)))|none=>none
     |_=>none
   |_,_=>none
 | .call ⟨.value (.func f),xs,ts⟩=>match args (look cr (d+300000)).isSome Γ st p xs.toList ts.toList,look cr d with
   |some as,some c=>some (outs m c [S f as c.rs])
   |_,_=>none
 | .call ⟨.value (.tmp x),xs,ts⟩=>match ep st p (.tmp x)with
   |some v=>match It v with
    |some f=>match args (look cr (d+300000)).isSome Γ st p xs.toList ts.toList,look cr d with
     |some as,some c=>some (outs m c [S f as c.rs])
     |_,_=>none
    |none=>none
   |none=>none
 |_=>none
def hyps(st:St):List (Nat×Bool)→List Prop
 | []=> []
 | (d,x)::r=>match look st.sl d with
   |some (.one (.a (.lit (.bool b))))=>(b=x)::hyps st r
   |some (.cond _ (.a (.lit (.bool b))))=>(b=x)::hyps st r
   |_=>hyps st r
def FI:List Prop→Prop→Prop
 | [],q=>q
 |h::r,q=>h→FI r q
def cV(st:St)(ops:List Oper)(o:Oper):Option (List (Nat×Bool)):=
 match o.guard with
 |none=>some []
 |some (j,x)=>match ops[j]? with
  |some q=>match q.dst with
   |some d=>match look st.sl d with
    |some (.one (.a (.lit (.bool _))))=>some [(d,x)]
    |some (.cond p (.a (.lit (.bool _))))=>some ((d,x)::p)
    |_=>none
   |none=>none
  |none=>none
def nW(st:St):Option Nat→Bool
 |some d=>Nat.blt d st.n
 |none=>true
def Mo(bX:List (Nat×Nat)):Option Nat→Option Nat
 |some d=>match look bX d with|some m=>some m|none=>some d
 |none=>some 99999
def gN(Γ:Nat→TK)(E:Tag→Nat→Prop)(S:FuncId→List S1→List S1→Prop)(bX:List (Nat×Nat))(cr:List (Nat×CR))(ops:List Oper)(st:St)(o:Oper):Option (List Prop×SV×List (Nat×Obj)):=
 match nW st o.dst,Mo bX o.dst,cV st ops o with
 |true,some m,some []=>match quiet Γ E S cr st [] (o.dst.getD 0) m o.op with
  |some ⟨vc,v,os⟩=>match fresh st.hp os,ef os with
   |true,true=>some (vc,v,os)
   |_,_=>none
  |none=>none
 |true,some m,some (e::p)=>match(e::p).any (fun e=>o.dst==some e.1)with
  |false=>match quiet Γ E S cr st (e::p) (o.dst.getD 0) m o.op with
   |some ⟨vc, .one v,[]⟩=>some (vc.map (FI (hyps st (e::p))), .cond (e::p) v,[])
   |_=>none
  |true=>none
 |_,_,_=>none
def FJ(Γ:Nat→TK)(E:Tag→Nat→Prop)(S:FuncId→List S1→List S1→Prop)(bX:List (Nat×Nat))(cr:List (Nat×CR))(ops:List Oper)(st:St)(o:Oper):Option (List Prop×St):=
 match gN Γ E S bX cr ops st o with
 |some (vc,v,os)=>some (vc,St.put ⟨st.n,st.sl,os++st.hp⟩ o.dst v)
 |none=>none
end Go.Proofs.YtjcojocjlglglaaGreat.G
namespace Go.Proofs.YtjcojocjlglglaaGreat.G
set_option linter.all false
open Go.RowKit L D
structure CO where
 v:Value
 fp:List Nat
abbrev Env:=Nat→CO
abbrev Hp:=List (Nat×Obj)
def Ow(hp:Hp)(env:Env)(b:Nat):Prop:= ∃n o,look hp n=some o∧b∈(env n).fp
def RV(w:World)(hp:Hp)(env:Env)(n:Nat)(p:Option (Nat×Nat))(t:Tag)(l:List (T t))(u:Value):Prop:=
 (∃t l,look hp n=some (.arr t l))∧(∃fp,Sl (kk t) (rd t) w u l fp∧fp.Nodup∧ ∀b,b∈fp→b∈(env n).fp)∧
   ∀i off,p=some (i,off)→ ∃t0 l0 b o len cap,look hp n=some (.arr t0 l0)∧i<l0.length∧tL (dec t0 (l0.getD i (au t0))) off=some (.sl t l)∧(env n).v= .slice (some ⟨b,o,none⟩) len cap∧b∈(env n).fp∧w.cell? ⟨b,o+i*kk t0+off,none⟩=some u
def FK:ER Value:=fun _ cs x fp=>cs= [x]∧fp= []∧x.oneCell'=true
theorem pG:dK 1 FK where
 aS:=by rintro w w' cs x fp ⟨rfl,rfl,h⟩ _;exact⟨rfl,rfl,h⟩
 lt:=by rintro w cs x fp ⟨rfl,rfl,_⟩ b hb;cases hb
 len:=by rintro w cs x fp ⟨rfl,rfl,_⟩;rfl
 one:=by rintro w cs x fp ⟨rfl,rfl,h⟩ u hu;rw[List.mem_singleton.1 hu];exact h
theorem Ae{α:Type}{E:ER α}{w:World}{Pb:Nat→Prop}: ∀(us:List Value) (l:List α),us.length=l.length→(∀(i:Nat) (x:α) (u:Value),l[i]? =some x→us[i]? =some u→ ∃f,E w [u] x f∧ ∀b,b∈f→Pb b)→
  ∃aQ:List (List Nat),aQ.length=l.length∧ ∀(i:Nat) (x:α) (u:Value) (f:List Nat),l[i]? =some x→us[i]? =some u→aQ[i]? =some f→E w [u] x f∧ ∀b,b∈f→Pb b
 | [],[],_,_=>⟨[],rfl,fun i x u f h=>by simp at h⟩
 |u::us,x::l,hl,h=>by
  obtain⟨f,hf⟩:=h 0 x u rfl rfl
  obtain⟨aQ,h1,h2⟩:=Ae us l (by simpa using hl) (fun i y v hy hv=>h (i+1) y v (by simpa using hy) (by simpa using hv))
  refine⟨f::aQ,by simp[h1],fun i y v g hy hv hg=> ?_⟩
  cases i with
  |zero=>
   simp at hy hv hg
   subst hy;subst hv;subst hg
   exact hf
  |succ i=>exact h2 i y v g (by simpa using hy) (by simpa using hv) (by simpa using hg)
 | [],_::_,h,_=>by simp at h
 |_::_,[],h,_=>by simp at h
theorem Ej{α:Type}{E:ER α}{w:World}{v:Value}{us:List Value}{l:List α}{fp:List Nat}{Pb:Nat→Prop}(h:Sl 1 FK w v us fp)(hl:us.length=l.length)
  (hE: ∀(i:Nat) (x:α) (u:Value),l[i]? =some x→us[i]? =some u→ ∃f,E w [u] x f∧ ∀b,b∈f→Pb b): ∃dZ,Sl 1 E w v l dZ∧ ∀b,b∈dZ→b∈fp∨Pb b:=by
 obtain⟨oa,cap,rfl,hc,hm,h3⟩:=h
 rcases h3 with⟨rfl,_,hn⟩| ⟨b,off,fs,rfl,hb,rfl,Pw⟩
 ·have:l= []:=List.length_eq_zero_iff.1 (by rw[←hl];rfl)
  subst this
  exact⟨[],⟨oa,cap,rfl,Nat.zero_le _,hm,Or.inl ⟨rfl,rfl,hn⟩⟩,by simp⟩
 ·obtain⟨aQ,q1,q2⟩:=Ae us l hl hE
  refine⟨b::aQ.flatten,⟨_,cap,by rw[hl],by omega,hm,Or.inr ⟨b,off,aQ,rfl,hb,rfl,q1,fun i x f hx hf=> ?_⟩⟩,fun c hc=> ?_⟩
  ·have hi:=(List.getElem?_eq_some_iff.1 hx).1
   obtain⟨u,hu⟩: ∃u,us[i]? =some u:=⟨_,List.getElem?_eq_getElem (by omega)⟩
   obtain⟨g,hg⟩: ∃g,fs[i]? =some g:=⟨_,List.getElem?_eq_getElem (by rw[Pw.1];omega)⟩
   obtain⟨cs,k1,k2,_,_⟩:=Pw.2 i u g hu hg
   subst k2
   exact⟨[u],k1,(q2 i x u f hx hu hf).1⟩
  ·rcases List.mem_cons.1 hc with rfl|hc
   ·exact Or.inl (by simp)
   ·obtain⟨f,hf,N3⟩:=List.mem_flatten.1 hc
    obtain⟨i,hi⟩:=List.getElem?_of_mem hf
    have hil:=(List.getElem?_eq_some_iff.1 hi).1
    exact Or.inr ((q2 i l[i] us[i] f (List.getElem?_eq_getElem (by omega)) (List.getElem?_eq_getElem (by omega)) hi).2 c N3)
def BE(w:World)(hp:Hp)(env:Env)(s:Ff)(t:Tag)(x:T t)(u:Value):Prop:=match s with
 | .gone=>True
 | .jT=> ∃f,rd t w [u] x f∧ ∀b,b∈f→ ¬Ow hp env b
 | .of n=>(∃t l,look hp n=some (.arr t l))∧ ∃f,rd t w [u] x f∧ ∀b,b∈f→b∈(env n).fp∨ ¬Ow hp env b
def RA(w:World)(hp:Hp)(env:Env):V→Value→Prop
 | .any,_=>True
 | .lit v,u=>u=v∧v.oneCell'=true
 | .sl t l,u=> ∃fp,Sl (kk t) (rd t) w u l fp∧ ∀b,b∈fp→ ¬Ow hp env b
 | .own n,u=>(∃t l,look hp n=some (.arr t l))∧u=(env n).v
 | .ptr n off,u=>(∃c,look hp n=some (.box c))∧ ∃b,(env n).v= .pointer (some ⟨b,0,none⟩)∧u= .pointer (some ⟨b,off,none⟩)
 | .jm n i off,u=> ∃t l,look hp n=some (.arr t l)∧ ∃b o len cap,(env n).v= .slice (some ⟨b,o,none⟩) len cap∧u= .pointer (some ⟨b,o+i*kk t+off,none⟩)
 | .vw n p t l,u=>RV w hp env n p t l u
 | .wQ n t l,u=>(∃t l,look hp n=some (.arr t l))∧ ∃b fp,Sl (kk t) (rd t) w u l (b::fp)∧ ¬Ow hp env b∧fp.Nodup∧ ∀c,c∈fp→c∈(env n).fp
 | .s8 n,u=>(∃t l s,look hp n=some (.iM t l s))∧u=(env n).v
 | .mix n c t l,u=>(∃t l,look hp n=some (.arr t l))∧(∃fp,Sl (kk t) (rd t) w u l fp∧ ∀b,b∈fp→b∈(env n).fp∨ ¬Ow hp env b)∧(c=true→ ∃oa,u= .slice oa l.length l.length)
 | .wL n p t x off,u=>(∃t l,look hp n=some (.arr t l))∧ ∃b o cs fp,u= .pointer (some ⟨b,o+off,none⟩)∧b∈(env n).fp∧w.rangeAt b o cs∧rd t w cs x fp∧fp.Nodup∧(∀c,c∈fp→c∈(env n).fp)∧
   ∀i o2 j,p=some (i,o2,j)→ ∃l u0 b0 kR len cap,RV w hp env n (some (i,o2)) t l u0∧j<l.length∧x=l.getD j (au t)∧u0= .slice (some ⟨b0,kR,none⟩) len cap∧u= .pointer (some ⟨b0,kR+j*kk t+off,none⟩)
 | .uD f n,u=>(∃c,look hp n=some (.box c))∧ ∃b,(env n).v= .pointer (some ⟨b,0,none⟩)∧u= .func (.func f) #[] #[.pointer (some ⟨b,0,none⟩)]
 | .ot k,u=> ∃oa cap,u= .slice oa k cap∧k≤cap∧cap≤maxLen∧(oa=none→cap=0)
 | .ip t x off,u=> ∃b o cs fp,u= .pointer (some ⟨b,o+off,none⟩)∧b<w.heap.size∧w.rangeAt b o cs∧rd t w cs x fp∧ ¬Ow hp env b∧ ∀c,c∈fp→ ¬Ow hp env c
def aU{α β:Type}(R:α→β→Prop):List α→List β→Prop
 | [],[]=>True
 |a::as,b::bs=>R a b∧aU R as bs
 |_,_=>False
theorem aU.mono{α β:Type}{R R':α→β→Prop}: ∀{as:List α} {bs:List β},(∀a b,a∈as→R a b→R' a b)→aU R as bs→aU R' as bs
 | [],[],_,_=>trivial
 |a::as,b::bs,h,⟨h1,h2⟩=>⟨h a b (by simp) h1,aU.mono (fun a b ha=>h a b (List.mem_cons_of_mem _ ha)) h2⟩
 | [],_::_,_,h=>h.elim
 |_::_,[],_,h=>h.elim
theorem aU.len{α β:Type}{R:α→β→Prop}: ∀{as:List α} {bs:List β},aU R as bs→bs.length=as.length
 | [],[],_=>rfl
 |_::_,_::_,⟨_,h⟩=>by simp[aU.len h]
 | [],_::_,h=>h.elim
 |_::_,[],h=>h.elim
theorem aU.app{α β:Type}{R:α→β→Prop}: ∀{as as':List α} {bs bs':List β},aU R as bs→aU R as' bs'→aU R (as++as') (bs++bs')
 | [],_,[],_,_,h=>h
 |_::_,_,_::_,_,⟨h1,h2⟩,h=>⟨h1,aU.app h2 h⟩
 | [],_,_::_,_,h,_=>h.elim
 |_::_,_,[],_,h,_=>h.elim
theorem aU.drop{α β:Type}{R:α→β→Prop}: ∀{as:List α} {bs:List β} (n:Nat),aU R as bs→aU R (as.drop n) (bs.drop n)
 |_,_,0,h=>h
 | [],[],_+1,_=>trivial
 |_::_,_::_,n+1,⟨_,h⟩=>aU.drop n h
 | [],_::_,_,h=>h.elim
 |_::_,[],_,h=>h.elim
theorem aU.take{α β:Type}{R:α→β→Prop}: ∀{as:List α} {bs:List β} (n:Nat),aU R as bs→aU R (as.take n) (bs.take n)
 |_,_,0,_=>by simp[aU]
 | [],[],_+1,_=>trivial
 |_::_,_::_,n+1,⟨h1,h⟩=>⟨h1,aU.take n h⟩
 | [],_::_,_,h=>h.elim
 |_::_,[],_,h=>h.elim
theorem aU.at{α β:Type}{R:α→β→Prop}: ∀{as:List α} {bs:List β} {i:Nat} {x:α},aU R as bs→as[i]? =some x→ ∃y,bs[i]? =some y∧R x y
 |a::as,b::bs,0,x,⟨h1,_⟩,hx=>⟨b,rfl,by simp at hx;rw[←hx];exact h1⟩
 |a::as,b::bs,i+1,x,⟨_,h⟩,hx=>by
  obtain⟨y,hy,hr⟩:=aU.at (i:=i) h (by simpa using hx)
  exact⟨y,by simpa using hy,hr⟩
 | [],_,_,_,_,hx=>by simp at hx
 |_::_,[],_,_,h,_=>h.elim
def eg(w:World)(hp:Hp)(env:Env):S1→Value→Prop
 | .a v,u=>RA w hp env v u
 | .agg l,u=> ∃cs,u= .agg cs.toArray∧aU (RA w hp env) l cs
def holds(tmps:Array Value)(p:List (Nat×Bool)):Prop:= ∀e,e∈p→tmps[e.1]? =some (.bool e.2)
def lS(w:World)(hp:Hp)(env:Env)(tmps:Array Value):SV→Value→Prop
 | .one x,u=>eg w hp env x u
 | .nV l,u=> ∃us,u= .tuple us.toArray∧aU (eg w hp env) l us
 | .cond p x,u=>(holds tmps p→eg w hp env x u)∧(¬holds tmps p→u=undef)
variable(ty:Tag→Nat)
structure bK where
 w:World
 L:List Nat
 pv:Nat→CO
def iG(w:World)(n:Nat)(t:Tag)(l:List (T t))(co:CO):Prop:=
 match soft n with
 |true=>Sl (kk t) (rd t) w co.v l co.fp∧Own 0 w co.fp
 |false=>fD (kk t) (rd t) 0 (ty t) w co.v l co.fp
def RO(w:World)(hp:Hp)(env:Env)(n:Nat):Obj→CO→Prop
 | .box c,co=> ∃b cs e,co=⟨.pointer (some ⟨b,0,none⟩),[b]⟩∧w.heap[b]? =some (.cells (Array.mk cs) e (0,0))∧aU (RA w hp env) c cs
 | .arr t l,co=>iG ty w n t l co
 | .iM t l s,co=>kk t=1∧ ∃us,fD 1 FK 0 (ty t) w co.v us co.fp∧us.length=l.length∧ ∀(i:Nat) (x:T t) (u:Value),l[i]? =some x→us[i]? =some u→BE w hp env s t x u
structure Good(zb:bK)(st:St)(tmps:Array Value)(w:World)(env:Env):Prop where
 obj: ∀n o,look st.hp n=some o→RO ty w st.hp env n o (env n)
 gK: ∀n m o o',n≠m→look st.hp n=some o→look st.hp m=some o'→ ∀b,b∈(env n).fp→b∉(env m).fp
 slot: ∀s v,look st.sl s=some v→lS w st.hp env tmps v (tmps.getD s undef)
 dom: ∀n o,look st.hp n=some o→ ∀b,b∈(env n).fp→b∈zb.L∨zb.w.heap.size≤b
 pins: ∀n,gd n=true→(env n).v=(zb.pv n).v∧ ∀b,b∈(env n).fp→b∈(zb.pv n).fp
structure Kept(zb:bK)(w w':World):Prop where
 os:w'.os=w.os
 tape:w'.tape=w.tape
 output:w'.output=w.output
 size:w.heap.size≤w'.heap.size
 block: ∀b,b<zb.w.heap.size→b∉zb.L→w'.heap[b]? =w.heap[b]?
 shape: ∀(b:Nat) (c:Array Value) (e:TypeId),w.heap[b]? =some (Go.Obj.cells c e (0,0))→ ∃c':Array Value,w'.heap[b]? =some (Go.Obj.cells c' e (0,0))∧c'.size=c.size
theorem Kept.refl(zb:bK)(w:World):Kept zb w w:=⟨rfl,rfl,rfl,Nat.le_refl _,fun _ _ _=>rfl,fun _ c _ h=>⟨c,h,rfl⟩⟩
theorem Kept.trans{zb:bK}{a b c:World}(h:Kept zb a b)(k:Kept zb b c):Kept zb a c:=
 ⟨k.os.trans h.os,k.tape.trans h.tape,k.output.trans h.output,Nat.le_trans h.size k.size,fun i hi hn=>(k.block i hi hn).trans (h.block i hi hn),fun i x e hx=>by
   obtain⟨c1,h1,h2⟩:=h.shape i x e hx
   obtain⟨c2,h3,h4⟩:=k.shape i c1 e h1
   exact⟨c2,h3,h4.trans h2⟩⟩
theorem fE{zb:bK}{w w':World}(h:Below w.heap.size w w')(hz:zb.w.heap.size≤w.heap.size):Kept zb w w':=
 ⟨h.os,h.tape,h.output,h.size,fun b hb _=>h.block b (Nat.lt_of_lt_of_le hb hz),fun b c e hc=>⟨c,by rw[h.block b (FD hc)];exact hc,rfl⟩⟩
def yN(zb:bK):Prop:=xE zb.w∧ ∀b,Ab b→b∉zb.L
theorem yN.now{zb:bK}{w:World}(h:yN zb)(k:Kept zb zb.w w):xE w:=h.1.keep fun b hb hlt=>k.block b hlt (h.2 b hb)
theorem yN.free{zb:bK}(h:yN zb){b:Nat}(hb:b∈zb.L∨zb.w.heap.size≤b): ¬Ab b:=fun h0=>by
 rcases hb with hb|hb
 ·exact h.2 b h0 hb
 ·have:=h.1.lt h0;omega
structure Inv(zb:bK)(st:St)(a:Act)(w:World):Prop where
 size:a.tmps.size=st.n
 defers:a.defers= []
 kept:Kept zb zb.w w
 wS:yN zb
 good: ∃env,Good ty zb st a.tmps w env
variable{ty}
theorem RO.own{w:World}{hp:Hp}{env:Env}{n:Nat}{t:Tag}{l:List (T t)}{co:CO}(h:RO ty w hp env n (.arr t l) co):Own 0 w co.fp:=by
 replace h:iG ty w n t l co:=h
 unfold iG at h
 split at h
 ·exact h.2
 ·exact fD.own h
theorem RO.sl{w:World}{hp:Hp}{env:Env}{n:Nat}{t:Tag}{l:List (T t)}{co:CO}(h:RO ty w hp env n (.arr t l) co):Sl (kk t) (rd t) w co.v l co.fp:=by
 replace h:iG ty w n t l co:=h
 unfold iG at h
 split at h
 ·exact h.1
 ·exact fD.sl h
theorem RO.wQ{w:World}{hp:Hp}{env:Env}{n:Nat}{t:Tag}{l:List (T t)}{s:Ff}{co:CO}(hs:s≠ .gone)(h:RO ty w hp env n (.iM t l s) co): ∃fp,Sl (kk t) (rd t) w co.v l fp:=by
 obtain⟨h1,us,hB,h2,h3⟩:=h
 obtain⟨fp,h4,_⟩:=Ej (E:=rd t) (Pb:=fun _=>True) hB.sl h2 (fun i x u hx hu=>by
  have:=h3 i x u hx hu
  cases s with
  |gone=>exact absurd rfl hs
  |jT=>obtain⟨f,q,_⟩:=this;exact⟨f,q,fun _ _=>trivial⟩
  |of n=>obtain⟨_,f,q,_⟩:=this;exact⟨f,q,fun _ _=>trivial⟩)
 rw[h1]
 exact⟨fp,h4⟩
theorem RO.Ek{w:World}{hp:Hp}{env:Env}{n:Nat}{t:Tag}{l:List (T t)}{co:CO}(hn:soft n=false)(h:RO ty w hp env n (.arr t l) co):fD (kk t) (rd t) 0 (ty t) w co.v l co.fp:=by
 replace h:iG ty w n t l co:=h
 unfold iG at h
 rw[hn]at h
 exact h
theorem RO.xG{w:World}{hp:Hp}{env:Env}{n:Nat}{t:Tag}{l:List (T t)}{co:CO}(h:fD (kk t) (rd t) 0 (ty t) w co.v l co.fp):RO ty w hp env n (.arr t l) co:=by
 show iG ty w n t l co
 unfold iG
 split
 ·exact⟨fD.sl h,fD.own h⟩
 ·exact h
theorem RO.FL{w:World}{hp:Hp}{env:Env}{n:Nat}{t:Tag}{l:List (T t)}{co:CO}(hn:soft n=true)(h:Sl (kk t) (rd t) w co.v l co.fp)(ho:Own 0 w co.fp):RO ty w hp env n (.arr t l) co:=by
 show iG ty w n t l co
 unfold iG
 rw[hn]
 exact⟨h,ho⟩
theorem FM(m:Nat):soft (m+900)=true:=by
 unfold soft
 exact Nat.ble_eq_true_of_le (Nat.le_add_left 900 m)
theorem Af{n:Nat}(h:gd n=true):soft n=true:=by
 unfold gd at h;unfold soft
 exact Nat.ble_eq_true_of_le (Nat.le_trans (by decide) (Nat.le_of_ble_eq_true h))
theorem FN{n:Nat}(h:soft n=false):gd n=false:=by
 cases hp:gd n with
 |false=>rfl
 |true=>rw[Af hp]at h;cases h
theorem RO.aS{w w':World}{hp fY:Hp}{env env':Env}{n:Nat}{t:Tag}{l:List (T t)}{co:CO}(h:RO ty w hp env n (.arr t l) co)(hk: ∀b,b∈co.fp→w'.heap[b]? =w.heap[b]?):RO ty w' fY env' n (.arr t l) co:=by
 replace h:iG ty w n t l co:=h
 show iG ty w' n t l co
 unfold iG at h ⊢
 split at h
 ·exact⟨Sl.aS (cY t) h.1 hk,h.2.aS hk⟩
 ·exact fD.aS (cY t) h hk
theorem RO.oo{w:World}{hp:Hp}{env:Env}{n:Nat}{o:Obj}{co:CO}(h:RO ty w hp env n o co): ∀b,b∈co.fp→b<w.heap.size:=by
 cases o with
 |box c=>
  obtain⟨b,cs,e,rfl,hh,_⟩:=h
  intro x hx
  simp at hx
  subst hx
  exact FD hh
 |arr t l=>exact fun b hb=>(RO.own h).lt b hb
 |iM t l s=>obtain⟨_,us,hB,_⟩:=h;exact fun b hb=>hB.own.lt b hb
theorem Good.ow{zb:bK}{st:St}{tmps:Array Value}{w:World}{env:Env}(h:Good ty zb st tmps w env){b:Nat}(hb:Ow st.hp env b):(b∈zb.L∨zb.w.heap.size≤b)∧b<w.heap.size:=by
 obtain⟨n,o,h1,h2⟩:=hb
 exact⟨h.dom n o h1 b h2,(h.obj n o h1).oo b h2⟩
def V.name:V→Option Nat
 | .own n| .ptr n _| .jm n _ _| .vw n _ _ _| .wL n _ _ _ _| .wQ n _ _| .uD _ n| .mix n _ _ _| .s8 n=>some n
 |_=>none
def V.view:V→Option Nat
 | .vw n _ _ _| .wL n _ _ _ _| .wQ n _ _| .mix n _ _ _=>some n
 |_=>none
def V.l9(K KV:Nat→Prop)(v:V):Prop:=(∀n,v.name=some n→K n)∧ ∀n,v.view=some n→KV n
theorem V.jW{v:V}{n:Nat}(h:v.view=some n):v.name=some n:=by
 cases v<;>simp_all [V.view,V.name]
theorem V.ec(v:V):v.l9 (fun _=>True) (fun _=>True):=⟨fun _ _=>trivial,fun _ _=>trivial⟩
def Obj.like:Obj→Obj→Prop
 | .box _, .box _=>True
 | .arr t _, .arr t' _=>t=t'
 | .iM t _ _, .iM t' _ _=>t=t'
 |_,_=>False
structure Step(K KV:Nat→Prop)(w:World)(hp:Hp)(env:Env)(w':World)(fY:Hp)(env':Env):Prop where
 keep: ∀b,b<w.heap.size→ ¬Ow hp env b→w'.heap[b]? =w.heap[b]?
 own: ∀b,b<w.heap.size→Ow fY env' b→Ow hp env b
 name: ∀n o,K n→look hp n=some o→ ∃o',look fY n=some o'∧o.like o'∧(env' n).v=(env n).v
 view: ∀n t l,KV n→look hp n=some (.arr t l)→look fY n=some (.arr t l)∧env' n=env n∧ ∀b,b∈(env n).fp→w'.heap[b]? =w.heap[b]?
section
variable{K KV:Nat→Prop}{w w':World}{hp fY:Hp}{env env':Env}
theorem RA.step(s:Step K KV w hp env w' fY env'){v:V}{u:Value}(hv:v.l9 K KV)(h:RA w hp env v u):RA w' fY env' v u:=by
 obtain⟨hv,hw⟩:=hv
 cases v with
 |any=>trivial
 |lit v=>exact h
 |sl t l=>
  obtain⟨fp,h1,h2⟩:=h
  have hlt:=Sl.lt (cY t) h1
  exact⟨fp,Sl.aS (cY t) h1 (fun b hb=>s.keep b (hlt b hb) (h2 b hb)),fun b hb hw=>h2 b hb (s.own b (hlt b hb) hw)⟩
 |own n=>
  obtain⟨⟨t,l,hl⟩,hu⟩:=h
  obtain⟨o',h1,h2,h3⟩:=s.name n _ (hv n rfl) hl
  cases o' with
  |box c=>exact h2.elim
  |arr t' l'=>exact⟨⟨t',l',h1⟩,by rw[hu,h3]⟩
  |iM t' l' s'=>exact h2.elim
 |ptr n off=>
  obtain⟨⟨c,hl⟩,b,hb,hu⟩:=h
  obtain⟨o',h1,h2,h3⟩:=s.name n _ (hv n rfl) hl
  cases o' with
  |box c'=>exact⟨⟨c',h1⟩,b,by rw[h3,hb],hu⟩
  |arr t' l'=>exact h2.elim
  |iM t' l' s'=>exact h2.elim
 |ot k=>exact h
 |uD f n=>
  obtain⟨⟨c,hl⟩,b,hb,hu⟩:=h
  obtain⟨o',h1,h2,h3⟩:=s.name n _ (hv n rfl) hl
  cases o' with
  |box c'=>exact⟨⟨c',h1⟩,b,by rw[h3,hb],hu⟩
  |arr t' l'=>exact h2.elim
  |iM t' l' s'=>exact h2.elim
 |jm n i off=>
  obtain⟨t,l,hl,b,o,len,cap,hb,hu⟩:=h
  obtain⟨o',h1,h2,h3⟩:=s.name n _ (hv n rfl) hl
  cases o' with
  |box c'=>exact h2.elim
  |arr t' l'=>
   have:t=t':=h2
   subst this
   exact⟨t,l',h1,b,o,len,cap,by rw[h3,hb],hu⟩
  |iM t' l' s'=>exact h2.elim
 |ip t x off=>
  obtain⟨b,o,cs,fp,hu,hb,hr,hE,h1,h2⟩:=h
  have hlt:=(cY t).lt hE
  have hkb:=s.keep b hb h1
  refine⟨b,o,cs,fp,hu,?_,fun j v hv=> ?_,(cY t).aS hE (fun c hc=>s.keep c (hlt c hc) (h2 c hc)),fun hw=>h1 (s.own b hb hw),fun c hc hw=>h2 c hc (s.own c (hlt c hc) hw)⟩
  ·have h3:w.heap[b]? =some w.heap[b]:=by simp[hb]
   rw[h3]at hkb
   exact(Array.getElem?_eq_some_iff.1 hkb).1
  ·rw[World.cell?_of_block (w:=w) (a:=⟨b,_,none⟩) hkb];exact hr j v hv
 |vw n p t l=>
  have N6: ∀{p:Option (Nat×Nat)} {l:List (T t)} {u:Value},RV w hp env n p t l u→RV w' fY env' n p t l u:=by
   rintro p l u ⟨⟨tA,lA,hl⟩,⟨fp,h1,hnd,h2⟩,h3⟩
   obtain⟨q1,q2,q3⟩:=s.view n _ _ (hw n rfl) hl
   refine⟨⟨tA,lA,q1⟩,⟨fp,Sl.aS (cY t) h1 (fun b hb=>q3 b (h2 b hb)),hnd,fun b hb=>by rw[q2];exact h2 b hb⟩,fun i off hp=> ?_⟩
   obtain⟨t0,l0,b,o,len,cap,k1,k2,k3,k4,k5,k6⟩:=h3 i off hp
   rw[hl]at k1
   refine⟨t0,l0,b,o,len,cap,by rw[q1];exact k1,k2,k3,by rw[q2];exact k4,by rw[q2];exact k5,?_⟩
   rw[World.cell?_of_block (w:=w) (a:=⟨b,_,none⟩) (q3 b k5)];exact k6
  exact N6 h
 |s8 n=>
  obtain⟨⟨t,l,r,hl⟩,hu⟩:=h
  obtain⟨o',h1,h2,h3⟩:=s.name n _ (hv n rfl) hl
  cases o' with
  |box c=>exact h2.elim
  |arr t' l'=>exact h2.elim
  |iM t' l' s'=>exact⟨⟨t',l',s',h1⟩,by rw[hu,h3]⟩
 |mix n c t l=>
  obtain⟨⟨tA,lA,hl⟩,⟨fp,h1,h2⟩,h3⟩:=h
  obtain⟨q1,q2,q3⟩:=s.view n _ _ (hw n rfl) hl
  have hlt:=Sl.lt (cY t) h1
  refine⟨⟨tA,lA,q1⟩,⟨fp,Sl.aS (cY t) h1 (fun b hb=> ?_),fun b hb=> ?_⟩,h3⟩
  ·rcases h2 b hb with h4|h4
   ·exact q3 b h4
   ·exact s.keep b (hlt b hb) h4
  ·rcases h2 b hb with h4|h4
   ·exact Or.inl (by rw[q2];exact h4)
   ·exact Or.inr fun hw=>h4 (s.own b (hlt b hb) hw)
 |wQ n t l=>
  obtain⟨⟨tA,lA,hl⟩,b,fp,h1,hb,hnd,h2⟩:=h
  obtain⟨q1,q2,q3⟩:=s.view n _ _ (hw n rfl) hl
  have hlt:=Sl.lt (cY t) h1
  have FO:=hlt b (by simp)
  refine⟨⟨tA,lA,q1⟩,b,fp,Sl.aS (cY t) h1 (fun c hc=> ?_),fun hw=>hb (s.own b FO hw),hnd,fun c hc=>by rw[q2];exact h2 c hc⟩
  rcases List.mem_cons.1 hc with rfl|hc
  ·exact s.keep _ FO hb
  ·exact q3 c (h2 c hc)
 |wL n p t x off=>
  have N6: ∀{p:Option (Nat×Nat)} {l:List (T t)} {u:Value},RV w hp env n p t l u→RV w' fY env' n p t l u:=by
   rintro p l u ⟨⟨tA,lA,hl⟩,⟨fp,h1,hnd,h2⟩,h3⟩
   obtain⟨q1,q2,q3⟩:=s.view n _ _ (hw n rfl) hl
   refine⟨⟨tA,lA,q1⟩,⟨fp,Sl.aS (cY t) h1 (fun b hb=>q3 b (h2 b hb)),hnd,fun b hb=>by rw[q2];exact h2 b hb⟩,fun i off hp=> ?_⟩
   obtain⟨t0,l0,b,o,len,cap,k1,k2,k3,k4,k5,k6⟩:=h3 i off hp
   rw[hl]at k1
   refine⟨t0,l0,b,o,len,cap,by rw[q1];exact k1,k2,k3,by rw[q2];exact k4,by rw[q2];exact k5,?_⟩
   rw[World.cell?_of_block (w:=w) (a:=⟨b,_,none⟩) (q3 b k5)];exact k6
  obtain⟨⟨tA,lA,hl⟩,b,o,cs,fp,hu,hb,hr,hE,hnd,h2,h3⟩:=h
  obtain⟨q1,q2,q3⟩:=s.view n _ _ (hw n rfl) hl
  refine⟨⟨tA,lA,q1⟩,b,o,cs,fp,hu,by rw[q2];exact hb,fun j v hv=> ?_,(cY t).aS hE (fun c hc=>q3 c (h2 c hc)),hnd,fun c hc=>by rw[q2];exact h2 c hc,fun i o2 j hp=> ?_⟩
  ·rw[World.cell?_of_block (w:=w) (a:=⟨b,_,none⟩) (q3 b hb)];exact hr j v hv
  ·obtain⟨l,u0,b0,kR,len,cap,k1,k2⟩:=h3 i o2 j hp
   exact⟨l,u0,b0,kR,len,cap,N6 k1,k2⟩
end
def S1.vs:S1→List V
 | .a v=> [v]
 | .agg l=>l
def SV.vs:SV→List V
 | .one x=>x.vs
 | .nV l=>l.flatMap S1.vs
 | .cond _ x=>x.vs
section
variable{K KV:Nat→Prop}{w w':World}{hp fY:Hp}{env env':Env}
theorem eg.step(s:Step K KV w hp env w' fY env'){x:S1}{u:Value}(hv: ∀v,v∈x.vs→v.l9 K KV)(h:eg w hp env x u):eg w' fY env' x u:=by
 cases x with
 |a v=>exact RA.step s (hv v (by simp[S1.vs])) h
 |agg l=>
  obtain⟨cs,hu,hl⟩:=h
  exact⟨cs,hu,hl.mono fun a b ha hr=>RA.step s (hv a ha) hr⟩
theorem lS.step(s:Step K KV w hp env w' fY env'){tmps:Array Value}{x:SV}{u:Value}(hv: ∀v,v∈x.vs→v.l9 K KV)(h:lS w hp env tmps x u):lS w' fY env' tmps x u:=by
 cases x with
 |one x=>exact eg.step s hv h
 |nV l=>
  obtain⟨us,hu,hl⟩:=h
  exact⟨us,hu,hl.mono fun a b ha hr=>eg.step s (fun v hn=>hv v (by simp only[SV.vs,List.mem_flatMap];exact⟨a,ha,hn⟩)) hr⟩
 |cond p x=>exact⟨fun hh=>eg.step s hv (h.1 hh),h.2⟩
theorem BE.step(s:Step K KV w hp env w' fY env'){r:Ff}{t:Tag}{x:T t}{u:Value}(hv: ∀n,r.name=some n→KV n)(h:BE w hp env r t x u):BE w' fY env' r t x u:=by
 cases r with
 |gone=>trivial
 |jT=>
  obtain⟨f,h1,h2⟩:=h
  have hlt:=(cY t).lt h1
  exact⟨f,(cY t).aS h1 (fun b hb=>s.keep b (hlt b hb) (h2 b hb)),fun b hb hw=>h2 b hb (s.own b (hlt b hb) hw)⟩
 |of n=>
  obtain⟨⟨tA,lA,hl⟩,f,h1,h2⟩:=h
  obtain⟨q1,q2,q3⟩:=s.view n _ _ (hv n rfl) hl
  have hlt:=(cY t).lt h1
  refine⟨⟨tA,lA,q1⟩,f,(cY t).aS h1 (fun b hb=> ?_),fun b hb=> ?_⟩
  ·rcases h2 b hb with h4|h4
   ·exact q3 b h4
   ·exact s.keep b (hlt b hb) h4
  ·rcases h2 b hb with h4|h4
   ·exact Or.inl (by rw[q2];exact h4)
   ·exact Or.inr fun hw=>h4 (s.own b (hlt b hb) hw)
def Obj.l9(K KV:Nat→Prop):Obj→Prop
 | .box c=> ∀v,v∈c→v.l9 K KV
 | .arr _ _=>True
 | .iM _ _ s=> ∀n,s.name=some n→KV n
theorem Obj.ec(o:Obj):o.l9 (fun _=>True) (fun _=>True):=by
 cases o with
 |box c=>exact fun v _=>v.ec
 |arr t l=>trivial
 |iM t l s=>exact fun _ _=>trivial
theorem RO.step(s:Step K KV w hp env w' fY env'){n:Nat}{o:Obj}{co:CO}(hv:o.l9 K KV)
  (hk: ∀b,b∈co.fp→w'.heap[b]? =w.heap[b]?)(h:RO ty w hp env n o co):RO ty w' fY env' n o co:=by
 cases o with
 |box c=>
  obtain⟨b,cs,e,rfl,hh,hc⟩:=h
  exact⟨b,cs,e,rfl,by rw[hk b (by simp)];exact hh,hc.mono fun a u ha hr=>RA.step s (hv a ha) hr⟩
 |arr t l=>exact RO.aS h hk
 |iM t l r=>
  obtain⟨h1,us,hB,h2,h3⟩:=h
  exact⟨h1,us,fD.aS pG hB hk,h2,fun i x u hx hu=>BE.step s hv (h3 i x u hx hu)⟩
end
theorem aG{α:Type}: ∀{os:List (Nat×α)} {l:List (Nat×α)} {n:Nat},look os n=none→look (os++l) n=look l n
 | [],_,_,_=>rfl
 | (j,x)::r,l,n,h=>by
   simp only[look,List.cons_append]at h ⊢
   split at h
   ·cases h
   ·exact aG h
theorem aY{α:Type}: ∀{os:List (Nat×α)} {l:List (Nat×α)} {n:Nat} {x:α},look os n=some x→look (os++l) n=some x
 | (j,y)::r,l,n,x,h=>by
   simp only[look,List.cons_append]at h ⊢
   split at h
   ·exact h
   ·exact aY h
theorem cZ{α:Type}: ∀{os:List (Nat×α)} {n:Nat} {x:α},look os n=some x→(n,x)∈os
 | (j,y)::r,n,x,h=>by
   simp only[look]at h
   split at h
   ·rename_i hb
    have:n=j:=Nat.eq_of_beq_eq_true hb
    simp at h
    simp[h,this]
   ·exact List.mem_cons_of_mem _ (cZ h)
theorem iR{hp:Hp}: ∀{os:Hp},fresh hp os=true→ ∀n o,look os n=some o→look hp n=none
 | (j,y)::r,h,n,o,hl=>by
   simp only[fresh,Bool.and_eq_true]at h
   simp only[look]at hl
   split at hl
   ·rename_i hb
    have:n=j:=Nat.eq_of_beq_eq_true hb
    subst this
    cases hq:look hp n with
    |none=>rfl
    |some z=>simp[hq]at h
   ·exact iR h.2 n o hl
theorem qT{hp:Hp}: ∀{os:Hp},fresh hp os=true→ ∀n o,look os n=some o→gd n=false
 | (j,y)::r,h,n,o,hl=>by
   simp only[fresh,Bool.and_eq_true]at h
   simp only[look]at hl
   split at hl
   ·rename_i hb
    have:n=j:=Nat.eq_of_beq_eq_true hb
    subst this
    simpa using h.1.2
   ·exact qT h.2 n o hl
structure gO(w w':World)(hp:Hp)(os:Hp)(env env':Env):Prop where
 below:Below w.heap.size w w'
 old: ∀n,look os n=none→env' n=env n
 obj: ∀n o,look os n=some o→RO ty w' (os++hp) env' n o (env' n)∧ ∀b,b∈(env' n).fp→w.heap.size≤b
 gK: ∀n m o o',n≠m→look os n=some o→look os m=some o'→ ∀b,b∈(env' n).fp→b∉(env' m).fp
theorem gO.none{w w':World}{hp:Hp}{env:Env}(h:Below w.heap.size w w'):gO (ty:=ty) w w' hp [] env env:=
 ⟨h,fun _ _=>rfl,fun _ _ h=>by simp[look]at h,fun _ _ _ _ _ h=>by simp[look]at h⟩
theorem gO.step{zb:bK}{st:St}{tmps:Array Value}{w w':World}{os:Hp}{env env':Env}(g:Good ty zb st tmps w env)(hf:fresh st.hp os=true)(h:gO (ty:=ty) w w' st.hp os env env'):
  Step (fun _=>True) (fun _=>True) w st.hp env w' (os++st.hp) env' where
 keep:=fun b hb _=>h.below.block b hb
 own:=by
  rintro b hb ⟨n,o,h1,h2⟩
  cases hn:look os n with
  |none=>
   rw[aG hn]at h1
   rw[h.old n hn]at h2
   exact⟨n,o,h1,h2⟩
  |some o'=>
   have:=(h.obj n o' hn).2 b h2
   omega
 name:=by
  intro n o _ h1
  have hn:look os n= .none:=by
   cases hn:look os n with
   |none=>rfl
   |some o'=>rw[iR hf n o' hn]at h1;cases h1
  refine⟨o,by rw[aG hn];exact h1,?_,by rw[h.old n hn]⟩
  cases o<;>simp[Obj.like]
 view:=by
  intro n t l _ h1
  have hn:look os n= .none:=by
   cases hn:look os n with
   |none=>rfl
   |some o'=>rw[iR hf n o' hn]at h1;cases h1
  exact⟨by rw[aG hn];exact h1,h.old n hn,fun b hb=>h.below.block b ((g.obj n _ h1).oo b hb)⟩
theorem Good.grow{zb:bK}{st:St}{tmps:Array Value}{w w':World}{os:Hp}{env env':Env}(hB:zb.w.heap.size≤w.heap.size)(g:Good ty zb st tmps w env)(hf:fresh st.hp os=true)(h:gO (ty:=ty) w w' st.hp os env env'):
  Good ty zb ⟨st.n,st.sl,os++st.hp⟩ tmps w' env':=by
 have s:=h.step g hf
 refine⟨fun n o hl=> ?_,fun n m o o' hne h1 h2 b hb hb'=> ?_,fun t v hl=>lS.step s (fun v _=>v.ec) (g.slot t v hl),fun n o hl b hb=> ?_,fun n hn=> ?_⟩
 ·cases hn:look os n with
  |some o'=>
   rw[aY hn]at hl
   simp only[Option.some.injEq]at hl
   subst hl
   exact(h.obj n _ hn).1
  |none=>
   rw[aG hn]at hl
   rw[h.old n hn]
   have hro:=g.obj n o hl
   exact hro.step s o.ec (fun b hb=>h.below.block b (hro.oo b hb))
 ·cases hn:look os n with
  |some x=>
   cases hm:look os m with
   |some y=>exact h.gK n m x y hne hn hm b hb hb'
   |none=>
    rw[aG hm]at h2
    rw[h.old m hm]at hb'
    have h3:=(h.obj n x hn).2 b hb
    have h4:=(g.obj m o' h2).oo b hb'
    omega
  |none=>
   rw[aG hn]at h1
   rw[h.old n hn]at hb
   cases hm:look os m with
   |some y=>
    have h3:=(h.obj m y hm).2 b hb'
    have h4:=(g.obj n o h1).oo b hb
    omega
   |none=>
    rw[aG hm]at h2
    rw[h.old m hm]at hb'
    exact g.gK n m o o' hne h1 h2 b hb hb'
 ·cases hn:look os n with
  |some x=>exact Or.inr (Nat.le_trans hB ((h.obj n x hn).2 b hb))
  |none=>
   rw[aG hn]at hl
   rw[h.old n hn]at hb
   exact g.dom n o hl b hb
 ·cases hq:look os n with
  |none=>rw[h.old n hq];exact g.pins n hn
  |some x=>have:=qT hf n x hq;rw[hn]at this;cases this
end Go.Proofs.YtjcojocjlglglaaGreat.G
namespace Go.Proofs.YtjcojocjlglglaaGreat.L
set_option linter.all false
open Go.RowKit
structure dG(fp:List Nat)(w w':World):Prop where
 os:w'.os=w.os
 tape:w'.tape=w.tape
 output:w'.output=w.output
 size:w.heap.size≤w'.heap.size
 block: ∀b,b<w.heap.size→b∉fp→w'.heap[b]? =w.heap[b]?
theorem dG.refl(fp:List Nat)(w:World):dG fp w w:=⟨rfl,rfl,rfl,Nat.le_refl _,fun _ _ _=>rfl⟩
theorem dG.mono{fp fq:List Nat}{w w':World}(h:dG fp w w')(hs: ∀b,b∈fp→b∈fq):dG fq w w':=⟨h.os,h.tape,h.output,h.size,fun b hb hn=>h.block b hb fun hm=>hn (hs b hm)⟩
theorem dG.trans{fp:List Nat}{a b c:World}(h:dG fp a b)(k:dG fp b c):dG fp a c:=
 ⟨k.os.trans h.os,k.tape.trans h.tape,k.output.trans h.output,Nat.le_trans h.size k.size,fun i hi hn=>(k.block i (Nat.lt_of_lt_of_le hi h.size) hn).trans (h.block i hi hn)⟩
theorem dG.below{fp:List Nat}{w w':World}{B:Nat}(h:dG fp w w')(hB:B≤w.heap.size)(hg: ∀b,b∈fp→B≤b):Below B w w':=
 ⟨h.os,h.tape,h.output,h.size,fun b hb=>h.block b (Nat.lt_of_lt_of_le hb hB) fun hm=>Nat.not_le_of_lt hb (hg b hm)⟩
theorem dG.aS{fp fq:List Nat}{w w':World}(h:dG fp w w')(hl: ∀b,b∈fq→b<w.heap.size)(hd: ∀b,b∈fq→b∉fp):cL w w' fq:=fun b hb=>h.block b (hl b hb) (hd b hb)
section
variable{α:Type}{k:Nat}{E:ER α}{lo e g n:Nat}{w w':World}{l:List α}{aQ:List (List Nat)}
theorem nu{aQ:List (List Nat)}(h:aQ.flatten.Nodup){i j:Nat}{f f':List Nat}(hi:aQ[i]? =some f)(hj:aQ[j]? =some f')(hne:i≠j): ∀b,b∈f→b∉f':=by
 intro b hb hb'
 have hp:=(List.pairwise_flatten.1 h).2
 rw[List.pairwise_iff_getElem]at hp
 obtain⟨hi1,rfl⟩:=List.getElem?_eq_some_iff.1 hi
 obtain⟨F7,rfl⟩:=List.getElem?_eq_some_iff.1 hj
 rcases Nat.lt_or_ge i j with h1|h1
 ·exact hp i j hi1 F7 h1 b hb b hb' rfl
 ·exact hp j i F7 hi1 (by omega) b hb' b hb rfl
theorem Part.set(G:dK k E)(h:Part k E lo e w g n l aQ){i:Nat}{f:List Nat}{cs:List Value}{x':α}(hi:i<l.length)(hin:i<n)(hf:aQ[i]? =some f)(hE:E w cs x' f):
  Part k E lo e (w.setCells g (i*k) cs) g n (l.set i x') aQ:=by
 have hlen:=G.len hE
 have hnd:=h.own.nodup
 rw[List.nodup_cons]at hnd
 obtain⟨c,hc,hs⟩:=h.oo
 obtain⟨c',BB,hs'⟩:=cF g e cs (i*k) w c hc
 have Il:w.there g (i*k) cs.length:=by rw[hlen];exact h.there _ hin
 have um: ∀b,b∈aQ.flatten→b≠g:=fun b hb e=>hnd.1 (e▸hb)
 have CT:cL w (w.setCells g (i*k) cs) aQ.flatten:=fun b hb=>bH g cs _ w b (um b hb)
 refine⟨⟨c',BB,by rw[hs',hs]⟩,⟨by rw[List.length_set];exact h.el.1,fun j y fy hy m6=> ?_⟩,⟨h.own.nodup,h.own.ge,fun b hb=> ?_⟩,h.cap⟩
 ·by_cases hj:i=j
  ·subst hj
   rw[List.getElem?_set_self hi]at hy
   simp only[Option.some.injEq]at hy
   subst hy
   rw[hf]at m6
   simp only[Option.some.injEq]at m6
   subst m6
   refine⟨cs,?_,G.aS hE (CT.sub fun b hb=>bE hf hb)⟩
   rw[Nat.zero_add]
   exact World.rangeAt_setCells_same w g _ cs Il
  ·rw[List.getElem?_set_ne hj]at hy
   obtain⟨cy,hr,Fk⟩:=h.el.2 j y fy hy m6
   refine⟨cy,World.rangeAt_setCells_apart hr _ _ _ (Or.inr ?_),G.aS Fk (CT.sub fun b hb=>bE m6 hb)⟩
   rw[G.len Fk,hlen]
   rcases Nat.lt_or_ge j i with h1|h1
   ·left
    have:=Nat.mul_le_mul_right k (show j+1≤i by omega)
    rw[Nat.add_mul]at this;omega
   ·right
    have:=Nat.mul_le_mul_right k (show i+1≤j by omega)
    rw[Nat.add_mul]at this;omega
 ·rcases List.mem_cons.1 hb with rfl|hb
  ·exact⟨_,_,BB⟩
  ·rw[CT b hb];exact h.own.kind b (List.mem_cons_of_mem _ hb)
theorem Part.Ek(G:dK k E)(h:Part k E lo e w g n l aQ)(hn:l.length≤n):fD k E lo e w (.slice (some ⟨g,0,none⟩) l.length n) l (g::aQ.flatten):=by
 obtain⟨c,hc,hs⟩:=h.oo
 have hk:l.length*k≤n*k:=Nat.mul_le_mul_right k hn
 refine⟨c.toList.take (l.length*k),aQ,⟨by rw[List.length_take,show c.toList.length=n*k from hs];exact Nat.min_eq_left hk,Or.inr ⟨g,n,c,rfl,h.own.ge g (by simp),hc,hn,h.cap,hs,rfl⟩⟩,h.el.1,fun i x f hx hf=> ?_,rfl,h.own⟩
 obtain⟨cs,hr,hE⟩:=h.el.2 i x f hx hf
 have hlen:=G.len hE
 have hi:i<l.length:=(List.getElem?_eq_some_iff.1 hx).1
 have h5:i*k+k≤l.length*k:=by
  have:=Nat.mul_le_mul_right k (show i+1≤l.length by omega)
  rw[Nat.add_mul]at this;omega
 have:((c.toList.take (l.length*k)).drop (i*k)).take k=cs:=by
  apply List.ext_getElem?
  intro j
  by_cases hj:j<k
  ·rw[List.getElem?_take,if_pos hj,List.getElem?_drop,List.getElem?_take,if_pos (by omega)]
   have h6:=hr j _ (List.getElem?_eq_getElem (by omega))
   rw[Nat.zero_add]at h6
   simp[World.cell?,hc]at h6
   rw[List.getElem?_eq_getElem (show j<cs.length by omega)]
   simp[h6]
  ·rw[List.getElem?_take,if_neg hj,List.getElem?_eq_none (by omega)]
 rw[this];exact hE
theorem fD.part{v:Value}{fp:List Nat}(h:fD k E lo e w v l fp):(v= .slice none 0 0∧l= []∧fp= [])∨ ∃g n aQ,v= .slice (some ⟨g,0,none⟩) l.length n∧l.length≤n∧fp=g::aQ.flatten∧Part k E lo e w g n l aQ:=by
 obtain⟨xs,aQ,⟨hxl,ho⟩,hl,hel,eN,hown⟩:=h
 rcases ho with⟨rfl,h0⟩| ⟨g,cap,cur,rfl,hg,hc,hn,NJ,hcs,Ew⟩
 ·have Of:l= []:=List.eq_nil_of_length_eq_zero h0
  have:aQ= []:=List.eq_nil_of_length_eq_zero (by omega)
  exact Or.inl ⟨rfl,Of,by rw[eN,this];rfl⟩
 ·refine Or.inr ⟨g,cap,aQ,rfl,hn,eN,⟨⟨cur,hc,hcs⟩,⟨hl,fun i x f hx hf=>⟨_,?_,hel i x f hx hf⟩⟩,by rw[eN]at hown;exact hown,NJ⟩⟩
  intro j u hu
  have hi:i<l.length:=(List.getElem?_eq_some_iff.1 hx).1
  rw[List.getElem?_take]at hu
  split at hu
  ·rename_i hj
   rw[List.getElem?_drop, ←Ew,List.getElem?_take]at hu
   split at hu
   ·simp only[World.cell?,hc]
    rw[Array.getElem?_toList]at hu
    rw[Nat.zero_add]
    simpa using hu
   ·cases hu
  ·cases hu
structure F8{α:Type}(k:Nat)(E:ER α)(lo:Nat)(w:World)(b off:Nat)(l:List α)(aQ:List (List Nat)):Prop where
 el:nS k E w b off l aQ
 own:Own lo w (b::aQ.flatten)
theorem F8.lt{b off:Nat}(h:F8 k E lo w b off l aQ):b<w.heap.size:=h.own.lt b (by simp)
theorem F8.set(G:dK k E){b off:Nat}(h:F8 k E lo w b off l aQ){i o:Nat}{f:List Nat}{vs cs:List Value}{x':α}(hi:i<l.length)(ho:o+vs.length≤k)(hf:aQ[i]? =some f)
  (hr:(w.setCells b (off+i*k+o) vs).rangeAt b (off+i*k) cs)(hE:E w cs x' f):
  F8 k E lo (w.setCells b (off+i*k+o) vs) b off (l.set i x') aQ:=by
 have hlen:=G.len hE
 have hnd:=h.own.nodup
 rw[List.nodup_cons]at hnd
 have um: ∀c,c∈aQ.flatten→c≠b:=fun c hc e=>hnd.1 (e▸hc)
 have CT:cL w (w.setCells b (off+i*k+o) vs) aQ.flatten:=fun c hc=>bH b vs _ w c (um c hc)
 refine⟨⟨by rw[List.length_set];exact h.el.1,fun j y fy hy m6=> ?_⟩,⟨h.own.nodup,h.own.ge,fun c hc=> ?_⟩⟩
 ·by_cases hj:i=j
  ·subst hj
   rw[List.getElem?_set_self hi]at hy
   simp only[Option.some.injEq]at hy
   subst hy
   rw[hf]at m6
   simp only[Option.some.injEq]at m6
   subst m6
   exact⟨cs,hr,G.aS hE (CT.sub fun b hb=>bE hf hb)⟩
  ·rw[List.getElem?_set_ne hj]at hy
   obtain⟨cy,hr,Fk⟩:=h.el.2 j y fy hy m6
   refine⟨cy,World.rangeAt_setCells_apart hr _ _ _ (Or.inr ?_),G.aS Fk (CT.sub fun b hb=>bE m6 hb)⟩
   rw[G.len Fk]
   rcases Nat.lt_or_ge j i with h1|h1
   ·left
    have:=Nat.mul_le_mul_right k (show j+1≤i by omega)
    rw[Nat.add_mul]at this;omega
   ·right
    have:=Nat.mul_le_mul_right k (show i+1≤j by omega)
    rw[Nat.add_mul]at this;omega
 ·rcases List.mem_cons.1 hc with rfl|hc
  ·obtain⟨c0,e0,hk⟩:=h.own.kind c (by simp)
   obtain⟨c',BB,_⟩:=cF c e0 vs (off+i*k+o) w c0 hk
   exact⟨_,_,BB⟩
  ·rw[CT c hc];exact h.own.kind c (List.mem_cons_of_mem _ hc)
end
end Go.Proofs.YtjcojocjlglglaaGreat.L
