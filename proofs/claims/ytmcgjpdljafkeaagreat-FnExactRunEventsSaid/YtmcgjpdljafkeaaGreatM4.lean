/-
  Slices that the call has made, written again: an element replaced; an element's own memory written by a call.
-/
import Derived.OpenShut
import Derived.ProofKit
import Derived.Test.YtmcgjpdljafkeaaGreatM3
namespace Go.Proofs.YtmcgjpdljafkeaaGreat.L
set_option linter.all false
open Go.RowKit Go.ChangeShapes Go.WideShapes Go.ChangeAt D
section
theorem yw{n:Int}(h:(Lit.int .i64 n).wf=true):we n:=by
 have:=bounds_i64 h
 unfold we;omega
section
variable{H:Type}(enc:TypeId×Value→H)(P:Program)(w:World)(spare:Nat→Bool)(held:Bool)
def oA{α:Type}(t:TypeId)(E:ER α)(W:α→Prop):Prop:=
 ∀fuel cs y,DataW.trod enc P w 0 spare held fuel t cs=some y→ ∃x fp,E w cs x fp∧W x
variable{enc P w spare held}
theorem ct{t:TypeId}(ht:P.underlying t=some (.int .i64)):oA enc P w spare held t j9 we:=by
 intro fuel cs y h
 obtain⟨n,rfl,_,hw⟩:=DataW.trod_int ht h
 exact⟨n,[],⟨rfl,rfl⟩,yw hw⟩
theorem wg{t:TypeId}(ht:P.underlying t=some (.int .u8)):oA enc P w spare held t GL (fun _=>True):=by
 intro fuel cs y h
 obtain⟨n,rfl,_,hw⟩:=DataW.trod_int ht h
 have hb:=bounds_u8 hw
 refine⟨UInt8.ofNat n.toNat,[],⟨?_,rfl⟩,trivial⟩
 have:((UInt8.ofNat n.toNat).toNat:Int)=n:=by
  rw[UInt8.toNat_ofNat'];omega
 rw[this]
theorem eS{α:Type} [Inhabited α]{k:Nat}{E:ER α}{W:α→Prop}{t e:TypeId}(ht:P.underlying t=some (.slice e))(hk:P.cellsOf e=k)(hpos:0<k)(ho:oA enc P w spare held e E W):
  oA enc P w spare held t (GH k E) (fun l=> ∀x,x∈l→W x):=by
 intro fuel cs y h
 rcases Go.Deep.open_slice ht h with⟨rfl,_⟩| ⟨a,len,cap,m,n,D,Pl,rfl,_,hl,hm,Yf,_,hx⟩
 ·exact⟨[],[],⟨_,rfl,none,0,rfl,Nat.le_refl _,Nat.zero_le _,Or.inl ⟨rfl,rfl,fun _=>rfl⟩⟩,by simp⟩
 rw[hk]at hx
 have VQ:len≤m:=by rw[Yf];split<;>omega
 by_cases h0:len=0
 ·subst h0
  exact⟨[],[],⟨_,rfl,some a,cap,rfl,hl,hm,Or.inl ⟨rfl,rfl,by simp⟩⟩,by simp⟩
 have hsp:a.spot=none:=by
  obtain⟨cs',hc,_⟩:=hx 0 (by omega)
  obtain⟨_,h1,h2⟩:=World.cells?_some hc
  have h3:=h2 0 (by omega)
  have ha:((a.add (0*k)).add 0)=a:=by simp[Addr.add]
  rw[ha]at h3
  have hlen:0<cs'.length:=by omega
  rw[List.getElem?_eq_getElem hlen]at h3
  simp only[World.cell?]at h3
  split at h3
  ·split at h3
   ·cases h3
   ·rename_i hs;simpa using hs
  ·cases h3
 obtain⟨b,off,rfl⟩: ∃b off,a=⟨b,off,none⟩:=⟨a.block,a.off,by cases a;simp_all⟩
 have hel: ∀i,i<len→ ∃q:α×List Nat,(∃cs',w.rangeAt b (off+i*k) cs'∧E w cs' q.1 q.2)∧W q.1:=by
  intro i hi
  obtain⟨cs',hc,Z3⟩:=hx i (by omega)
  obtain⟨x,fp,hE,hW⟩:=ho _ _ _ Z3
  obtain⟨_,h1,h2⟩:=World.cells?_some hc
  refine⟨(x,fp),⟨cs',fun j v hv=> ?_,hE⟩,hW⟩
  have hj:=(List.getElem?_eq_some_iff.1 hv).1
  have:=h2 j (by omega)
  rw[Addr.add_mid,Addr.add_mid,hv]at this
  exact this
 obtain⟨f,hf⟩:=Go.Deep.choose_lt hel
 refine⟨(List.range len).map fun i=>(f i).1,b::((List.range len).map fun i=>(f i).2).flatten,⟨_,rfl,some ⟨b,off,none⟩,cap,by simp,by simpa using hl,hm,Or.inr ⟨b,off,(List.range len).map fun i=>(f i).2,rfl,?_,rfl,by simp,?_⟩⟩,?_⟩
 ·obtain⟨cs',hc,_⟩:=hx 0 (by omega)
  have:=World.cells?_block hc (by omega)
  rw[Addr.add_mid]at this
  exact this
 ·intro i x fp hx gA
  have hi:i<len:=by have:=(List.getElem?_eq_some_iff.1 hx).1;simpa using this
  simp[hi]at hx gA
  subst hx;subst gA
  exact(hf i hi).1
 ·intro x hx
  simp only[List.mem_map,List.mem_range]at hx
  obtain⟨i,hi,rfl⟩:=hx
  exact(hf i hi).2
end
end
end Go.Proofs.YtmcgjpdljafkeaaGreat.L
namespace Go.Proofs.YtmcgjpdljafkeaaGreat.G
set_option linter.all false
open Go.RowKit L D
section
inductive Tag where
 |int|u8|str|sl(t:Tag)|DB|aB|aU|aA|iS|dV|aL|aN|Ev|yt|cU|Plain|bJ
 deriving DecidableEq
@[reducible] def T:Tag→Type
  | .int=>Int
  | .u8=>UInt8
  | .str=>List UInt8
  | .sl t=>List (T t)
  | .DB=>DB
  | .aB=>aB
  | .aU=>aU
  | .aA=>aA
  | .iS=>iS
  | .dV=>dV
  | .aL=>aL
  | .aN=>aN
  | .Ev=>Ev
  | .yt=>yt
  | .cU=>cU
  | .Plain=>Plain
  | .bJ=>bJ
def kk:Tag→Nat
 | .int=>1
 | .u8=>1
 | .str=>1
 | .sl _=>1
 | .DB=>1
 | .aB=>2
 | .aU=>5
 | .aA=>2
 | .iS=>2
 | .dV=>8
 | .aL=>16
 | .aN=>10
 | .Ev=>4
 | .yt=>3
 | .cU=>5
 | .Plain=>2
 | .bJ=>5
def rd:(t:Tag)→ER (T t)
 | .int=>j9
 | .u8=>GL
 | .str=>TT
 | .sl t=>GH (kk t) (rd t)
 | .DB=>Ru
 | .aB=>pL
 | .aU=>Jo
 | .aA=>pM
 | .iS=>Jp
 | .dV=>Fe
 | .aL=>Jr
 | .aN=>pN
 | .Ev=>Rv
 | .yt=>N3
 | .cU=>N5
 | .Plain=>Ff
 | .bJ=>KM
theorem eT:(t:Tag)→fF (kk t) (rd t)
 | .int=>rq
 | .u8=>gL
 | .str=>NS
 | .sl t=>pK (eT t)
 | .DB=>mg
 | .aB=>ry
 | .aU=>Bz
 | .aA=>rz
 | .iS=>rA
 | .dV=>jG
 | .aL=>BA
 | .aN=>N2
 | .Ev=>Rw
 | .yt=>N4
 | .cU=>N6
 | .Plain=>Js
 | .bJ=>Mx
theorem kB:(t:Tag)→0<kk t
 | .int=>by decide
 | .u8=>by decide
 | .str=>by decide
 | .sl _=>Nat.one_pos
 | .DB=>by decide
 | .aB=>by decide
 | .aU=>by decide
 | .aA=>by decide
 | .iS=>by decide
 | .dV=>by decide
 | .aL=>by decide
 | .aN=>by decide
 | .Ev=>by decide
 | .yt=>by decide
 | .cU=>by decide
 | .Plain=>by decide
 | .bJ=>by decide
def av:(t:Tag)→T t
 | .int=>(0:Int)
 | .u8=>(0:UInt8)
 | .str=>([]:List UInt8)
 | .sl t=>([]:List (T t))
 | .DB=>(default:DB)
 | .aB=>(default:aB)
 | .aU=>(default:aU)
 | .aA=>(default:aA)
 | .iS=>(default:iS)
 | .dV=>(default:dV)
 | .aL=>(default:aL)
 | .aN=>(default:aN)
 | .Ev=>(default:Ev)
 | .yt=>(default:yt)
 | .cU=>(default:cU)
 | .Plain=>(default:Plain)
 | .bJ=>(default:bJ)
inductive V where
 |any
 |lit(v:Value)
 |sl(t:Tag)(l:List (T t))
 |own(n:Nat)
 |ptr(n off:Nat)
 |lS(n i off:Nat)
 |ip(t:Tag)(x:T t)(off:Nat)
 |vw(n:Nat)(p:Option (Nat×Nat))(t:Tag)(l:List (T t))
 |Aw(n:Nat)(p:Option (Nat×Nat×Nat))(t:Tag)(x:T t)(off:Nat)
 |AX(n:Nat)(t:Tag)(l:List (T t))
 |mix(n:Nat)(c:Bool)(t:Tag)(l:List (T t))
 |yu(n:Nat)
 |yx(f:FuncId)(n:Nat)
 |tY(k:Nat)
def RI(w:World):V→Value→List Nat→Prop
 | .lit v,u,fp=>u=v∧v.oneCell'=true∧fp= []
 | .sl t l,u,fp=>Sl (kk t) (rd t) w u l fp
 |_,_,_=>False
def bR(w:World):List V→List Value→List Nat→Prop
 | [],[],fp=>fp= []
 |V::Vs,u::us,fp=> ∃f g,RI w V u f∧bR w Vs us g∧fp=f++g
 |_,_,_=>False
theorem bR.nil{w:World}:bR w [] [] []:=rfl
theorem bR.lit{w:World}{v:Value}{Vs:List V}{us:List Value}{g:List Nat}(hv:v.oneCell'=true)(h:bR w Vs us g):bR w (.lit v::Vs) (v::us) g:=⟨[],g,⟨rfl,hv,rfl⟩,h,rfl⟩
theorem bR.sl{w:World}{u:Value}{t:Tag}{l:List (T t)}{f g:List Nat}{Vs:List V}{us:List Value}(k:Sl (kk t) (rd t) w u l f)(h:bR w Vs us g):bR w (.sl t l::Vs) (u::us) (f++g):=⟨f,g,k,h,rfl⟩
theorem bR.app{w:World}: ∀{Vs Us:List V} {vs us:List Value} {f g:List Nat},bR w Vs vs f→bR w Us us g→bR w (Vs++Us) (vs++us) (f++g)
 | [],_,[],_,_,_,h,k=>by rw[show _=_ from h];exact k
 |_::_,_,_::_,_,_,_,⟨f1,f2,h1,h2,e⟩,k=>⟨f1,f2++_,h1,bR.app h2 k,by rw[e,List.append_assoc]⟩
 | [],_,_::_,_,_,_,h,_=>h.elim
 |_::_,_,[],_,_,_,h,_=>h.elim
theorem bR.len{w:World}: ∀{Vs:List V} {us:List Value} {fp:List Nat},bR w Vs us fp→us.length=Vs.length
 | [],[],_,_=>rfl
 |_::_,_::_,_,⟨_,_,_,h,_⟩=>by simp[bR.len h]
 | [],_::_,_,h=>h.elim
 |_::_,[],_,h=>h.elim
def aH(x:DB):List V:= [.sl (.sl .u8) x.rows]
def ff(x:aB):List V:= [.lit (.int .i64 x.client)]++aH x.share
def bw(x:aU):List V:= [.lit (.int .i64 x.id), .lit (.int .i64 x.rows), .lit (.int .i64 x.round), .sl .aB x.received, .lit (.int .i64 x.behavior)]
def fN(x:aA):List V:= [.lit (.int .i64 x.round)]++aH x.db
def cj(x:iS):List V:= [.lit (.int .i64 x.rows), .sl .aA x.rounds]
def aX(x:dV):List V:= [.lit (.int .i64 x.id), .lit (.int .i64 x.e9), .lit (.int .i64 x.key), .lit (.int .i64 x.seed), .sl (.sl .u8) x.aq, .lit (.int .i64 x.sent), .sl (.sl .u8) x.inbox, .lit (.int .i64 x.next)]
def bg(x:aL):List V:=aX x.live++aX x.saved
def ay(x:aN):List V:= [.lit (.int .i64 x.rows), .sl .aU x.aj, .sl .aL x.aa]++cj x.ak++ [.lit (.int .i64 x.az), .lit (.int .i64 x.seed), .lit (.int .i64 x.round), .sl .int x.replaced, .lit (.int .i64 x.cancelled)]
def fP(x:Ev):List V:= [.lit (.int .i64 x.kind), .lit (.int .i64 x.node), .lit (.int .i64 x.value), .sl .u8 x.body]
def Fg(x:yt):List V:= [.lit (.int .i64 x.fr), .lit (.int .i64 x.to), .lit (.int .i64 x.bytes)]
def gN(x:cU):List V:= [.lit (.int .i64 x.server), .lit (.int .i64 x.client), .lit (.int .i64 x.round), .lit (.int .i64 x.iU), .lit (.int .i64 x.AW)]
def eB(x:Plain):List V:= [.lit (.int .i64 x.kind), .sl .u8 x.body]
def dg(x:bJ):List V:= [.lit (.int .i64 x.server), .lit (.int .i64 x.round), .sl .int x.selection, .sl .u8 x.data, .lit (.int .i64 x.AW)]
def dec:(t:Tag)→T t→List V
 | .int,n=> [.lit (.int .i64 n)]
 | .u8,n=> [.lit (.int .u8 n.toNat)]
 | .str,s=> [.lit (.string ⟨s.toArray⟩)]
 | .sl t,l=> [.sl t l]
 | .DB,x=>aH x
 | .aB,x=>ff x
 | .aU,x=>bw x
 | .aA,x=>fN x
 | .iS,x=>cj x
 | .dV,x=>aX x
 | .aL,x=>bg x
 | .aN,x=>ay x
 | .Ev,x=>fP x
 | .yt,x=>Fg x
 | .cU,x=>gN x
 | .Plain,x=>eB x
 | .bJ,x=>dg x
theorem BI{w:World}{cs:List Value}{x:DB}{fp:List Nat}:Ru w cs x fp→bR w (aH x) cs fp:=by
 rintro⟨v0,f0,rfl,h0,rfl⟩
 have h:=(bR.sl (t:=(.sl .u8)) h0 bR.nil)
 simpa[aH]using h
theorem Fh{w:World}{cs:List Value}{x:aB}{fp:List Nat}:pL w cs x fp→bR w (ff x) cs fp:=by
 rintro⟨v0,f0,rfl,h0,rfl⟩
 have h:=(bR.app (bR.lit (w:=w) (v:= .int .i64 x.client) rfl bR.nil) (BI h0))
 simpa[ff]using h
theorem Mz{w:World}{cs:List Value}{x:aU}{fp:List Nat}:Jo w cs x fp→bR w (bw x) cs fp:=by
 rintro⟨v0,f0,rfl,h0,rfl⟩
 have h:=(bR.lit (w:=w) (v:= .int .i64 x.id) rfl (bR.lit (w:=w) (v:= .int .i64 x.rows) rfl (bR.lit (w:=w) (v:= .int .i64 x.round) rfl (bR.sl (t:= .aB) h0 (bR.lit (w:=w) (v:= .int .i64 x.behavior) rfl bR.nil)))))
 simpa[bw]using h
theorem Fi{w:World}{cs:List Value}{x:aA}{fp:List Nat}:pM w cs x fp→bR w (fN x) cs fp:=by
 rintro⟨v0,f0,rfl,h0,rfl⟩
 have h:=(bR.app (bR.lit (w:=w) (v:= .int .i64 x.round) rfl bR.nil) (BI h0))
 simpa[fN]using h
theorem D4{w:World}{cs:List Value}{x:iS}{fp:List Nat}:Jp w cs x fp→bR w (cj x) cs fp:=by
 rintro⟨v0,f0,rfl,h0,rfl⟩
 have h:=(bR.lit (w:=w) (v:= .int .i64 x.rows) rfl (bR.sl (t:= .aA) h0 bR.nil))
 simpa[cj]using h
theorem yy{w:World}{cs:List Value}{x:dV}{fp:List Nat}:Fe w cs x fp→bR w (aX x) cs fp:=by
 rintro⟨v0,v1,f0,f1,rfl,h0,h1,rfl⟩
 have h:=(bR.lit (w:=w) (v:= .int .i64 x.id) rfl (bR.lit (w:=w) (v:= .int .i64 x.e9) rfl (bR.lit (w:=w) (v:= .int .i64 x.key) rfl (bR.lit (w:=w) (v:= .int .i64 x.seed) rfl (bR.sl (t:=(.sl .u8)) h0 (bR.lit (w:=w) (v:= .int .i64 x.sent) rfl (bR.sl (t:=(.sl .u8)) h1 (bR.lit (w:=w) (v:= .int .i64 x.next) rfl bR.nil))))))))
 simpa[aX]using h
theorem MA{w:World}{cs:List Value}{x:aL}{fp:List Nat}:Jr w cs x fp→bR w (bg x) cs fp:=by
 rintro⟨v0,v1,f0,f1,rfl,h0,h1,rfl⟩
 have h:=(bR.app (yy h0) (yy h1))
 simpa[bg]using h
theorem jo{w:World}{cs:List Value}{x:aN}{fp:List Nat}:pN w cs x fp→bR w (ay x) cs fp:=by
 rintro⟨v0,v1,v2,v3,f0,f1,f2,f3,rfl,h0,h1,h2,h3,rfl⟩
 have h:=(bR.app (bR.app (bR.lit (w:=w) (v:= .int .i64 x.rows) rfl (bR.sl (t:= .aU) h0 (bR.sl (t:= .aL) h1 bR.nil))) (D4 h2)) (bR.lit (w:=w) (v:= .int .i64 x.az) rfl (bR.lit (w:=w) (v:= .int .i64 x.seed) rfl (bR.lit (w:=w) (v:= .int .i64 x.round) rfl (bR.sl (t:= .int) h3 (bR.lit (w:=w) (v:= .int .i64 x.cancelled) rfl bR.nil))))))
 simpa[ay]using h
theorem GQ{w:World}{cs:List Value}{x:Ev}{fp:List Nat}:Rv w cs x fp→bR w (fP x) cs fp:=by
 rintro⟨v0,f0,rfl,h0,rfl⟩
 have h:=(bR.lit (w:=w) (v:= .int .i64 x.kind) rfl (bR.lit (w:=w) (v:= .int .i64 x.node) rfl (bR.lit (w:=w) (v:= .int .i64 x.value) rfl (bR.sl (t:= .u8) h0 bR.nil))))
 simpa[fP]using h
theorem MB{w:World}{cs:List Value}{x:yt}{fp:List Nat}:N3 w cs x fp→bR w (Fg x) cs fp:=by
 rintro⟨rfl,rfl⟩
 have h:=(bR.lit (w:=w) (v:= .int .i64 x.fr) rfl (bR.lit (w:=w) (v:= .int .i64 x.to) rfl (bR.lit (w:=w) (v:= .int .i64 x.bytes) rfl bR.nil)))
 simpa[Fg]using h
theorem MC{w:World}{cs:List Value}{x:cU}{fp:List Nat}:N5 w cs x fp→bR w (gN x) cs fp:=by
 rintro⟨rfl,rfl⟩
 have h:=(bR.lit (w:=w) (v:= .int .i64 x.server) rfl (bR.lit (w:=w) (v:= .int .i64 x.client) rfl (bR.lit (w:=w) (v:= .int .i64 x.round) rfl (bR.lit (w:=w) (v:= .int .i64 x.iU) rfl (bR.lit (w:=w) (v:= .int .i64 x.AW) rfl bR.nil)))))
 simpa[gN]using h
theorem GR{w:World}{cs:List Value}{x:Plain}{fp:List Nat}:Ff w cs x fp→bR w (eB x) cs fp:=by
 rintro⟨v0,f0,rfl,h0,rfl⟩
 have h:=(bR.lit (w:=w) (v:= .int .i64 x.kind) rfl (bR.sl (t:= .u8) h0 bR.nil))
 simpa[eB]using h
theorem Ju{w:World}{cs:List Value}{x:bJ}{fp:List Nat}:KM w cs x fp→bR w (dg x) cs fp:=by
 rintro⟨v0,v1,f0,f1,rfl,h0,h1,rfl⟩
 have h:=(bR.lit (w:=w) (v:= .int .i64 x.server) rfl (bR.lit (w:=w) (v:= .int .i64 x.round) rfl (bR.sl (t:= .int) h0 (bR.sl (t:= .u8) h1 (bR.lit (w:=w) (v:= .int .i64 x.AW) rfl bR.nil)))))
 simpa[dg]using h
theorem reads{w:World}:(t:Tag)→{cs:List Value}→{x:T t}→{fp:List Nat}→rd t w cs x fp→bR w (dec t x) cs fp
 | .int,_,_,_,⟨rfl,rfl⟩=>bR.lit (v:= .int .i64 _) rfl bR.nil
 | .u8,_,_,_,⟨rfl,rfl⟩=>bR.lit (v:= .int .u8 _) rfl bR.nil
 | .str,_,_,_,⟨rfl,_,rfl⟩=>bR.lit (v:= .string _) rfl bR.nil
 | .sl t,_,_,_,⟨v,rfl,h⟩=>by have:=bR.sl (t:=t) h (bR.nil);rwa [List.append_nil]at this
 | .DB,_,_,_,h=>BI h
 | .aB,_,_,_,h=>Fh h
 | .aU,_,_,_,h=>Mz h
 | .aA,_,_,_,h=>Fi h
 | .iS,_,_,_,h=>D4 h
 | .dV,_,_,_,h=>yy h
 | .aL,_,_,_,h=>MA h
 | .aN,_,_,_,h=>jo h
 | .Ev,_,_,_,h=>GQ h
 | .yt,_,_,_,h=>MB h
 | .cU,_,_,_,h=>MC h
 | .Plain,_,_,_,h=>GR h
 | .bJ,_,_,_,h=>Ju h
end
section
def kg:(t t':Tag)→List (T t')→Option (List (T t))
 | .int, .int,l=>some l
 | .u8, .u8,l=>some l
 | .str, .str,l=>some l
 | .sl .int, .sl .int,l=>some l
 | .sl .u8, .sl .u8,l=>some l
 | .sl .str, .sl .str,l=>some l
 | .sl (.sl .u8), .sl (.sl .u8),l=>some l
 | .sl (.sl .int), .sl (.sl .int),l=>some l
 | .DB, .DB,l=>some l
 | .aB, .aB,l=>some l
 | .aU, .aU,l=>some l
 | .aA, .aA,l=>some l
 | .iS, .iS,l=>some l
 | .dV, .dV,l=>some l
 | .aL, .aL,l=>some l
 | .aN, .aN,l=>some l
 | .Ev, .Ev,l=>some l
 | .yt, .yt,l=>some l
 | .cU, .cU,l=>some l
 | .Plain, .Plain,l=>some l
 | .bJ, .bJ,l=>some l
 |_,_,_=>none
theorem dW{t t':Tag}{l:List (T t')}{l2:List (T t)}(h:kg t t' l=some l2): ∃e:t'=t,l2=e▸l:=by
 unfold kg at h
 split at h<;>first
  | (simp only[Option.some.injEq]at h;exact⟨rfl,h.symm⟩)
  |cases h
def gi:V→Option Int
 | .lit (.int .i64 n)=>some n
 |_=>none
def gs(t:Tag):V→Option (List (T t))
 | .sl t' l=>kg t t' l
 | .lit (.slice none 0 0)=>some []
 |_=>none
theorem dL{w:World}{v:V}{u:Value}{f:List Nat}{n:Int}(h:gi v=some n)(hr:RI w v u f):u= .int .i64 n∧f= []:=by
 unfold gi at h
 split at h
 ·simp only[Option.some.injEq]at h
  subst h
  exact⟨hr.1,hr.2.2⟩
 ·cases h
theorem oB{w:World}{t:Tag}{v:V}{u:Value}{f:List Nat}{l:List (T t)}(h:gs t v=some l)(hr:RI w v u f):Sl (kk t) (rd t) w u l f:=by
 unfold gs at h
 split at h
 ·rename_i t' l'
  obtain⟨he,rfl⟩:=dW h
  subst he
  exact hr
 ·simp only[Option.some.injEq]at h
  subst h
  obtain⟨rfl,_,rfl⟩:=hr
  exact⟨none,0,rfl,Nat.le_refl _,Nat.zero_le _,Or.inl ⟨rfl,rfl,fun _=>rfl⟩⟩
 ·cases h
def yz:List V→Option DB
 | [a0]=>match gs (.sl .u8) a0 with
   |some x0=>some ⟨x0⟩
   |_=>none
 |_=>none
theorem tC{w:World}{c:List V}{us:List Value}{fp:List Nat}{x:DB}(h:yz c=some x)(hr:bR w c us fp):Ru w us x fp:=by
 unfold yz at h
 split at h
 ·rename_i a0
  split at h
  ·rename_i x0 e0
   simp only[Option.some.injEq]at h
   subst h
   match us,hr with
   | [u0],⟨f0,g0,r0,h9,q0⟩=>
     have h9:g0= []:=h9
     have z0:=oB e0 r0
     refine⟨u0,f0,?_,z0,?_⟩
     ·rfl
     ·simp[q0,h9]
  ·cases h
 ·cases h
def pO:List V→Option aB
 | [a0,a1]=>match gi a0,yz [a1]with
   |some x0,some x1=>some ⟨x0,x1⟩
   |_,_=>none
 |_=>none
theorem uG{w:World}{c:List V}{us:List Value}{fp:List Nat}{x:aB}(h:pO c=some x)(hr:bR w c us fp):pL w us x fp:=by
 unfold pO at h
 split at h
 ·rename_i a0 a1
  split at h
  ·rename_i x0 x1 e0 e1
   simp only[Option.some.injEq]at h
   subst h
   match us,hr with
   | [u0,u1],⟨f0,g0,r0,⟨f1,g1,r1,h9,q1⟩,q0⟩=>
     have h9:g1= []:=h9
     obtain⟨z0,y0⟩:=dL e0 r0
     have z1:=tC (w:=w) (us:= [u1]) (fp:=(f1++ [])) e1 ⟨f1,_,r1,rfl,rfl⟩
     refine⟨[u1],(f1++ []),?_,z1,?_⟩
     ·simp[z0]
     ·simp[q0,q1,h9,y0]
  ·cases h
 ·cases h
def AY:List V→Option aU
 | [a0,a1,a2,a3,a4]=>match gi a0,gi a1,gi a2,gs .aB a3,gi a4 with
   |some x0,some x1,some x2,some x3,some x4=>some ⟨x0,x1,x2,x3,x4⟩
   |_,_,_,_,_=>none
 |_=>none
theorem BJ{w:World}{c:List V}{us:List Value}{fp:List Nat}{x:aU}(h:AY c=some x)(hr:bR w c us fp):Jo w us x fp:=by
 unfold AY at h
 split at h
 ·rename_i a0 a1 a2 a3 a4
  split at h
  ·rename_i x0 x1 x2 x3 x4 e0 e1 e2 e3 e4
   simp only[Option.some.injEq]at h
   subst h
   match us,hr with
   | [u0,u1,u2,u3,u4],⟨f0,g0,r0,⟨f1,g1,r1,⟨f2,g2,r2,⟨f3,g3,r3,⟨f4,g4,r4,h9,q4⟩,q3⟩,q2⟩,q1⟩,q0⟩=>
     have h9:g4= []:=h9
     obtain⟨z0,y0⟩:=dL e0 r0
     obtain⟨z1,y1⟩:=dL e1 r1
     obtain⟨z2,y2⟩:=dL e2 r2
     have z3:=oB e3 r3
     obtain⟨z4,y4⟩:=dL e4 r4
     refine⟨u3,f3,?_,z3,?_⟩
     ·simp[z0,z1,z2,z4]
     ·simp[q0,q1,q2,q3,q4,h9,y0,y1,y2,y4]
  ·cases h
 ·cases h
def pP:List V→Option aA
 | [a0,a1]=>match gi a0,yz [a1]with
   |some x0,some x1=>some ⟨x0,x1⟩
   |_,_=>none
 |_=>none
theorem uH{w:World}{c:List V}{us:List Value}{fp:List Nat}{x:aA}(h:pP c=some x)(hr:bR w c us fp):pM w us x fp:=by
 unfold pP at h
 split at h
 ·rename_i a0 a1
  split at h
  ·rename_i x0 x1 e0 e1
   simp only[Option.some.injEq]at h
   subst h
   match us,hr with
   | [u0,u1],⟨f0,g0,r0,⟨f1,g1,r1,h9,q1⟩,q0⟩=>
     have h9:g1= []:=h9
     obtain⟨z0,y0⟩:=dL e0 r0
     have z1:=tC (w:=w) (us:= [u1]) (fp:=(f1++ [])) e1 ⟨f1,_,r1,rfl,rfl⟩
     refine⟨[u1],(f1++ []),?_,z1,?_⟩
     ·simp[z0]
     ·simp[q0,q1,h9,y0]
  ·cases h
 ·cases h
def wh:List V→Option iS
 | [a0,a1]=>match gi a0,gs .aA a1 with
   |some x0,some x1=>some ⟨x0,x1⟩
   |_,_=>none
 |_=>none
theorem uW{w:World}{c:List V}{us:List Value}{fp:List Nat}{x:iS}(h:wh c=some x)(hr:bR w c us fp):Jp w us x fp:=by
 unfold wh at h
 split at h
 ·rename_i a0 a1
  split at h
  ·rename_i x0 x1 e0 e1
   simp only[Option.some.injEq]at h
   subst h
   match us,hr with
   | [u0,u1],⟨f0,g0,r0,⟨f1,g1,r1,h9,q1⟩,q0⟩=>
     have h9:g1= []:=h9
     obtain⟨z0,y0⟩:=dL e0 r0
     have z1:=oB e1 r1
     refine⟨u1,f1,?_,z1,?_⟩
     ·simp[z0]
     ·simp[q0,q1,h9,y0]
  ·cases h
 ·cases h
def tD:List V→Option dV
 | [a0,a1,a2,a3,a4,a5,a6,a7]=>match gi a0,gi a1,gi a2,gi a3,gs (.sl .u8) a4,gi a5,gs (.sl .u8) a6,gi a7 with
   |some x0,some x1,some x2,some x3,some x4,some x5,some x6,some x7=>some ⟨x0,x1,x2,x3,x4,x5,x6,x7⟩
   |_,_,_,_,_,_,_,_=>none
 |_=>none
theorem pQ{w:World}{c:List V}{us:List Value}{fp:List Nat}{x:dV}(h:tD c=some x)(hr:bR w c us fp):Fe w us x fp:=by
 unfold tD at h
 split at h
 ·rename_i a0 a1 a2 a3 a4 a5 a6 a7
  split at h
  ·rename_i x0 x1 x2 x3 x4 x5 x6 x7 e0 e1 e2 e3 e4 e5 e6 e7
   simp only[Option.some.injEq]at h
   subst h
   match us,hr with
   | [u0,u1,u2,u3,u4,u5,u6,u7],⟨f0,g0,r0,⟨f1,g1,r1,⟨f2,g2,r2,⟨f3,g3,r3,⟨f4,g4,r4,⟨f5,g5,r5,⟨f6,g6,r6,⟨f7,g7,r7,h9,q7⟩,q6⟩,q5⟩,q4⟩,q3⟩,q2⟩,q1⟩,q0⟩=>
     have h9:g7= []:=h9
     obtain⟨z0,y0⟩:=dL e0 r0
     obtain⟨z1,y1⟩:=dL e1 r1
     obtain⟨z2,y2⟩:=dL e2 r2
     obtain⟨z3,y3⟩:=dL e3 r3
     have z4:=oB e4 r4
     obtain⟨z5,y5⟩:=dL e5 r5
     have z6:=oB e6 r6
     obtain⟨z7,y7⟩:=dL e7 r7
     refine⟨u4,u6,f4,f6,?_,z4,z6,?_⟩
     ·simp[z0,z1,z2,z3,z5,z7]
     ·simp[q0,q1,q2,q3,q4,q5,q6,q7,h9,y0,y1,y2,y3,y5,y7]
  ·cases h
 ·cases h
def AZ:List V→Option aL
 | [a0,a1,a2,a3,a4,a5,a6,a7,a8,a9,Zs,Zt,Zu,Zv,Zw,Zx]=>match tD [a0,a1,a2,a3,a4,a5,a6,a7],tD [a8,a9,Zs,Zt,Zu,Zv,Zw,Zx]with
   |some x0,some x8=>some ⟨x0,x8⟩
   |_,_=>none
 |_=>none
theorem BK{w:World}{c:List V}{us:List Value}{fp:List Nat}{x:aL}(h:AZ c=some x)(hr:bR w c us fp):Jr w us x fp:=by
 unfold AZ at h
 split at h
 ·rename_i a0 a1 a2 a3 a4 a5 a6 a7 a8 a9 Zs Zt Zu Zv Zw Zx
  split at h
  ·rename_i x0 x8 e0 e1
   simp only[Option.some.injEq]at h
   subst h
   match us,hr with
   | [u0,u1,u2,u3,u4,u5,u6,u7,u8,u9,Zy,Zz,ZA,ZB,ZC,ZD],⟨f0,g0,r0,⟨f1,g1,r1,⟨f2,g2,r2,⟨f3,g3,r3,⟨f4,g4,r4,⟨f5,g5,r5,⟨f6,g6,r6,⟨f7,g7,r7,⟨f8,g8,r8,⟨f9,g9,r9,⟨f10,g10,Z4,⟨f11,g11,Z5,⟨f12,g12,Z6,⟨f13,g13,Z7,⟨f14,g14,Z8,⟨f15,Z9,r15,h9,q15⟩,q14⟩,q13⟩,q12⟩,q11⟩,q10⟩,q9⟩,q8⟩,q7⟩,q6⟩,q5⟩,q4⟩,q3⟩,q2⟩,q1⟩,q0⟩=>
     have h9:Z9= []:=h9
     have z0:=pQ (w:=w) (us:= [u0,u1,u2,u3,u4,u5,u6,u7]) (fp:=(f0++(f1++(f2++(f3++(f4++(f5++(f6++(f7++ []))))))))) e0 ⟨f0,_,r0,⟨f1,_,r1,⟨f2,_,r2,⟨f3,_,r3,⟨f4,_,r4,⟨f5,_,r5,⟨f6,_,r6,⟨f7,_,r7,rfl,rfl⟩,rfl⟩,rfl⟩,rfl⟩,rfl⟩,rfl⟩,rfl⟩,rfl⟩
     have z8:=pQ (w:=w) (us:= [u8,u9,Zy,Zz,ZA,ZB,ZC,ZD]) (fp:=(f8++(f9++(f10++(f11++(f12++(f13++(f14++(f15++ []))))))))) e1 ⟨f8,_,r8,⟨f9,_,r9,⟨f10,_,Z4,⟨f11,_,Z5,⟨f12,_,Z6,⟨f13,_,Z7,⟨f14,_,Z8,⟨f15,_,r15,rfl,rfl⟩,rfl⟩,rfl⟩,rfl⟩,rfl⟩,rfl⟩,rfl⟩,rfl⟩
     refine⟨[u0,u1,u2,u3,u4,u5,u6,u7],[u8,u9,Zy,Zz,ZA,ZB,ZC,ZD],(f0++(f1++(f2++(f3++(f4++(f5++(f6++(f7++ [])))))))),(f8++(f9++(f10++(f11++(f12++(f13++(f14++(f15++ [])))))))),?_,z0,z8,?_⟩
     ·rfl
     ·simp[q0,q1,q2,q3,q4,q5,q6,q7,q8,q9,q10,q11,q12,q13,q14,q15,h9]
  ·cases h
 ·cases h
def A0:List V→Option aN
 | [a0,a1,a2,a3,a4,a5,a6,a7,a8,a9]=>match gi a0,gs .aU a1,gs .aL a2,wh [a3,a4],gi a5,gi a6,gi a7,gs .int a8,gi a9 with
   |some x0,some x1,some x2,some x3,some x5,some x6,some x7,some x8,some x9=>some ⟨x0,x1,x2,x3,x5,x6,x7,x8,x9⟩
   |_,_,_,_,_,_,_,_,_=>none
 |_=>none
theorem BL{w:World}{c:List V}{us:List Value}{fp:List Nat}{x:aN}(h:A0 c=some x)(hr:bR w c us fp):pN w us x fp:=by
 unfold A0 at h
 split at h
 ·rename_i a0 a1 a2 a3 a4 a5 a6 a7 a8 a9
  split at h
  ·rename_i x0 x1 x2 x3 x5 x6 x7 x8 x9 e0 e1 e2 e3 e4 e5 e6 e7 e8
   simp only[Option.some.injEq]at h
   subst h
   match us,hr with
   | [u0,u1,u2,u3,u4,u5,u6,u7,u8,u9],⟨f0,g0,r0,⟨f1,g1,r1,⟨f2,g2,r2,⟨f3,g3,r3,⟨f4,g4,r4,⟨f5,g5,r5,⟨f6,g6,r6,⟨f7,g7,r7,⟨f8,g8,r8,⟨f9,g9,r9,h9,q9⟩,q8⟩,q7⟩,q6⟩,q5⟩,q4⟩,q3⟩,q2⟩,q1⟩,q0⟩=>
     have h9:g9= []:=h9
     obtain⟨z0,y0⟩:=dL e0 r0
     have z1:=oB e1 r1
     have z2:=oB e2 r2
     have z3:=uW (w:=w) (us:= [u3,u4]) (fp:=(f3++(f4++ []))) e3 ⟨f3,_,r3,⟨f4,_,r4,rfl,rfl⟩,rfl⟩
     obtain⟨z5,y5⟩:=dL e4 r5
     obtain⟨z6,y6⟩:=dL e5 r6
     obtain⟨z7,y7⟩:=dL e6 r7
     have z8:=oB e7 r8
     obtain⟨z9,y9⟩:=dL e8 r9
     refine⟨u1,u2,[u3,u4],u8,f1,f2,(f3++(f4++ [])),f8,?_,z1,z2,z3,z8,?_⟩
     ·simp[z0,z5,z6,z7,z9]
     ·simp[q0,q1,q2,q3,q4,q5,q6,q7,q8,q9,h9,y0,y5,y6,y7,y9]
  ·cases h
 ·cases h
def Fj:List V→Option Ev
 | [a0,a1,a2,a3]=>match gi a0,gi a1,gi a2,gs .u8 a3 with
   |some x0,some x1,some x2,some x3=>some ⟨x0,x1,x2,x3⟩
   |_,_,_,_=>none
 |_=>none
theorem D5{w:World}{c:List V}{us:List Value}{fp:List Nat}{x:Ev}(h:Fj c=some x)(hr:bR w c us fp):Rv w us x fp:=by
 unfold Fj at h
 split at h
 ·rename_i a0 a1 a2 a3
  split at h
  ·rename_i x0 x1 x2 x3 e0 e1 e2 e3
   simp only[Option.some.injEq]at h
   subst h
   match us,hr with
   | [u0,u1,u2,u3],⟨f0,g0,r0,⟨f1,g1,r1,⟨f2,g2,r2,⟨f3,g3,r3,h9,q3⟩,q2⟩,q1⟩,q0⟩=>
     have h9:g3= []:=h9
     obtain⟨z0,y0⟩:=dL e0 r0
     obtain⟨z1,y1⟩:=dL e1 r1
     obtain⟨z2,y2⟩:=dL e2 r2
     have z3:=oB e3 r3
     refine⟨u3,f3,?_,z3,?_⟩
     ·simp[z0,z1,z2]
     ·simp[q0,q1,q2,q3,h9,y0,y1,y2]
  ·cases h
 ·cases h
def A1:List V→Option yt
 | [a0,a1,a2]=>match gi a0,gi a1,gi a2 with
   |some x0,some x1,some x2=>some ⟨x0,x1,x2⟩
   |_,_,_=>none
 |_=>none
theorem BM{w:World}{c:List V}{us:List Value}{fp:List Nat}{x:yt}(h:A1 c=some x)(hr:bR w c us fp):N3 w us x fp:=by
 unfold A1 at h
 split at h
 ·rename_i a0 a1 a2
  split at h
  ·rename_i x0 x1 x2 e0 e1 e2
   simp only[Option.some.injEq]at h
   subst h
   match us,hr with
   | [u0,u1,u2],⟨f0,g0,r0,⟨f1,g1,r1,⟨f2,g2,r2,h9,q2⟩,q1⟩,q0⟩=>
     have h9:g2= []:=h9
     obtain⟨z0,y0⟩:=dL e0 r0
     obtain⟨z1,y1⟩:=dL e1 r1
     obtain⟨z2,y2⟩:=dL e2 r2
     refine⟨?_,?_⟩
     ·simp[z0,z1,z2]
     ·simp[q0,q1,q2,h9,y0,y1,y2]
  ·cases h
 ·cases h
def A2:List V→Option cU
 | [a0,a1,a2,a3,a4]=>match gi a0,gi a1,gi a2,gi a3,gi a4 with
   |some x0,some x1,some x2,some x3,some x4=>some ⟨x0,x1,x2,x3,x4⟩
   |_,_,_,_,_=>none
 |_=>none
theorem BN{w:World}{c:List V}{us:List Value}{fp:List Nat}{x:cU}(h:A2 c=some x)(hr:bR w c us fp):N5 w us x fp:=by
 unfold A2 at h
 split at h
 ·rename_i a0 a1 a2 a3 a4
  split at h
  ·rename_i x0 x1 x2 x3 x4 e0 e1 e2 e3 e4
   simp only[Option.some.injEq]at h
   subst h
   match us,hr with
   | [u0,u1,u2,u3,u4],⟨f0,g0,r0,⟨f1,g1,r1,⟨f2,g2,r2,⟨f3,g3,r3,⟨f4,g4,r4,h9,q4⟩,q3⟩,q2⟩,q1⟩,q0⟩=>
     have h9:g4= []:=h9
     obtain⟨z0,y0⟩:=dL e0 r0
     obtain⟨z1,y1⟩:=dL e1 r1
     obtain⟨z2,y2⟩:=dL e2 r2
     obtain⟨z3,y3⟩:=dL e3 r3
     obtain⟨z4,y4⟩:=dL e4 r4
     refine⟨?_,?_⟩
     ·simp[z0,z1,z2,z3,z4]
     ·simp[q0,q1,q2,q3,q4,h9,y0,y1,y2,y3,y4]
  ·cases h
 ·cases h
def tE:List V→Option Plain
 | [a0,a1]=>match gi a0,gs .u8 a1 with
   |some x0,some x1=>some ⟨x0,x1⟩
   |_,_=>none
 |_=>none
theorem wj{w:World}{c:List V}{us:List Value}{fp:List Nat}{x:Plain}(h:tE c=some x)(hr:bR w c us fp):Ff w us x fp:=by
 unfold tE at h
 split at h
 ·rename_i a0 a1
  split at h
  ·rename_i x0 x1 e0 e1
   simp only[Option.some.injEq]at h
   subst h
   match us,hr with
   | [u0,u1],⟨f0,g0,r0,⟨f1,g1,r1,h9,q1⟩,q0⟩=>
     have h9:g1= []:=h9
     obtain⟨z0,y0⟩:=dL e0 r0
     have z1:=oB e1 r1
     refine⟨u1,f1,?_,z1,?_⟩
     ·simp[z0]
     ·simp[q0,q1,h9,y0]
  ·cases h
 ·cases h
def wk:List V→Option bJ
 | [a0,a1,a2,a3,a4]=>match gi a0,gi a1,gs .int a2,gs .u8 a3,gi a4 with
   |some x0,some x1,some x2,some x3,some x4=>some ⟨x0,x1,x2,x3,x4⟩
   |_,_,_,_,_=>none
 |_=>none
theorem zY{w:World}{c:List V}{us:List Value}{fp:List Nat}{x:bJ}(h:wk c=some x)(hr:bR w c us fp):KM w us x fp:=by
 unfold wk at h
 split at h
 ·rename_i a0 a1 a2 a3 a4
  split at h
  ·rename_i x0 x1 x2 x3 x4 e0 e1 e2 e3 e4
   simp only[Option.some.injEq]at h
   subst h
   match us,hr with
   | [u0,u1,u2,u3,u4],⟨f0,g0,r0,⟨f1,g1,r1,⟨f2,g2,r2,⟨f3,g3,r3,⟨f4,g4,r4,h9,q4⟩,q3⟩,q2⟩,q1⟩,q0⟩=>
     have h9:g4= []:=h9
     obtain⟨z0,y0⟩:=dL e0 r0
     obtain⟨z1,y1⟩:=dL e1 r1
     have z2:=oB e2 r2
     have z3:=oB e3 r3
     obtain⟨z4,y4⟩:=dL e4 r4
     refine⟨u2,u3,f2,f3,?_,z2,z3,?_⟩
     ·simp[z0,z1,z4]
     ·simp[q0,q1,q2,q3,q4,h9,y0,y1,y4]
  ·cases h
 ·cases h
def Fk:List V→Option (List Prop×Int)
 | [v]=>match gi v with|some n=>some ([],n)|none=>none
 |_=>none
def Jv:List V→Option (List Prop×UInt8)
 | [.lit (.int .u8 n)]=>some ([0≤n∧n<256],UInt8.ofNat n.toNat)
 |_=>none
def Fl:List V→Option (List Prop×List UInt8)
 | [.lit (.string s)]=>some ([s.size≤maxLen],s.data.toList)
 |_=>none
def Jw(t:Tag):List V→Option (List Prop×List (T t))
 | [v]=>match gs t v with|some l=>some ([],l)|none=>none
 |_=>none
def ke{α:Type}:Option α→Option (List Prop×α)
 |some x=>some ([],x)
 |none=>none
theorem eC{α:Type}{o:Option α}{vc:List Prop}{x:α}(h:ke o=some (vc,x)):o=some x:=by
 cases o with
 |none=>cases h
 |some y=>simp only[ke,Option.some.injEq,Prod.mk.injEq]at h;rw[h.2]
def enc:(t:Tag)→List V→Option (List Prop×T t)
 | .int,c=>Fk c
 | .u8,c=>Jv c
 | .str,c=>Fl c
 | .sl t,c=>Jw t c
 | .DB,c=>ke (yz c)
 | .aB,c=>ke (pO c)
 | .aU,c=>ke (AY c)
 | .aA,c=>ke (pP c)
 | .iS,c=>ke (wh c)
 | .dV,c=>ke (tD c)
 | .aL,c=>ke (AZ c)
 | .aN,c=>ke (A0 c)
 | .Ev,c=>ke (Fj c)
 | .yt,c=>ke (A1 c)
 | .cU,c=>ke (A2 c)
 | .Plain,c=>ke (tE c)
 | .bJ,c=>ke (wk c)
theorem rB{w:World}:(t:Tag)→{c:List V}→{us:List Value}→{fp:List Nat}→{vc:List Prop}→{x:T t}→enc t c=some (vc,x)→(∀q,q∈vc→q)→bR w c us fp→rd t w us x fp
 | .int,c,us,fp,vc,x,h,hv,hr=>by
   have h:Fk c=some (vc,x):=h
   unfold Fk at h
   split at h<;>first| (cases h;done)|skip
   ·split at h
    ·rename_i v _ n e
     simp only[Option.some.injEq,Prod.mk.injEq]at h
     obtain⟨rfl,rfl⟩:=h
     match us,hr with
     | [u],⟨f,g,r,h9,q⟩=>
       obtain⟨z,y⟩:=dL e r
       have h9:g= []:=h9
       exact⟨by rw[z],by simp[q,y,h9]⟩
    ·cases h
 | .u8,c,us,fp,vc,x,h,hv,hr=>by
   have h:Jv c=some (vc,x):=h
   unfold Jv at h
   split at h<;>first| (cases h;done)|skip
   ·rename_i n _
    simp only[Option.some.injEq,Prod.mk.injEq]at h
    obtain⟨rfl,rfl⟩:=h
    obtain⟨h0,h1⟩:=hv _ (List.mem_singleton.2 rfl)
    match us,hr with
    | [u],⟨f,g,r,h9,q⟩=>
      have h9:g= []:=h9
      obtain⟨rfl,_,rfl⟩:=r
      refine⟨?_,by simp[q,h9]⟩
      have:((UInt8.ofNat n.toNat).toNat:Int)=n:=by rw[UInt8.toNat_ofNat'];omega
      rw[this]
 | .str,c,us,fp,vc,x,h,hv,hr=>by
   have h:Fl c=some (vc,x):=h
   unfold Fl at h
   split at h<;>first| (cases h;done)|skip
   ·rename_i s _
    simp only[Option.some.injEq,Prod.mk.injEq]at h
    obtain⟨rfl,rfl⟩:=h
    have h0:=hv _ (List.mem_singleton.2 rfl)
    match us,hr with
    | [u],⟨f,g,r,h9,q⟩=>
      have h9:g= []:=h9
      obtain⟨rfl,_,rfl⟩:=r
      exact⟨rfl,h0,by simp[q,h9]⟩
 | .sl t,c,us,fp,vc,x,h,hv,hr=>by
   have h:Jw t c=some (vc,x):=h
   unfold Jw at h
   split at h<;>first| (cases h;done)|skip
   ·split at h
    ·rename_i v _ l e
     simp only[Option.some.injEq,Prod.mk.injEq]at h
     obtain⟨rfl,rfl⟩:=h
     match us,hr with
     | [u],⟨f,g,r,h9,q⟩=>
       have h9:g= []:=h9
       refine⟨u,rfl,?_⟩
       have:=oB e r
       rw[q,h9,List.append_nil];exact this
    ·cases h
 | .DB,c,us,fp,vc,x,h,hv,hr=>by
   exact tC (eC (show ke (yz c)=_ from h)) hr
 | .aB,c,us,fp,vc,x,h,hv,hr=>by
   exact uG (eC (show ke (pO c)=_ from h)) hr
 | .aU,c,us,fp,vc,x,h,hv,hr=>by
   exact BJ (eC (show ke (AY c)=_ from h)) hr
 | .aA,c,us,fp,vc,x,h,hv,hr=>by
   exact uH (eC (show ke (pP c)=_ from h)) hr
 | .iS,c,us,fp,vc,x,h,hv,hr=>by
   exact uW (eC (show ke (wh c)=_ from h)) hr
 | .dV,c,us,fp,vc,x,h,hv,hr=>by
   exact pQ (eC (show ke (tD c)=_ from h)) hr
 | .aL,c,us,fp,vc,x,h,hv,hr=>by
   exact BK (eC (show ke (AZ c)=_ from h)) hr
 | .aN,c,us,fp,vc,x,h,hv,hr=>by
   exact BL (eC (show ke (A0 c)=_ from h)) hr
 | .Ev,c,us,fp,vc,x,h,hv,hr=>by
   exact D5 (eC (show ke (Fj c)=_ from h)) hr
 | .yt,c,us,fp,vc,x,h,hv,hr=>by
   exact BM (eC (show ke (A1 c)=_ from h)) hr
 | .cU,c,us,fp,vc,x,h,hv,hr=>by
   exact BN (eC (show ke (A2 c)=_ from h)) hr
 | .Plain,c,us,fp,vc,x,h,hv,hr=>by
   exact wj (eC (show ke (tE c)=_ from h)) hr
 | .bJ,c,us,fp,vc,x,h,hv,hr=>by
   exact zY (eC (show ke (wk c)=_ from h)) hr
def eM:Tag→Value
 | .int=> .int .i64 0
 | .u8=> .int .u8 0
 | .str=> .string ⟨#[]⟩
 | .sl _=> .slice none 0 0
 | .DB=> .agg #[.slice none 0 0]
 | .aB=> .agg #[.int .i64 0, .slice none 0 0]
 | .aU=> .agg #[.int .i64 0, .int .i64 0, .int .i64 0, .slice none 0 0, .int .i64 0]
 | .aA=> .agg #[.int .i64 0, .slice none 0 0]
 | .iS=> .agg #[.int .i64 0, .slice none 0 0]
 | .dV=> .agg #[.int .i64 0, .int .i64 0, .int .i64 0, .int .i64 0, .slice none 0 0, .int .i64 0, .slice none 0 0, .int .i64 0]
 | .aL=> .agg #[.int .i64 0, .int .i64 0, .int .i64 0, .int .i64 0, .slice none 0 0, .int .i64 0, .slice none 0 0, .int .i64 0, .int .i64 0, .int .i64 0, .int .i64 0, .int .i64 0, .slice none 0 0, .int .i64 0, .slice none 0 0, .int .i64 0]
 | .aN=> .agg #[.int .i64 0, .slice none 0 0, .slice none 0 0, .int .i64 0, .slice none 0 0, .int .i64 0, .int .i64 0, .int .i64 0, .slice none 0 0, .int .i64 0]
 | .Ev=> .agg #[.int .i64 0, .int .i64 0, .int .i64 0, .slice none 0 0]
 | .yt=> .agg #[.int .i64 0, .int .i64 0, .int .i64 0]
 | .cU=> .agg #[.int .i64 0, .int .i64 0, .int .i64 0, .int .i64 0, .int .i64 0]
 | .Plain=> .agg #[.int .i64 0, .slice none 0 0]
 | .bJ=> .agg #[.int .i64 0, .int .i64 0, .slice none 0 0, .slice none 0 0, .int .i64 0]
def cN:Tag→Nat
 | .int=>8
 | .u8=>1
 | .str=>16
 | .sl _=>24
 | .DB=>24
 | .aB=>32
 | .aU=>56
 | .aA=>32
 | .iS=>32
 | .dV=>96
 | .aL=>192
 | .aN=>144
 | .Ev=>48
 | .yt=>24
 | .cU=>40
 | .Plain=>32
 | .bJ=>72
theorem pR:(t:Tag)→(eM t).cells.size=kk t
 | .int=>rfl
 | .u8=>rfl
 | .str=>rfl
 | .sl _=>rfl
 | .DB=>rfl
 | .aB=>rfl
 | .aU=>rfl
 | .aA=>rfl
 | .iS=>rfl
 | .dV=>rfl
 | .aL=>rfl
 | .aN=>rfl
 | .Ev=>rfl
 | .yt=>rfl
 | .cU=>rfl
 | .Plain=>rfl
 | .bJ=>rfl
def flat:Tag→Bool
 | .int=>true
 | .u8=>true
 | .str=>true
 | .sl _=>false
 | .DB=>false
 | .aB=>false
 | .aU=>false
 | .aA=>false
 | .iS=>false
 | .dV=>false
 | .aL=>false
 | .aN=>false
 | .Ev=>false
 | .yt=>true
 | .cU=>true
 | .Plain=>false
 | .bJ=>false
theorem Ry{w:World}(t:Tag){cs:List Value}{x:T t}{fp:List Nat}(hf:flat t=true)(h:rd t w cs x fp):fp= []:=by
 cases t with
 |int=>exact(show j9 w cs x fp from h).2
 |u8=>exact(show GL w cs x fp from h).2
 |str=>exact(show TT w cs x fp from h).2.2
 |sl _=>cases hf
 |DB=>cases hf
 |aB=>cases hf
 |aU=>cases hf
 |aA=>cases hf
 |iS=>cases hf
 |dV=>cases hf
 |aL=>cases hf
 |aN=>cases hf
 |Ev=>cases hf
 |yt=>exact(show N3 w cs x fp from h).2
 |cU=>exact(show N5 w cs x fp from h).2
 |Plain=>cases hf
 |bJ=>cases hf
theorem bR.lits{w:World}: ∀{z:List Value},(∀v,v∈z→v.oneCell'=true)→bR w (z.map V.lit) z []
 | [],_=>rfl
 |v::r,h=>⟨[],[],⟨rfl,h v (by simp),rfl⟩,bR.lits fun u hu=>h u (by simp[hu]),rfl⟩
theorem Rz{w:World}:(t:Tag)→rd t w (eM t).cells.toList (av t) []
 | .int=>⟨rfl,rfl⟩
 | .u8=>⟨rfl,rfl⟩
 | .str=>⟨rfl,by decide,rfl⟩
 | .sl _=>⟨_,rfl,none,0,rfl,Nat.le_refl _,Nat.zero_le _,Or.inl ⟨rfl,rfl,fun _=>rfl⟩⟩
 | .DB=>tC (c:=(eM .DB).cells.toList.map V.lit) rfl (bR.lits (by simp[eM,Value.cells,Value.oneCell']))
 | .aB=>uG (c:=(eM .aB).cells.toList.map V.lit) rfl (bR.lits (by simp[eM,Value.cells,Value.oneCell']))
 | .aU=>BJ (c:=(eM .aU).cells.toList.map V.lit) rfl (bR.lits (by simp[eM,Value.cells,Value.oneCell']))
 | .aA=>uH (c:=(eM .aA).cells.toList.map V.lit) rfl (bR.lits (by simp[eM,Value.cells,Value.oneCell']))
 | .iS=>uW (c:=(eM .iS).cells.toList.map V.lit) rfl (bR.lits (by simp[eM,Value.cells,Value.oneCell']))
 | .dV=>pQ (c:=(eM .dV).cells.toList.map V.lit) rfl (bR.lits (by simp[eM,Value.cells,Value.oneCell']))
 | .aL=>BK (c:=(eM .aL).cells.toList.map V.lit) rfl (bR.lits (by simp[eM,Value.cells,Value.oneCell']))
 | .aN=>BL (c:=(eM .aN).cells.toList.map V.lit) rfl (bR.lits (by simp[eM,Value.cells,Value.oneCell']))
 | .Ev=>D5 (c:=(eM .Ev).cells.toList.map V.lit) rfl (bR.lits (by simp[eM,Value.cells,Value.oneCell']))
 | .yt=>BM (c:=(eM .yt).cells.toList.map V.lit) rfl (bR.lits (by simp[eM,Value.cells,Value.oneCell']))
 | .cU=>BN (c:=(eM .cU).cells.toList.map V.lit) rfl (bR.lits (by simp[eM,Value.cells,Value.oneCell']))
 | .Plain=>wj (c:=(eM .Plain).cells.toList.map V.lit) rfl (bR.lits (by simp[eM,Value.cells,Value.oneCell']))
 | .bJ=>zY (c:=(eM .bJ).cells.toList.map V.lit) rfl (bR.lits (by simp[eM,Value.cells,Value.oneCell']))
end
section
def GS(_:Nat):Prop:=False
def D6(_:World):Prop:=True
theorem D6.keep{w w':World}(_:D6 w)(_: ∀b,GS b→b<w.heap.size→w'.heap[b]? =w.heap[b]?):D6 w':=trivial
theorem D6.lt{w:World}(_:D6 w){b:Nat}(hb:GS b):b<w.heap.size:=hb.elim
end
section
inductive S1 where
 |a(v:V)
 |agg(l:List V)
inductive SV where
 |one(x:S1)
 |rC(l:List S1)
 |cond(p:List (Nat×Bool))(x:S1)
inductive Ja where
 |gone
 |nZ
 |of(n:Nat)
def Ja.name:Ja→Option Nat
 | .of n=>some n
 |_=>none
inductive Obj where
 |box(c:List V)
 |arr(t:Tag)(l:List (T t))
 |lT(t:Tag)(l:List (T t))(s:Ja)
structure St where
 n:Nat
 sl:List (Nat×SV)
 hp:List (Nat×Obj)
inductive TK where
 |int(k:IntKind)
 |bool
 |str
 |sl(t:Tag)(e:Nat)
 |st(z:List Value)(tg:List (Option Tag))(fo:List Nat)
 |other
abbrev Fm:Value:= .slice none 0 0
def iA(n:Nat):Bool:=Nat.ble 1000 n
def soft(n:Nat):Bool:=Nat.ble 900 n
def V.yA:V→V
 | .vw _ _ t l=> .sl t l
 |v=>v
def V.TZ:V→Bool
 | .vw _ _ _ _=>true
 |_=>false
def look{α:Type}:List (Nat×α)→Nat→Option α
 | [],_=>none
 | (j,x)::r,i=>match Nat.beq i j with|true=>some x|false=>look r i
def T0(q p:List (Nat×Bool)):Bool:=q.all fun e=>p.any fun f=>Nat.beq e.1 f.1&&e.2==f.2
def SV.mentions(d:Nat):SV→Bool
 | .cond p _=>p.any fun e=>Nat.beq e.1 d
 |_=>false
def SV.Ob(d:Nat)(v:SV):SV:=match v.mentions d with|true=> .one (.a .any)|false=>v
def St.put(st:St)(d:Option Nat)(v:SV):St:=
 match d with
 |some d=>match st.sl.any fun e=>e.2.mentions d with
  |false=>⟨st.n,(d,v)::st.sl,st.hp⟩
  |true=>⟨st.n,(d,v)::st.sl.map fun e=>(e.1,e.2.Ob d),st.hp⟩
 |none=>st
def gf(st:St)(p:List (Nat×Bool)):Operand→Option S1
 | .tmp t=>match look st.sl t with
   |some (.one x)=>some x
   |some (.cond q x)=>match T0 q p with|true=>some x|false=>none
   |_=>none
 | .const v=>match v.oneCell' with|true=>some (.a (.lit v))|false=>none
 | .func f=>some (.a (.lit (.func (.func f) #[] #[])))
 | .global _=>none
def XR(op:BinOp)(k:IntKind)(x y:Int):Option (List Prop×Value):=
 match op with
 | .add=>some ([], .int k (k.wrap (x+y)))
 | .sub=>some ([], .int k (k.wrap (x-y)))
 | .mul=>some ([], .int k (k.wrap (x*y)))
 | .quo=>some ([y≠0], .int k (k.wrap (x.tdiv y)))
 | .rem=>some ([y≠0], .int k (x.tmod y))
 | .eql=>some ([], .bool (x==y))
 | .neq=>some ([], .bool (x !=y))
 | .lss=>some ([], .bool (decide (x<y)))
 | .leq=>some ([], .bool (decide (x≤y)))
 | .gtr=>some ([], .bool (decide (x>y)))
 | .geq=>some ([], .bool (decide (x≥y)))
 | .and=>some ([], .int k (k.wrap (BitVec.ofInt k.bits x&&&BitVec.ofInt k.bits y).toNat))
 | .or=>some ([], .int k (k.wrap (BitVec.ofInt k.bits x|||BitVec.ofInt k.bits y).toNat))
 | .xor=>some ([], .int k (k.wrap (BitVec.ofInt k.bits x^^^BitVec.ofInt k.bits y).toNat))
 |_=>none
def RC(op:BinOp)(k k':IntKind)(x y:Int):Option (List Prop×Value):=
 match op with
 | .shl=>some ([0≤y], .int k (k.wrap (x*2^(min y.toNat k.bits))))
 | .shr=>some ([0≤y], .int k (x.fdiv (2^(min y.toNat k.bits))))
 |op=>match decEq k k' with|isTrue _=>XR op k x y|isFalse _=>none
def MD(op:BinOp)(x y:ByteArray):Option (List Prop×Value):=
 match op with
 | .eql=>some ([], .bool (x.toList==y.toList))
 | .neq=>some ([], .bool !(x.toList==y.toList))
 | .add=>some ([((x.size+y.size:Nat):Int)≤IntKind.i64.max], .string (x++y))
 |_=>none
def Dz(l:List UInt8):ByteArray:=⟨l.toArray⟩
def bytesOf(st:St):V→Option (List UInt8)
 | .sl .u8 l=>some l
 | .own n=>match look st.hp n with|some (.arr .u8 l)=>some l|_=>none
 | .vw _ _ .u8 l=>some l
 | .lit (.slice none 0 0)=>some []
 |_=>none
def lenOf(st:St)(k:TK):V→Option Int
 | .sl _ l=>match k with| .sl _ _=>some (l.length:Int)|_=>none
 | .own n=>match k with
   | .sl _ _=>match look st.hp n with|some (.arr _ l)=>some (l.length:Int)|_=>none
   |_=>none
 | .vw _ _ _ l=>match k with| .sl _ _=>some (l.length:Int)|_=>none
 | .lit (.slice none 0 0)=>match k with| .sl _ _=>some 0|_=>none
 | .lit (.string s)=>match k with| .str=>some (s.size:Int)|_=>none
 |_=>none
def nZ(st:St)(tg:Option Tag):V→Option V
 | .sl t l=>some (.sl t l)
 | .own n=>match look st.hp n with|some (.arr t l)=>some (.sl t l)|_=>none
 | .vw _ _ t l=>some (.sl t l)
 | .mix _ _ t l=>some (.sl t l)
 | .yu n=>match look st.hp n with
   |some (.lT t l .nZ)=>some (.sl t l)
   |some (.lT t l (.of _))=>some (.sl t l)
   |_=>none
 | .lit (.slice none 0 0)=>match tg with|some t=>some (.sl t [])|none=>none
 | .lit (.slice _ _ _)=>none
 | .lit v=>some (.lit v)
 |_=>none
def GU(st:St):List (Option Tag)→List V→Option (List V)
 |_,[]=>some []
 |tg,v::r=>match nZ st (match tg with|t::_=>t| []=>none) v,GU st (match tg with|_::ts=>ts| []=> []) r with
  |some x,some y=>some (x::y)
  |_,_=>none
def arg1(st:St)(k:TK):S1→Option S1
 | .a v=>match nZ st (match k with| .sl t _=>some t|_=>none) v with|some x=>some (.a x)|none=>none
 | .agg l=>match GU st (match k with| .st _ tg _=>tg|_=> []) l with|some x=>some (.agg x)|none=>none
def T1:S1→Bool
 | .a (.lit (.slice none 0 0))=>true
 |_=>false
def ME(b:Bool)(st:St)(k:TK)(v:S1):Option S1:=match b&&T1 v with|true=>some v|false=>arg1 st k v
def args(b:Bool)(Γ:Nat→TK)(st:St)(p:List (Nat×Bool)):List Operand→List Nat→Option (List S1)
 | [],_=>some []
 |x::r,t=>match gf st p x with
  |some v=>match ME b st (match t with|t::_=>Γ t| []=> .other) v,args b Γ st p r (match t with|_::ts=>ts| []=> [])with
   |some y,some ys=>some (y::ys)
   |_,_=>none
  |none=>none
structure CR where
 own:Bool
 rs:List S1
def ny(m:Nat):List V→List V×List (Nat×Obj)
 | []=>([],[])
 | .sl t l::r=>match ny (m+1) r with| (vs,os)=>(.own m::vs,(m, .arr t l)::os)
 | .vw _ _ t l::r=>match ny (m+1) r with| (vs,os)=>(.own (m+900)::vs,(m+900, .arr t l)::os)
 |v::r=>match ny (m+1) r with| (vs,os)=>(v::vs,os)
def rD(m:Nat):S1→S1×List (Nat×Obj)
 | .a v=>match ny m [v]with| ([v'],os)=>(.a v',os)|_=>(.a .any,[])
 | .agg l=>match ny m l with| (l',os)=>(.agg l',os)
def pS(m:Nat):List S1→List S1×List (Nat×Obj)
 | []=>([],[])
 |x::r=>match rD m x,pS (m+20) r with| (x',os),(r',os')=>(x'::r',os++os')
def gb:List (Nat×Obj)→Bool
 | []=>true
 | (n,_)::r=>(match look r n with|none=>true|some _=>false)&&gb r
def fresh(hp:List (Nat×Obj)):List (Nat×Obj)→Bool
 | []=>true
 | (n,_)::r=>((match look hp n with|none=>true|some _=>false)&& !iA n)&&fresh hp r
structure Out where
 vc:List Prop
 v:SV
 o:List (Nat×Obj)
def S1.GV:S1→Bool
 | .a v=> !v.TZ
 | .agg l=>l.all fun v=> !v.TZ
def S1.yA:S1→S1
 | .a v=> .a v.yA
 | .agg l=> .agg (l.map V.yA)
def outs(m:Nat)(c:CR)(vc:List Prop):Out:=
 match c.own with
 |true=>match pS m c.rs with
  | ([x],os)=>⟨vc, .one x,os⟩
  | (l,os)=>⟨vc, .rC l,os⟩
 |false=>match c.rs with
  | [x]=>match x.GV with
    |true=>⟨vc, .one x,[]⟩
    |false=>⟨vc, .one x.yA,[]⟩
  |l=>match l.all S1.GV with
   |true=>⟨vc, .rC l,[]⟩
   |false=>⟨vc, .rC (l.map S1.yA),[]⟩
def sub(c:List V)(off k:Nat):Option (List V):=match Nat.ble (off+k) c.length with|true=>some ((c.drop off).take k)|false=>none
def wm:List V→Nat→Option V
 | [],_=>none
 |v::_,0=>some v
 |_::r,n+1=>wm r n
def nu:List Nat→Nat→Option Nat
 | [],_=>none
 |v::_,0=>some v
 |_::r,n+1=>nu r n
def RD:S1→Option FuncId
 | .a (.lit (.func (.func f) ⟨[]⟩ ⟨[]⟩))=>some f
 |_=>none
def MF(st:St)(p:List (Nat×Bool))(z:Int):Option Operand→Option Int
 |none=>some z
 |some x=>match gf st p x with|some (.a (.lit (.int _ i)))=>some i|_=>none
def V6(n:Nat)(p:Option (Nat×Nat)):V→V
 | .sl t l=> .vw n p t l
 | .lit v=> .lit v
 |_=> .any
def T2(n i:Nat):Nat→List V→List V
 |_,[]=> []
 |o,v::r=>V6 n (some (i,o)) v::T2 n i (o+1) r
def T3(n:Nat):List V→List V
 | []=> []
 |v::r=>V6 n none v::T3 n r
def RE(st:St)(p:List (Nat×Bool))(x:Operand):Option (IntKind×Int):=match gf st p x with|some (.a (.lit (.int k i)))=>some (k,i)|_=>none
def wo(st:St)(p:List (Nat×Bool)):List Operand→Option (List (IntKind×Int))
 | []=>some []
 |x::r=>match RE st p x,wo st p r with|some y,some ys=>some (y::ys)|_,_=>none
def Fo(x y:Int):Int:=if y>x then y else x
def k9(x y:Int):Int:=if y<x then y else x
def D7(f:Int→Int→Int)(k:IntKind):Int→List (IntKind×Int)→Option Int
 |x,[]=>some x
 |x,(k',y)::r=>match decEq k k' with|isTrue _=>D7 f k (f x y) r|isFalse _=>none
def plain:List V→Bool
 | []=>true
 | .lit (.slice _ _ _)::_=>false
 | .lit _::r=>plain r
 |_=>false
def cellsOf:S1→List V
 | .a v=> [v]
 | .agg l=>l
def wq(hp:List (Nat×Obj)):List V→Option (List V×Nat)
 | .own n::r=>match look hp n,plain r with
   |some (.arr t l),true=>some (.sl t l::r,n)
   |_,_=>none
 | .lit (.slice _ _ _)::_=>none
 | .lit v::r=>match wq hp r with|some (c,n)=>some (.lit v::c,n)|none=>none
 |_=>none
def n7(st:St)(p:List (Nat×Bool))(g:Tag):Nat→List (Nat×Operand)→Option (List Prop×List (T g))
 |_,[]=>some ([],[])
 |i,(j,x)::r=>match Nat.beq i j,gf st p x with
  |true,some s=>match plain (cellsOf s),enc g (cellsOf s),n7 st p g (i+1) r with
   |true,some (vc,y),some (vcs,ys)=>some (vc++vcs,y::ys)
   |_,_,_=>none
  |_,_=>none
def Tf(n:Nat)(fo:List Nat)(j:Nat):Option Nat:=match nu fo j,nu fo (j+1)with
 |some a,some b=>some (b-a)
 |some a,none=>some (n-a)
 |_,_=>none
def rE:List V→Bool
 | []=>true
 | .any::_=>false
 |_::r=>rE r
def Jb(c:List V)(off:Nat)(vs:List V):Option (List V):=match Nat.ble (off+vs.length) c.length with
 |true=>some (c.take off++(vs++c.drop (off+vs.length)))
 |false=>none
def qx(st:St)(p:List (Nat×Bool))(n:Nat)(fo:List Nat):List (Nat×Operand)→List V→Option (List V)
 | [],c=>some c
 | (j,x)::r,c=>match nu fo j,Tf n fo j,gf st p x with
   |some o,some k,some s=>match rE (cellsOf s)&&Nat.beq (cellsOf s).length k,Jb c o (cellsOf s)with
    |true,some c'=>qx st p n fo r c'
    |_,_=>none
   |_,_,_=>none
def T4:Option (Nat×Nat)→Nat→Option (Nat×Nat×Nat)
 |some (a,b),j=>some (a,b,j)
 |none,_=>none
def dA(x:S1):Option Out:=some ⟨[], .one x,[]⟩
def Oc(st:St):Operand→Option Out
 | .tmp t=>match look st.sl t with|some (.rC l)=>some ⟨[], .rC l,[]⟩|_=>none
 |_=>none
def quiet(Γ:Nat→TK)(E:Tag→Nat→Prop)(S:FuncId→List S1→List S1→Prop)(cr:List (Nat×CR))(st:St)(p:List (Nat×Bool))(d m:Nat):Op→Option Out
 | .move x| .assign x=>match gf st p x with|some v=>dA v|none=>Oc st x
 | .pick (.tmp c) x y=>match gf st p (.tmp c),gf st ((c,true)::p) x,gf st ((c,false)::p) y with
   |some (.a (.lit (.bool t))),some (.a (.lit (.bool u))),some (.a (.lit (.bool v)))=>dA (.a (.lit (.bool (if t then u else v))))
   |_,_,_=>none
 | .box _ x=>match gf st p x with
   |some (.agg l)=>some ⟨[], .one (.a (.ptr m 0)),[(m, .box l)]⟩
   |some (.a .any)=>none
   |some (.a v)=>some ⟨[], .one (.a (.ptr m 0)),[(m, .box [v])]⟩
   |none=>none
 | .alloc t=>match Γ t with
   | .st z _ _=>some ⟨[], .one (.a (.ptr m 0)),[(m, .box (z.map .lit))]⟩
   |_=>none
 | .load t x=>match gf st p x with
   |some (.a (.ptr n off))=>match look st.hp n with
    |some (.box c)=>match Γ t with
     | .st z _ _=>match sub c off z.length with|some l=>dA (.agg l)|none=>none
     | .other=>none
     |_=>match wm c off with|some v=>dA (.a v)|none=>none
    |_=>none
   |some (.a (.ip g y off))=>match Γ t with
     | .st z _ _=>match sub (dec g y) off z.length with|some l=>dA (.agg l)|none=>none
     | .other=>none
     |_=>match wm (dec g y) off with|some v=>dA (.a v)|none=>none
   |some (.a (.Aw n _ g y off))=>match Γ t with
     | .st z _ _=>match sub (dec g y) off z.length with|some l=>dA (.agg (T3 n l))|none=>none
     | .other=>none
     |_=>match wm (dec g y) off with|some v=>dA (.a (V6 n none v))|none=>none
   |some (.a (.lS n i off))=>match look st.hp n with
    |some (.arr g l)=>match Γ t with
     | .st z _ _=>match sub (dec g (l.getD i (av g))) off z.length with|some c=>some ⟨[i<l.length], .one (.agg (T2 n i off c)),[]⟩|none=>none
     | .other=>none
     |_=>match wm (dec g (l.getD i (av g))) off with|some v=>some ⟨[i<l.length], .one (.a (V6 n (some (i,off)) v)),[]⟩|none=>none
    |_=>none
   |_=>none
 | .binOp op t x y _=>match gf st p x,gf st p y with
   |some (.a (.lit (.int k a))),some (.a (.lit (.int k' b)))=>match RC op k k' a b with|some (vc,v)=>some ⟨vc, .one (.a (.lit v)),[]⟩|none=>none
   |some (.a (.lit (.string a))),some (.a (.lit (.string b)))=>match MD op a b with|some (vc,v)=>some ⟨vc, .one (.a (.lit v)),[]⟩|none=>none
   |some (.a (.lit (.bool a))),some (.a (.lit (.bool b)))=>match Γ t,op with
    | .bool, .eql=>dA (.a (.lit (.bool (a==b))))
    | .bool, .neq=>dA (.a (.lit (.bool (a !=b))))
    |_,_=>none
   |_,_=>none
 | .unOp .not _ x=>match gf st p x with
   |some (.a (.lit (.bool t)))=>dA (.a (.lit (.bool (!t))))
   |_=>none
 | .unOp .neg _ x=>match gf st p x with
   |some (.a (.lit (.int k n)))=>dA (.a (.lit (.int k (k.wrap (0-n)))))
   |_=>none
 | .convert s t x=>match gf st p x,Γ s,Γ t with
   |some (.a (.lit (.int _ n))), .int _, .int k=>dA (.a (.lit (.int k (k.wrap n))))
   |some (.a v), .sl _ e, .str=>match Γ e,bytesOf st v with
    | .int .u8,some l=>dA (.a (.lit (.string (Dz l))))
    |_,_=>none
   |_,_,_=>none
 | .makeFunc (.func f) first captured=>match first.toList,captured.toList with
   | [],[x]=>match gf st p x with
     |some (.a (.ptr n 0))=>dA (.a (.yx f n))
     |_=>none
   |_,_=>none
 | .slice t x lo hi none=>match Γ t with
   | .sl g _=>match(look cr (d+600000)).isSome with
     |true=>match gf st p x,MF st p 0 lo,hi with
      |some (.a (.vw _ _ _ l)),some lo,none=>some ⟨[lo=(l.length:Int)], .one (.a (.sl g [])),[]⟩
      |some (.a (.tY k)),some lo,none=>some ⟨[lo=(k:Int)], .one (.a (.sl g [])),[]⟩
      |_,_,_=>none
     |false=>match gf st p x,MF st p 0 lo with
      |some (.a (.sl t' l)),some lo=>match MF st p l.length hi with
       |some hi=>match Nat.beq (kk g) (kk t')with
        |true=>some ⟨[0≤lo∧lo≤hi∧hi≤(l.length:Int)], .one (.a (.sl t' ((l.take hi.toNat).drop lo.toNat))),[]⟩
        |false=>none
       |none=>none
      |some (.a (.vw n _ t' l)),some lo=>match MF st p l.length hi with
       |some hi=>match Nat.beq (kk g) (kk t')with
        |true=>some ⟨[0≤lo∧lo≤hi∧hi≤(l.length:Int)], .one (.a (.vw n none t' ((l.take hi.toNat).drop lo.toNat))),[]⟩
        |false=>none
       |none=>none
      |some (.a (.own n)),some lo=>match look st.hp n with
       |some (.arr t' l)=>match MF st p l.length hi with
        |some hi=>match Nat.beq (kk g) (kk t')with
         |true=>some ⟨[0≤lo∧lo≤hi∧hi≤(l.length:Int)], .one (.a (.vw n none t' ((l.take hi.toNat).drop lo.toNat))),[]⟩
         |false=>none
        |none=>none
       |_=>none
      |_,_=>none
   | .str=>match gf st p x,MF st p 0 lo with
     |some (.a (.lit (.string s))),some lo=>match MF st p s.size hi with
      |some hi=>some ⟨[0≤lo∧lo≤hi∧hi≤(s.size:Int)], .one (.a (.lit (.string (s.extract lo.toNat hi.toNat)))),[]⟩
      |none=>none
     |_,_=>none
   |_=>none
 | .fieldAddr t x f=>match Γ t with
   | .st _ _ fo=>match nu fo f with
     |some k=>match gf st p x with
      |some (.a (.ptr n off))=>dA (.a (.ptr n (off+k)))
      |some (.a (.ip t x off))=>dA (.a (.ip t x (off+k)))
      |some (.a (.lS n i off))=>dA (.a (.lS n i (off+k)))
      |some (.a (.Aw n q t x off))=>dA (.a (.Aw n q t x (off+k)))
      |_=>none
     |none=>none
   |_=>none
 | .indexAddr ty x i=>match Γ ty with
   | .sl g _=>match gf st p x,gf st p i with
     |some (.a (.sl t l)),some (.a (.lit (.int _ i)))=>match Nat.beq (kk g) (kk t)with
      |true=>some ⟨[0≤i∧i<(l.length:Int)], .one (.a (.ip t (l.getD i.toNat (av t)) 0)),[]⟩
      |false=>none
     |some (.a (.own n)),some (.a (.lit (.int _ i)))=>match look st.hp n with
      |some (.arr t l)=>match Nat.beq (kk g) (kk t)with
       |true=>some ⟨[0≤i∧i<(l.length:Int)], .one (.a (.lS n i.toNat 0)),[]⟩
       |false=>none
      |_=>none
     |some (.a (.vw n q t l)),some (.a (.lit (.int _ i)))=>match Nat.beq (kk g) (kk t)with
      |true=>some ⟨[0≤i∧i<(l.length:Int)], .one (.a (.Aw n (T4 q i.toNat) t (l.getD i.toNat (av t)) 0)),[]⟩
      |false=>none
     |_,_=>none
   |_=>none
 | .makeSlice ty x y=>match Γ ty with
   | .sl g e=>match gf st p x,gf st p y with
     |some (.a (.lit (.int _ a))),some (.a (.lit (.int _ b)))=>some ⟨[E g e,a=b,0≤a,a.toNat*cN g≤140737488355328∧a.toNat≤maxLen], .one (.a (.own m)),[(m, .arr g (List.replicate a.toNat (av g)))]⟩
     |_,_=>none
   |_=>none
 | .buildSlice ty len parts=>match Γ ty with
   | .sl g e=>match(look cr (d+500000)).isSome with
     |true=>match Nat.beq len 1,parts.toList with
      |true,[(0,x)]=>match gf st p x with
       |some s=>match wq st.hp (cellsOf s)with
        |some (c,n)=>match enc g c,Nat.ble (kk g) 16777216 with
         |some (vc,y),true=>some ⟨E g e::vc, .one (.a (.AX n g [y])),[]⟩
         |_,_=>none
        |none=>none
       |none=>none
      |_,_=>none
     |false=>match Nat.beq parts.toList.length len,Nat.ble (len*kk g) 16777216,n7 st p g 0 parts.toList with
      |true,true,some (vc,xs)=>some ⟨E g e::vc, .one (.a (.own m)),[(m, .arr g xs)]⟩
      |_,_,_=>none
   |_=>none
 | .build ty parts=>match Γ ty with
   | .st z _ fo=>match qx st p z.length fo parts.toList (z.map .lit)with
     |some c=>dA (.agg c)
     |none=>none
   |_=>none
 | .nilCheck x=>match gf st p x with
   |some (.a (.ptr n off))=>dA (.a (.ptr n off))
   |some (.a (.lS n i off))=>dA (.a (.lS n i off))
   |_=>none
 | .call ⟨.builtin .max,xs,_⟩=>match wo st p xs.toList with
   |some ((k,x)::r)=>match D7 Fo k x r with|some y=>dA (.a (.lit (.int k y)))|none=>none
   |_=>none
 | .call ⟨.builtin .min,xs,_⟩=>match wo st p xs.toList with
   |some ((k,x)::r)=>match D7 k9 k x r with|some y=>dA (.a (.lit (.int k y)))|none=>none
   |_=>none
 | .extract (.tmp t) i=>match look st.sl t with
   |some (.rC l)=>match l[i]? with|some x=>dA x|none=>none
   |_=>none
 | .call ⟨.builtin .len,xs,ts⟩=>match xs.toList,ts.toList with
   | [x],[t]=>match gf st p x with
     |some (.a v)=>match lenOf st (Γ t) v with|some n=>dA (.a (.lit (.int .i64 n)))|none=>none
     |_=>none
   |_,_=>none
 | .call ⟨.value (.func f),xs,ts⟩=>match args (look cr (d+300000)).isSome Γ st p xs.toList ts.toList,look cr d with
   |some as,some c=>some (outs m c [S f as c.rs])
   |_,_=>none
 | .call ⟨.value (.tmp x),xs,ts⟩=>match gf st p (.tmp x)with
   |some v=>match RD v with
    |some f=>match args (look cr (d+300000)).isSome Γ st p xs.toList ts.toList,look cr d with
     |some as,some c=>some (outs m c [S f as c.rs])
     |_,_=>none
    |none=>none
   |none=>none
 |_=>none
def hyps(st:St):List (Nat×Bool)→List Prop
 | []=> []
 | (d,x)::r=>match look st.sl d with
   |some (.one (.a (.lit (.bool b))))=>(b=x)::hyps st r
   |some (.cond _ (.a (.lit (.bool b))))=>(b=x)::hyps st r
   |_=>hyps st r
def GW:List Prop→Prop→Prop
 | [],q=>q
 |h::r,q=>h→GW r q
def eN(st:St)(ops:List Oper)(o:Oper):Option (List (Nat×Bool)):=
 match o.guard with
 |none=>some []
 |some (j,x)=>match ops[j]? with
  |some q=>match q.dst with
   |some d=>match look st.sl d with
    |some (.one (.a (.lit (.bool _))))=>some [(d,x)]
    |some (.cond p (.a (.lit (.bool _))))=>some ((d,x)::p)
    |_=>none
   |none=>none
  |none=>none
def uI(st:St):Option Nat→Bool
 |some d=>Nat.blt d st.n
 |none=>true
def V7(cO:List (Nat×Nat)):Option Nat→Option Nat
 |some d=>match look cO d with|some m=>some m|none=>some d
 |none=>some 99999
def ld(Γ:Nat→TK)(E:Tag→Nat→Prop)(S:FuncId→List S1→List S1→Prop)(cO:List (Nat×Nat))(cr:List (Nat×CR))(ops:List Oper)(st:St)(o:Oper):Option (List Prop×SV×List (Nat×Obj)):=
 match uI st o.dst,V7 cO o.dst,eN st ops o with
 |true,some m,some []=>match quiet Γ E S cr st [] (o.dst.getD 0) m o.op with
  |some ⟨vc,v,os⟩=>match fresh st.hp os,gb os with
   |true,true=>some (vc,v,os)
   |_,_=>none
  |none=>none
 |true,some m,some (e::p)=>match(e::p).any (fun e=>o.dst==some e.1)with
  |false=>match quiet Γ E S cr st (e::p) (o.dst.getD 0) m o.op with
   |some ⟨vc, .one v,[]⟩=>some (vc.map (GW (hyps st (e::p))), .cond (e::p) v,[])
   |_=>none
  |true=>none
 |_,_,_=>none
def Od(Γ:Nat→TK)(E:Tag→Nat→Prop)(S:FuncId→List S1→List S1→Prop)(cO:List (Nat×Nat))(cr:List (Nat×CR))(ops:List Oper)(st:St)(o:Oper):Option (List Prop×St):=
 match ld Γ E S cO cr ops st o with
 |some (vc,v,os)=>some (vc,St.put ⟨st.n,st.sl,os++st.hp⟩ o.dst v)
 |none=>none
end
section
structure CO where
 v:Value
 fp:List Nat
abbrev Env:=Nat→CO
abbrev Hp:=List (Nat×Obj)
def Ow(hp:Hp)(env:Env)(b:Nat):Prop:= ∃n o,look hp n=some o∧b∈(env n).fp
def RV(w:World)(hp:Hp)(env:Env)(n:Nat)(p:Option (Nat×Nat))(t:Tag)(l:List (T t))(u:Value):Prop:=
 (∃t l,look hp n=some (.arr t l))∧(∃fp,Sl (kk t) (rd t) w u l fp∧fp.Nodup∧ ∀b,b∈fp→b∈(env n).fp)∧
   ∀i off,p=some (i,off)→ ∃t0 l0 b o len cap,look hp n=some (.arr t0 l0)∧i<l0.length∧wm (dec t0 (l0.getD i (av t0))) off=some (.sl t l)∧(env n).v= .slice (some ⟨b,o,none⟩) len cap∧b∈(env n).fp∧w.cell? ⟨b,o+i*kk t0+off,none⟩=some u
def Oe:ER Value:=fun _ cs x fp=>cs= [x]∧fp= []∧x.oneCell'=true
theorem wu:fF 1 Oe where
 bp:=by rintro w w' cs x fp ⟨rfl,rfl,h⟩ _;exact⟨rfl,rfl,h⟩
 lt:=by rintro w cs x fp ⟨rfl,rfl,_⟩ b hb;cases hb
 len:=by rintro w cs x fp ⟨rfl,rfl,_⟩;rfl
 one:=by rintro w cs x fp ⟨rfl,rfl,h⟩ u hu;rw[List.mem_singleton.1 hu];exact h
theorem GX{α:Type}{E:ER α}{w:World}{Pb:Nat→Prop}: ∀(us:List Value) (l:List α),us.length=l.length→(∀(i:Nat) (x:α) (u:Value),l[i]? =some x→us[i]? =some u→ ∃f,E w [u] x f∧ ∀b,b∈f→Pb b)→
  ∃bk:List (List Nat),bk.length=l.length∧ ∀(i:Nat) (x:α) (u:Value) (f:List Nat),l[i]? =some x→us[i]? =some u→bk[i]? =some f→E w [u] x f∧ ∀b,b∈f→Pb b
 | [],[],_,_=>⟨[],rfl,fun i x u f h=>by simp at h⟩
 |u::us,x::l,hl,h=>by
  obtain⟨f,hf⟩:=h 0 x u rfl rfl
  obtain⟨bk,h1,h2⟩:=GX us l (by simpa using hl) (fun i y v hy hv=>h (i+1) y v (by simpa using hy) (by simpa using hv))
  refine⟨f::bk,by simp[h1],fun i y v g hy hv hg=> ?_⟩
  cases i with
  |zero=>
   simp at hy hv hg
   subst hy;subst hv;subst hg
   exact hf
  |succ i=>exact h2 i y v g (by simpa using hy) (by simpa using hv) (by simpa using hg)
 | [],_::_,h,_=>by simp at h
 |_::_,[],h,_=>by simp at h
theorem MG{α:Type}{E:ER α}{w:World}{v:Value}{us:List Value}{l:List α}{fp:List Nat}{Pb:Nat→Prop}(h:Sl 1 Oe w v us fp)(hl:us.length=l.length)
  (hE: ∀(i:Nat) (x:α) (u:Value),l[i]? =some x→us[i]? =some u→ ∃f,E w [u] x f∧ ∀b,b∈f→Pb b): ∃ga,Sl 1 E w v l ga∧ ∀b,b∈ga→b∈fp∨Pb b:=by
 obtain⟨oa,cap,rfl,hc,hm,h3⟩:=h
 rcases h3 with⟨rfl,_,hn⟩| ⟨b,off,fs,rfl,hb,rfl,ZE⟩
 ·have:l= []:=List.length_eq_zero_iff.1 (by rw[←hl];rfl)
  subst this
  exact⟨[],⟨oa,cap,rfl,Nat.zero_le _,hm,Or.inl ⟨rfl,rfl,hn⟩⟩,by simp⟩
 ·obtain⟨bk,q1,q2⟩:=GX us l hl hE
  refine⟨b::bk.flatten,⟨_,cap,by rw[hl],by omega,hm,Or.inr ⟨b,off,bk,rfl,hb,rfl,q1,fun i x f hx hf=> ?_⟩⟩,fun c hc=> ?_⟩
  ·have hi:=(List.getElem?_eq_some_iff.1 hx).1
   obtain⟨u,hu⟩: ∃u,us[i]? =some u:=⟨_,List.getElem?_eq_getElem (by omega)⟩
   obtain⟨g,hg⟩: ∃g,fs[i]? =some g:=⟨_,List.getElem?_eq_getElem (by rw[ZE.1];omega)⟩
   obtain⟨cs,k1,k2,_,_⟩:=ZE.2 i u g hu hg
   subst k2
   exact⟨[u],k1,(q2 i x u f hx hu hf).1⟩
  ·rcases List.mem_cons.1 hc with rfl|hc
   ·exact Or.inl (by simp)
   ·obtain⟨f,hf,Yc⟩:=List.mem_flatten.1 hc
    obtain⟨i,hi⟩:=List.getElem?_of_mem hf
    have hil:=(List.getElem?_eq_some_iff.1 hi).1
    exact Or.inr ((q2 i l[i] us[i] f (List.getElem?_eq_getElem (by omega)) (List.getElem?_eq_getElem (by omega)) hi).2 c Yc)
def BE(w:World)(hp:Hp)(env:Env)(s:Ja)(t:Tag)(x:T t)(u:Value):Prop:=match s with
 | .gone=>True
 | .nZ=> ∃f,rd t w [u] x f∧ ∀b,b∈f→ ¬Ow hp env b
 | .of n=>(∃t l,look hp n=some (.arr t l))∧ ∃f,rd t w [u] x f∧ ∀b,b∈f→b∈(env n).fp∨ ¬Ow hp env b
def RA(w:World)(hp:Hp)(env:Env):V→Value→Prop
 | .any,_=>True
 | .lit v,u=>u=v∧v.oneCell'=true
 | .sl t l,u=> ∃fp,Sl (kk t) (rd t) w u l fp∧ ∀b,b∈fp→ ¬Ow hp env b
 | .own n,u=>(∃t l,look hp n=some (.arr t l))∧u=(env n).v
 | .ptr n off,u=>(∃c,look hp n=some (.box c))∧ ∃b,(env n).v= .pointer (some ⟨b,0,none⟩)∧u= .pointer (some ⟨b,off,none⟩)
 | .lS n i off,u=> ∃t l,look hp n=some (.arr t l)∧ ∃b o len cap,(env n).v= .slice (some ⟨b,o,none⟩) len cap∧u= .pointer (some ⟨b,o+i*kk t+off,none⟩)
 | .vw n p t l,u=>RV w hp env n p t l u
 | .AX n t l,u=>(∃t l,look hp n=some (.arr t l))∧ ∃b fp,Sl (kk t) (rd t) w u l (b::fp)∧ ¬Ow hp env b∧fp.Nodup∧ ∀c,c∈fp→c∈(env n).fp
 | .yu n,u=>(∃t l s,look hp n=some (.lT t l s))∧u=(env n).v
 | .mix n c t l,u=>(∃t l,look hp n=some (.arr t l))∧(∃fp,Sl (kk t) (rd t) w u l fp∧ ∀b,b∈fp→b∈(env n).fp∨ ¬Ow hp env b)∧(c=true→ ∃oa,u= .slice oa l.length l.length)
 | .Aw n p t x off,u=>(∃t l,look hp n=some (.arr t l))∧ ∃b o cs fp,u= .pointer (some ⟨b,o+off,none⟩)∧b∈(env n).fp∧w.rangeAt b o cs∧rd t w cs x fp∧fp.Nodup∧(∀c,c∈fp→c∈(env n).fp)∧
   ∀i o2 j,p=some (i,o2,j)→ ∃l u0 b0 n8 len cap,RV w hp env n (some (i,o2)) t l u0∧j<l.length∧x=l.getD j (av t)∧u0= .slice (some ⟨b0,n8,none⟩) len cap∧u= .pointer (some ⟨b0,n8+j*kk t+off,none⟩)
 | .yx f n,u=>(∃c,look hp n=some (.box c))∧ ∃b,(env n).v= .pointer (some ⟨b,0,none⟩)∧u= .func (.func f) #[] #[.pointer (some ⟨b,0,none⟩)]
 | .tY k,u=> ∃oa cap,u= .slice oa k cap∧k≤cap∧cap≤maxLen∧(oa=none→cap=0)
 | .ip t x off,u=> ∃b o cs fp,u= .pointer (some ⟨b,o+off,none⟩)∧b<w.heap.size∧w.rangeAt b o cs∧rd t w cs x fp∧ ¬Ow hp env b∧ ∀c,c∈fp→ ¬Ow hp env c
def bn{α β:Type}(R:α→β→Prop):List α→List β→Prop
 | [],[]=>True
 |a::as,b::bs=>R a b∧bn R as bs
 |_,_=>False
theorem bn.mono{α β:Type}{R R':α→β→Prop}: ∀{as:List α} {bs:List β},(∀a b,a∈as→R a b→R' a b)→bn R as bs→bn R' as bs
 | [],[],_,_=>trivial
 |a::as,b::bs,h,⟨h1,h2⟩=>⟨h a b (by simp) h1,bn.mono (fun a b ha=>h a b (List.mem_cons_of_mem _ ha)) h2⟩
 | [],_::_,_,h=>h.elim
 |_::_,[],_,h=>h.elim
theorem bn.len{α β:Type}{R:α→β→Prop}: ∀{as:List α} {bs:List β},bn R as bs→bs.length=as.length
 | [],[],_=>rfl
 |_::_,_::_,⟨_,h⟩=>by simp[bn.len h]
 | [],_::_,h=>h.elim
 |_::_,[],h=>h.elim
theorem bn.app{α β:Type}{R:α→β→Prop}: ∀{as as':List α} {bs bs':List β},bn R as bs→bn R as' bs'→bn R (as++as') (bs++bs')
 | [],_,[],_,_,h=>h
 |_::_,_,_::_,_,⟨h1,h2⟩,h=>⟨h1,bn.app h2 h⟩
 | [],_,_::_,_,h,_=>h.elim
 |_::_,_,[],_,h,_=>h.elim
theorem bn.drop{α β:Type}{R:α→β→Prop}: ∀{as:List α} {bs:List β} (n:Nat),bn R as bs→bn R (as.drop n) (bs.drop n)
 |_,_,0,h=>h
 | [],[],_+1,_=>trivial
 |_::_,_::_,n+1,⟨_,h⟩=>bn.drop n h
 | [],_::_,_,h=>h.elim
 |_::_,[],_,h=>h.elim
theorem bn.take{α β:Type}{R:α→β→Prop}: ∀{as:List α} {bs:List β} (n:Nat),bn R as bs→bn R (as.take n) (bs.take n)
 |_,_,0,_=>by simp[bn]
 | [],[],_+1,_=>trivial
 |_::_,_::_,n+1,⟨h1,h⟩=>⟨h1,bn.take n h⟩
 | [],_::_,_,h=>h.elim
 |_::_,[],_,h=>h.elim
theorem bn.at{α β:Type}{R:α→β→Prop}: ∀{as:List α} {bs:List β} {i:Nat} {x:α},bn R as bs→as[i]? =some x→ ∃y,bs[i]? =some y∧R x y
 |a::as,b::bs,0,x,⟨h1,_⟩,hx=>⟨b,rfl,by simp at hx;rw[←hx];exact h1⟩
 |a::as,b::bs,i+1,x,⟨_,h⟩,hx=>by
  obtain⟨y,hy,hr⟩:=bn.at (i:=i) h (by simpa using hx)
  exact⟨y,by simpa using hy,hr⟩
 | [],_,_,_,_,hx=>by simp at hx
 |_::_,[],_,_,h,_=>h.elim
def fG(w:World)(hp:Hp)(env:Env):S1→Value→Prop
 | .a v,u=>RA w hp env v u
 | .agg l,u=> ∃cs,u= .agg cs.toArray∧bn (RA w hp env) l cs
def holds(tmps:Array Value)(p:List (Nat×Bool)):Prop:= ∀e,e∈p→tmps[e.1]? =some (.bool e.2)
def oC(w:World)(hp:Hp)(env:Env)(tmps:Array Value):SV→Value→Prop
 | .one x,u=>fG w hp env x u
 | .rC l,u=> ∃us,u= .tuple us.toArray∧bn (fG w hp env) l us
 | .cond p x,u=>(holds tmps p→fG w hp env x u)∧(¬holds tmps p→u=undef)
variable(ty:Tag→Nat)
structure cA where
 w:World
 L:List Nat
 pv:Nat→CO
def mh(w:World)(n:Nat)(t:Tag)(l:List (T t))(co:CO):Prop:=
 match soft n with
 |true=>Sl (kk t) (rd t) w co.v l co.fp∧Own 0 w co.fp
 |false=>iR (kk t) (rd t) 0 (ty t) w co.v l co.fp
def RO(w:World)(hp:Hp)(env:Env)(n:Nat):Obj→CO→Prop
 | .box c,co=> ∃b cs e,co=⟨.pointer (some ⟨b,0,none⟩),[b]⟩∧w.heap[b]? =some (.cells (Array.mk cs) e (0,0))∧bn (RA w hp env) c cs
 | .arr t l,co=>mh ty w n t l co
 | .lT t l s,co=>kk t=1∧ ∃us,iR 1 Oe 0 (ty t) w co.v us co.fp∧us.length=l.length∧ ∀(i:Nat) (x:T t) (u:Value),l[i]? =some x→us[i]? =some u→BE w hp env s t x u
structure Good(zb:cA)(st:St)(tmps:Array Value)(w:World)(env:Env):Prop where
 obj: ∀n o,look st.hp n=some o→RO ty w st.hp env n o (env n)
 kj: ∀n m o o',n≠m→look st.hp n=some o→look st.hp m=some o'→ ∀b,b∈(env n).fp→b∉(env m).fp
 slot: ∀s v,look st.sl s=some v→oC w st.hp env tmps v (tmps.getD s undef)
 dom: ∀n o,look st.hp n=some o→ ∀b,b∈(env n).fp→b∈zb.L∨zb.w.heap.size≤b
 pins: ∀n,iA n=true→(env n).v=(zb.pv n).v∧ ∀b,b∈(env n).fp→b∈(zb.pv n).fp
structure Kept(zb:cA)(w w':World):Prop where
 os:w'.os=w.os
 tape:w'.tape=w.tape
 output:w'.output=w.output
 size:w.heap.size≤w'.heap.size
 block: ∀b,b<zb.w.heap.size→b∉zb.L→w'.heap[b]? =w.heap[b]?
 shape: ∀(b:Nat) (c:Array Value) (e:TypeId),w.heap[b]? =some (Go.Obj.cells c e (0,0))→ ∃c':Array Value,w'.heap[b]? =some (Go.Obj.cells c' e (0,0))∧c'.size=c.size
theorem Kept.refl(zb:cA)(w:World):Kept zb w w:=⟨rfl,rfl,rfl,Nat.le_refl _,fun _ _ _=>rfl,fun _ c _ h=>⟨c,h,rfl⟩⟩
theorem Kept.trans{zb:cA}{a b c:World}(h:Kept zb a b)(k:Kept zb b c):Kept zb a c:=
 ⟨k.os.trans h.os,k.tape.trans h.tape,k.output.trans h.output,Nat.le_trans h.size k.size,fun i hi hn=>(k.block i hi hn).trans (h.block i hi hn),fun i x e hx=>by
   obtain⟨c1,h1,h2⟩:=h.shape i x e hx
   obtain⟨c2,h3,h4⟩:=k.shape i c1 e h1
   exact⟨c2,h3,h4.trans h2⟩⟩
theorem iV{zb:cA}{w w':World}(h:Below w.heap.size w w')(hz:zb.w.heap.size≤w.heap.size):Kept zb w w':=
 ⟨h.os,h.tape,h.output,h.size,fun b hb _=>h.block b (Nat.lt_of_lt_of_le hb hz),fun b c e hc=>⟨c,by rw[h.block b (N9 hc)];exact hc,rfl⟩⟩
def Fp(zb:cA):Prop:=D6 zb.w∧ ∀b,GS b→b∉zb.L
theorem Fp.now{zb:cA}{w:World}(h:Fp zb)(k:Kept zb zb.w w):D6 w:=h.1.keep fun b hb hlt=>k.block b hlt (h.2 b hb)
theorem Fp.free{zb:cA}(h:Fp zb){b:Nat}(hb:b∈zb.L∨zb.w.heap.size≤b): ¬GS b:=fun h0=>by
 rcases hb with hb|hb
 ·exact h.2 b h0 hb
 ·have:=h.1.lt h0;omega
structure Inv(zb:cA)(st:St)(a:Act)(w:World):Prop where
 size:a.tmps.size=st.n
 defers:a.defers= []
 kept:Kept zb zb.w w
 A3:Fp zb
 good: ∃env,Good ty zb st a.tmps w env
variable{ty}
theorem RO.own{w:World}{hp:Hp}{env:Env}{n:Nat}{t:Tag}{l:List (T t)}{co:CO}(h:RO ty w hp env n (.arr t l) co):Own 0 w co.fp:=by
 replace h:mh ty w n t l co:=h
 unfold mh at h
 split at h
 ·exact h.2
 ·exact iR.own h
theorem RO.sl{w:World}{hp:Hp}{env:Env}{n:Nat}{t:Tag}{l:List (T t)}{co:CO}(h:RO ty w hp env n (.arr t l) co):Sl (kk t) (rd t) w co.v l co.fp:=by
 replace h:mh ty w n t l co:=h
 unfold mh at h
 split at h
 ·exact h.1
 ·exact iR.sl h
theorem RO.AX{w:World}{hp:Hp}{env:Env}{n:Nat}{t:Tag}{l:List (T t)}{s:Ja}{co:CO}(hs:s≠ .gone)(h:RO ty w hp env n (.lT t l s) co): ∃fp,Sl (kk t) (rd t) w co.v l fp:=by
 obtain⟨h1,us,hB,h2,h3⟩:=h
 obtain⟨fp,h4,_⟩:=MG (E:=rd t) (Pb:=fun _=>True) hB.sl h2 (fun i x u hx hu=>by
  have:=h3 i x u hx hu
  cases s with
  |gone=>exact absurd rfl hs
  |nZ=>obtain⟨f,q,_⟩:=this;exact⟨f,q,fun _ _=>trivial⟩
  |of n=>obtain⟨_,f,q,_⟩:=this;exact⟨f,q,fun _ _=>trivial⟩)
 rw[h1]
 exact⟨fp,h4⟩
theorem RO.KN{w:World}{hp:Hp}{env:Env}{n:Nat}{t:Tag}{l:List (T t)}{co:CO}(hn:soft n=false)(h:RO ty w hp env n (.arr t l) co):iR (kk t) (rd t) 0 (ty t) w co.v l co.fp:=by
 replace h:mh ty w n t l co:=h
 unfold mh at h
 rw[hn]at h
 exact h
theorem RO.D8{w:World}{hp:Hp}{env:Env}{n:Nat}{t:Tag}{l:List (T t)}{co:CO}(h:iR (kk t) (rd t) 0 (ty t) w co.v l co.fp):RO ty w hp env n (.arr t l) co:=by
 show mh ty w n t l co
 unfold mh
 split
 ·exact⟨iR.sl h,iR.own h⟩
 ·exact h
theorem RO.Of{w:World}{hp:Hp}{env:Env}{n:Nat}{t:Tag}{l:List (T t)}{co:CO}(hn:soft n=true)(h:Sl (kk t) (rd t) w co.v l co.fp)(ho:Own 0 w co.fp):RO ty w hp env n (.arr t l) co:=by
 show mh ty w n t l co
 unfold mh
 rw[hn]
 exact⟨h,ho⟩
theorem Og(m:Nat):soft (m+900)=true:=by
 unfold soft
 exact Nat.ble_eq_true_of_le (Nat.le_add_left 900 m)
theorem GY{n:Nat}(h:iA n=true):soft n=true:=by
 unfold iA at h;unfold soft
 exact Nat.ble_eq_true_of_le (Nat.le_trans (by decide) (Nat.le_of_ble_eq_true h))
theorem Oh{n:Nat}(h:soft n=false):iA n=false:=by
 cases hp:iA n with
 |false=>rfl
 |true=>rw[GY hp]at h;cases h
theorem RO.bp{w w':World}{hp iB:Hp}{env env':Env}{n:Nat}{t:Tag}{l:List (T t)}{co:CO}(h:RO ty w hp env n (.arr t l) co)(hk: ∀b,b∈co.fp→w'.heap[b]? =w.heap[b]?):RO ty w' iB env' n (.arr t l) co:=by
 replace h:mh ty w n t l co:=h
 show mh ty w' n t l co
 unfold mh at h ⊢
 split at h
 ·exact⟨Sl.bp (eT t) h.1 hk,h.2.bp hk⟩
 ·exact iR.bp (eT t) h hk
theorem RO.uV{w:World}{hp:Hp}{env:Env}{n:Nat}{o:Obj}{co:CO}(h:RO ty w hp env n o co): ∀b,b∈co.fp→b<w.heap.size:=by
 cases o with
 |box c=>
  obtain⟨b,cs,e,rfl,hh,_⟩:=h
  intro x hx
  simp at hx
  subst hx
  exact N9 hh
 |arr t l=>exact fun b hb=>(RO.own h).lt b hb
 |lT t l s=>obtain⟨_,us,hB,_⟩:=h;exact fun b hb=>hB.own.lt b hb
theorem Good.ow{zb:cA}{st:St}{tmps:Array Value}{w:World}{env:Env}(h:Good ty zb st tmps w env){b:Nat}(hb:Ow st.hp env b):(b∈zb.L∨zb.w.heap.size≤b)∧b<w.heap.size:=by
 obtain⟨n,o,h1,h2⟩:=hb
 exact⟨h.dom n o h1 b h2,(h.obj n o h1).uV b h2⟩
def V.name:V→Option Nat
 | .own n| .ptr n _| .lS n _ _| .vw n _ _ _| .Aw n _ _ _ _| .AX n _ _| .yx _ n| .mix n _ _ _| .yu n=>some n
 |_=>none
def V.view:V→Option Nat
 | .vw n _ _ _| .Aw n _ _ _ _| .AX n _ _| .mix n _ _ _=>some n
 |_=>none
def V.rF(K KV:Nat→Prop)(v:V):Prop:=(∀n,v.name=some n→K n)∧ ∀n,v.view=some n→KV n
theorem V.oD{v:V}{n:Nat}(h:v.view=some n):v.name=some n:=by
 cases v<;>simp_all [V.view,V.name]
theorem V.eD(v:V):v.rF (fun _=>True) (fun _=>True):=⟨fun _ _=>trivial,fun _ _=>trivial⟩
def Obj.like:Obj→Obj→Prop
 | .box _, .box _=>True
 | .arr t _, .arr t' _=>t=t'
 | .lT t _ _, .lT t' _ _=>t=t'
 |_,_=>False
structure Step(K KV:Nat→Prop)(w:World)(hp:Hp)(env:Env)(w':World)(iB:Hp)(env':Env):Prop where
 keep: ∀b,b<w.heap.size→ ¬Ow hp env b→w'.heap[b]? =w.heap[b]?
 own: ∀b,b<w.heap.size→Ow iB env' b→Ow hp env b
 name: ∀n o,K n→look hp n=some o→ ∃o',look iB n=some o'∧o.like o'∧(env' n).v=(env n).v
 view: ∀n t l,KV n→look hp n=some (.arr t l)→look iB n=some (.arr t l)∧env' n=env n∧ ∀b,b∈(env n).fp→w'.heap[b]? =w.heap[b]?
section
variable{K KV:Nat→Prop}{w w':World}{hp iB:Hp}{env env':Env}
theorem RA.step(s:Step K KV w hp env w' iB env'){v:V}{u:Value}(hv:v.rF K KV)(h:RA w hp env v u):RA w' iB env' v u:=by
 obtain⟨hv,hw⟩:=hv
 cases v with
 |any=>trivial
 |lit v=>exact h
 |sl t l=>
  obtain⟨fp,h1,h2⟩:=h
  have hlt:=Sl.lt (eT t) h1
  exact⟨fp,Sl.bp (eT t) h1 (fun b hb=>s.keep b (hlt b hb) (h2 b hb)),fun b hb hw=>h2 b hb (s.own b (hlt b hb) hw)⟩
 |own n=>
  obtain⟨⟨t,l,hl⟩,hu⟩:=h
  obtain⟨o',h1,h2,h3⟩:=s.name n _ (hv n rfl) hl
  cases o' with
  |box c=>exact h2.elim
  |arr t' l'=>exact⟨⟨t',l',h1⟩,by rw[hu,h3]⟩
  |lT t' l' s'=>exact h2.elim
 |ptr n off=>
  obtain⟨⟨c,hl⟩,b,hb,hu⟩:=h
  obtain⟨o',h1,h2,h3⟩:=s.name n _ (hv n rfl) hl
  cases o' with
  |box c'=>exact⟨⟨c',h1⟩,b,by rw[h3,hb],hu⟩
  |arr t' l'=>exact h2.elim
  |lT t' l' s'=>exact h2.elim
 |tY k=>exact h
 |yx f n=>
  obtain⟨⟨c,hl⟩,b,hb,hu⟩:=h
  obtain⟨o',h1,h2,h3⟩:=s.name n _ (hv n rfl) hl
  cases o' with
  |box c'=>exact⟨⟨c',h1⟩,b,by rw[h3,hb],hu⟩
  |arr t' l'=>exact h2.elim
  |lT t' l' s'=>exact h2.elim
 |lS n i off=>
  obtain⟨t,l,hl,b,o,len,cap,hb,hu⟩:=h
  obtain⟨o',h1,h2,h3⟩:=s.name n _ (hv n rfl) hl
  cases o' with
  |box c'=>exact h2.elim
  |arr t' l'=>
   have:t=t':=h2
   subst this
   exact⟨t,l',h1,b,o,len,cap,by rw[h3,hb],hu⟩
  |lT t' l' s'=>exact h2.elim
 |ip t x off=>
  obtain⟨b,o,cs,fp,hu,hb,hr,hE,h1,h2⟩:=h
  have hlt:=(eT t).lt hE
  have hkb:=s.keep b hb h1
  refine⟨b,o,cs,fp,hu,?_,fun j v hv=> ?_,(eT t).bp hE (fun c hc=>s.keep c (hlt c hc) (h2 c hc)),fun hw=>h1 (s.own b hb hw),fun c hc hw=>h2 c hc (s.own c (hlt c hc) hw)⟩
  ·have h3:w.heap[b]? =some w.heap[b]:=by simp[hb]
   rw[h3]at hkb
   exact(Array.getElem?_eq_some_iff.1 hkb).1
  ·rw[World.cell?_of_block (w:=w) (a:=⟨b,_,none⟩) hkb];exact hr j v hv
 |vw n p t l=>
  have Yg: ∀{p:Option (Nat×Nat)} {l:List (T t)} {u:Value},RV w hp env n p t l u→RV w' iB env' n p t l u:=by
   rintro p l u ⟨⟨tA,lA,hl⟩,⟨fp,h1,hnd,h2⟩,h3⟩
   obtain⟨q1,q2,q3⟩:=s.view n _ _ (hw n rfl) hl
   refine⟨⟨tA,lA,q1⟩,⟨fp,Sl.bp (eT t) h1 (fun b hb=>q3 b (h2 b hb)),hnd,fun b hb=>by rw[q2];exact h2 b hb⟩,fun i off hp=> ?_⟩
   obtain⟨t0,l0,b,o,len,cap,k1,k2,k3,k4,k5,k6⟩:=h3 i off hp
   rw[hl]at k1
   refine⟨t0,l0,b,o,len,cap,by rw[q1];exact k1,k2,k3,by rw[q2];exact k4,by rw[q2];exact k5,?_⟩
   rw[World.cell?_of_block (w:=w) (a:=⟨b,_,none⟩) (q3 b k5)];exact k6
  exact Yg h
 |yu n=>
  obtain⟨⟨t,l,r,hl⟩,hu⟩:=h
  obtain⟨o',h1,h2,h3⟩:=s.name n _ (hv n rfl) hl
  cases o' with
  |box c=>exact h2.elim
  |arr t' l'=>exact h2.elim
  |lT t' l' s'=>exact⟨⟨t',l',s',h1⟩,by rw[hu,h3]⟩
 |mix n c t l=>
  obtain⟨⟨tA,lA,hl⟩,⟨fp,h1,h2⟩,h3⟩:=h
  obtain⟨q1,q2,q3⟩:=s.view n _ _ (hw n rfl) hl
  have hlt:=Sl.lt (eT t) h1
  refine⟨⟨tA,lA,q1⟩,⟨fp,Sl.bp (eT t) h1 (fun b hb=> ?_),fun b hb=> ?_⟩,h3⟩
  ·rcases h2 b hb with h4|h4
   ·exact q3 b h4
   ·exact s.keep b (hlt b hb) h4
  ·rcases h2 b hb with h4|h4
   ·exact Or.inl (by rw[q2];exact h4)
   ·exact Or.inr fun hw=>h4 (s.own b (hlt b hb) hw)
 |AX n t l=>
  obtain⟨⟨tA,lA,hl⟩,b,fp,h1,hb,hnd,h2⟩:=h
  obtain⟨q1,q2,q3⟩:=s.view n _ _ (hw n rfl) hl
  have hlt:=Sl.lt (eT t) h1
  have DA:=hlt b (by simp)
  refine⟨⟨tA,lA,q1⟩,b,fp,Sl.bp (eT t) h1 (fun c hc=> ?_),fun hw=>hb (s.own b DA hw),hnd,fun c hc=>by rw[q2];exact h2 c hc⟩
  rcases List.mem_cons.1 hc with rfl|hc
  ·exact s.keep _ DA hb
  ·exact q3 c (h2 c hc)
 |Aw n p t x off=>
  have Yg: ∀{p:Option (Nat×Nat)} {l:List (T t)} {u:Value},RV w hp env n p t l u→RV w' iB env' n p t l u:=by
   rintro p l u ⟨⟨tA,lA,hl⟩,⟨fp,h1,hnd,h2⟩,h3⟩
   obtain⟨q1,q2,q3⟩:=s.view n _ _ (hw n rfl) hl
   refine⟨⟨tA,lA,q1⟩,⟨fp,Sl.bp (eT t) h1 (fun b hb=>q3 b (h2 b hb)),hnd,fun b hb=>by rw[q2];exact h2 b hb⟩,fun i off hp=> ?_⟩
   obtain⟨t0,l0,b,o,len,cap,k1,k2,k3,k4,k5,k6⟩:=h3 i off hp
   rw[hl]at k1
   refine⟨t0,l0,b,o,len,cap,by rw[q1];exact k1,k2,k3,by rw[q2];exact k4,by rw[q2];exact k5,?_⟩
   rw[World.cell?_of_block (w:=w) (a:=⟨b,_,none⟩) (q3 b k5)];exact k6
  obtain⟨⟨tA,lA,hl⟩,b,o,cs,fp,hu,hb,hr,hE,hnd,h2,h3⟩:=h
  obtain⟨q1,q2,q3⟩:=s.view n _ _ (hw n rfl) hl
  refine⟨⟨tA,lA,q1⟩,b,o,cs,fp,hu,by rw[q2];exact hb,fun j v hv=> ?_,(eT t).bp hE (fun c hc=>q3 c (h2 c hc)),hnd,fun c hc=>by rw[q2];exact h2 c hc,fun i o2 j hp=> ?_⟩
  ·rw[World.cell?_of_block (w:=w) (a:=⟨b,_,none⟩) (q3 b hb)];exact hr j v hv
  ·obtain⟨l,u0,b0,n8,len,cap,k1,k2⟩:=h3 i o2 j hp
   exact⟨l,u0,b0,n8,len,cap,Yg k1,k2⟩
end
def S1.vs:S1→List V
 | .a v=> [v]
 | .agg l=>l
def SV.vs:SV→List V
 | .one x=>x.vs
 | .rC l=>l.flatMap S1.vs
 | .cond _ x=>x.vs
section
variable{K KV:Nat→Prop}{w w':World}{hp iB:Hp}{env env':Env}
theorem fG.step(s:Step K KV w hp env w' iB env'){x:S1}{u:Value}(hv: ∀v,v∈x.vs→v.rF K KV)(h:fG w hp env x u):fG w' iB env' x u:=by
 cases x with
 |a v=>exact RA.step s (hv v (by simp[S1.vs])) h
 |agg l=>
  obtain⟨cs,hu,hl⟩:=h
  exact⟨cs,hu,hl.mono fun a b ha hr=>RA.step s (hv a ha) hr⟩
theorem oC.step(s:Step K KV w hp env w' iB env'){tmps:Array Value}{x:SV}{u:Value}(hv: ∀v,v∈x.vs→v.rF K KV)(h:oC w hp env tmps x u):oC w' iB env' tmps x u:=by
 cases x with
 |one x=>exact fG.step s hv h
 |rC l=>
  obtain⟨us,hu,hl⟩:=h
  exact⟨us,hu,hl.mono fun a b ha hr=>fG.step s (fun v hn=>hv v (by simp only[SV.vs,List.mem_flatMap];exact⟨a,ha,hn⟩)) hr⟩
 |cond p x=>exact⟨fun hh=>fG.step s hv (h.1 hh),h.2⟩
theorem BE.step(s:Step K KV w hp env w' iB env'){r:Ja}{t:Tag}{x:T t}{u:Value}(hv: ∀n,r.name=some n→KV n)(h:BE w hp env r t x u):BE w' iB env' r t x u:=by
 cases r with
 |gone=>trivial
 |nZ=>
  obtain⟨f,h1,h2⟩:=h
  have hlt:=(eT t).lt h1
  exact⟨f,(eT t).bp h1 (fun b hb=>s.keep b (hlt b hb) (h2 b hb)),fun b hb hw=>h2 b hb (s.own b (hlt b hb) hw)⟩
 |of n=>
  obtain⟨⟨tA,lA,hl⟩,f,h1,h2⟩:=h
  obtain⟨q1,q2,q3⟩:=s.view n _ _ (hv n rfl) hl
  have hlt:=(eT t).lt h1
  refine⟨⟨tA,lA,q1⟩,f,(eT t).bp h1 (fun b hb=> ?_),fun b hb=> ?_⟩
  ·rcases h2 b hb with h4|h4
   ·exact q3 b h4
   ·exact s.keep b (hlt b hb) h4
  ·rcases h2 b hb with h4|h4
   ·exact Or.inl (by rw[q2];exact h4)
   ·exact Or.inr fun hw=>h4 (s.own b (hlt b hb) hw)
def Obj.rF(K KV:Nat→Prop):Obj→Prop
 | .box c=> ∀v,v∈c→v.rF K KV
 | .arr _ _=>True
 | .lT _ _ s=> ∀n,s.name=some n→KV n
theorem Obj.eD(o:Obj):o.rF (fun _=>True) (fun _=>True):=by
 cases o with
 |box c=>exact fun v _=>v.eD
 |arr t l=>trivial
 |lT t l s=>exact fun _ _=>trivial
theorem RO.step(s:Step K KV w hp env w' iB env'){n:Nat}{o:Obj}{co:CO}(hv:o.rF K KV)
  (hk: ∀b,b∈co.fp→w'.heap[b]? =w.heap[b]?)(h:RO ty w hp env n o co):RO ty w' iB env' n o co:=by
 cases o with
 |box c=>
  obtain⟨b,cs,e,rfl,hh,hc⟩:=h
  exact⟨b,cs,e,rfl,by rw[hk b (by simp)];exact hh,hc.mono fun a u ha hr=>RA.step s (hv a ha) hr⟩
 |arr t l=>exact RO.bp h hk
 |lT t l r=>
  obtain⟨h1,us,hB,h2,h3⟩:=h
  exact⟨h1,us,iR.bp wu hB hk,h2,fun i x u hx hu=>BE.step s hv (h3 i x u hx hu)⟩
end
theorem aQ{α:Type}: ∀{os:List (Nat×α)} {l:List (Nat×α)} {n:Nat},look os n=none→look (os++l) n=look l n
 | [],_,_,_=>rfl
 | (j,x)::r,l,n,h=>by
   simp only[look,List.cons_append]at h ⊢
   split at h
   ·cases h
   ·exact aQ h
theorem bG{α:Type}: ∀{os:List (Nat×α)} {l:List (Nat×α)} {n:Nat} {x:α},look os n=some x→look (os++l) n=some x
 | (j,y)::r,l,n,x,h=>by
   simp only[look,List.cons_append]at h ⊢
   split at h
   ·exact h
   ·exact bG h
theorem eU{α:Type}: ∀{os:List (Nat×α)} {n:Nat} {x:α},look os n=some x→(n,x)∈os
 | (j,y)::r,n,x,h=>by
   simp only[look]at h
   split at h
   ·rename_i hb
    have:n=j:=Nat.eq_of_beq_eq_true hb
    simp at h
    simp[h,this]
   ·exact List.mem_cons_of_mem _ (eU h)
theorem mG{hp:Hp}: ∀{os:Hp},fresh hp os=true→ ∀n o,look os n=some o→look hp n=none
 | (j,y)::r,h,n,o,hl=>by
   simp only[fresh,Bool.and_eq_true]at h
   simp only[look]at hl
   split at hl
   ·rename_i hb
    have:n=j:=Nat.eq_of_beq_eq_true hb
    subst this
    cases hq:look hp n with
    |none=>rfl
    |some z=>simp[hq]at h
   ·exact mG h.2 n o hl
theorem yB{hp:Hp}: ∀{os:Hp},fresh hp os=true→ ∀n o,look os n=some o→iA n=false
 | (j,y)::r,h,n,o,hl=>by
   simp only[fresh,Bool.and_eq_true]at h
   simp only[look]at hl
   split at hl
   ·rename_i hb
    have:n=j:=Nat.eq_of_beq_eq_true hb
    subst this
    simpa using h.1.2
   ·exact yB h.2 n o hl
structure lf(w w':World)(hp:Hp)(os:Hp)(env env':Env):Prop where
 below:Below w.heap.size w w'
 old: ∀n,look os n=none→env' n=env n
 obj: ∀n o,look os n=some o→RO ty w' (os++hp) env' n o (env' n)∧ ∀b,b∈(env' n).fp→w.heap.size≤b
 kj: ∀n m o o',n≠m→look os n=some o→look os m=some o'→ ∀b,b∈(env' n).fp→b∉(env' m).fp
theorem lf.none{w w':World}{hp:Hp}{env:Env}(h:Below w.heap.size w w'):lf (ty:=ty) w w' hp [] env env:=
 ⟨h,fun _ _=>rfl,fun _ _ h=>by simp[look]at h,fun _ _ _ _ _ h=>by simp[look]at h⟩
theorem lf.step{zb:cA}{st:St}{tmps:Array Value}{w w':World}{os:Hp}{env env':Env}(g:Good ty zb st tmps w env)(hf:fresh st.hp os=true)(h:lf (ty:=ty) w w' st.hp os env env'):
  Step (fun _=>True) (fun _=>True) w st.hp env w' (os++st.hp) env' where
 keep:=fun b hb _=>h.below.block b hb
 own:=by
  rintro b hb ⟨n,o,h1,h2⟩
  cases hn:look os n with
  |none=>
   rw[aQ hn]at h1
   rw[h.old n hn]at h2
   exact⟨n,o,h1,h2⟩
  |some o'=>
   have:=(h.obj n o' hn).2 b h2
   omega
 name:=by
  intro n o _ h1
  have hn:look os n= .none:=by
   cases hn:look os n with
   |none=>rfl
   |some o'=>rw[mG hf n o' hn]at h1;cases h1
  refine⟨o,by rw[aQ hn];exact h1,?_,by rw[h.old n hn]⟩
  cases o<;>simp[Obj.like]
 view:=by
  intro n t l _ h1
  have hn:look os n= .none:=by
   cases hn:look os n with
   |none=>rfl
   |some o'=>rw[mG hf n o' hn]at h1;cases h1
  exact⟨by rw[aQ hn];exact h1,h.old n hn,fun b hb=>h.below.block b ((g.obj n _ h1).uV b hb)⟩
theorem Good.grow{zb:cA}{st:St}{tmps:Array Value}{w w':World}{os:Hp}{env env':Env}(hB:zb.w.heap.size≤w.heap.size)(g:Good ty zb st tmps w env)(hf:fresh st.hp os=true)(h:lf (ty:=ty) w w' st.hp os env env'):
  Good ty zb ⟨st.n,st.sl,os++st.hp⟩ tmps w' env':=by
 have s:=h.step g hf
 refine⟨fun n o hl=> ?_,fun n m o o' hne h1 h2 b hb hb'=> ?_,fun t v hl=>oC.step s (fun v _=>v.eD) (g.slot t v hl),fun n o hl b hb=> ?_,fun n hn=> ?_⟩
 ·cases hn:look os n with
  |some o'=>
   rw[bG hn]at hl
   simp only[Option.some.injEq]at hl
   subst hl
   exact(h.obj n _ hn).1
  |none=>
   rw[aQ hn]at hl
   rw[h.old n hn]
   have hro:=g.obj n o hl
   exact hro.step s o.eD (fun b hb=>h.below.block b (hro.uV b hb))
 ·cases hn:look os n with
  |some x=>
   cases hm:look os m with
   |some y=>exact h.kj n m x y hne hn hm b hb hb'
   |none=>
    rw[aQ hm]at h2
    rw[h.old m hm]at hb'
    have h3:=(h.obj n x hn).2 b hb
    have h4:=(g.obj m o' h2).uV b hb'
    omega
  |none=>
   rw[aQ hn]at h1
   rw[h.old n hn]at hb
   cases hm:look os m with
   |some y=>
    have h3:=(h.obj m y hm).2 b hb'
    have h4:=(g.obj n o h1).uV b hb
    omega
   |none=>
    rw[aQ hm]at h2
    rw[h.old m hm]at hb'
    exact g.kj n m o o' hne h1 h2 b hb hb'
 ·cases hn:look os n with
  |some x=>exact Or.inr (Nat.le_trans hB ((h.obj n x hn).2 b hb))
  |none=>
   rw[aQ hn]at hl
   rw[h.old n hn]at hb
   exact g.dom n o hl b hb
 ·cases hq:look os n with
  |none=>rw[h.old n hq];exact g.pins n hn
  |some x=>have:=yB hf n x hq;rw[hn]at this;cases this
end
end Go.Proofs.YtmcgjpdljafkeaaGreat.G
namespace Go.Proofs.YtmcgjpdljafkeaaGreat.L
set_option linter.all false
open Go.RowKit
section
structure fm(fp:List Nat)(w w':World):Prop where
 os:w'.os=w.os
 tape:w'.tape=w.tape
 output:w'.output=w.output
 size:w.heap.size≤w'.heap.size
 block: ∀b,b<w.heap.size→b∉fp→w'.heap[b]? =w.heap[b]?
theorem fm.refl(fp:List Nat)(w:World):fm fp w w:=⟨rfl,rfl,rfl,Nat.le_refl _,fun _ _ _=>rfl⟩
theorem fm.mono{fp fq:List Nat}{w w':World}(h:fm fp w w')(hs: ∀b,b∈fp→b∈fq):fm fq w w':=⟨h.os,h.tape,h.output,h.size,fun b hb hn=>h.block b hb fun hm=>hn (hs b hm)⟩
theorem fm.trans{fp:List Nat}{a b c:World}(h:fm fp a b)(k:fm fp b c):fm fp a c:=
 ⟨k.os.trans h.os,k.tape.trans h.tape,k.output.trans h.output,Nat.le_trans h.size k.size,fun i hi hn=>(k.block i (Nat.lt_of_lt_of_le hi h.size) hn).trans (h.block i hi hn)⟩
theorem fm.below{fp:List Nat}{w w':World}{B:Nat}(h:fm fp w w')(hB:B≤w.heap.size)(hg: ∀b,b∈fp→B≤b):Below B w w':=
 ⟨h.os,h.tape,h.output,h.size,fun b hb=>h.block b (Nat.lt_of_lt_of_le hb hB) fun hm=>Nat.not_le_of_lt hb (hg b hm)⟩
theorem fm.bp{fp fq:List Nat}{w w':World}(h:fm fp w w')(hl: ∀b,b∈fq→b<w.heap.size)(hd: ∀b,b∈fq→b∉fp):ew w w' fq:=fun b hb=>h.block b (hl b hb) (hd b hb)
section
variable{α:Type}{k:Nat}{E:ER α}{lo e g n:Nat}{w w':World}{l:List α}{bk:List (List Nat)}
theorem tK{bk:List (List Nat)}(h:bk.flatten.Nodup){i j:Nat}{f f':List Nat}(hi:bk[i]? =some f)(hj:bk[j]? =some f')(hne:i≠j): ∀b,b∈f→b∉f':=by
 intro b hb hb'
 have hp:=(List.pairwise_flatten.1 h).2
 rw[List.pairwise_iff_getElem]at hp
 obtain⟨hi1,rfl⟩:=List.getElem?_eq_some_iff.1 hi
 obtain⟨OD,rfl⟩:=List.getElem?_eq_some_iff.1 hj
 rcases Nat.lt_or_ge i j with h1|h1
 ·exact hp i j hi1 OD h1 b hb b hb' rfl
 ·exact hp j i OD hi1 (by omega) b hb' b hb rfl
theorem Part.set(G:fF k E)(h:Part k E lo e w g n l bk){i:Nat}{f:List Nat}{cs:List Value}{x':α}(hi:i<l.length)(hin:i<n)(hf:bk[i]? =some f)(hE:E w cs x' f):
  Part k E lo e (w.setCells g (i*k) cs) g n (l.set i x') bk:=by
 have hlen:=G.len hE
 have hnd:=h.own.nodup
 rw[List.nodup_cons]at hnd
 obtain⟨c,hc,hs⟩:=h.uV
 obtain⟨c',I9,hs'⟩:=ef g e cs (i*k) w c hc
 have Rt:w.there g (i*k) cs.length:=by rw[hlen];exact h.there _ hin
 have Bv: ∀b,b∈bk.flatten→b≠g:=fun b hb e=>hnd.1 (e▸hb)
 have KF:ew w (w.setCells g (i*k) cs) bk.flatten:=fun b hb=>cz g cs _ w b (Bv b hb)
 refine⟨⟨c',I9,by rw[hs',hs]⟩,⟨by rw[List.length_set];exact h.el.1,fun j y fy hy tB=> ?_⟩,⟨h.own.nodup,h.own.ge,fun b hb=> ?_⟩,h.cap⟩
 ·by_cases hj:i=j
  ·subst hj
   rw[List.getElem?_set_self hi]at hy
   simp only[Option.some.injEq]at hy
   subst hy
   rw[hf]at tB
   simp only[Option.some.injEq]at tB
   subst tB
   refine⟨cs,?_,G.bp hE (KF.sub fun b hb=>b9 hf hb)⟩
   rw[Nat.zero_add]
   exact World.rangeAt_setCells_same w g _ cs Rt
  ·rw[List.getElem?_set_ne hj]at hy
   obtain⟨cy,hr,NT⟩:=h.el.2 j y fy hy tB
   refine⟨cy,World.rangeAt_setCells_apart hr _ _ _ (Or.inr ?_),G.bp NT (KF.sub fun b hb=>b9 tB hb)⟩
   rw[G.len NT,hlen]
   rcases Nat.lt_or_ge j i with h1|h1
   ·left
    have:=Nat.mul_le_mul_right k (show j+1≤i by omega)
    rw[Nat.add_mul]at this;omega
   ·right
    have:=Nat.mul_le_mul_right k (show i+1≤j by omega)
    rw[Nat.add_mul]at this;omega
 ·rcases List.mem_cons.1 hb with rfl|hb
  ·exact⟨_,_,I9⟩
  ·rw[KF b hb];exact h.own.kind b (List.mem_cons_of_mem _ hb)
theorem Part.KN(G:fF k E)(h:Part k E lo e w g n l bk)(hn:l.length≤n):iR k E lo e w (.slice (some ⟨g,0,none⟩) l.length n) l (g::bk.flatten):=by
 obtain⟨c,hc,hs⟩:=h.uV
 have hk:l.length*k≤n*k:=Nat.mul_le_mul_right k hn
 refine⟨c.toList.take (l.length*k),bk,⟨by rw[List.length_take,show c.toList.length=n*k from hs];exact Nat.min_eq_left hk,Or.inr ⟨g,n,c,rfl,h.own.ge g (by simp),hc,hn,h.cap,hs,rfl⟩⟩,h.el.1,fun i x f hx hf=> ?_,rfl,h.own⟩
 obtain⟨cs,hr,hE⟩:=h.el.2 i x f hx hf
 have hlen:=G.len hE
 have hi:i<l.length:=(List.getElem?_eq_some_iff.1 hx).1
 have h5:i*k+k≤l.length*k:=by
  have:=Nat.mul_le_mul_right k (show i+1≤l.length by omega)
  rw[Nat.add_mul]at this;omega
 have:((c.toList.take (l.length*k)).drop (i*k)).take k=cs:=by
  apply List.ext_getElem?
  intro j
  by_cases hj:j<k
  ·rw[List.getElem?_take,if_pos hj,List.getElem?_drop,List.getElem?_take,if_pos (by omega)]
   have h6:=hr j _ (List.getElem?_eq_getElem (by omega))
   rw[Nat.zero_add]at h6
   simp[World.cell?,hc]at h6
   rw[List.getElem?_eq_getElem (show j<cs.length by omega)]
   simp[h6]
  ·rw[List.getElem?_take,if_neg hj,List.getElem?_eq_none (by omega)]
 rw[this];exact hE
theorem iR.part{v:Value}{fp:List Nat}(h:iR k E lo e w v l fp):(v= .slice none 0 0∧l= []∧fp= [])∨ ∃g n bk,v= .slice (some ⟨g,0,none⟩) l.length n∧l.length≤n∧fp=g::bk.flatten∧Part k E lo e w g n l bk:=by
 obtain⟨xs,bk,⟨hxl,ho⟩,hl,hel,gA,hown⟩:=h
 rcases ho with⟨rfl,h0⟩| ⟨g,cap,cur,rfl,hg,hc,hn,XP,hcs,MP⟩
 ·have Yp:l= []:=List.eq_nil_of_length_eq_zero h0
  have:bk= []:=List.eq_nil_of_length_eq_zero (by omega)
  exact Or.inl ⟨rfl,Yp,by rw[gA,this];rfl⟩
 ·refine Or.inr ⟨g,cap,bk,rfl,hn,gA,⟨⟨cur,hc,hcs⟩,⟨hl,fun i x f hx hf=>⟨_,?_,hel i x f hx hf⟩⟩,by rw[gA]at hown;exact hown,XP⟩⟩
  intro j u hu
  have hi:i<l.length:=(List.getElem?_eq_some_iff.1 hx).1
  rw[List.getElem?_take]at hu
  split at hu
  ·rename_i hj
   rw[List.getElem?_drop, ←MP,List.getElem?_take]at hu
   split at hu
   ·simp only[World.cell?,hc]
    rw[Array.getElem?_toList]at hu
    rw[Nat.zero_add]
    simpa using hu
   ·cases hu
  ·cases hu
structure OE{α:Type}(k:Nat)(E:ER α)(lo:Nat)(w:World)(b off:Nat)(l:List α)(bk:List (List Nat)):Prop where
 el:uF k E w b off l bk
 own:Own lo w (b::bk.flatten)
theorem OE.lt{b off:Nat}(h:OE k E lo w b off l bk):b<w.heap.size:=h.own.lt b (by simp)
theorem OE.set(G:fF k E){b off:Nat}(h:OE k E lo w b off l bk){i o:Nat}{f:List Nat}{vs cs:List Value}{x':α}(hi:i<l.length)(ho:o+vs.length≤k)(hf:bk[i]? =some f)
  (hr:(w.setCells b (off+i*k+o) vs).rangeAt b (off+i*k) cs)(hE:E w cs x' f):
  OE k E lo (w.setCells b (off+i*k+o) vs) b off (l.set i x') bk:=by
 have hlen:=G.len hE
 have hnd:=h.own.nodup
 rw[List.nodup_cons]at hnd
 have Bv: ∀c,c∈bk.flatten→c≠b:=fun c hc e=>hnd.1 (e▸hc)
 have KF:ew w (w.setCells b (off+i*k+o) vs) bk.flatten:=fun c hc=>cz b vs _ w c (Bv c hc)
 refine⟨⟨by rw[List.length_set];exact h.el.1,fun j y fy hy tB=> ?_⟩,⟨h.own.nodup,h.own.ge,fun c hc=> ?_⟩⟩
 ·by_cases hj:i=j
  ·subst hj
   rw[List.getElem?_set_self hi]at hy
   simp only[Option.some.injEq]at hy
   subst hy
   rw[hf]at tB
   simp only[Option.some.injEq]at tB
   subst tB
   exact⟨cs,hr,G.bp hE (KF.sub fun b hb=>b9 hf hb)⟩
  ·rw[List.getElem?_set_ne hj]at hy
   obtain⟨cy,hr,NT⟩:=h.el.2 j y fy hy tB
   refine⟨cy,World.rangeAt_setCells_apart hr _ _ _ (Or.inr ?_),G.bp NT (KF.sub fun b hb=>b9 tB hb)⟩
   rw[G.len NT]
   rcases Nat.lt_or_ge j i with h1|h1
   ·left
    have:=Nat.mul_le_mul_right k (show j+1≤i by omega)
    rw[Nat.add_mul]at this;omega
   ·right
    have:=Nat.mul_le_mul_right k (show i+1≤j by omega)
    rw[Nat.add_mul]at this;omega
 ·rcases List.mem_cons.1 hc with rfl|hc
  ·obtain⟨c0,e0,hk⟩:=h.own.kind c (by simp)
   obtain⟨c',I9,_⟩:=ef c e0 vs (off+i*k+o) w c0 hk
   exact⟨_,_,I9⟩
  ·rw[KF c hc];exact h.own.kind c (List.mem_cons_of_mem _ hc)
end
end
end Go.Proofs.YtmcgjpdljafkeaaGreat.L
