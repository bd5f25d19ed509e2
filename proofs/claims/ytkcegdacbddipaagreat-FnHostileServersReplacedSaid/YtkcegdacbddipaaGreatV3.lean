/-
  Slices that the call has made, written again: an element replaced; an element's own memory written by a call.
-/
import Derived.OpenShut
import Derived.ProofKit
import Derived.Test.YtkcegdacbddipaaGreatV2
namespace Go.Proofs.YtkcegdacbddipaaGreat.L
set_option linter.all false
open Go.RowKit Go.ChangeShapes Go.WideShapes Go.ChangeAt D
section
section
variable{H:Type}(enc:TypeId×Value→H)(P:Program)(w:World)(spare:Nat→Bool)(held:Bool)
def PU{α:Type}(t:TypeId)(E:ER α)(W:α→Prop):Prop:=
 ∀fuel cs y,DataW.trod enc P w 0 spare held fuel t cs=some y→ ∃x fp,E w cs x fp∧W x
variable{enc P w spare held}
theorem HU{t:TypeId}(ht:P.underlying t=some (.int .u8)):PU enc P w spare held t Kr (fun _=>True):=by
 intro fuel cs y h
 obtain⟨n,rfl,_,hw⟩:=DataW.trod_int ht h
 have hb:=bounds_u8 hw
 refine⟨UInt8.ofNat n.toNat,[],⟨?_,rfl⟩,trivial⟩
 have:((UInt8.ofNat n.toNat).toNat:Int)=n:=by
  rw[UInt8.toNat_ofNat'];omega
 rw[this]
theorem HV{α:Type} [Inhabited α]{k:Nat}{E:ER α}{W:α→Prop}{t e:TypeId}(ht:P.underlying t=some (.slice e))(hk:P.cellsOf e=k)(hpos:0<k)(ho:PU enc P w spare held e E W)(hspare: ∀b,spare b=true:=by exact fun _=>rfl):
  PU enc P w spare held t (Zs k E) (fun l=> ∀x,x∈l→W x):=by
 intro fuel cs y h
 rcases Go.Deep.open_slice ht h with⟨rfl,_⟩| ⟨a,len,cap,m,n,D,Pl,rfl,_,hl,hm,hmm,_,hx⟩
 ·exact⟨[],[],⟨_,rfl,none,0,rfl,Nat.le_refl _,Nat.zero_le _,Or.inl ⟨rfl,rfl,rfl⟩⟩,by simp⟩
 rw[hk]at hx
 rw[if_pos (hspare _)]at hmm
 subst hmm
 by_cases h0:m=0
 ·subst h0
  have:len=0:=by omega
  subst this
  exact⟨[],[],⟨_,rfl,some a,0,rfl,hl,hm,Or.inl ⟨rfl,rfl,rfl⟩⟩,by simp⟩
 have hsp:a.spot=none:=by
  obtain⟨cs',hc,_⟩:=hx 0 (by omega)
  obtain⟨_,h1,h2⟩:=World.cells?_some hc
  have h3:=h2 0 (by omega)
  have ha:((a.add (0*k)).add 0)=a:=by simp[Addr.add]
  rw[ha]at h3
  have hlen:0<cs'.length:=by omega
  rw[List.getElem?_eq_getElem hlen]at h3
  simp only[World.cell?]at h3
  split at h3
  ·split at h3
   ·cases h3
   ·rename_i hs;simpa using hs
  ·cases h3
 obtain⟨b,off,rfl⟩: ∃b off,a=⟨b,off,none⟩:=⟨a.block,a.off,by cases a;simp_all⟩
 have hel: ∀i,i<len→ ∃q:α×List Nat,(∃cs',w.rangeAt b (off+i*k) cs'∧E w cs' q.1 q.2)∧W q.1:=by
  intro i hi
  obtain⟨cs',hc,htr⟩:=hx i (by omega)
  obtain⟨x,fp,hE,hW⟩:=ho _ _ _ htr
  obtain⟨_,h1,h2⟩:=World.cells?_some hc
  refine⟨(x,fp),⟨cs',fun j v hv=> ?_,hE⟩,hW⟩
  have hj:=(List.getElem?_eq_some_iff.1 hv).1
  have:=h2 j (by omega)
  rw[Addr.add_mid,Addr.add_mid,hv]at this
  exact this
 obtain⟨f,hf⟩:=Go.Deep.choose_lt hel
 refine⟨(List.range len).map fun i=>(f i).1,b::((List.range len).map fun i=>(f i).2).flatten,⟨_,rfl,some ⟨b,off,none⟩,m,by simp,by simpa using hl,hm,Or.inr ⟨b,off,(List.range len).map fun i=>(f i).2,rfl,?_,rfl,by simp,?_⟩⟩,?_⟩
 ·obtain⟨cs',hc,_⟩:=hx (m-1) (by omega)
  obtain⟨_,h1,h2⟩:=World.cells?_some hc
  have h3:=h2 (k-1) (by omega)
  rw[Addr.add_mid,Addr.add_mid,List.getElem?_eq_getElem (by omega)]at h3
  have hmk:off+(m-1)*k+(k-1)+1=off+m*k:=by
   obtain⟨q,rfl⟩: ∃q,m=q+1:=⟨m-1,by omega⟩
   rw[Nat.add_sub_cancel,Nat.add_mul];omega
  simp only[World.cell?]at h3
  split at h3
  ·rename_i c e fz hb
   refine⟨c,e,fz,hb,?_⟩
   have h4:off+(m-1)*k+(k-1)<c.size:=by
    apply Decidable.byContradiction
    intro hge
    simp[Array.getElem?_eq_none (show c.size≤off+(m-1)*k+(k-1)by omega)]at h3
   omega
  ·cases h3
 ·intro i x fp hx eR
  have hi:i<len:=by have:=(List.getElem?_eq_some_iff.1 hx).1;simpa using this
  simp[hi]at hx eR
  subst hx;subst eR
  exact(hf i hi).1
 ·intro x hx
  simp only[List.mem_map,List.mem_range]at hx
  obtain⟨i,hi,rfl⟩:=hx
  exact(hf i hi).2
end
end
end Go.Proofs.YtkcegdacbddipaaGreat.L
namespace Go.Proofs.YtkcegdacbddipaaGreat.G
set_option linter.all false
open Go.RowKit L D
section
inductive Tag where
 |int|u8|str|sl(t:Tag)|DB|aM|aX|aJ|iC|dK|bg|aV|Ev|yH|dG|Plain|cA
 deriving DecidableEq
@[reducible] def T:Tag→Type
  | .int=>Int
  | .u8=>UInt8
  | .str=>List UInt8
  | .sl t=>List (T t)
  | .DB=>DB
  | .aM=>aM
  | .aX=>aX
  | .aJ=>aJ
  | .iC=>iC
  | .dK=>dK
  | .bg=>bg
  | .aV=>aV
  | .Ev=>Ev
  | .yH=>yH
  | .dG=>dG
  | .Plain=>Plain
  | .cA=>cA
def kk:Tag→Nat
 | .int=>1
 | .u8=>1
 | .str=>1
 | .sl _=>1
 | .DB=>1
 | .aM=>2
 | .aX=>5
 | .aJ=>2
 | .iC=>2
 | .dK=>8
 | .bg=>16
 | .aV=>10
 | .Ev=>4
 | .yH=>3
 | .dG=>5
 | .Plain=>2
 | .cA=>5
def rd:(t:Tag)→ER (T t)
 | .int=>Py
 | .u8=>Kr
 | .str=>T2
 | .sl t=>Zs (kk t) (rd t)
 | .DB=>Zt
 | .aM=>wj
 | .aX=>PD
 | .aJ=>wk
 | .iC=>PE
 | .dK=>NR
 | .bg=>PF
 | .aV=>T4
 | .Ev=>EEv
 | .yH=>PK
 | .dG=>PM
 | .Plain=>FX
 | .cA=>L7
theorem cX:(t:Tag)→fJ (kk t) (rd t)
 | .int=>rK
 | .u8=>gP
 | .str=>Pz
 | .sl t=>pR (cX t)
 | .DB=>lY
 | .aM=>rM
 | .aX=>B4
 | .aJ=>rN
 | .iC=>rO
 | .dK=>jk
 | .bg=>B5
 | .aV=>PJ
 | .Ev=>T5
 | .yH=>PL
 | .dG=>PN
 | .Plain=>Kt
 | .cA=>NS
theorem eS:(t:Tag)→0<kk t
 | .int=>by decide
 | .u8=>by decide
 | .str=>by decide
 | .sl _=>Nat.one_pos
 | .DB=>by decide
 | .aM=>by decide
 | .aX=>by decide
 | .aJ=>by decide
 | .iC=>by decide
 | .dK=>by decide
 | .bg=>by decide
 | .aV=>by decide
 | .Ev=>by decide
 | .yH=>by decide
 | .dG=>by decide
 | .Plain=>by decide
 | .cA=>by decide
def aB:(t:Tag)→T t
 | .int=>(0:Int)
 | .u8=>(0:UInt8)
 | .str=>([]:List UInt8)
 | .sl t=>([]:List (T t))
 | .DB=>(default:DB)
 | .aM=>(default:aM)
 | .aX=>(default:aX)
 | .aJ=>(default:aJ)
 | .iC=>(default:iC)
 | .dK=>(default:dK)
 | .bg=>(default:bg)
 | .aV=>(default:aV)
 | .Ev=>(default:Ev)
 | .yH=>(default:yH)
 | .dG=>(default:dG)
 | .Plain=>(default:Plain)
 | .cA=>(default:cA)
inductive V where
 |any
 |lit(v:Value)
 |sl(t:Tag)(l:List (T t))
 |own(n:Nat)
 |ptr(n off:Nat)
 |mG(n i off:Nat)
 |ip(t:Tag)(x:T t)(off:Nat)
 |vw(n:Nat)(p:Option (Nat×Nat))(t:Tag)(l:List (T t))
 |Eh(n:Nat)(p:Option (Nat×Nat×Nat))(t:Tag)(x:T t)(off:Nat)
 |Ei(n:Nat)(t:Tag)(l:List (T t))
 |mix(n:Nat)(c:Bool)(t:Tag)(l:List (T t))
 |tG(n:Nat)
 |Bt(f:FuncId)(n:Nat)
 |uo(k:Nat)
 |raw(v:Value)
 |qK(v:Value)(t:Tag)(l:List (T t))
def RI(w:World):V→Value→List Nat→Prop
 | .lit v,u,fp=>u=v∧v.oneCell'=true∧fp= []
 | .sl t l,u,fp=>Sl (kk t) (rd t) w u l fp
 |_,_,_=>False
def bT(w:World):List V→List Value→List Nat→Prop
 | [],[],fp=>fp= []
 |V::Vs,u::us,fp=> ∃f g,RI w V u f∧bT w Vs us g∧fp=f++g
 |_,_,_=>False
theorem bT.nil{w:World}:bT w [] [] []:=rfl
theorem bT.lit{w:World}{v:Value}{Vs:List V}{us:List Value}{g:List Nat}(hv:v.oneCell'=true)(h:bT w Vs us g):bT w (.lit v::Vs) (v::us) g:=⟨[],g,⟨rfl,hv,rfl⟩,h,rfl⟩
theorem bT.sl{w:World}{u:Value}{t:Tag}{l:List (T t)}{f g:List Nat}{Vs:List V}{us:List Value}(k:Sl (kk t) (rd t) w u l f)(h:bT w Vs us g):bT w (.sl t l::Vs) (u::us) (f++g):=⟨f,g,k,h,rfl⟩
theorem bT.app{w:World}: ∀{Vs Us:List V} {vs us:List Value} {f g:List Nat},bT w Vs vs f→bT w Us us g→bT w (Vs++Us) (vs++us) (f++g)
 | [],_,[],_,_,_,h,k=>by rw[show _=_ from h];exact k
 |_::_,_,_::_,_,_,_,⟨f1,f2,h1,h2,e⟩,k=>⟨f1,f2++_,h1,bT.app h2 k,by rw[e,List.append_assoc]⟩
 | [],_,_::_,_,_,_,h,_=>h.elim
 |_::_,_,[],_,_,_,h,_=>h.elim
theorem bT.len{w:World}: ∀{Vs:List V} {us:List Value} {fp:List Nat},bT w Vs us fp→us.length=Vs.length
 | [],[],_,_=>rfl
 |_::_,_::_,_,⟨_,_,_,h,_⟩=>by simp[bT.len h]
 | [],_::_,_,h=>h.elim
 |_::_,[],_,h=>h.elim
def aS(x:DB):List V:= [.sl (.sl .u8) x.rows]
def pT(x:aM):List V:= [.lit (.int .i64 x.client)]++aS x.share
def bL(x:aX):List V:= [.lit (.int .i64 x.id), .lit (.int .i64 x.rows), .lit (.int .i64 x.round), .sl .aM x.received, .lit (.int .i64 x.behavior)]
def ve(x:aJ):List V:= [.lit (.int .i64 x.round)]++aS x.db
def dh(x:iC):List V:= [.lit (.int .i64 x.rows), .sl .aJ x.rounds]
def bJ(x:dK):List V:= [.lit (.int .i64 x.id), .lit (.int .i64 x.dz), .lit (.int .i64 x.key), .lit (.int .i64 x.seed), .sl (.sl .u8) x.aI, .lit (.int .i64 x.sent), .sl (.sl .u8) x.inbox, .lit (.int .i64 x.next)]
def bY(x:bg):List V:=bJ x.live++bJ x.saved
def aU(x:aV):List V:= [.lit (.int .i64 x.rows), .sl .aX x.aj, .sl .bg x.aa]++dh x.az++ [.lit (.int .i64 x.aT), .lit (.int .i64 x.seed), .lit (.int .i64 x.round), .sl .int x.replaced, .lit (.int .i64 x.cancelled)]
def Ku(x:Ev):List V:= [.lit (.int .i64 x.kind), .lit (.int .i64 x.node), .lit (.int .i64 x.value), .sl .u8 x.body]
def FZ(x:yH):List V:= [.lit (.int .i64 x.fr), .lit (.int .i64 x.to), .lit (.int .i64 x.bytes)]
def jm(x:dG):List V:= [.lit (.int .i64 x.server), .lit (.int .i64 x.client), .lit (.int .i64 x.round), .lit (.int .i64 x.mF), .lit (.int .i64 x.Kl)]
def gR(x:Plain):List V:= [.lit (.int .i64 x.kind), .sl .u8 x.body]
def eK(x:cA):List V:= [.lit (.int .i64 x.server), .lit (.int .i64 x.round), .sl .int x.selection, .sl .u8 x.data, .lit (.int .i64 x.Kl)]
def dec:(t:Tag)→T t→List V
 | .int,n=> [.lit (.int .i64 n)]
 | .u8,n=> [.lit (.int .u8 n.toNat)]
 | .str,s=> [.lit (.string ⟨s.toArray⟩)]
 | .sl t,l=> [.sl t l]
 | .DB,x=>aS x
 | .aM,x=>pT x
 | .aX,x=>bL x
 | .aJ,x=>ve x
 | .iC,x=>dh x
 | .dK,x=>bJ x
 | .bg,x=>bY x
 | .aV,x=>aU x
 | .Ev,x=>Ku x
 | .yH,x=>FZ x
 | .dG,x=>jm x
 | .Plain,x=>gR x
 | .cA,x=>eK x
theorem Cc{w:World}{cs:List Value}{x:DB}{fp:List Nat}:Zt w cs x fp→bT w (aS x) cs fp:=by
 rintro⟨v0,f0,rfl,h0,rfl⟩
 have h:=(bT.sl (t:=(.sl .u8)) h0 bT.nil)
 simpa[aS]using h
theorem F0{w:World}{cs:List Value}{x:aM}{fp:List Nat}:wj w cs x fp→bT w (pT x) cs fp:=by
 rintro⟨v0,f0,rfl,h0,rfl⟩
 have h:=(bT.app (bT.lit (w:=w) (v:= .int .i64 x.client) rfl bT.nil) (Cc h0))
 simpa[pT]using h
theorem NU{w:World}{cs:List Value}{x:aX}{fp:List Nat}:PD w cs x fp→bT w (bL x) cs fp:=by
 rintro⟨v0,f0,rfl,h0,rfl⟩
 have h:=(bT.lit (w:=w) (v:= .int .i64 x.id) rfl (bT.lit (w:=w) (v:= .int .i64 x.rows) rfl (bT.lit (w:=w) (v:= .int .i64 x.round) rfl (bT.sl (t:= .aM) h0 (bT.lit (w:=w) (v:= .int .i64 x.behavior) rfl bT.nil)))))
 simpa[bL]using h
theorem F1{w:World}{cs:List Value}{x:aJ}{fp:List Nat}:wk w cs x fp→bT w (ve x) cs fp:=by
 rintro⟨v0,f0,rfl,h0,rfl⟩
 have h:=(bT.app (bT.lit (w:=w) (v:= .int .i64 x.round) rfl bT.nil) (Cc h0))
 simpa[ve]using h
theorem EP{w:World}{cs:List Value}{x:iC}{fp:List Nat}:PE w cs x fp→bT w (dh x) cs fp:=by
 rintro⟨v0,f0,rfl,h0,rfl⟩
 have h:=(bT.lit (w:=w) (v:= .int .i64 x.rows) rfl (bT.sl (t:= .aJ) h0 bT.nil))
 simpa[dh]using h
theorem yM{w:World}{cs:List Value}{x:dK}{fp:List Nat}:NR w cs x fp→bT w (bJ x) cs fp:=by
 rintro⟨v0,v1,f0,f1,rfl,h0,h1,rfl⟩
 have h:=(bT.lit (w:=w) (v:= .int .i64 x.id) rfl (bT.lit (w:=w) (v:= .int .i64 x.dz) rfl (bT.lit (w:=w) (v:= .int .i64 x.key) rfl (bT.lit (w:=w) (v:= .int .i64 x.seed) rfl (bT.sl (t:=(.sl .u8)) h0 (bT.lit (w:=w) (v:= .int .i64 x.sent) rfl (bT.sl (t:=(.sl .u8)) h1 (bT.lit (w:=w) (v:= .int .i64 x.next) rfl bT.nil))))))))
 simpa[bJ]using h
theorem NV{w:World}{cs:List Value}{x:bg}{fp:List Nat}:PF w cs x fp→bT w (bY x) cs fp:=by
 rintro⟨v0,v1,f0,f1,rfl,h0,h1,rfl⟩
 have h:=(bT.app (yM h0) (yM h1))
 simpa[bY]using h
theorem NW{w:World}{cs:List Value}{x:aV}{fp:List Nat}:T4 w cs x fp→bT w (aU x) cs fp:=by
 rintro⟨v0,v1,v2,v3,f0,f1,f2,f3,rfl,h0,h1,h2,h3,rfl⟩
 have h:=(bT.app (bT.app (bT.lit (w:=w) (v:= .int .i64 x.rows) rfl (bT.sl (t:= .aX) h0 (bT.sl (t:= .bg) h1 bT.nil))) (EP h2)) (bT.lit (w:=w) (v:= .int .i64 x.aT) rfl (bT.lit (w:=w) (v:= .int .i64 x.seed) rfl (bT.lit (w:=w) (v:= .int .i64 x.round) rfl (bT.sl (t:= .int) h3 (bT.lit (w:=w) (v:= .int .i64 x.cancelled) rfl bT.nil))))))
 simpa[aU]using h
theorem PV{w:World}{cs:List Value}{x:Ev}{fp:List Nat}:EEv w cs x fp→bT w (Ku x) cs fp:=by
 rintro⟨v0,f0,rfl,h0,rfl⟩
 have h:=(bT.lit (w:=w) (v:= .int .i64 x.kind) rfl (bT.lit (w:=w) (v:= .int .i64 x.node) rfl (bT.lit (w:=w) (v:= .int .i64 x.value) rfl (bT.sl (t:= .u8) h0 bT.nil))))
 simpa[Ku]using h
theorem NX{w:World}{cs:List Value}{x:yH}{fp:List Nat}:PK w cs x fp→bT w (FZ x) cs fp:=by
 rintro⟨rfl,rfl⟩
 have h:=(bT.lit (w:=w) (v:= .int .i64 x.fr) rfl (bT.lit (w:=w) (v:= .int .i64 x.to) rfl (bT.lit (w:=w) (v:= .int .i64 x.bytes) rfl bT.nil)))
 simpa[FZ]using h
theorem NY{w:World}{cs:List Value}{x:dG}{fp:List Nat}:PM w cs x fp→bT w (jm x) cs fp:=by
 rintro⟨rfl,rfl⟩
 have h:=(bT.lit (w:=w) (v:= .int .i64 x.server) rfl (bT.lit (w:=w) (v:= .int .i64 x.client) rfl (bT.lit (w:=w) (v:= .int .i64 x.round) rfl (bT.lit (w:=w) (v:= .int .i64 x.mF) rfl (bT.lit (w:=w) (v:= .int .i64 x.Kl) rfl bT.nil)))))
 simpa[jm]using h
theorem HW{w:World}{cs:List Value}{x:Plain}{fp:List Nat}:FX w cs x fp→bT w (gR x) cs fp:=by
 rintro⟨v0,f0,rfl,h0,rfl⟩
 have h:=(bT.lit (w:=w) (v:= .int .i64 x.kind) rfl (bT.sl (t:= .u8) h0 bT.nil))
 simpa[gR]using h
theorem Kv{w:World}{cs:List Value}{x:cA}{fp:List Nat}:L7 w cs x fp→bT w (eK x) cs fp:=by
 rintro⟨v0,v1,f0,f1,rfl,h0,h1,rfl⟩
 have h:=(bT.lit (w:=w) (v:= .int .i64 x.server) rfl (bT.lit (w:=w) (v:= .int .i64 x.round) rfl (bT.sl (t:= .int) h0 (bT.sl (t:= .u8) h1 (bT.lit (w:=w) (v:= .int .i64 x.Kl) rfl bT.nil)))))
 simpa[eK]using h
theorem reads{w:World}:(t:Tag)→{cs:List Value}→{x:T t}→{fp:List Nat}→rd t w cs x fp→bT w (dec t x) cs fp
 | .int,_,_,_,⟨rfl,rfl⟩=>bT.lit (v:= .int .i64 _) rfl bT.nil
 | .u8,_,_,_,⟨rfl,rfl⟩=>bT.lit (v:= .int .u8 _) rfl bT.nil
 | .str,_,_,_,⟨rfl,_,rfl⟩=>bT.lit (v:= .string _) rfl bT.nil
 | .sl t,_,_,_,⟨v,rfl,h⟩=>by have:=bT.sl (t:=t) h (bT.nil);rwa [List.append_nil]at this
 | .DB,_,_,_,h=>Cc h
 | .aM,_,_,_,h=>F0 h
 | .aX,_,_,_,h=>NU h
 | .aJ,_,_,_,h=>F1 h
 | .iC,_,_,_,h=>EP h
 | .dK,_,_,_,h=>yM h
 | .bg,_,_,_,h=>NV h
 | .aV,_,_,_,h=>NW h
 | .Ev,_,_,_,h=>PV h
 | .yH,_,_,_,h=>NX h
 | .dG,_,_,_,h=>NY h
 | .Plain,_,_,_,h=>HW h
 | .cA,_,_,_,h=>Kv h
end
section
def gf:(t t':Tag)→List (T t')→Option (List (T t))
 | .int, .int,l=>some l
 | .u8, .u8,l=>some l
 | .str, .str,l=>some l
 | .sl .int, .sl .int,l=>some l
 | .sl .u8, .sl .u8,l=>some l
 | .sl .str, .sl .str,l=>some l
 | .sl (.sl .u8), .sl (.sl .u8),l=>some l
 | .sl (.sl .int), .sl (.sl .int),l=>some l
 | .DB, .DB,l=>some l
 | .aM, .aM,l=>some l
 | .aX, .aX,l=>some l
 | .aJ, .aJ,l=>some l
 | .iC, .iC,l=>some l
 | .dK, .dK,l=>some l
 | .bg, .bg,l=>some l
 | .aV, .aV,l=>some l
 | .Ev, .Ev,l=>some l
 | .yH, .yH,l=>some l
 | .dG, .dG,l=>some l
 | .Plain, .Plain,l=>some l
 | .cA, .cA,l=>some l
 |_,_,_=>none
theorem cU{t t':Tag}{l:List (T t')}{l2:List (T t)}(h:gf t t' l=some l2): ∃e:t'=t,l2=e▸l:=by
 unfold gf at h
 split at h<;>first
  | (simp only[oI]at h;exact⟨rfl,h.symm⟩)
  |cases h
def gi:V→Option Int
 | .lit (.int .i64 n)=>some n
 |_=>none
def gs(t:Tag):V→Option (List (T t))
 | .sl t' l=>gf t t' l
 | .lit (.slice none 0 0)=>some []
 |_=>none
theorem eo{w:World}{v:V}{u:Value}{f:List Nat}{n:Int}(h:gi v=some n)(hr:RI w v u f):u= .int .i64 n∧f= []:=by
 unfold gi at h
 split at h
 ·simp only[oI]at h
  subst h
  exact⟨hr.1,hr.2.2⟩
 ·cases h
theorem oM{w:World}{t:Tag}{v:V}{u:Value}{f:List Nat}{l:List (T t)}(h:gs t v=some l)(hr:RI w v u f):Sl (kk t) (rd t) w u l f:=by
 unfold gs at h
 split at h
 ·rename_i t' l'
  obtain⟨he,rfl⟩:=cU h
  subst he
  exact hr
 ·simp only[oI]at h
  subst h
  obtain⟨rfl,_,rfl⟩:=hr
  exact⟨none,0,rfl,Nat.le_refl _,Nat.zero_le _,Or.inl ⟨rfl,rfl,rfl⟩⟩
 ·cases h
def yN:List V→Option DB
 | [a0]=>match gs (.sl .u8) a0 with
   |some x0=>some ⟨x0⟩
   |_=>none
 |_=>none
theorem tH{w:World}{c:List V}{us:List Value}{fp:List Nat}{x:DB}(h:yN c=some x)(hr:bT w c us fp):Zt w us x fp:=by
 unfold yN at h
 split at h
 ·rename_i a0
  split at h
  ·rename_i x0 e0
   simp only[oI]at h
   subst h
   match us,hr with
   | [u0],⟨f0,g0,r0,h9,q0⟩=>
     have h9:g0= []:=h9
     have z0:=oM e0 r0
     refine⟨u0,f0,?_,z0,?_⟩
     ·rfl
     ·simp[q0,h9]
  ·cases h
 ·cases h
def pU:List V→Option aM
 | [a0,a1]=>match gi a0,yN [a1]with
   |some x0,some x1=>some ⟨x0,x1⟩
   |_,_=>none
 |_=>none
theorem uO{w:World}{c:List V}{us:List Value}{fp:List Nat}{x:aM}(h:pU c=some x)(hr:bT w c us fp):wj w us x fp:=by
 unfold pU at h
 split at h
 ·rename_i a0 a1
  split at h
  ·rename_i x0 x1 e0 e1
   simp only[oI]at h
   subst h
   match us,hr with
   | [u0,u1],⟨f0,g0,r0,⟨f1,g1,r1,h9,q1⟩,q0⟩=>
     have h9:g1= []:=h9
     obtain⟨z0,y0⟩:=eo e0 r0
     have z1:=tH (w:=w) (us:= [u1]) (fp:=(f1++ [])) e1 ⟨f1,_,r1,rfl,rfl⟩
     refine⟨[u1],(f1++ []),?_,z1,?_⟩
     ·simp[z0]
     ·simp[q0,q1,h9,y0]
  ·cases h
 ·cases h
def Bu:List V→Option aX
 | [a0,a1,a2,a3,a4]=>match gi a0,gi a1,gi a2,gs .aM a3,gi a4 with
   |some x0,some x1,some x2,some x3,some x4=>some ⟨x0,x1,x2,x3,x4⟩
   |_,_,_,_,_=>none
 |_=>none
theorem Cd{w:World}{c:List V}{us:List Value}{fp:List Nat}{x:aX}(h:Bu c=some x)(hr:bT w c us fp):PD w us x fp:=by
 unfold Bu at h
 split at h
 ·rename_i a0 a1 a2 a3 a4
  split at h
  ·rename_i x0 x1 x2 x3 x4 e0 e1 e2 e3 e4
   simp only[oI]at h
   subst h
   match us,hr with
   | [u0,u1,u2,u3,u4],⟨f0,g0,r0,⟨f1,g1,r1,⟨f2,g2,r2,⟨f3,g3,r3,⟨f4,g4,r4,h9,q4⟩,q3⟩,q2⟩,q1⟩,q0⟩=>
     have h9:g4= []:=h9
     obtain⟨z0,y0⟩:=eo e0 r0
     obtain⟨z1,y1⟩:=eo e1 r1
     obtain⟨z2,y2⟩:=eo e2 r2
     have z3:=oM e3 r3
     obtain⟨z4,y4⟩:=eo e4 r4
     refine⟨u3,f3,?_,z3,?_⟩
     ·simp[z0,z1,z2,z4]
     ·simp[q0,q1,q2,q3,q4,h9,y0,y1,y2,y4]
  ·cases h
 ·cases h
def pV:List V→Option aJ
 | [a0,a1]=>match gi a0,yN [a1]with
   |some x0,some x1=>some ⟨x0,x1⟩
   |_,_=>none
 |_=>none
theorem uP{w:World}{c:List V}{us:List Value}{fp:List Nat}{x:aJ}(h:pV c=some x)(hr:bT w c us fp):wk w us x fp:=by
 unfold pV at h
 split at h
 ·rename_i a0 a1
  split at h
  ·rename_i x0 x1 e0 e1
   simp only[oI]at h
   subst h
   match us,hr with
   | [u0,u1],⟨f0,g0,r0,⟨f1,g1,r1,h9,q1⟩,q0⟩=>
     have h9:g1= []:=h9
     obtain⟨z0,y0⟩:=eo e0 r0
     have z1:=tH (w:=w) (us:= [u1]) (fp:=(f1++ [])) e1 ⟨f1,_,r1,rfl,rfl⟩
     refine⟨[u1],(f1++ []),?_,z1,?_⟩
     ·simp[z0]
     ·simp[q0,q1,h9,y0]
  ·cases h
 ·cases h
def wm:List V→Option iC
 | [a0,a1]=>match gi a0,gs .aJ a1 with
   |some x0,some x1=>some ⟨x0,x1⟩
   |_,_=>none
 |_=>none
theorem vf{w:World}{c:List V}{us:List Value}{fp:List Nat}{x:iC}(h:wm c=some x)(hr:bT w c us fp):PE w us x fp:=by
 unfold wm at h
 split at h
 ·rename_i a0 a1
  split at h
  ·rename_i x0 x1 e0 e1
   simp only[oI]at h
   subst h
   match us,hr with
   | [u0,u1],⟨f0,g0,r0,⟨f1,g1,r1,h9,q1⟩,q0⟩=>
     have h9:g1= []:=h9
     obtain⟨z0,y0⟩:=eo e0 r0
     have z1:=oM e1 r1
     refine⟨u1,f1,?_,z1,?_⟩
     ·simp[z0]
     ·simp[q0,q1,h9,y0]
  ·cases h
 ·cases h
def tI:List V→Option dK
 | [a0,a1,a2,a3,a4,a5,a6,a7]=>match gi a0,gi a1,gi a2,gi a3,gs (.sl .u8) a4,gi a5,gs (.sl .u8) a6,gi a7 with
   |some x0,some x1,some x2,some x3,some x4,some x5,some x6,some x7=>some ⟨x0,x1,x2,x3,x4,x5,x6,x7⟩
   |_,_,_,_,_,_,_,_=>none
 |_=>none
theorem pW{w:World}{c:List V}{us:List Value}{fp:List Nat}{x:dK}(h:tI c=some x)(hr:bT w c us fp):NR w us x fp:=by
 unfold tI at h
 split at h
 ·rename_i a0 a1 a2 a3 a4 a5 a6 a7
  split at h
  ·rename_i x0 x1 x2 x3 x4 x5 x6 x7 e0 e1 e2 e3 e4 e5 e6 e7
   simp only[oI]at h
   subst h
   match us,hr with
   | [u0,u1,u2,u3,u4,u5,u6,u7],⟨f0,g0,r0,⟨f1,g1,r1,⟨f2,g2,r2,⟨f3,g3,r3,⟨f4,g4,r4,⟨f5,g5,r5,⟨f6,g6,r6,⟨f7,g7,r7,h9,q7⟩,q6⟩,q5⟩,q4⟩,q3⟩,q2⟩,q1⟩,q0⟩=>
     have h9:g7= []:=h9
     obtain⟨z0,y0⟩:=eo e0 r0
     obtain⟨z1,y1⟩:=eo e1 r1
     obtain⟨z2,y2⟩:=eo e2 r2
     obtain⟨z3,y3⟩:=eo e3 r3
     have z4:=oM e4 r4
     obtain⟨z5,y5⟩:=eo e5 r5
     have z6:=oM e6 r6
     obtain⟨z7,y7⟩:=eo e7 r7
     refine⟨u4,u6,f4,f6,?_,z4,z6,?_⟩
     ·simp[z0,z1,z2,z3,z5,z7]
     ·simp[q0,q1,q2,q3,q4,q5,q6,q7,h9,y0,y1,y2,y3,y5,y7]
  ·cases h
 ·cases h
def Bv:List V→Option bg
 | [a0,a1,a2,a3,a4,a5,a6,a7,a8,a9,a10,a11,a12,a13,a14,a15]=>match tI [a0,a1,a2,a3,a4,a5,a6,a7],tI [a8,a9,a10,a11,a12,a13,a14,a15]with
   |some x0,some x8=>some ⟨x0,x8⟩
   |_,_=>none
 |_=>none
theorem Ce{w:World}{c:List V}{us:List Value}{fp:List Nat}{x:bg}(h:Bv c=some x)(hr:bT w c us fp):PF w us x fp:=by
 unfold Bv at h
 split at h
 ·rename_i a0 a1 a2 a3 a4 a5 a6 a7 a8 a9 a10 a11 a12 a13 a14 a15
  split at h
  ·rename_i x0 x8 e0 e1
   simp only[oI]at h
   subst h
   match us,hr with
   | [u0,u1,u2,u3,u4,u5,u6,u7,u8,u9,u10,u11,u12,u13,u14,u15],⟨f0,g0,r0,⟨f1,g1,r1,⟨f2,g2,r2,⟨f3,g3,r3,⟨f4,g4,r4,⟨f5,g5,r5,⟨f6,g6,r6,⟨f7,g7,r7,⟨f8,g8,r8,⟨f9,g9,r9,⟨f10,g10,r10,⟨f11,g11,r11,⟨f12,g12,r12,⟨f13,g13,r13,⟨f14,g14,r14,⟨f15,g15,r15,h9,q15⟩,q14⟩,q13⟩,q12⟩,q11⟩,q10⟩,q9⟩,q8⟩,q7⟩,q6⟩,q5⟩,q4⟩,q3⟩,q2⟩,q1⟩,q0⟩=>
     have h9:g15= []:=h9
     have z0:=pW (w:=w) (us:= [u0,u1,u2,u3,u4,u5,u6,u7]) (fp:=(f0++(f1++(f2++(f3++(f4++(f5++(f6++(f7++ []))))))))) e0 ⟨f0,_,r0,⟨f1,_,r1,⟨f2,_,r2,⟨f3,_,r3,⟨f4,_,r4,⟨f5,_,r5,⟨f6,_,r6,⟨f7,_,r7,rfl,rfl⟩,rfl⟩,rfl⟩,rfl⟩,rfl⟩,rfl⟩,rfl⟩,rfl⟩
     have z8:=pW (w:=w) (us:= [u8,u9,u10,u11,u12,u13,u14,u15]) (fp:=(f8++(f9++(f10++(f11++(f12++(f13++(f14++(f15++ []))))))))) e1 ⟨f8,_,r8,⟨f9,_,r9,⟨f10,_,r10,⟨f11,_,r11,⟨f12,_,r12,⟨f13,_,r13,⟨f14,_,r14,⟨f15,_,r15,rfl,rfl⟩,rfl⟩,rfl⟩,rfl⟩,rfl⟩,rfl⟩,rfl⟩,rfl⟩
     refine⟨[u0,u1,u2,u3,u4,u5,u6,u7],[u8,u9,u10,u11,u12,u13,u14,u15],(f0++(f1++(f2++(f3++(f4++(f5++(f6++(f7++ [])))))))),(f8++(f9++(f10++(f11++(f12++(f13++(f14++(f15++ [])))))))),?_,z0,z8,?_⟩
     ·rfl
     ·simp[q0,q1,q2,q3,q4,q5,q6,q7,q8,q9,q10,q11,q12,q13,q14,q15,h9]
  ·cases h
 ·cases h
def Bw:List V→Option aV
 | [a0,a1,a2,a3,a4,a5,a6,a7,a8,a9]=>match gi a0,gs .aX a1,gs .bg a2,wm [a3,a4],gi a5,gi a6,gi a7,gs .int a8,gi a9 with
   |some x0,some x1,some x2,some x3,some x5,some x6,some x7,some x8,some x9=>some ⟨x0,x1,x2,x3,x5,x6,x7,x8,x9⟩
   |_,_,_,_,_,_,_,_,_=>none
 |_=>none
theorem Cf{w:World}{c:List V}{us:List Value}{fp:List Nat}{x:aV}(h:Bw c=some x)(hr:bT w c us fp):T4 w us x fp:=by
 unfold Bw at h
 split at h
 ·rename_i a0 a1 a2 a3 a4 a5 a6 a7 a8 a9
  split at h
  ·rename_i x0 x1 x2 x3 x5 x6 x7 x8 x9 e0 e1 e2 e3 e4 e5 e6 e7 e8
   simp only[oI]at h
   subst h
   match us,hr with
   | [u0,u1,u2,u3,u4,u5,u6,u7,u8,u9],⟨f0,g0,r0,⟨f1,g1,r1,⟨f2,g2,r2,⟨f3,g3,r3,⟨f4,g4,r4,⟨f5,g5,r5,⟨f6,g6,r6,⟨f7,g7,r7,⟨f8,g8,r8,⟨f9,g9,r9,h9,q9⟩,q8⟩,q7⟩,q6⟩,q5⟩,q4⟩,q3⟩,q2⟩,q1⟩,q0⟩=>
     have h9:g9= []:=h9
     obtain⟨z0,y0⟩:=eo e0 r0
     have z1:=oM e1 r1
     have z2:=oM e2 r2
     have z3:=vf (w:=w) (us:= [u3,u4]) (fp:=(f3++(f4++ []))) e3 ⟨f3,_,r3,⟨f4,_,r4,rfl,rfl⟩,rfl⟩
     obtain⟨z5,y5⟩:=eo e4 r5
     obtain⟨z6,y6⟩:=eo e5 r6
     obtain⟨z7,y7⟩:=eo e6 r7
     have z8:=oM e7 r8
     obtain⟨z9,y9⟩:=eo e8 r9
     refine⟨u1,u2,[u3,u4],u8,f1,f2,(f3++(f4++ [])),f8,?_,z1,z2,z3,z8,?_⟩
     ·simp[z0,z5,z6,z7,z9]
     ·simp[q0,q1,q2,q3,q4,q5,q6,q7,q8,q9,h9,y0,y5,y6,y7,y9]
  ·cases h
 ·cases h
def F2:List V→Option Ev
 | [a0,a1,a2,a3]=>match gi a0,gi a1,gi a2,gs .u8 a3 with
   |some x0,some x1,some x2,some x3=>some ⟨x0,x1,x2,x3⟩
   |_,_,_,_=>none
 |_=>none
theorem ES{w:World}{c:List V}{us:List Value}{fp:List Nat}{x:Ev}(h:F2 c=some x)(hr:bT w c us fp):EEv w us x fp:=by
 unfold F2 at h
 split at h
 ·rename_i a0 a1 a2 a3
  split at h
  ·rename_i x0 x1 x2 x3 e0 e1 e2 e3
   simp only[oI]at h
   subst h
   match us,hr with
   | [u0,u1,u2,u3],⟨f0,g0,r0,⟨f1,g1,r1,⟨f2,g2,r2,⟨f3,g3,r3,h9,q3⟩,q2⟩,q1⟩,q0⟩=>
     have h9:g3= []:=h9
     obtain⟨z0,y0⟩:=eo e0 r0
     obtain⟨z1,y1⟩:=eo e1 r1
     obtain⟨z2,y2⟩:=eo e2 r2
     have z3:=oM e3 r3
     refine⟨u3,f3,?_,z3,?_⟩
     ·simp[z0,z1,z2]
     ·simp[q0,q1,q2,q3,h9,y0,y1,y2]
  ·cases h
 ·cases h
def Bx:List V→Option yH
 | [a0,a1,a2]=>match gi a0,gi a1,gi a2 with
   |some x0,some x1,some x2=>some ⟨x0,x1,x2⟩
   |_,_,_=>none
 |_=>none
theorem Cg{w:World}{c:List V}{us:List Value}{fp:List Nat}{x:yH}(h:Bx c=some x)(hr:bT w c us fp):PK w us x fp:=by
 unfold Bx at h
 split at h
 ·rename_i a0 a1 a2
  split at h
  ·rename_i x0 x1 x2 e0 e1 e2
   simp only[oI]at h
   subst h
   match us,hr with
   | [u0,u1,u2],⟨f0,g0,r0,⟨f1,g1,r1,⟨f2,g2,r2,h9,q2⟩,q1⟩,q0⟩=>
     have h9:g2= []:=h9
     obtain⟨z0,y0⟩:=eo e0 r0
     obtain⟨z1,y1⟩:=eo e1 r1
     obtain⟨z2,y2⟩:=eo e2 r2
     refine⟨?_,?_⟩
     ·simp[z0,z1,z2]
     ·simp[q0,q1,q2,h9,y0,y1,y2]
  ·cases h
 ·cases h
def By:List V→Option dG
 | [a0,a1,a2,a3,a4]=>match gi a0,gi a1,gi a2,gi a3,gi a4 with
   |some x0,some x1,some x2,some x3,some x4=>some ⟨x0,x1,x2,x3,x4⟩
   |_,_,_,_,_=>none
 |_=>none
theorem Ch{w:World}{c:List V}{us:List Value}{fp:List Nat}{x:dG}(h:By c=some x)(hr:bT w c us fp):PM w us x fp:=by
 unfold By at h
 split at h
 ·rename_i a0 a1 a2 a3 a4
  split at h
  ·rename_i x0 x1 x2 x3 x4 e0 e1 e2 e3 e4
   simp only[oI]at h
   subst h
   match us,hr with
   | [u0,u1,u2,u3,u4],⟨f0,g0,r0,⟨f1,g1,r1,⟨f2,g2,r2,⟨f3,g3,r3,⟨f4,g4,r4,h9,q4⟩,q3⟩,q2⟩,q1⟩,q0⟩=>
     have h9:g4= []:=h9
     obtain⟨z0,y0⟩:=eo e0 r0
     obtain⟨z1,y1⟩:=eo e1 r1
     obtain⟨z2,y2⟩:=eo e2 r2
     obtain⟨z3,y3⟩:=eo e3 r3
     obtain⟨z4,y4⟩:=eo e4 r4
     refine⟨?_,?_⟩
     ·simp[z0,z1,z2,z3,z4]
     ·simp[q0,q1,q2,q3,q4,h9,y0,y1,y2,y3,y4]
  ·cases h
 ·cases h
def tJ:List V→Option Plain
 | [a0,a1]=>match gi a0,gs .u8 a1 with
   |some x0,some x1=>some ⟨x0,x1⟩
   |_,_=>none
 |_=>none
theorem wo{w:World}{c:List V}{us:List Value}{fp:List Nat}{x:Plain}(h:tJ c=some x)(hr:bT w c us fp):FX w us x fp:=by
 unfold tJ at h
 split at h
 ·rename_i a0 a1
  split at h
  ·rename_i x0 x1 e0 e1
   simp only[oI]at h
   subst h
   match us,hr with
   | [u0,u1],⟨f0,g0,r0,⟨f1,g1,r1,h9,q1⟩,q0⟩=>
     have h9:g1= []:=h9
     obtain⟨z0,y0⟩:=eo e0 r0
     have z1:=oM e1 r1
     refine⟨u1,f1,?_,z1,?_⟩
     ·simp[z0]
     ·simp[q0,q1,h9,y0]
  ·cases h
 ·cases h
def wq:List V→Option cA
 | [a0,a1,a2,a3,a4]=>match gi a0,gi a1,gs .int a2,gs .u8 a3,gi a4 with
   |some x0,some x1,some x2,some x3,some x4=>some ⟨x0,x1,x2,x3,x4⟩
   |_,_,_,_,_=>none
 |_=>none
theorem AA{w:World}{c:List V}{us:List Value}{fp:List Nat}{x:cA}(h:wq c=some x)(hr:bT w c us fp):L7 w us x fp:=by
 unfold wq at h
 split at h
 ·rename_i a0 a1 a2 a3 a4
  split at h
  ·rename_i x0 x1 x2 x3 x4 e0 e1 e2 e3 e4
   simp only[oI]at h
   subst h
   match us,hr with
   | [u0,u1,u2,u3,u4],⟨f0,g0,r0,⟨f1,g1,r1,⟨f2,g2,r2,⟨f3,g3,r3,⟨f4,g4,r4,h9,q4⟩,q3⟩,q2⟩,q1⟩,q0⟩=>
     have h9:g4= []:=h9
     obtain⟨z0,y0⟩:=eo e0 r0
     obtain⟨z1,y1⟩:=eo e1 r1
     have z2:=oM e2 r2
     have z3:=oM e3 r3
     obtain⟨z4,y4⟩:=eo e4 r4
     refine⟨u2,u3,f2,f3,?_,z2,z3,?_⟩
     ·simp[z0,z1,z4]
     ·simp[q0,q1,q2,q3,q4,h9,y0,y1,y4]
  ·cases h
 ·cases h
def F3:List V→Option (List Prop×Int)
 | [v]=>match gi v with|some n=>some ([],n)|none=>none
 |_=>none
def Kw:List V→Option (List Prop×UInt8)
 | [.lit (.int .u8 n)]=>some ([0≤n∧n<256],UInt8.ofNat n.toNat)
 |_=>none
def F4:List V→Option (List Prop×List UInt8)
 | [.lit (.string s)]=>some ([s.size≤maxLen],s.data.toList)
 |_=>none
def Kx(t:Tag):List V→Option (List Prop×List (T t))
 | [v]=>match gs t v with|some l=>some ([],l)|none=>none
 |_=>none
def jW{α:Type}:Option α→Option (List Prop×α)
 |some x=>some ([],x)
 |none=>none
theorem eE{α:Type}{o:Option α}{vc:List Prop}{x:α}(h:jW o=some (vc,x)):o=some x:=by
 cases o with
 |none=>cases h
 |some y=>simp only[jW,oI,pI]at h;rw[h.2]
def enc:(t:Tag)→List V→Option (List Prop×T t)
 | .int,c=>F3 c
 | .u8,c=>Kw c
 | .str,c=>F4 c
 | .sl t,c=>Kx t c
 | .DB,c=>jW (yN c)
 | .aM,c=>jW (pU c)
 | .aX,c=>jW (Bu c)
 | .aJ,c=>jW (pV c)
 | .iC,c=>jW (wm c)
 | .dK,c=>jW (tI c)
 | .bg,c=>jW (Bv c)
 | .aV,c=>jW (Bw c)
 | .Ev,c=>jW (F2 c)
 | .yH,c=>jW (Bx c)
 | .dG,c=>jW (By c)
 | .Plain,c=>jW (tJ c)
 | .cA,c=>jW (wq c)
theorem pX{w:World}:(t:Tag)→{c:List V}→{us:List Value}→{fp:List Nat}→{vc:List Prop}→{x:T t}→enc t c=some (vc,x)→(∀q,q∈vc→q)→bT w c us fp→rd t w us x fp
 | .int,c,us,fp,vc,x,h,hv,hr=>by
   have h:F3 c=some (vc,x):=h
   unfold F3 at h
   split at h<;>first| (cases h;done)|skip
   ·split at h
    ·rename_i v _ n e
     simp only[oI,pI]at h
     obtain⟨rfl,rfl⟩:=h
     match us,hr with
     | [u],⟨f,g,r,h9,q⟩=>
       obtain⟨z,y⟩:=eo e r
       have h9:g= []:=h9
       exact⟨by rw[z],by simp[q,y,h9]⟩
    ·cases h
 | .u8,c,us,fp,vc,x,h,hv,hr=>by
   have h:Kw c=some (vc,x):=h
   unfold Kw at h
   split at h<;>first| (cases h;done)|skip
   ·rename_i n _
    simp only[oI,pI]at h
    obtain⟨rfl,rfl⟩:=h
    obtain⟨h0,h1⟩:=hv _ (List.mem_singleton.2 rfl)
    match us,hr with
    | [u],⟨f,g,r,h9,q⟩=>
      have h9:g= []:=h9
      obtain⟨rfl,_,rfl⟩:=r
      refine⟨?_,by simp[q,h9]⟩
      have:((UInt8.ofNat n.toNat).toNat:Int)=n:=by rw[UInt8.toNat_ofNat'];omega
      rw[this]
 | .str,c,us,fp,vc,x,h,hv,hr=>by
   have h:F4 c=some (vc,x):=h
   unfold F4 at h
   split at h<;>first| (cases h;done)|skip
   ·rename_i s _
    simp only[oI,pI]at h
    obtain⟨rfl,rfl⟩:=h
    have h0:=hv _ (List.mem_singleton.2 rfl)
    match us,hr with
    | [u],⟨f,g,r,h9,q⟩=>
      have h9:g= []:=h9
      obtain⟨rfl,_,rfl⟩:=r
      exact⟨rfl,h0,by simp[q,h9]⟩
 | .sl t,c,us,fp,vc,x,h,hv,hr=>by
   have h:Kx t c=some (vc,x):=h
   unfold Kx at h
   split at h<;>first| (cases h;done)|skip
   ·split at h
    ·rename_i v _ l e
     simp only[oI,pI]at h
     obtain⟨rfl,rfl⟩:=h
     match us,hr with
     | [u],⟨f,g,r,h9,q⟩=>
       have h9:g= []:=h9
       refine⟨u,rfl,?_⟩
       have:=oM e r
       rw[q,h9,List.append_nil];exact this
    ·cases h
 | .DB,c,us,fp,vc,x,h,hv,hr=>by
   exact tH (eE (show jW (yN c)=_ from h)) hr
 | .aM,c,us,fp,vc,x,h,hv,hr=>by
   exact uO (eE (show jW (pU c)=_ from h)) hr
 | .aX,c,us,fp,vc,x,h,hv,hr=>by
   exact Cd (eE (show jW (Bu c)=_ from h)) hr
 | .aJ,c,us,fp,vc,x,h,hv,hr=>by
   exact uP (eE (show jW (pV c)=_ from h)) hr
 | .iC,c,us,fp,vc,x,h,hv,hr=>by
   exact vf (eE (show jW (wm c)=_ from h)) hr
 | .dK,c,us,fp,vc,x,h,hv,hr=>by
   exact pW (eE (show jW (tI c)=_ from h)) hr
 | .bg,c,us,fp,vc,x,h,hv,hr=>by
   exact Ce (eE (show jW (Bv c)=_ from h)) hr
 | .aV,c,us,fp,vc,x,h,hv,hr=>by
   exact Cf (eE (show jW (Bw c)=_ from h)) hr
 | .Ev,c,us,fp,vc,x,h,hv,hr=>by
   exact ES (eE (show jW (F2 c)=_ from h)) hr
 | .yH,c,us,fp,vc,x,h,hv,hr=>by
   exact Cg (eE (show jW (Bx c)=_ from h)) hr
 | .dG,c,us,fp,vc,x,h,hv,hr=>by
   exact Ch (eE (show jW (By c)=_ from h)) hr
 | .Plain,c,us,fp,vc,x,h,hv,hr=>by
   exact wo (eE (show jW (tJ c)=_ from h)) hr
 | .cA,c,us,fp,vc,x,h,hv,hr=>by
   exact AA (eE (show jW (wq c)=_ from h)) hr
def eF:Tag→Value
 | .int=> .int .i64 0
 | .u8=> .int .u8 0
 | .str=> .string ⟨#[]⟩
 | .sl _=> .slice none 0 0
 | .DB=> .agg #[.slice none 0 0]
 | .aM=> .agg #[.int .i64 0, .slice none 0 0]
 | .aX=> .agg #[.int .i64 0, .int .i64 0, .int .i64 0, .slice none 0 0, .int .i64 0]
 | .aJ=> .agg #[.int .i64 0, .slice none 0 0]
 | .iC=> .agg #[.int .i64 0, .slice none 0 0]
 | .dK=> .agg #[.int .i64 0, .int .i64 0, .int .i64 0, .int .i64 0, .slice none 0 0, .int .i64 0, .slice none 0 0, .int .i64 0]
 | .bg=> .agg #[.int .i64 0, .int .i64 0, .int .i64 0, .int .i64 0, .slice none 0 0, .int .i64 0, .slice none 0 0, .int .i64 0, .int .i64 0, .int .i64 0, .int .i64 0, .int .i64 0, .slice none 0 0, .int .i64 0, .slice none 0 0, .int .i64 0]
 | .aV=> .agg #[.int .i64 0, .slice none 0 0, .slice none 0 0, .int .i64 0, .slice none 0 0, .int .i64 0, .int .i64 0, .int .i64 0, .slice none 0 0, .int .i64 0]
 | .Ev=> .agg #[.int .i64 0, .int .i64 0, .int .i64 0, .slice none 0 0]
 | .yH=> .agg #[.int .i64 0, .int .i64 0, .int .i64 0]
 | .dG=> .agg #[.int .i64 0, .int .i64 0, .int .i64 0, .int .i64 0, .int .i64 0]
 | .Plain=> .agg #[.int .i64 0, .slice none 0 0]
 | .cA=> .agg #[.int .i64 0, .int .i64 0, .slice none 0 0, .slice none 0 0, .int .i64 0]
def cK:Tag→Nat
 | .int=>8
 | .u8=>1
 | .str=>16
 | .sl _=>24
 | .DB=>24
 | .aM=>32
 | .aX=>56
 | .aJ=>32
 | .iC=>32
 | .dK=>96
 | .bg=>192
 | .aV=>144
 | .Ev=>48
 | .yH=>24
 | .dG=>40
 | .Plain=>32
 | .cA=>72
theorem iJ:(t:Tag)→(eF t).cells.size=kk t
 | .int=>rfl
 | .u8=>rfl
 | .str=>rfl
 | .sl _=>rfl
 | .DB=>rfl
 | .aM=>rfl
 | .aX=>rfl
 | .aJ=>rfl
 | .iC=>rfl
 | .dK=>rfl
 | .bg=>rfl
 | .aV=>rfl
 | .Ev=>rfl
 | .yH=>rfl
 | .dG=>rfl
 | .Plain=>rfl
 | .cA=>rfl
def flat:Tag→Bool
 | .int=>true
 | .u8=>true
 | .str=>true
 | .sl _=>false
 | .DB=>false
 | .aM=>false
 | .aX=>false
 | .aJ=>false
 | .iC=>false
 | .dK=>false
 | .bg=>false
 | .aV=>false
 | .Ev=>false
 | .yH=>true
 | .dG=>true
 | .Plain=>false
 | .cA=>false
theorem T6{w:World}(t:Tag){cs:List Value}{x:T t}{fp:List Nat}(hf:flat t=true)(h:rd t w cs x fp):fp= []:=by
 cases t with
 |int=>exact(show Py w cs x fp from h).2
 |u8=>exact(show Kr w cs x fp from h).2
 |str=>exact(show T2 w cs x fp from h).2.2
 |sl _=>cases hf
 |DB=>cases hf
 |aM=>cases hf
 |aX=>cases hf
 |aJ=>cases hf
 |iC=>cases hf
 |dK=>cases hf
 |bg=>cases hf
 |aV=>cases hf
 |Ev=>cases hf
 |yH=>exact(show PK w cs x fp from h).2
 |dG=>exact(show PM w cs x fp from h).2
 |Plain=>cases hf
 |cA=>cases hf
theorem bT.lits{w:World}: ∀{z:List Value},(∀v,v∈z→v.oneCell'=true)→bT w (z.map V.lit) z []
 | [],_=>rfl
 |v::r,h=>⟨[],[],⟨rfl,h v (by simp),rfl⟩,bT.lits fun u hu=>h u (by simp[hu]),rfl⟩
theorem T7{w:World}:(t:Tag)→rd t w (eF t).cells.toList (aB t) []
 | .int=>⟨rfl,rfl⟩
 | .u8=>⟨rfl,rfl⟩
 | .str=>⟨rfl,by decide,rfl⟩
 | .sl _=>⟨_,rfl,none,0,rfl,Nat.le_refl _,Nat.zero_le _,Or.inl ⟨rfl,rfl,rfl⟩⟩
 | .DB=>tH (c:=(eF .DB).cells.toList.map V.lit) rfl (bT.lits (by simp[eF,Value.cells,Value.oneCell']))
 | .aM=>uO (c:=(eF .aM).cells.toList.map V.lit) rfl (bT.lits (by simp[eF,Value.cells,Value.oneCell']))
 | .aX=>Cd (c:=(eF .aX).cells.toList.map V.lit) rfl (bT.lits (by simp[eF,Value.cells,Value.oneCell']))
 | .aJ=>uP (c:=(eF .aJ).cells.toList.map V.lit) rfl (bT.lits (by simp[eF,Value.cells,Value.oneCell']))
 | .iC=>vf (c:=(eF .iC).cells.toList.map V.lit) rfl (bT.lits (by simp[eF,Value.cells,Value.oneCell']))
 | .dK=>pW (c:=(eF .dK).cells.toList.map V.lit) rfl (bT.lits (by simp[eF,Value.cells,Value.oneCell']))
 | .bg=>Ce (c:=(eF .bg).cells.toList.map V.lit) rfl (bT.lits (by simp[eF,Value.cells,Value.oneCell']))
 | .aV=>Cf (c:=(eF .aV).cells.toList.map V.lit) rfl (bT.lits (by simp[eF,Value.cells,Value.oneCell']))
 | .Ev=>ES (c:=(eF .Ev).cells.toList.map V.lit) rfl (bT.lits (by simp[eF,Value.cells,Value.oneCell']))
 | .yH=>Cg (c:=(eF .yH).cells.toList.map V.lit) rfl (bT.lits (by simp[eF,Value.cells,Value.oneCell']))
 | .dG=>Ch (c:=(eF .dG).cells.toList.map V.lit) rfl (bT.lits (by simp[eF,Value.cells,Value.oneCell']))
 | .Plain=>wo (c:=(eF .Plain).cells.toList.map V.lit) rfl (bT.lits (by simp[eF,Value.cells,Value.oneCell']))
 | .cA=>AA (c:=(eF .cA).cells.toList.map V.lit) rfl (bT.lits (by simp[eF,Value.cells,Value.oneCell']))
end
section
def Ky(_:Nat):Prop:=False
def F5(_:World):Prop:=True
theorem F5.keep{w w':World}(_:F5 w)(_: ∀b,Ky b→b<w.heap.size→w'.heap[b]? =w.heap[b]?):F5 w':=trivial
theorem F5.lt{w:World}(_:F5 w){b:Nat}(hb:Ky b):b<w.heap.size:=hb.elim
end
end Go.Proofs.YtkcegdacbddipaaGreat.G
namespace Go.Proofs.YtkcegdacbddipaaGreat.L
set_option linter.all false
open Go.RowKit
section
structure fK(fp:List Nat)(w w':World):Prop where
 os:w'.os=w.os
 tape:w'.tape=w.tape
 output:w'.output=w.output
 size:w.heap.size≤w'.heap.size
 block: ∀b,b<w.heap.size→b∉fp→w'.heap[b]? =w.heap[b]?
theorem fK.refl(fp:List Nat)(w:World):fK fp w w:=⟨rfl,rfl,rfl,Nat.le_refl _,fun _ _ _=>rfl⟩
theorem fK.mono{fp fq:List Nat}{w w':World}(h:fK fp w w')(hs: ∀b,b∈fp→b∈fq):fK fq w w':=⟨h.os,h.tape,h.output,h.size,fun b hb hn=>h.block b hb fun hm=>hn (hs b hm)⟩
theorem fK.trans{fp:List Nat}{a b c:World}(h:fK fp a b)(k:fK fp b c):fK fp a c:=
 ⟨k.os.trans h.os,k.tape.trans h.tape,k.output.trans h.output,Nat.le_trans h.size k.size,fun i hi hn=>(k.block i (Nat.lt_of_lt_of_le hi h.size) hn).trans (h.block i hi hn)⟩
theorem fK.below{fp:List Nat}{w w':World}{B:Nat}(h:fK fp w w')(hB:B≤w.heap.size)(hg: ∀b,b∈fp→B≤b):Below B w w':=
 ⟨h.os,h.tape,h.output,h.size,fun b hb=>h.block b (Nat.lt_of_lt_of_le hb hB) fun hm=>Nat.not_le_of_lt hb (hg b hm)⟩
theorem fK.agree{fp fq:List Nat}{w w':World}(h:fK fp w w')(hl: ∀b,b∈fq→b<w.heap.size)(hd: ∀b,b∈fq→b∉fp):Agree w w' fq:=fun b hb=>h.block b (hl b hb) (hd b hb)
section
variable{α:Type}{k:Nat}{E:ER α}{lo e g n:Nat}{w w':World}{l:List α}{bn:List (List Nat)}
theorem tO{bn:List (List Nat)}(h:bn.flatten.Nodup){i j:Nat}{f f':List Nat}(hi:bn[i]? =some f)(hj:bn[j]? =some f')(hne:i≠j): ∀b,b∈f→b∉f':=by
 intro b hb hb'
 have hp:=(List.pairwise_flatten.1 h).2
 rw[List.pairwise_iff_getElem]at hp
 obtain⟨hi1,rfl⟩:=List.getElem?_eq_some_iff.1 hi
 obtain⟨Un,rfl⟩:=List.getElem?_eq_some_iff.1 hj
 rcases Nat.lt_or_ge i j with h1|h1
 ·exact hp i j hi1 Un h1 b hb b hb' rfl
 ·exact hp j i Un hi1 (by omega) b hb' b hb rfl
theorem Part.set(G:fJ k E)(h:Part k E lo e w g n l bn){i:Nat}{f:List Nat}{cs:List Value}{x':α}(hi:i<l.length)(hin:i<n)(hf:bn[i]? =some f)(hE:E w cs x' f):
  Part k E lo e (w.setCells g (i*k) cs) g n (l.set i x') bn:=by
 have hlen:=G.len hE
 have hnd:=h.own.nodup
 rw[List.nodup_cons]at hnd
 obtain⟨c,hc,hs⟩:=h.va
 obtain⟨c',HI,hs'⟩:=cW g e cs (i*k) w c hc
 have LZ:w.there g (i*k) cs.length:=by rw[hlen];exact h.there _ hin
 have BX: ∀b,b∈bn.flatten→b≠g:=fun b hb e=>hnd.1 (e▸hb)
 have BY:Agree w (w.setCells g (i*k) cs) bn.flatten:=fun b hb=>bV g cs _ w b (BX b hb)
 refine⟨⟨c',HI,by rw[hs',hs]⟩,⟨by rw[List.length_set];exact h.el.1,fun j y fy hy lX=> ?_⟩,⟨h.own.nodup,h.own.ge,fun b hb=> ?_⟩,h.cap⟩
 ·by_cases hj:i=j
  ·subst hj
   rw[List.getElem?_set_self hi]at hy
   simp only[oI]at hy
   subst hy
   rw[hf]at lX
   simp only[oI]at lX
   subst lX
   refine⟨cs,?_,G.agree hE (BY.sub fun b hb=>bX hf hb)⟩
   rw[Nat.zero_add]
   exact World.rangeAt_setCells_same w g _ cs LZ
  ·rw[List.getElem?_set_ne hj]at hy
   obtain⟨cy,hr,L0⟩:=h.el.2 j y fy hy lX
   refine⟨cy,World.rangeAt_setCells_apart hr _ _ _ (Or.inr ?_),G.agree L0 (BY.sub fun b hb=>bX lX hb)⟩
   rw[G.len L0,hlen]
   rcases Nat.lt_or_ge j i with h1|h1
   ·left
    have:=Nat.mul_le_mul_right k (show j+1≤i by omega)
    rw[Nat.add_mul]at this;omega
   ·right
    have:=Nat.mul_le_mul_right k (show i+1≤j by omega)
    rw[Nat.add_mul]at this;omega
 ·rcases List.mem_cons.1 hb with rfl|hb
  ·exact⟨_,_,HI⟩
  ·rw[BY b hb];exact h.own.kind b (List.mem_cons_of_mem _ hb)
theorem iU(G:fJ k E){g o n:Nat}{c:Array Value}(hc:w.heap[g]? =some (.cells c e (0,0)))(hfit:o+n*k≤c.size)(hn:l.length≤n)(hcap:n≤maxLen)(hel:nJ k E w g o l bn)(hown:Own lo w (g::bn.flatten)):
  ig k E lo e w (.slice (some ⟨g,o,none⟩) l.length n) l (g::bn.flatten):=by
 have hk:l.length*k≤n*k:=Nat.mul_le_mul_right k hn
 have qY:c.toList.length=c.size:=Array.length_toList
 refine⟨(c.toList.drop o).take (l.length*k),bn,⟨by rw[List.length_take,List.length_drop];omega,Or.inr ⟨g,o,n,c,rfl,hown.ge g (by simp),hc,hn,hcap,hfit,rfl⟩⟩,hel.1,fun i x f hx hf=> ?_,rfl,hown⟩
 obtain⟨cs,hr,hE⟩:=hel.2 i x f hx hf
 have hlen:=G.len hE
 have hi:i<l.length:=(List.getElem?_eq_some_iff.1 hx).1
 have h5:i*k+k≤l.length*k:=by
  have:=Nat.mul_le_mul_right k (show i+1≤l.length by omega)
  rw[Nat.add_mul]at this;omega
 have:(((c.toList.drop o).take (l.length*k)).drop (i*k)).take k=cs:=by
  apply List.ext_getElem?
  intro j
  by_cases hj:j<k
  ·rw[List.getElem?_take,if_pos hj,List.getElem?_drop,List.getElem?_take,if_pos (by omega),List.getElem?_drop]
   have h6:=hr j _ (List.getElem?_eq_getElem (by omega))
   simp[World.cell?,hc]at h6
   rw[List.getElem?_eq_getElem (show j<cs.length by omega), ←Nat.add_assoc]
   simp[h6]
  ·rw[List.getElem?_take,if_neg hj,List.getElem?_eq_none (by omega)]
 rw[this];exact hE
theorem ig.parts{v:Value}{fp:List Nat}(h:ig k E lo e w v l fp):(v= .slice none 0 0∧l= []∧fp= [])∨ ∃g o n c, ∃bn:List (List Nat),v= .slice (some ⟨g,o,none⟩) l.length n∧l.length≤n∧n≤maxLen∧w.heap[g]? =some (.cells c e (0,0))∧o+n*k≤c.size∧fp=g::bn.flatten:=by
 obtain⟨xs,bn,⟨hxl,ho⟩,hl,hel,eR,hown⟩:=h
 rcases ho with⟨rfl,h0⟩| ⟨g,o,cap,cur,rfl,hg,hc,hn,hcm,hcs,Po⟩
 ·have hl0:l= []:=List.eq_nil_of_length_eq_zero h0
  have:bn= []:=List.eq_nil_of_length_eq_zero (by omega)
  exact Or.inl ⟨rfl,hl0,by rw[eR,this];rfl⟩
 ·exact Or.inr ⟨g,o,cap,cur,bn,rfl,hn,hcm,hc,hcs,eR⟩
structure Qp{α:Type}(k:Nat)(E:ER α)(lo:Nat)(w:World)(b off:Nat)(l:List α)(bn:List (List Nat)):Prop where
 el:nJ k E w b off l bn
 own:Own lo w (b::bn.flatten)
theorem Qp.lt{b off:Nat}(h:Qp k E lo w b off l bn):b<w.heap.size:=h.own.lt b (by simp)
theorem Qp.set(G:fJ k E){b off:Nat}(h:Qp k E lo w b off l bn){i o:Nat}{f:List Nat}{vs cs:List Value}{x':α}(hi:i<l.length)(ho:o+vs.length≤k)(hf:bn[i]? =some f)
  (hr:(w.setCells b (off+i*k+o) vs).rangeAt b (off+i*k) cs)(hE:E w cs x' f):
  Qp k E lo (w.setCells b (off+i*k+o) vs) b off (l.set i x') bn:=by
 have hlen:=G.len hE
 have hnd:=h.own.nodup
 rw[List.nodup_cons]at hnd
 have BX: ∀c,c∈bn.flatten→c≠b:=fun c hc e=>hnd.1 (e▸hc)
 have BY:Agree w (w.setCells b (off+i*k+o) vs) bn.flatten:=fun c hc=>bV b vs _ w c (BX c hc)
 refine⟨⟨by rw[List.length_set];exact h.el.1,fun j y fy hy lX=> ?_⟩,⟨h.own.nodup,h.own.ge,fun c hc=> ?_⟩⟩
 ·by_cases hj:i=j
  ·subst hj
   rw[List.getElem?_set_self hi]at hy
   simp only[oI]at hy
   subst hy
   rw[hf]at lX
   simp only[oI]at lX
   subst lX
   exact⟨cs,hr,G.agree hE (BY.sub fun b hb=>bX hf hb)⟩
  ·rw[List.getElem?_set_ne hj]at hy
   obtain⟨cy,hr,L0⟩:=h.el.2 j y fy hy lX
   refine⟨cy,World.rangeAt_setCells_apart hr _ _ _ (Or.inr ?_),G.agree L0 (BY.sub fun b hb=>bX lX hb)⟩
   rw[G.len L0]
   rcases Nat.lt_or_ge j i with h1|h1
   ·left
    have:=Nat.mul_le_mul_right k (show j+1≤i by omega)
    rw[Nat.add_mul]at this;omega
   ·right
    have:=Nat.mul_le_mul_right k (show i+1≤j by omega)
    rw[Nat.add_mul]at this;omega
 ·rcases List.mem_cons.1 hc with rfl|hc
  ·obtain⟨c0,e0,hk⟩:=h.own.kind c (by simp)
   obtain⟨c',HI,_⟩:=cW c e0 vs (off+i*k+o) w c0 hk
   exact⟨_,_,HI⟩
  ·rw[BY c hc];exact h.own.kind c (List.mem_cons_of_mem _ hc)
end
end
end Go.Proofs.YtkcegdacbddipaaGreat.L
