/-
  Slices that the call has made, written again: an element replaced; an element's own memory written by a call.
-/
import Derived.OpenShut
import Derived.ProofKit
import Derived.Test.YtkkfjbfkjbljiaaGreatDoorM2
namespace Go.Proofs.YtkkfjbfkjbljiaaGreatDoor.L
set_option linter.all false
open Go.RowKit Go.ChangeShapes Go.WideShapes Go.ChangeAt D
section
section
variable{H:Type}(enc:TypeId×Value→H)(P:Program)(w:World)(spare:Nat→Bool)(held:Bool)
def Nf{α:Type}(t:TypeId)(E:ER α)(W:α→Prop):Prop:=
 ∀fuel cs y,DataW.trod enc P w 0 spare held fuel t cs=some y→ ∃x fp,E w cs x fp∧W x
variable{enc P w spare held}
theorem Ng{t:TypeId}(ht:P.underlying t=some (.int .u8)):Nf enc P w spare held t Hz (fun _=>True):=by
 intro fuel cs y h
 obtain⟨n,rfl,_,hw⟩:=DataW.trod_int ht h
 have hb:=bounds_u8 hw
 refine⟨UInt8.ofNat n.toNat,[],⟨?_,rfl⟩,trivial⟩
 have:((UInt8.ofNat n.toNat).toNat:Int)=n:=by
  rw[UInt8.toNat_ofNat'];omega
 rw[this]
theorem Nh{α:Type} [Inhabited α]{k:Nat}{E:ER α}{W:α→Prop}{t e:TypeId}(ht:P.underlying t=some (.slice e))(hk:P.cellsOf e=k)(hpos:0<k)(ho:Nf enc P w spare held e E W)(hspare: ∀b,spare b=true:=by exact fun _=>rfl):
  Nf enc P w spare held t (YX k E) (fun l=> ∀x,x∈l→W x):=by
 intro fuel cs y h
 rcases Go.Deep.open_slice ht h with⟨rfl,_⟩| ⟨a,len,cap,m,n,D,Pl,rfl,_,hl,hm,hmm,_,hx⟩
 ·exact⟨[],[],⟨_,rfl,none,0,rfl,Nat.le_refl _,Nat.zero_le _,Or.inl ⟨rfl,rfl,rfl⟩⟩,by simp⟩
 rw[hk]at hx
 rw[if_pos (hspare _)]at hmm
 subst hmm
 by_cases h0:m=0
 ·subst h0
  have:len=0:=by omega
  subst this
  exact⟨[],[],⟨_,rfl,some a,0,rfl,hl,hm,Or.inl ⟨rfl,rfl,rfl⟩⟩,by simp⟩
 have hsp:a.spot=none:=by
  obtain⟨cs',hc,_⟩:=hx 0 (by omega)
  obtain⟨_,h1,h2⟩:=World.cells?_some hc
  have h3:=h2 0 (by omega)
  have ha:((a.add (0*k)).add 0)=a:=by simp[Addr.add]
  rw[ha]at h3
  have hlen:0<cs'.length:=by omega
  rw[List.getElem?_eq_getElem hlen]at h3
  simp only[World.cell?]at h3
  split at h3
  ·split at h3
   ·cases h3
   ·rename_i hs;simpa using hs
  ·cases h3
 obtain⟨b,off,rfl⟩: ∃b off,a=⟨b,off,none⟩:=⟨a.block,a.off,by cases a;simp_all⟩
 have hel: ∀i,i<len→ ∃q:α×List Nat,(∃cs',w.rangeAt b (off+i*k) cs'∧E w cs' q.1 q.2)∧W q.1:=by
  intro i hi
  obtain⟨cs',hc,htr⟩:=hx i (by omega)
  obtain⟨x,fp,hE,hW⟩:=ho _ _ _ htr
  obtain⟨_,h1,h2⟩:=World.cells?_some hc
  refine⟨(x,fp),⟨cs',fun j v hv=> ?_,hE⟩,hW⟩
  have hj:=(List.getElem?_eq_some_iff.1 hv).1
  have:=h2 j (by omega)
  rw[Addr.add_mid,Addr.add_mid,hv]at this
  exact this
 obtain⟨f,hf⟩:=Go.Deep.choose_lt hel
 refine⟨(List.range len).map fun i=>(f i).1,b::((List.range len).map fun i=>(f i).2).flatten,⟨_,rfl,some ⟨b,off,none⟩,m,by simp,by simpa using hl,hm,Or.inr ⟨b,off,(List.range len).map fun i=>(f i).2,rfl,?_,rfl,by simp,?_⟩⟩,?_⟩
 ·obtain⟨cs',hc,_⟩:=hx (m-1) (by omega)
  obtain⟨_,h1,h2⟩:=World.cells?_some hc
  have h3:=h2 (k-1) (by omega)
  rw[Addr.add_mid,Addr.add_mid,List.getElem?_eq_getElem (by omega)]at h3
  have hmk:off+(m-1)*k+(k-1)+1=off+m*k:=by
   obtain⟨q,rfl⟩: ∃q,m=q+1:=⟨m-1,by omega⟩
   rw[Nat.add_sub_cancel,Nat.add_mul];omega
  simp only[World.cell?]at h3
  split at h3
  ·rename_i c e fz hb
   refine⟨c,e,fz,hb,?_⟩
   have h4:off+(m-1)*k+(k-1)<c.size:=by
    apply Decidable.byContradiction
    intro hge
    simp[Array.getElem?_eq_none (show c.size≤off+(m-1)*k+(k-1)by omega)]at h3
   omega
  ·cases h3
 ·intro i x fp hx gb
  have hi:i<len:=by have:=(List.getElem?_eq_some_iff.1 hx).1;simpa using this
  simp[hi]at hx gb
  subst hx;subst gb
  exact(hf i hi).1
 ·intro x hx
  simp only[List.mem_map,List.mem_range]at hx
  obtain⟨i,hi,rfl⟩:=hx
  exact(hf i hi).2
end
end
end Go.Proofs.YtkkfjbfkjbljiaaGreatDoor.L
namespace Go.Proofs.YtkkfjbfkjbljiaaGreatDoor.G
set_option linter.all false
open Go.RowKit L D
section
inductive Tag where
 |int|u8|str|sl(t:Tag)|DB|aX|bD|aK|iK|dN|bP|bw|Ev|iy|fA|Plain|dy
 deriving DecidableEq
@[reducible] def T:Tag→Type
  | .int=>Int
  | .u8=>UInt8
  | .str=>List UInt8
  | .sl t=>List (T t)
  | .DB=>DB
  | .aX=>aX
  | .bD=>bD
  | .aK=>aK
  | .iK=>iK
  | .dN=>dN
  | .bP=>bP
  | .bw=>bw
  | .Ev=>Ev
  | .iy=>iy
  | .fA=>fA
  | .Plain=>Plain
  | .dy=>dy
def kk:Tag→Nat
 | .int=>1
 | .u8=>1
 | .str=>1
 | .sl _=>1
 | .DB=>1
 | .aX=>2
 | .bD=>5
 | .aK=>2
 | .iK=>2
 | .dN=>8
 | .bP=>16
 | .bw=>10
 | .Ev=>4
 | .iy=>3
 | .fA=>5
 | .Plain=>2
 | .dy=>5
def rd:(t:Tag)→ER (T t)
 | .int=>MT
 | .u8=>Hz
 | .str=>Sb
 | .sl t=>YX (kk t) (rd t)
 | .DB=>YY
 | .aX=>uD
 | .bD=>MZ
 | .aK=>uE
 | .iK=>M0
 | .dN=>K3
 | .bP=>M1
 | .bw=>Se
 | .Ev=>EEv
 | .iy=>M6
 | .fA=>M8
 | .Plain=>DH
 | .dy=>Jw
theorem dF:(t:Tag)→fL (kk t) (rd t)
 | .int=>qm
 | .u8=>iz
 | .str=>MU
 | .sl t=>ox (dF t)
 | .DB=>lp
 | .aX=>qo
 | .bD=>zL
 | .aK=>qp
 | .iK=>qt
 | .dN=>jF
 | .bP=>zM
 | .bw=>M5
 | .Ev=>Sf
 | .iy=>M7
 | .fA=>M9
 | .Plain=>HD
 | .dy=>K4
theorem fB:(t:Tag)→0<kk t
 | .int=>by decide
 | .u8=>by decide
 | .str=>by decide
 | .sl _=>Nat.one_pos
 | .DB=>by decide
 | .aX=>by decide
 | .bD=>by decide
 | .aK=>by decide
 | .iK=>by decide
 | .dN=>by decide
 | .bP=>by decide
 | .bw=>by decide
 | .Ev=>by decide
 | .iy=>by decide
 | .fA=>by decide
 | .Plain=>by decide
 | .dy=>by decide
def aI:(t:Tag)→T t
 | .int=>(0:Int)
 | .u8=>(0:UInt8)
 | .str=>([]:List UInt8)
 | .sl t=>([]:List (T t))
 | .DB=>(default:DB)
 | .aX=>(default:aX)
 | .bD=>(default:bD)
 | .aK=>(default:aK)
 | .iK=>(default:iK)
 | .dN=>(default:dN)
 | .bP=>(default:bP)
 | .bw=>(default:bw)
 | .Ev=>(default:Ev)
 | .iy=>(default:iy)
 | .fA=>(default:fA)
 | .Plain=>(default:Plain)
 | .dy=>(default:dy)
inductive V where
 |any
 |lit(v:Value)
 |sl(t:Tag)(l:List (T t))
 |own(n:Nat)
 |ptr(n off:Nat)
 |kE(n i off:Nat)
 |ip(t:Tag)(x:T t)(off:Nat)
 |vw(n:Nat)(p:Option (Nat×Nat))(t:Tag)(l:List (T t))
 |yH(n:Nat)(p:Option (Nat×Nat×Nat))(t:Tag)(x:T t)(off:Nat)
 |yI(n:Nat)(t:Tag)(l:List (T t))
 |mix(n:Nat)(c:Bool)(t:Tag)(l:List (T t))
 |pW(n:Nat)
 |yf(f:FuncId)(n:Nat)
 |oA(k:Nat)
 |raw(v:Value)
 |eF(v:Value)(t:Tag)(l:List (T t))
def RI(w:World):V→Value→List Nat→Prop
 | .lit v,u,fp=>u=v∧v.oneCell'=true∧fp= []
 | .sl t l,u,fp=>Sl (kk t) (rd t) w u l fp
 |_,_,_=>False
def cx(w:World):List V→List Value→List Nat→Prop
 | [],[],fp=>fp= []
 |V::Vs,u::us,fp=> ∃f g,RI w V u f∧cx w Vs us g∧fp=f++g
 |_,_,_=>False
theorem cx.nil{w:World}:cx w [] [] []:=rfl
theorem cx.lit{w:World}{v:Value}{Vs:List V}{us:List Value}{g:List Nat}(hv:v.oneCell'=true)(h:cx w Vs us g):cx w (.lit v::Vs) (v::us) g:=⟨[],g,⟨rfl,hv,rfl⟩,h,rfl⟩
theorem cx.sl{w:World}{u:Value}{t:Tag}{l:List (T t)}{f g:List Nat}{Vs:List V}{us:List Value}(k:Sl (kk t) (rd t) w u l f)(h:cx w Vs us g):cx w (.sl t l::Vs) (u::us) (f++g):=⟨f,g,k,h,rfl⟩
theorem cx.app{w:World}: ∀{Vs Us:List V} {vs us:List Value} {f g:List Nat},cx w Vs vs f→cx w Us us g→cx w (Vs++Us) (vs++us) (f++g)
 | [],_,[],_,_,_,h,k=>by rw[show _=_ from h];exact k
 |_::_,_,_::_,_,_,_,⟨f1,f2,h1,h2,e⟩,k=>⟨f1,f2++_,h1,cx.app h2 k,by rw[e,List.append_assoc]⟩
 | [],_,_::_,_,_,_,h,_=>h.elim
 |_::_,_,[],_,_,_,h,_=>h.elim
theorem cx.len{w:World}: ∀{Vs:List V} {us:List Value} {fp:List Nat},cx w Vs us fp→us.length=Vs.length
 | [],[],_,_=>rfl
 |_::_,_::_,_,⟨_,_,_,h,_⟩=>by simp[cx.len h]
 | [],_::_,_,h=>h.elim
 |_::_,[],_,h=>h.elim
def bQ(x:DB):List V:= [.sl (.sl .u8) x.rows]
def tG(x:aX):List V:= [.lit (.int .i64 x.client)]++bQ x.share
def cH(x:bD):List V:= [.lit (.int .i64 x.id), .lit (.int .i64 x.rows), .lit (.int .i64 x.round), .sl .aX x.received, .lit (.int .i64 x.behavior)]
def tH(x:aK):List V:= [.lit (.int .i64 x.round)]++bQ x.db
def dz(x:iK):List V:= [.lit (.int .i64 x.rows), .sl .aK x.rounds]
def cF(x:dN):List V:= [.lit (.int .i64 x.id), .lit (.int .i64 x.bG), .lit (.int .i64 x.key), .lit (.int .i64 x.seed), .sl (.sl .u8) x.aF, .lit (.int .i64 x.sent), .sl (.sl .u8) x.inbox, .lit (.int .i64 x.next)]
def cQ(x:bP):List V:=cF x.live++cF x.saved
def bX(x:bw):List V:= [.lit (.int .i64 x.rows), .sl .bD x.an, .sl .bP x.af]++dz x.aJ++ [.lit (.int .i64 x.bq), .lit (.int .i64 x.seed), .lit (.int .i64 x.round), .sl .int x.replaced, .lit (.int .i64 x.cancelled)]
def HE(x:Ev):List V:= [.lit (.int .i64 x.kind), .lit (.int .i64 x.node), .lit (.int .i64 x.value), .sl .u8 x.body]
def DJ(x:iy):List V:= [.lit (.int .i64 x.fr), .lit (.int .i64 x.to), .lit (.int .i64 x.bytes)]
def oB(x:fA):List V:= [.lit (.int .i64 x.server), .lit (.int .i64 x.client), .lit (.int .i64 x.round), .lit (.int .i64 x.qu), .lit (.int .i64 x.Jv)]
def lH(x:Plain):List V:= [.lit (.int .i64 x.kind), .sl .u8 x.body]
def jG(x:dy):List V:= [.lit (.int .i64 x.server), .lit (.int .i64 x.round), .sl .int x.selection, .sl .u8 x.data, .lit (.int .i64 x.Jv)]
def dec:(t:Tag)→T t→List V
 | .int,n=> [.lit (.int .i64 n)]
 | .u8,n=> [.lit (.int .u8 n.toNat)]
 | .str,s=> [.lit (.string ⟨s.toArray⟩)]
 | .sl t,l=> [.sl t l]
 | .DB,x=>bQ x
 | .aX,x=>tG x
 | .bD,x=>cH x
 | .aK,x=>tH x
 | .iK,x=>dz x
 | .dN,x=>cF x
 | .bP,x=>cQ x
 | .bw,x=>bX x
 | .Ev,x=>HE x
 | .iy,x=>DJ x
 | .fA,x=>oB x
 | .Plain,x=>lH x
 | .dy,x=>jG x
theorem zT{w:World}{cs:List Value}{x:DB}{fp:List Nat}:YY w cs x fp→cx w (bQ x) cs fp:=by
 rintro⟨v0,f0,rfl,h0,rfl⟩
 have h:=(cx.sl (t:=(.sl .u8)) h0 cx.nil)
 simpa[bQ]using h
theorem DK{w:World}{cs:List Value}{x:aX}{fp:List Nat}:uD w cs x fp→cx w (tG x) cs fp:=by
 rintro⟨v0,f0,rfl,h0,rfl⟩
 have h:=(cx.app (cx.lit (w:=w) (v:= .int .i64 x.client) rfl cx.nil) (zT h0))
 simpa[tG]using h
theorem K6{w:World}{cs:List Value}{x:bD}{fp:List Nat}:MZ w cs x fp→cx w (cH x) cs fp:=by
 rintro⟨v0,f0,rfl,h0,rfl⟩
 have h:=(cx.lit (w:=w) (v:= .int .i64 x.id) rfl (cx.lit (w:=w) (v:= .int .i64 x.rows) rfl (cx.lit (w:=w) (v:= .int .i64 x.round) rfl (cx.sl (t:= .aX) h0 (cx.lit (w:=w) (v:= .int .i64 x.behavior) rfl cx.nil)))))
 simpa[cH]using h
theorem DL{w:World}{cs:List Value}{x:aK}{fp:List Nat}:uE w cs x fp→cx w (tH x) cs fp:=by
 rintro⟨v0,f0,rfl,h0,rfl⟩
 have h:=(cx.app (cx.lit (w:=w) (v:= .int .i64 x.round) rfl cx.nil) (zT h0))
 simpa[tH]using h
theorem CB{w:World}{cs:List Value}{x:iK}{fp:List Nat}:M0 w cs x fp→cx w (dz x) cs fp:=by
 rintro⟨v0,f0,rfl,h0,rfl⟩
 have h:=(cx.lit (w:=w) (v:= .int .i64 x.rows) rfl (cx.sl (t:= .aK) h0 cx.nil))
 simpa[dz]using h
theorem wE{w:World}{cs:List Value}{x:dN}{fp:List Nat}:K3 w cs x fp→cx w (cF x) cs fp:=by
 rintro⟨v0,v1,f0,f1,rfl,h0,h1,rfl⟩
 have h:=(cx.lit (w:=w) (v:= .int .i64 x.id) rfl (cx.lit (w:=w) (v:= .int .i64 x.bG) rfl (cx.lit (w:=w) (v:= .int .i64 x.key) rfl (cx.lit (w:=w) (v:= .int .i64 x.seed) rfl (cx.sl (t:=(.sl .u8)) h0 (cx.lit (w:=w) (v:= .int .i64 x.sent) rfl (cx.sl (t:=(.sl .u8)) h1 (cx.lit (w:=w) (v:= .int .i64 x.next) rfl cx.nil))))))))
 simpa[cF]using h
theorem K7{w:World}{cs:List Value}{x:bP}{fp:List Nat}:M1 w cs x fp→cx w (cQ x) cs fp:=by
 rintro⟨v0,v1,f0,f1,rfl,h0,h1,rfl⟩
 have h:=(cx.app (wE h0) (wE h1))
 simpa[cQ]using h
theorem K8{w:World}{cs:List Value}{x:bw}{fp:List Nat}:Se w cs x fp→cx w (bX x) cs fp:=by
 rintro⟨v0,v1,v2,v3,f0,f1,f2,f3,rfl,h0,h1,h2,h3,rfl⟩
 have h:=(cx.app (cx.app (cx.lit (w:=w) (v:= .int .i64 x.rows) rfl (cx.sl (t:= .bD) h0 (cx.sl (t:= .bP) h1 cx.nil))) (CB h2)) (cx.lit (w:=w) (v:= .int .i64 x.bq) rfl (cx.lit (w:=w) (v:= .int .i64 x.seed) rfl (cx.lit (w:=w) (v:= .int .i64 x.round) rfl (cx.sl (t:= .int) h3 (cx.lit (w:=w) (v:= .int .i64 x.cancelled) rfl cx.nil))))))
 simpa[bX]using h
theorem Ni{w:World}{cs:List Value}{x:Ev}{fp:List Nat}:EEv w cs x fp→cx w (HE x) cs fp:=by
 rintro⟨v0,f0,rfl,h0,rfl⟩
 have h:=(cx.lit (w:=w) (v:= .int .i64 x.kind) rfl (cx.lit (w:=w) (v:= .int .i64 x.node) rfl (cx.lit (w:=w) (v:= .int .i64 x.value) rfl (cx.sl (t:= .u8) h0 cx.nil))))
 simpa[HE]using h
theorem K9{w:World}{cs:List Value}{x:iy}{fp:List Nat}:M6 w cs x fp→cx w (DJ x) cs fp:=by
 rintro⟨rfl,rfl⟩
 have h:=(cx.lit (w:=w) (v:= .int .i64 x.fr) rfl (cx.lit (w:=w) (v:= .int .i64 x.to) rfl (cx.lit (w:=w) (v:= .int .i64 x.bytes) rfl cx.nil)))
 simpa[DJ]using h
theorem La{w:World}{cs:List Value}{x:fA}{fp:List Nat}:M8 w cs x fp→cx w (oB x) cs fp:=by
 rintro⟨rfl,rfl⟩
 have h:=(cx.lit (w:=w) (v:= .int .i64 x.server) rfl (cx.lit (w:=w) (v:= .int .i64 x.client) rfl (cx.lit (w:=w) (v:= .int .i64 x.round) rfl (cx.lit (w:=w) (v:= .int .i64 x.qu) rfl (cx.lit (w:=w) (v:= .int .i64 x.Jv) rfl cx.nil)))))
 simpa[oB]using h
theorem Fh{w:World}{cs:List Value}{x:Plain}{fp:List Nat}:DH w cs x fp→cx w (lH x) cs fp:=by
 rintro⟨v0,f0,rfl,h0,rfl⟩
 have h:=(cx.lit (w:=w) (v:= .int .i64 x.kind) rfl (cx.sl (t:= .u8) h0 cx.nil))
 simpa[lH]using h
theorem HF{w:World}{cs:List Value}{x:dy}{fp:List Nat}:Jw w cs x fp→cx w (jG x) cs fp:=by
 rintro⟨v0,v1,f0,f1,rfl,h0,h1,rfl⟩
 have h:=(cx.lit (w:=w) (v:= .int .i64 x.server) rfl (cx.lit (w:=w) (v:= .int .i64 x.round) rfl (cx.sl (t:= .int) h0 (cx.sl (t:= .u8) h1 (cx.lit (w:=w) (v:= .int .i64 x.Jv) rfl cx.nil)))))
 simpa[jG]using h
theorem reads{w:World}:(t:Tag)→{cs:List Value}→{x:T t}→{fp:List Nat}→rd t w cs x fp→cx w (dec t x) cs fp
 | .int,_,_,_,⟨rfl,rfl⟩=>cx.lit (v:= .int .i64 _) rfl cx.nil
 | .u8,_,_,_,⟨rfl,rfl⟩=>cx.lit (v:= .int .u8 _) rfl cx.nil
 | .str,_,_,_,⟨rfl,_,rfl⟩=>cx.lit (v:= .string _) rfl cx.nil
 | .sl t,_,_,_,⟨v,rfl,h⟩=>by have:=cx.sl (t:=t) h (cx.nil);rwa [List.append_nil]at this
 | .DB,_,_,_,h=>zT h
 | .aX,_,_,_,h=>DK h
 | .bD,_,_,_,h=>K6 h
 | .aK,_,_,_,h=>DL h
 | .iK,_,_,_,h=>CB h
 | .dN,_,_,_,h=>wE h
 | .bP,_,_,_,h=>K7 h
 | .bw,_,_,_,h=>K8 h
 | .Ev,_,_,_,h=>Ni h
 | .iy,_,_,_,h=>K9 h
 | .fA,_,_,_,h=>La h
 | .Plain,_,_,_,h=>Fh h
 | .dy,_,_,_,h=>HF h
end
section
def gh:(t t':Tag)→List (T t')→Option (List (T t))
 | .int, .int,l=>some l
 | .u8, .u8,l=>some l
 | .str, .str,l=>some l
 | .sl .int, .sl .int,l=>some l
 | .sl .u8, .sl .u8,l=>some l
 | .sl .str, .sl .str,l=>some l
 | .sl (.sl .u8), .sl (.sl .u8),l=>some l
 | .sl (.sl .int), .sl (.sl .int),l=>some l
 | .DB, .DB,l=>some l
 | .aX, .aX,l=>some l
 | .bD, .bD,l=>some l
 | .aK, .aK,l=>some l
 | .iK, .iK,l=>some l
 | .dN, .dN,l=>some l
 | .bP, .bP,l=>some l
 | .bw, .bw,l=>some l
 | .Ev, .Ev,l=>some l
 | .iy, .iy,l=>some l
 | .fA, .fA,l=>some l
 | .Plain, .Plain,l=>some l
 | .dy, .dy,l=>some l
 |_,_,_=>none
theorem c8{t t':Tag}{l:List (T t')}{l2:List (T t)}(h:gh t t' l=some l2): ∃e:t'=t,l2=e▸l:=by
 unfold gh at h
 split at h<;>first
  | (simp only[oI]at h;exact⟨rfl,h.symm⟩)
  |cases h
def gi:V→Option Int
 | .lit (.int .i64 n)=>some n
 |_=>none
def gs(t:Tag):V→Option (List (T t))
 | .sl t' l=>gh t t' l
 | .lit (.slice none 0 0)=>some []
 |_=>none
theorem ew{w:World}{v:V}{u:Value}{f:List Nat}{n:Int}(h:gi v=some n)(hr:RI w v u f):u= .int .i64 n∧f= []:=by
 unfold gi at h
 split at h
 ·simp only[oI]at h
  subst h
  exact⟨hr.1,hr.2.2⟩
 ·cases h
theorem nD{w:World}{t:Tag}{v:V}{u:Value}{f:List Nat}{l:List (T t)}(h:gs t v=some l)(hr:RI w v u f):Sl (kk t) (rd t) w u l f:=by
 unfold gs at h
 split at h
 ·rename_i t' l'
  obtain⟨he,rfl⟩:=c8 h
  subst he
  exact hr
 ·simp only[oI]at h
  subst h
  obtain⟨rfl,_,rfl⟩:=hr
  exact⟨none,0,rfl,Nat.le_refl _,Nat.zero_le _,Or.inl ⟨rfl,rfl,rfl⟩⟩
 ·cases h
def wF:List V→Option DB
 | [a0]=>match gs (.sl .u8) a0 with
   |some x0=>some ⟨x0⟩
   |_=>none
 |_=>none
theorem rJ{w:World}{c:List V}{us:List Value}{fp:List Nat}{x:DB}(h:wF c=some x)(hr:cx w c us fp):YY w us x fp:=by
 unfold wF at h
 split at h
 ·rename_i a0
  split at h
  ·rename_i x0 e0
   simp only[oI]at h
   subst h
   match us,hr with
   | [u0],⟨f0,g0,r0,h9,q0⟩=>
     have h9:g0= []:=h9
     have z0:=nD e0 r0
     refine⟨u0,f0,?_,z0,?_⟩
     ·rfl
     ·simp[q0,h9]
  ·cases h
 ·cases h
def oC:List V→Option aX
 | [a0,a1]=>match gi a0,wF [a1]with
   |some x0,some x1=>some ⟨x0,x1⟩
   |_,_=>none
 |_=>none
theorem s8{w:World}{c:List V}{us:List Value}{fp:List Nat}{x:aX}(h:oC c=some x)(hr:cx w c us fp):uD w us x fp:=by
 unfold oC at h
 split at h
 ·rename_i a0 a1
  split at h
  ·rename_i x0 x1 e0 e1
   simp only[oI]at h
   subst h
   match us,hr with
   | [u0,u1],⟨f0,g0,r0,⟨f1,g1,r1,h9,q1⟩,q0⟩=>
     have h9:g1= []:=h9
     obtain⟨z0,y0⟩:=ew e0 r0
     have z1:=rJ (w:=w) (us:= [u1]) (fp:=(f1++ [])) e1 ⟨f1,_,r1,rfl,rfl⟩
     refine⟨[u1],(f1++ []),?_,z1,?_⟩
     ·simp[z0]
     ·simp[q0,q1,h9,y0]
  ·cases h
 ·cases h
def ze:List V→Option bD
 | [a0,a1,a2,a3,a4]=>match gi a0,gi a1,gi a2,gs .aX a3,gi a4 with
   |some x0,some x1,some x2,some x3,some x4=>some ⟨x0,x1,x2,x3,x4⟩
   |_,_,_,_,_=>none
 |_=>none
theorem zU{w:World}{c:List V}{us:List Value}{fp:List Nat}{x:bD}(h:ze c=some x)(hr:cx w c us fp):MZ w us x fp:=by
 unfold ze at h
 split at h
 ·rename_i a0 a1 a2 a3 a4
  split at h
  ·rename_i x0 x1 x2 x3 x4 e0 e1 e2 e3 e4
   simp only[oI]at h
   subst h
   match us,hr with
   | [u0,u1,u2,u3,u4],⟨f0,g0,r0,⟨f1,g1,r1,⟨f2,g2,r2,⟨f3,g3,r3,⟨f4,g4,r4,h9,q4⟩,q3⟩,q2⟩,q1⟩,q0⟩=>
     have h9:g4= []:=h9
     obtain⟨z0,y0⟩:=ew e0 r0
     obtain⟨z1,y1⟩:=ew e1 r1
     obtain⟨z2,y2⟩:=ew e2 r2
     have z3:=nD e3 r3
     obtain⟨z4,y4⟩:=ew e4 r4
     refine⟨u3,f3,?_,z3,?_⟩
     ·simp[z0,z1,z2,z4]
     ·simp[q0,q1,q2,q3,q4,h9,y0,y1,y2,y4]
  ·cases h
 ·cases h
def oD:List V→Option aK
 | [a0,a1]=>match gi a0,wF [a1]with
   |some x0,some x1=>some ⟨x0,x1⟩
   |_,_=>none
 |_=>none
theorem s9{w:World}{c:List V}{us:List Value}{fp:List Nat}{x:aK}(h:oD c=some x)(hr:cx w c us fp):uE w us x fp:=by
 unfold oD at h
 split at h
 ·rename_i a0 a1
  split at h
  ·rename_i x0 x1 e0 e1
   simp only[oI]at h
   subst h
   match us,hr with
   | [u0,u1],⟨f0,g0,r0,⟨f1,g1,r1,h9,q1⟩,q0⟩=>
     have h9:g1= []:=h9
     obtain⟨z0,y0⟩:=ew e0 r0
     have z1:=rJ (w:=w) (us:= [u1]) (fp:=(f1++ [])) e1 ⟨f1,_,r1,rfl,rfl⟩
     refine⟨[u1],(f1++ []),?_,z1,?_⟩
     ·simp[z0]
     ·simp[q0,q1,h9,y0]
  ·cases h
 ·cases h
def uF:List V→Option iK
 | [a0,a1]=>match gi a0,gs .aK a1 with
   |some x0,some x1=>some ⟨x0,x1⟩
   |_,_=>none
 |_=>none
theorem tI{w:World}{c:List V}{us:List Value}{fp:List Nat}{x:iK}(h:uF c=some x)(hr:cx w c us fp):M0 w us x fp:=by
 unfold uF at h
 split at h
 ·rename_i a0 a1
  split at h
  ·rename_i x0 x1 e0 e1
   simp only[oI]at h
   subst h
   match us,hr with
   | [u0,u1],⟨f0,g0,r0,⟨f1,g1,r1,h9,q1⟩,q0⟩=>
     have h9:g1= []:=h9
     obtain⟨z0,y0⟩:=ew e0 r0
     have z1:=nD e1 r1
     refine⟨u1,f1,?_,z1,?_⟩
     ·simp[z0]
     ·simp[q0,q1,h9,y0]
  ·cases h
 ·cases h
def rK:List V→Option dN
 | [a0,a1,a2,a3,a4,a5,a6,a7]=>match gi a0,gi a1,gi a2,gi a3,gs (.sl .u8) a4,gi a5,gs (.sl .u8) a6,gi a7 with
   |some x0,some x1,some x2,some x3,some x4,some x5,some x6,some x7=>some ⟨x0,x1,x2,x3,x4,x5,x6,x7⟩
   |_,_,_,_,_,_,_,_=>none
 |_=>none
theorem oF{w:World}{c:List V}{us:List Value}{fp:List Nat}{x:dN}(h:rK c=some x)(hr:cx w c us fp):K3 w us x fp:=by
 unfold rK at h
 split at h
 ·rename_i a0 a1 a2 a3 a4 a5 a6 a7
  split at h
  ·rename_i x0 x1 x2 x3 x4 x5 x6 x7 e0 e1 e2 e3 e4 e5 e6 e7
   simp only[oI]at h
   subst h
   match us,hr with
   | [u0,u1,u2,u3,u4,u5,u6,u7],⟨f0,g0,r0,⟨f1,g1,r1,⟨f2,g2,r2,⟨f3,g3,r3,⟨f4,g4,r4,⟨f5,g5,r5,⟨f6,g6,r6,⟨f7,g7,r7,h9,q7⟩,q6⟩,q5⟩,q4⟩,q3⟩,q2⟩,q1⟩,q0⟩=>
     have h9:g7= []:=h9
     obtain⟨z0,y0⟩:=ew e0 r0
     obtain⟨z1,y1⟩:=ew e1 r1
     obtain⟨z2,y2⟩:=ew e2 r2
     obtain⟨z3,y3⟩:=ew e3 r3
     have z4:=nD e4 r4
     obtain⟨z5,y5⟩:=ew e5 r5
     have z6:=nD e6 r6
     obtain⟨z7,y7⟩:=ew e7 r7
     refine⟨u4,u6,f4,f6,?_,z4,z6,?_⟩
     ·simp[z0,z1,z2,z3,z5,z7]
     ·simp[q0,q1,q2,q3,q4,q5,q6,q7,h9,y0,y1,y2,y3,y5,y7]
  ·cases h
 ·cases h
def zf:List V→Option bP
 | [a0,a1,a2,a3,a4,a5,a6,a7,a8,a9,a10,a11,a12,a13,a14,a15]=>match rK [a0,a1,a2,a3,a4,a5,a6,a7],rK [a8,a9,a10,a11,a12,a13,a14,a15]with
   |some x0,some x8=>some ⟨x0,x8⟩
   |_,_=>none
 |_=>none
theorem zV{w:World}{c:List V}{us:List Value}{fp:List Nat}{x:bP}(h:zf c=some x)(hr:cx w c us fp):M1 w us x fp:=by
 unfold zf at h
 split at h
 ·rename_i a0 a1 a2 a3 a4 a5 a6 a7 a8 a9 a10 a11 a12 a13 a14 a15
  split at h
  ·rename_i x0 x8 e0 e1
   simp only[oI]at h
   subst h
   match us,hr with
   | [u0,u1,u2,u3,u4,u5,u6,u7,u8,u9,u10,u11,u12,u13,u14,u15],⟨f0,g0,r0,⟨f1,g1,r1,⟨f2,g2,r2,⟨f3,g3,r3,⟨f4,g4,r4,⟨f5,g5,r5,⟨f6,g6,r6,⟨f7,g7,r7,⟨f8,g8,r8,⟨f9,g9,r9,⟨f10,g10,r10,⟨f11,g11,r11,⟨f12,g12,r12,⟨f13,g13,r13,⟨f14,g14,r14,⟨f15,g15,r15,h9,q15⟩,q14⟩,q13⟩,q12⟩,q11⟩,q10⟩,q9⟩,q8⟩,q7⟩,q6⟩,q5⟩,q4⟩,q3⟩,q2⟩,q1⟩,q0⟩=>
     have h9:g15= []:=h9
     have z0:=oF (w:=w) (us:= [u0,u1,u2,u3,u4,u5,u6,u7]) (fp:=(f0++(f1++(f2++(f3++(f4++(f5++(f6++(f7++ []))))))))) e0 ⟨f0,_,r0,⟨f1,_,r1,⟨f2,_,r2,⟨f3,_,r3,⟨f4,_,r4,⟨f5,_,r5,⟨f6,_,r6,⟨f7,_,r7,rfl,rfl⟩,rfl⟩,rfl⟩,rfl⟩,rfl⟩,rfl⟩,rfl⟩,rfl⟩
     have z8:=oF (w:=w) (us:= [u8,u9,u10,u11,u12,u13,u14,u15]) (fp:=(f8++(f9++(f10++(f11++(f12++(f13++(f14++(f15++ []))))))))) e1 ⟨f8,_,r8,⟨f9,_,r9,⟨f10,_,r10,⟨f11,_,r11,⟨f12,_,r12,⟨f13,_,r13,⟨f14,_,r14,⟨f15,_,r15,rfl,rfl⟩,rfl⟩,rfl⟩,rfl⟩,rfl⟩,rfl⟩,rfl⟩,rfl⟩
     refine⟨[u0,u1,u2,u3,u4,u5,u6,u7],[u8,u9,u10,u11,u12,u13,u14,u15],(f0++(f1++(f2++(f3++(f4++(f5++(f6++(f7++ [])))))))),(f8++(f9++(f10++(f11++(f12++(f13++(f14++(f15++ [])))))))),?_,z0,z8,?_⟩
     ·rfl
     ·simp[q0,q1,q2,q3,q4,q5,q6,q7,q8,q9,q10,q11,q12,q13,q14,q15,h9]
  ·cases h
 ·cases h
def zg:List V→Option bw
 | [a0,a1,a2,a3,a4,a5,a6,a7,a8,a9]=>match gi a0,gs .bD a1,gs .bP a2,uF [a3,a4],gi a5,gi a6,gi a7,gs .int a8,gi a9 with
   |some x0,some x1,some x2,some x3,some x5,some x6,some x7,some x8,some x9=>some ⟨x0,x1,x2,x3,x5,x6,x7,x8,x9⟩
   |_,_,_,_,_,_,_,_,_=>none
 |_=>none
theorem zW{w:World}{c:List V}{us:List Value}{fp:List Nat}{x:bw}(h:zg c=some x)(hr:cx w c us fp):Se w us x fp:=by
 unfold zg at h
 split at h
 ·rename_i a0 a1 a2 a3 a4 a5 a6 a7 a8 a9
  split at h
  ·rename_i x0 x1 x2 x3 x5 x6 x7 x8 x9 e0 e1 e2 e3 e4 e5 e6 e7 e8
   simp only[oI]at h
   subst h
   match us,hr with
   | [u0,u1,u2,u3,u4,u5,u6,u7,u8,u9],⟨f0,g0,r0,⟨f1,g1,r1,⟨f2,g2,r2,⟨f3,g3,r3,⟨f4,g4,r4,⟨f5,g5,r5,⟨f6,g6,r6,⟨f7,g7,r7,⟨f8,g8,r8,⟨f9,g9,r9,h9,q9⟩,q8⟩,q7⟩,q6⟩,q5⟩,q4⟩,q3⟩,q2⟩,q1⟩,q0⟩=>
     have h9:g9= []:=h9
     obtain⟨z0,y0⟩:=ew e0 r0
     have z1:=nD e1 r1
     have z2:=nD e2 r2
     have z3:=tI (w:=w) (us:= [u3,u4]) (fp:=(f3++(f4++ []))) e3 ⟨f3,_,r3,⟨f4,_,r4,rfl,rfl⟩,rfl⟩
     obtain⟨z5,y5⟩:=ew e4 r5
     obtain⟨z6,y6⟩:=ew e5 r6
     obtain⟨z7,y7⟩:=ew e6 r7
     have z8:=nD e7 r8
     obtain⟨z9,y9⟩:=ew e8 r9
     refine⟨u1,u2,[u3,u4],u8,f1,f2,(f3++(f4++ [])),f8,?_,z1,z2,z3,z8,?_⟩
     ·simp[z0,z5,z6,z7,z9]
     ·simp[q0,q1,q2,q3,q4,q5,q6,q7,q8,q9,h9,y0,y5,y6,y7,y9]
  ·cases h
 ·cases h
def DM:List V→Option Ev
 | [a0,a1,a2,a3]=>match gi a0,gi a1,gi a2,gs .u8 a3 with
   |some x0,some x1,some x2,some x3=>some ⟨x0,x1,x2,x3⟩
   |_,_,_,_=>none
 |_=>none
theorem CC{w:World}{c:List V}{us:List Value}{fp:List Nat}{x:Ev}(h:DM c=some x)(hr:cx w c us fp):EEv w us x fp:=by
 unfold DM at h
 split at h
 ·rename_i a0 a1 a2 a3
  split at h
  ·rename_i x0 x1 x2 x3 e0 e1 e2 e3
   simp only[oI]at h
   subst h
   match us,hr with
   | [u0,u1,u2,u3],⟨f0,g0,r0,⟨f1,g1,r1,⟨f2,g2,r2,⟨f3,g3,r3,h9,q3⟩,q2⟩,q1⟩,q0⟩=>
     have h9:g3= []:=h9
     obtain⟨z0,y0⟩:=ew e0 r0
     obtain⟨z1,y1⟩:=ew e1 r1
     obtain⟨z2,y2⟩:=ew e2 r2
     have z3:=nD e3 r3
     refine⟨u3,f3,?_,z3,?_⟩
     ·simp[z0,z1,z2]
     ·simp[q0,q1,q2,q3,h9,y0,y1,y2]
  ·cases h
 ·cases h
def zh:List V→Option iy
 | [a0,a1,a2]=>match gi a0,gi a1,gi a2 with
   |some x0,some x1,some x2=>some ⟨x0,x1,x2⟩
   |_,_,_=>none
 |_=>none
theorem zX{w:World}{c:List V}{us:List Value}{fp:List Nat}{x:iy}(h:zh c=some x)(hr:cx w c us fp):M6 w us x fp:=by
 unfold zh at h
 split at h
 ·rename_i a0 a1 a2
  split at h
  ·rename_i x0 x1 x2 e0 e1 e2
   simp only[oI]at h
   subst h
   match us,hr with
   | [u0,u1,u2],⟨f0,g0,r0,⟨f1,g1,r1,⟨f2,g2,r2,h9,q2⟩,q1⟩,q0⟩=>
     have h9:g2= []:=h9
     obtain⟨z0,y0⟩:=ew e0 r0
     obtain⟨z1,y1⟩:=ew e1 r1
     obtain⟨z2,y2⟩:=ew e2 r2
     refine⟨?_,?_⟩
     ·simp[z0,z1,z2]
     ·simp[q0,q1,q2,h9,y0,y1,y2]
  ·cases h
 ·cases h
def zi:List V→Option fA
 | [a0,a1,a2,a3,a4]=>match gi a0,gi a1,gi a2,gi a3,gi a4 with
   |some x0,some x1,some x2,some x3,some x4=>some ⟨x0,x1,x2,x3,x4⟩
   |_,_,_,_,_=>none
 |_=>none
theorem zY{w:World}{c:List V}{us:List Value}{fp:List Nat}{x:fA}(h:zi c=some x)(hr:cx w c us fp):M8 w us x fp:=by
 unfold zi at h
 split at h
 ·rename_i a0 a1 a2 a3 a4
  split at h
  ·rename_i x0 x1 x2 x3 x4 e0 e1 e2 e3 e4
   simp only[oI]at h
   subst h
   match us,hr with
   | [u0,u1,u2,u3,u4],⟨f0,g0,r0,⟨f1,g1,r1,⟨f2,g2,r2,⟨f3,g3,r3,⟨f4,g4,r4,h9,q4⟩,q3⟩,q2⟩,q1⟩,q0⟩=>
     have h9:g4= []:=h9
     obtain⟨z0,y0⟩:=ew e0 r0
     obtain⟨z1,y1⟩:=ew e1 r1
     obtain⟨z2,y2⟩:=ew e2 r2
     obtain⟨z3,y3⟩:=ew e3 r3
     obtain⟨z4,y4⟩:=ew e4 r4
     refine⟨?_,?_⟩
     ·simp[z0,z1,z2,z3,z4]
     ·simp[q0,q1,q2,q3,q4,h9,y0,y1,y2,y3,y4]
  ·cases h
 ·cases h
def rL:List V→Option Plain
 | [a0,a1]=>match gi a0,gs .u8 a1 with
   |some x0,some x1=>some ⟨x0,x1⟩
   |_,_=>none
 |_=>none
theorem uG{w:World}{c:List V}{us:List Value}{fp:List Nat}{x:Plain}(h:rL c=some x)(hr:cx w c us fp):DH w us x fp:=by
 unfold rL at h
 split at h
 ·rename_i a0 a1
  split at h
  ·rename_i x0 x1 e0 e1
   simp only[oI]at h
   subst h
   match us,hr with
   | [u0,u1],⟨f0,g0,r0,⟨f1,g1,r1,h9,q1⟩,q0⟩=>
     have h9:g1= []:=h9
     obtain⟨z0,y0⟩:=ew e0 r0
     have z1:=nD e1 r1
     refine⟨u1,f1,?_,z1,?_⟩
     ·simp[z0]
     ·simp[q0,q1,h9,y0]
  ·cases h
 ·cases h
def uH:List V→Option dy
 | [a0,a1,a2,a3,a4]=>match gi a0,gi a1,gs .int a2,gs .u8 a3,gi a4 with
   |some x0,some x1,some x2,some x3,some x4=>some ⟨x0,x1,x2,x3,x4⟩
   |_,_,_,_,_=>none
 |_=>none
theorem yg{w:World}{c:List V}{us:List Value}{fp:List Nat}{x:dy}(h:uH c=some x)(hr:cx w c us fp):Jw w us x fp:=by
 unfold uH at h
 split at h
 ·rename_i a0 a1 a2 a3 a4
  split at h
  ·rename_i x0 x1 x2 x3 x4 e0 e1 e2 e3 e4
   simp only[oI]at h
   subst h
   match us,hr with
   | [u0,u1,u2,u3,u4],⟨f0,g0,r0,⟨f1,g1,r1,⟨f2,g2,r2,⟨f3,g3,r3,⟨f4,g4,r4,h9,q4⟩,q3⟩,q2⟩,q1⟩,q0⟩=>
     have h9:g4= []:=h9
     obtain⟨z0,y0⟩:=ew e0 r0
     obtain⟨z1,y1⟩:=ew e1 r1
     have z2:=nD e2 r2
     have z3:=nD e3 r3
     obtain⟨z4,y4⟩:=ew e4 r4
     refine⟨u2,u3,f2,f3,?_,z2,z3,?_⟩
     ·simp[z0,z1,z4]
     ·simp[q0,q1,q2,q3,q4,h9,y0,y1,y4]
  ·cases h
 ·cases h
def DN:List V→Option (List Prop×Int)
 | [v]=>match gi v with|some n=>some ([],n)|none=>none
 |_=>none
def HG:List V→Option (List Prop×UInt8)
 | [.lit (.int .u8 n)]=>some ([0≤n∧n<256],UInt8.ofNat n.toNat)
 |_=>none
def DO:List V→Option (List Prop×List UInt8)
 | [.lit (.string s)]=>some ([s.size≤maxLen],s.data.toList)
 |_=>none
def HH(t:Tag):List V→Option (List Prop×List (T t))
 | [v]=>match gs t v with|some l=>some ([],l)|none=>none
 |_=>none
def jT{α:Type}:Option α→Option (List Prop×α)
 |some x=>some ([],x)
 |none=>none
theorem eK{α:Type}{o:Option α}{vc:List Prop}{x:α}(h:jT o=some (vc,x)):o=some x:=by
 cases o with
 |none=>cases h
 |some y=>simp only[jT,oI,pI]at h;rw[h.2]
def enc:(t:Tag)→List V→Option (List Prop×T t)
 | .int,c=>DN c
 | .u8,c=>HG c
 | .str,c=>DO c
 | .sl t,c=>HH t c
 | .DB,c=>jT (wF c)
 | .aX,c=>jT (oC c)
 | .bD,c=>jT (ze c)
 | .aK,c=>jT (oD c)
 | .iK,c=>jT (uF c)
 | .dN,c=>jT (rK c)
 | .bP,c=>jT (zf c)
 | .bw,c=>jT (zg c)
 | .Ev,c=>jT (DM c)
 | .iy,c=>jT (zh c)
 | .fA,c=>jT (zi c)
 | .Plain,c=>jT (rL c)
 | .dy,c=>jT (uH c)
theorem qw{w:World}:(t:Tag)→{c:List V}→{us:List Value}→{fp:List Nat}→{vc:List Prop}→{x:T t}→enc t c=some (vc,x)→(∀q,q∈vc→q)→cx w c us fp→rd t w us x fp
 | .int,c,us,fp,vc,x,h,hv,hr=>by
   have h:DN c=some (vc,x):=h
   unfold DN at h
   split at h<;>first| (cases h;done)|skip
   ·split at h
    ·rename_i v _ n e
     simp only[oI,pI]at h
     obtain⟨rfl,rfl⟩:=h
     match us,hr with
     | [u],⟨f,g,r,h9,q⟩=>
       obtain⟨z,y⟩:=ew e r
       have h9:g= []:=h9
       exact⟨by rw[z],by simp[q,y,h9]⟩
    ·cases h
 | .u8,c,us,fp,vc,x,h,hv,hr=>by
   have h:HG c=some (vc,x):=h
   unfold HG at h
   split at h<;>first| (cases h;done)|skip
   ·rename_i n _
    simp only[oI,pI]at h
    obtain⟨rfl,rfl⟩:=h
    obtain⟨h0,h1⟩:=hv _ (List.mem_singleton.2 rfl)
    match us,hr with
    | [u],⟨f,g,r,h9,q⟩=>
      have h9:g= []:=h9
      obtain⟨rfl,_,rfl⟩:=r
      refine⟨?_,by simp[q,h9]⟩
      have:((UInt8.ofNat n.toNat).toNat:Int)=n:=by rw[UInt8.toNat_ofNat'];omega
      rw[this]
 | .str,c,us,fp,vc,x,h,hv,hr=>by
   have h:DO c=some (vc,x):=h
   unfold DO at h
   split at h<;>first| (cases h;done)|skip
   ·rename_i s _
    simp only[oI,pI]at h
    obtain⟨rfl,rfl⟩:=h
    have h0:=hv _ (List.mem_singleton.2 rfl)
    match us,hr with
    | [u],⟨f,g,r,h9,q⟩=>
      have h9:g= []:=h9
      obtain⟨rfl,_,rfl⟩:=r
      exact⟨rfl,h0,by simp[q,h9]⟩
 | .sl t,c,us,fp,vc,x,h,hv,hr=>by
   have h:HH t c=some (vc,x):=h
   unfold HH at h
   split at h<;>first| (cases h;done)|skip
   ·split at h
    ·rename_i v _ l e
     simp only[oI,pI]at h
     obtain⟨rfl,rfl⟩:=h
     match us,hr with
     | [u],⟨f,g,r,h9,q⟩=>
       have h9:g= []:=h9
       refine⟨u,rfl,?_⟩
       have:=nD e r
       rw[q,h9,List.append_nil];exact this
    ·cases h
 | .DB,c,us,fp,vc,x,h,hv,hr=>by
   exact rJ (eK (show jT (wF c)=_ from h)) hr
 | .aX,c,us,fp,vc,x,h,hv,hr=>by
   exact s8 (eK (show jT (oC c)=_ from h)) hr
 | .bD,c,us,fp,vc,x,h,hv,hr=>by
   exact zU (eK (show jT (ze c)=_ from h)) hr
 | .aK,c,us,fp,vc,x,h,hv,hr=>by
   exact s9 (eK (show jT (oD c)=_ from h)) hr
 | .iK,c,us,fp,vc,x,h,hv,hr=>by
   exact tI (eK (show jT (uF c)=_ from h)) hr
 | .dN,c,us,fp,vc,x,h,hv,hr=>by
   exact oF (eK (show jT (rK c)=_ from h)) hr
 | .bP,c,us,fp,vc,x,h,hv,hr=>by
   exact zV (eK (show jT (zf c)=_ from h)) hr
 | .bw,c,us,fp,vc,x,h,hv,hr=>by
   exact zW (eK (show jT (zg c)=_ from h)) hr
 | .Ev,c,us,fp,vc,x,h,hv,hr=>by
   exact CC (eK (show jT (DM c)=_ from h)) hr
 | .iy,c,us,fp,vc,x,h,hv,hr=>by
   exact zX (eK (show jT (zh c)=_ from h)) hr
 | .fA,c,us,fp,vc,x,h,hv,hr=>by
   exact zY (eK (show jT (zi c)=_ from h)) hr
 | .Plain,c,us,fp,vc,x,h,hv,hr=>by
   exact uG (eK (show jT (rL c)=_ from h)) hr
 | .dy,c,us,fp,vc,x,h,hv,hr=>by
   exact yg (eK (show jT (uH c)=_ from h)) hr
def eZ:Tag→Value
 | .int=> .int .i64 0
 | .u8=> .int .u8 0
 | .str=> .string ⟨#[]⟩
 | .sl _=> .slice none 0 0
 | .DB=> .agg #[.slice none 0 0]
 | .aX=> .agg #[.int .i64 0, .slice none 0 0]
 | .bD=> .agg #[.int .i64 0, .int .i64 0, .int .i64 0, .slice none 0 0, .int .i64 0]
 | .aK=> .agg #[.int .i64 0, .slice none 0 0]
 | .iK=> .agg #[.int .i64 0, .slice none 0 0]
 | .dN=> .agg #[.int .i64 0, .int .i64 0, .int .i64 0, .int .i64 0, .slice none 0 0, .int .i64 0, .slice none 0 0, .int .i64 0]
 | .bP=> .agg #[.int .i64 0, .int .i64 0, .int .i64 0, .int .i64 0, .slice none 0 0, .int .i64 0, .slice none 0 0, .int .i64 0, .int .i64 0, .int .i64 0, .int .i64 0, .int .i64 0, .slice none 0 0, .int .i64 0, .slice none 0 0, .int .i64 0]
 | .bw=> .agg #[.int .i64 0, .slice none 0 0, .slice none 0 0, .int .i64 0, .slice none 0 0, .int .i64 0, .int .i64 0, .int .i64 0, .slice none 0 0, .int .i64 0]
 | .Ev=> .agg #[.int .i64 0, .int .i64 0, .int .i64 0, .slice none 0 0]
 | .iy=> .agg #[.int .i64 0, .int .i64 0, .int .i64 0]
 | .fA=> .agg #[.int .i64 0, .int .i64 0, .int .i64 0, .int .i64 0, .int .i64 0]
 | .Plain=> .agg #[.int .i64 0, .slice none 0 0]
 | .dy=> .agg #[.int .i64 0, .int .i64 0, .slice none 0 0, .slice none 0 0, .int .i64 0]
def b7:Tag→Nat
 | .int=>8
 | .u8=>1
 | .str=>16
 | .sl _=>24
 | .DB=>24
 | .aX=>32
 | .bD=>56
 | .aK=>32
 | .iK=>32
 | .dN=>96
 | .bP=>192
 | .bw=>144
 | .Ev=>48
 | .iy=>24
 | .fA=>40
 | .Plain=>32
 | .dy=>72
theorem jX:(t:Tag)→(eZ t).cells.size=kk t
 | .int=>rfl
 | .u8=>rfl
 | .str=>rfl
 | .sl _=>rfl
 | .DB=>rfl
 | .aX=>rfl
 | .bD=>rfl
 | .aK=>rfl
 | .iK=>rfl
 | .dN=>rfl
 | .bP=>rfl
 | .bw=>rfl
 | .Ev=>rfl
 | .iy=>rfl
 | .fA=>rfl
 | .Plain=>rfl
 | .dy=>rfl
def flat:Tag→Bool
 | .int=>true
 | .u8=>true
 | .str=>true
 | .sl _=>false
 | .DB=>false
 | .aX=>false
 | .bD=>false
 | .aK=>false
 | .iK=>false
 | .dN=>false
 | .bP=>false
 | .bw=>false
 | .Ev=>false
 | .iy=>true
 | .fA=>true
 | .Plain=>false
 | .dy=>false
theorem Sg{w:World}(t:Tag){cs:List Value}{x:T t}{fp:List Nat}(hf:flat t=true)(h:rd t w cs x fp):fp= []:=by
 cases t with
 |int=>exact(show MT w cs x fp from h).2
 |u8=>exact(show Hz w cs x fp from h).2
 |str=>exact(show Sb w cs x fp from h).2.2
 |sl _=>cases hf
 |DB=>cases hf
 |aX=>cases hf
 |bD=>cases hf
 |aK=>cases hf
 |iK=>cases hf
 |dN=>cases hf
 |bP=>cases hf
 |bw=>cases hf
 |Ev=>cases hf
 |iy=>exact(show M6 w cs x fp from h).2
 |fA=>exact(show M8 w cs x fp from h).2
 |Plain=>cases hf
 |dy=>cases hf
theorem cx.lits{w:World}: ∀{z:List Value},(∀v,v∈z→v.oneCell'=true)→cx w (z.map V.lit) z []
 | [],_=>rfl
 |v::r,h=>⟨[],[],⟨rfl,h v (by simp),rfl⟩,cx.lits fun u hu=>h u (by simp[hu]),rfl⟩
theorem Sh{w:World}:(t:Tag)→rd t w (eZ t).cells.toList (aI t) []
 | .int=>⟨rfl,rfl⟩
 | .u8=>⟨rfl,rfl⟩
 | .str=>⟨rfl,by decide,rfl⟩
 | .sl _=>⟨_,rfl,none,0,rfl,Nat.le_refl _,Nat.zero_le _,Or.inl ⟨rfl,rfl,rfl⟩⟩
 | .DB=>rJ (c:=(eZ .DB).cells.toList.map V.lit) rfl (cx.lits (by simp[eZ,Value.cells,Value.oneCell']))
 | .aX=>s8 (c:=(eZ .aX).cells.toList.map V.lit) rfl (cx.lits (by simp[eZ,Value.cells,Value.oneCell']))
 | .bD=>zU (c:=(eZ .bD).cells.toList.map V.lit) rfl (cx.lits (by simp[eZ,Value.cells,Value.oneCell']))
 | .aK=>s9 (c:=(eZ .aK).cells.toList.map V.lit) rfl (cx.lits (by simp[eZ,Value.cells,Value.oneCell']))
 | .iK=>tI (c:=(eZ .iK).cells.toList.map V.lit) rfl (cx.lits (by simp[eZ,Value.cells,Value.oneCell']))
 | .dN=>oF (c:=(eZ .dN).cells.toList.map V.lit) rfl (cx.lits (by simp[eZ,Value.cells,Value.oneCell']))
 | .bP=>zV (c:=(eZ .bP).cells.toList.map V.lit) rfl (cx.lits (by simp[eZ,Value.cells,Value.oneCell']))
 | .bw=>zW (c:=(eZ .bw).cells.toList.map V.lit) rfl (cx.lits (by simp[eZ,Value.cells,Value.oneCell']))
 | .Ev=>CC (c:=(eZ .Ev).cells.toList.map V.lit) rfl (cx.lits (by simp[eZ,Value.cells,Value.oneCell']))
 | .iy=>zX (c:=(eZ .iy).cells.toList.map V.lit) rfl (cx.lits (by simp[eZ,Value.cells,Value.oneCell']))
 | .fA=>zY (c:=(eZ .fA).cells.toList.map V.lit) rfl (cx.lits (by simp[eZ,Value.cells,Value.oneCell']))
 | .Plain=>uG (c:=(eZ .Plain).cells.toList.map V.lit) rfl (cx.lits (by simp[eZ,Value.cells,Value.oneCell']))
 | .dy=>yg (c:=(eZ .dy).cells.toList.map V.lit) rfl (cx.lits (by simp[eZ,Value.cells,Value.oneCell']))
end
end Go.Proofs.YtkkfjbfkjbljiaaGreatDoor.G
namespace Go.Proofs.YtkkfjbfkjbljiaaGreatDoor.L
set_option linter.all false
open Go.RowKit
section
structure fQ(fp:List Nat)(w w':World):Prop where
 os:w'.os=w.os
 tape:w'.tape=w.tape
 output:w'.output=w.output
 size:w.heap.size≤w'.heap.size
 block: ∀b,b<w.heap.size→b∉fp→w'.heap[b]? =w.heap[b]?
theorem fQ.refl(fp:List Nat)(w:World):fQ fp w w:=⟨rfl,rfl,rfl,Nat.le_refl _,fun _ _ _=>rfl⟩
theorem fQ.mono{fp fq:List Nat}{w w':World}(h:fQ fp w w')(hs: ∀b,b∈fp→b∈fq):fQ fq w w':=⟨h.os,h.tape,h.output,h.size,fun b hb hn=>h.block b hb fun hm=>hn (hs b hm)⟩
theorem fQ.trans{fp:List Nat}{a b c:World}(h:fQ fp a b)(k:fQ fp b c):fQ fp a c:=
 ⟨k.os.trans h.os,k.tape.trans h.tape,k.output.trans h.output,Nat.le_trans h.size k.size,fun i hi hn=>(k.block i (Nat.lt_of_lt_of_le hi h.size) hn).trans (h.block i hi hn)⟩
theorem fQ.below{fp:List Nat}{w w':World}{B:Nat}(h:fQ fp w w')(hB:B≤w.heap.size)(hg: ∀b,b∈fp→B≤b):Below B w w':=
 ⟨h.os,h.tape,h.output,h.size,fun b hb=>h.block b (Nat.lt_of_lt_of_le hb hB) fun hm=>Nat.not_le_of_lt hb (hg b hm)⟩
theorem fQ.agree{fp fq:List Nat}{w w':World}(h:fQ fp w w')(hl: ∀b,b∈fq→b<w.heap.size)(hd: ∀b,b∈fq→b∉fp):Agree w w' fq:=fun b hb=>h.block b (hl b hb) (hd b hb)
section
variable{α:Type}{k:Nat}{E:ER α}{lo e g n:Nat}{w w':World}{l:List α}{bn:List (List Nat)}
theorem rR{bn:List (List Nat)}(h:bn.flatten.Nodup){i j:Nat}{f f':List Nat}(hi:bn[i]? =some f)(hj:bn[j]? =some f')(hne:i≠j): ∀b,b∈f→b∉f':=by
 intro b hb hb'
 have hp:=(List.pairwise_flatten.1 h).2
 rw[List.pairwise_iff_getElem]at hp
 obtain⟨hi1,rfl⟩:=List.getElem?_eq_some_iff.1 hi
 obtain⟨NR,rfl⟩:=List.getElem?_eq_some_iff.1 hj
 rcases Nat.lt_or_ge i j with h1|h1
 ·exact hp i j hi1 NR h1 b hb b hb' rfl
 ·exact hp j i NR hi1 (by omega) b hb' b hb rfl
theorem Part.set(G:fL k E)(h:Part k E lo e w g n l bn){i:Nat}{f:List Nat}{cs:List Value}{x':α}(hi:i<l.length)(hin:i<n)(hf:bn[i]? =some f)(hE:E w cs x' f):
  Part k E lo e (w.setCells g (i*k) cs) g n (l.set i x') bn:=by
 have hlen:=G.len hE
 have hnd:=h.own.nodup
 rw[List.nodup_cons]at hnd
 obtain⟨c,hc,hs⟩:=h.blk
 obtain⟨c',Ct,hs'⟩:=dx g e cs (i*k) w c hc
 have Jn:w.there g (i*k) cs.length:=by rw[hlen];exact h.there _ hin
 have zI: ∀b,b∈bn.flatten→b≠g:=fun b hb e=>hnd.1 (e▸hb)
 have hag:Agree w (w.setCells g (i*k) cs) bn.flatten:=fun b hb=>cA g cs _ w b (zI b hb)
 refine⟨⟨c',Ct,by rw[hs',hs]⟩,⟨by rw[List.length_set];exact h.el.1,fun j y fy hy lg=> ?_⟩,⟨h.own.nodup,h.own.ge,fun b hb=> ?_⟩,h.cap⟩
 ·by_cases hj:i=j
  ·subst hj
   rw[List.getElem?_set_self hi]at hy
   simp only[oI]at hy
   subst hy
   rw[hf]at lg
   simp only[oI]at lg
   subst lg
   refine⟨cs,?_,G.agree hE (hag.sub fun b hb=>cE hf hb)⟩
   rw[Nat.zero_add]
   exact World.rangeAt_setCells_same w g _ cs Jn
  ·rw[List.getElem?_set_ne hj]at hy
   obtain⟨cy,hr,Jo⟩:=h.el.2 j y fy hy lg
   refine⟨cy,World.rangeAt_setCells_apart hr _ _ _ (Or.inr ?_),G.agree Jo (hag.sub fun b hb=>cE lg hb)⟩
   rw[G.len Jo,hlen]
   rcases Nat.lt_or_ge j i with h1|h1
   ·left
    have:=Nat.mul_le_mul_right k (show j+1≤i by omega)
    rw[Nat.add_mul]at this;omega
   ·right
    have:=Nat.mul_le_mul_right k (show i+1≤j by omega)
    rw[Nat.add_mul]at this;omega
 ·rcases List.mem_cons.1 hb with rfl|hb
  ·exact⟨_,_,Ct⟩
  ·rw[hag b hb];exact h.own.kind b (List.mem_cons_of_mem _ hb)
theorem j8(G:fL k E){g o n:Nat}{c:Array Value}(hc:w.heap[g]? =some (.cells c e (0,0)))(hfit:o+n*k≤c.size)(hn:l.length≤n)(hcap:n≤maxLen)(hel:lO k E w g o l bn)(hown:Own lo w (g::bn.flatten)):
  iW k E lo e w (.slice (some ⟨g,o,none⟩) l.length n) l (g::bn.flatten):=by
 have hk:l.length*k≤n*k:=Nat.mul_le_mul_right k hn
 have pX:c.toList.length=c.size:=Array.length_toList
 refine⟨(c.toList.drop o).take (l.length*k),bn,⟨by rw[List.length_take,List.length_drop];omega,Or.inr ⟨g,o,n,c,rfl,hown.ge g (by simp),hc,hn,hcap,hfit,rfl⟩⟩,hel.1,fun i x f hx hf=> ?_,rfl,hown⟩
 obtain⟨cs,hr,hE⟩:=hel.2 i x f hx hf
 have hlen:=G.len hE
 have hi:i<l.length:=(List.getElem?_eq_some_iff.1 hx).1
 have h5:i*k+k≤l.length*k:=by
  have:=Nat.mul_le_mul_right k (show i+1≤l.length by omega)
  rw[Nat.add_mul]at this;omega
 have:(((c.toList.drop o).take (l.length*k)).drop (i*k)).take k=cs:=by
  apply List.ext_getElem?
  intro j
  by_cases hj:j<k
  ·rw[List.getElem?_take,if_pos hj,List.getElem?_drop,List.getElem?_take,if_pos (by omega),List.getElem?_drop]
   have h6:=hr j _ (List.getElem?_eq_getElem (by omega))
   simp[World.cell?,hc]at h6
   rw[List.getElem?_eq_getElem (show j<cs.length by omega), ←Nat.add_assoc]
   simp[h6]
  ·rw[List.getElem?_take,if_neg hj,List.getElem?_eq_none (by omega)]
 rw[this];exact hE
theorem iW.parts{v:Value}{fp:List Nat}(h:iW k E lo e w v l fp):(v= .slice none 0 0∧l= []∧fp= [])∨ ∃g o n c, ∃bn:List (List Nat),v= .slice (some ⟨g,o,none⟩) l.length n∧l.length≤n∧n≤maxLen∧w.heap[g]? =some (.cells c e (0,0))∧o+n*k≤c.size∧fp=g::bn.flatten:=by
 obtain⟨xs,bn,⟨hxl,ho⟩,hl,hel,gb,hown⟩:=h
 rcases ho with⟨rfl,h0⟩| ⟨g,o,cap,cur,rfl,hg,hc,hn,hcm,hcs,JG⟩
 ·have hl0:l= []:=List.eq_nil_of_length_eq_zero h0
  have:bn= []:=List.eq_nil_of_length_eq_zero (by omega)
  exact Or.inl ⟨rfl,hl0,by rw[gb,this];rfl⟩
 ·exact Or.inr ⟨g,o,cap,cur,bn,rfl,hn,hcm,hc,hcs,gb⟩
structure NS{α:Type}(k:Nat)(E:ER α)(lo:Nat)(w:World)(b off:Nat)(l:List α)(bn:List (List Nat)):Prop where
 el:lO k E w b off l bn
 own:Own lo w (b::bn.flatten)
theorem NS.lt{b off:Nat}(h:NS k E lo w b off l bn):b<w.heap.size:=h.own.lt b (by simp)
theorem NS.set(G:fL k E){b off:Nat}(h:NS k E lo w b off l bn){i o:Nat}{f:List Nat}{vs cs:List Value}{x':α}(hi:i<l.length)(ho:o+vs.length≤k)(hf:bn[i]? =some f)
  (hr:(w.setCells b (off+i*k+o) vs).rangeAt b (off+i*k) cs)(hE:E w cs x' f):
  NS k E lo (w.setCells b (off+i*k+o) vs) b off (l.set i x') bn:=by
 have hlen:=G.len hE
 have hnd:=h.own.nodup
 rw[List.nodup_cons]at hnd
 have zI: ∀c,c∈bn.flatten→c≠b:=fun c hc e=>hnd.1 (e▸hc)
 have hag:Agree w (w.setCells b (off+i*k+o) vs) bn.flatten:=fun c hc=>cA b vs _ w c (zI c hc)
 refine⟨⟨by rw[List.length_set];exact h.el.1,fun j y fy hy lg=> ?_⟩,⟨h.own.nodup,h.own.ge,fun c hc=> ?_⟩⟩
 ·by_cases hj:i=j
  ·subst hj
   rw[List.getElem?_set_self hi]at hy
   simp only[oI]at hy
   subst hy
   rw[hf]at lg
   simp only[oI]at lg
   subst lg
   exact⟨cs,hr,G.agree hE (hag.sub fun b hb=>cE hf hb)⟩
  ·rw[List.getElem?_set_ne hj]at hy
   obtain⟨cy,hr,Jo⟩:=h.el.2 j y fy hy lg
   refine⟨cy,World.rangeAt_setCells_apart hr _ _ _ (Or.inr ?_),G.agree Jo (hag.sub fun b hb=>cE lg hb)⟩
   rw[G.len Jo]
   rcases Nat.lt_or_ge j i with h1|h1
   ·left
    have:=Nat.mul_le_mul_right k (show j+1≤i by omega)
    rw[Nat.add_mul]at this;omega
   ·right
    have:=Nat.mul_le_mul_right k (show i+1≤j by omega)
    rw[Nat.add_mul]at this;omega
 ·rcases List.mem_cons.1 hc with rfl|hc
  ·obtain⟨c0,e0,hk⟩:=h.own.kind c (by simp)
   obtain⟨c',Ct,_⟩:=dx c e0 vs (off+i*k+o) w c0 hk
   exact⟨_,_,Ct⟩
  ·rw[hag c hc];exact h.own.kind c (List.mem_cons_of_mem _ hc)
end
end
end Go.Proofs.YtkkfjbfkjbljiaaGreatDoor.L
