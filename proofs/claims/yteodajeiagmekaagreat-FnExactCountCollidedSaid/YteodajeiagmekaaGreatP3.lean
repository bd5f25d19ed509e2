/-
  Slices that the call has made, written again: an element replaced; an element's own memory written by a call.
-/
import Derived.OpenShut
import Derived.ProofKit
import Derived.Test.YteodajeiagmekaaGreatP2
namespace Go.Proofs.YteodajeiagmekaaGreat.L
set_option linter.all false
open Go.RowKit Go.ChangeShapes Go.WideShapes Go.ChangeAt D
section
theorem yq{n:Int}(h:(Lit.int .i64 n).wf=true):ql n:=by
 have:=bounds_i64 h
 unfold ql;omega
section
variable{H:Type}(enc:TypeId×Value→H)(P:Program)(w:World)(spare:Nat→Bool)(held:Bool)
def ig{α:Type}(t:TypeId)(E:ER α)(W:α→Prop):Prop:=
 ∀fuel cs y,DataW.trod enc P w 0 spare held fuel t cs=some y→ ∃x fp,E w cs x fp∧W x
variable{enc P w spare held}
theorem aX{t:TypeId}(ht:P.underlying t=some (.int .i64)):ig enc P w spare held t eE ql:=by
 intro fuel cs y h
 obtain⟨n,rfl,_,hw⟩:=DataW.trod_int ht h
 exact⟨n,[],⟨rfl,rfl⟩,yq hw⟩
theorem ot{t:TypeId}(ht:P.underlying t=some (.int .u8)):ig enc P w spare held t vl (fun _=>True):=by
 intro fuel cs y h
 obtain⟨n,rfl,_,hw⟩:=DataW.trod_int ht h
 have hb:=bounds_u8 hw
 refine⟨UInt8.ofNat n.toNat,[],⟨?_,rfl⟩,trivial⟩
 have:((UInt8.ofNat n.toNat).toNat:Int)=n:=by
  rw[UInt8.toNat_ofNat'];omega
 rw[this]
theorem cE{α:Type} [Inhabited α]{k:Nat}{E:ER α}{W:α→Prop}{t e:TypeId}(ht:P.underlying t=some (.slice e))(hk:P.cellsOf e=k)(hpos:0<k)(ho:ig enc P w spare held e E W):
  ig enc P w spare held t (s9 k E) (fun l=> ∀x,x∈l→W x):=by
 intro fuel cs y h
 rcases Go.Deep.open_slice ht h with⟨rfl,_⟩| ⟨a,len,cap,m,n,D,Pl,rfl,_,hl,hm,Jj,_,hx⟩
 ·exact⟨[],[],⟨_,rfl,none,0,rfl,Nat.le_refl _,Nat.zero_le _,Or.inl ⟨rfl,rfl,fun _=>rfl⟩⟩,by simp⟩
 rw[hk]at hx
 have Iy:len≤m:=by rw[Jj];split<;>omega
 by_cases h0:len=0
 ·subst h0
  exact⟨[],[],⟨_,rfl,some a,cap,rfl,hl,hm,Or.inl ⟨rfl,rfl,by simp⟩⟩,by simp⟩
 have hsp:a.spot=none:=by
  obtain⟨cs',hc,_⟩:=hx 0 (by omega)
  obtain⟨_,h1,h2⟩:=World.cells?_some hc
  have h3:=h2 0 (by omega)
  have ha:((a.add (0*k)).add 0)=a:=by simp[Addr.add]
  rw[ha]at h3
  have hlen:0<cs'.length:=by omega
  rw[List.getElem?_eq_getElem hlen]at h3
  simp only[World.cell?]at h3
  split at h3
  ·split at h3
   ·cases h3
   ·rename_i hs;simpa using hs
  ·cases h3
 obtain⟨b,off,rfl⟩: ∃b off,a=⟨b,off,none⟩:=⟨a.block,a.off,by cases a;simp_all⟩
 have hel: ∀i,i<len→ ∃q:α×List Nat,(∃cs',w.rangeAt b (off+i*k) cs'∧E w cs' q.1 q.2)∧W q.1:=by
  intro i hi
  obtain⟨cs',hc,Jk⟩:=hx i (by omega)
  obtain⟨x,fp,hE,hW⟩:=ho _ _ _ Jk
  obtain⟨_,h1,h2⟩:=World.cells?_some hc
  refine⟨(x,fp),⟨cs',fun j v hv=> ?_,hE⟩,hW⟩
  have hj:=(List.getElem?_eq_some_iff.1 hv).1
  have:=h2 j (by omega)
  rw[Addr.add_mid,Addr.add_mid,hv]at this
  exact this
 obtain⟨f,hf⟩:=Go.Deep.choose_lt hel
 refine⟨(List.range len).map fun i=>(f i).1,b::((List.range len).map fun i=>(f i).2).flatten,⟨_,rfl,some ⟨b,off,none⟩,cap,by simp,by simpa using hl,hm,Or.inr ⟨b,off,(List.range len).map fun i=>(f i).2,rfl,?_,rfl,by simp,?_⟩⟩,?_⟩
 ·obtain⟨cs',hc,_⟩:=hx 0 (by omega)
  have:=World.cells?_block hc (by omega)
  rw[Addr.add_mid]at this
  exact this
 ·intro i x fp hx dN
  have hi:i<len:=by have:=(List.getElem?_eq_some_iff.1 hx).1;simpa using this
  simp[hi]at hx dN
  subst hx;subst dN
  exact(hf i hi).1
 ·intro x hx
  simp only[List.mem_map,List.mem_range]at hx
  obtain⟨i,hi,rfl⟩:=hx
  exact(hf i hi).2
end
end
end Go.Proofs.YteodajeiagmekaaGreat.L
namespace Go.Proofs.YteodajeiagmekaaGreat.G
set_option linter.all false
open Go.RowKit L D
section
inductive Tag where
 |int|u8|str|sl(t:Tag)|DB|au|b9|an|fD|dL|bH|cX|Ev|jm|jV|Plain|dg
 deriving DecidableEq
@[reducible] def T:Tag→Type
  | .int=>Int
  | .u8=>UInt8
  | .str=>List UInt8
  | .sl t=>List (T t)
  | .DB=>DB
  | .au=>au
  | .b9=>b9
  | .an=>an
  | .fD=>fD
  | .dL=>dL
  | .bH=>bH
  | .cX=>cX
  | .Ev=>Ev
  | .jm=>jm
  | .jV=>jV
  | .Plain=>Plain
  | .dg=>dg
def kk:Tag→Nat
 | .int=>1
 | .u8=>1
 | .str=>1
 | .sl _=>1
 | .DB=>1
 | .au=>2
 | .b9=>5
 | .an=>2
 | .fD=>2
 | .dL=>8
 | .bH=>16
 | .cX=>10
 | .Ev=>4
 | .jm=>3
 | .jV=>5
 | .Plain=>2
 | .dg=>5
def rd:(t:Tag)→ER (T t)
 | .int=>eE
 | .u8=>vl
 | .str=>D8
 | .sl t=>s9 (kk t) (rd t)
 | .DB=>Cm
 | .au=>gA
 | .b9=>vA
 | .an=>gB
 | .fD=>vB
 | .dL=>rG
 | .bH=>vD
 | .cX=>vF
 | .Ev=>G8
 | .jm=>zN
 | .jV=>zP
 | .Plain=>rH
 | .dg=>xj
theorem bI:(t:Tag)→bW (kk t) (rd t)
 | .int=>iB
 | .u8=>cM
 | .str=>zB
 | .sl t=>gz (bI t)
 | .DB=>eM
 | .au=>iD
 | .b9=>n7
 | .an=>iE
 | .fD=>iF
 | .dL=>dz
 | .bH=>n8
 | .cX=>zM
 | .Ev=>Cn
 | .jm=>zO
 | .jV=>zQ
 | .Plain=>vH
 | .dg=>ym
theorem cF:(t:Tag)→0<kk t
 | .int=>by decide
 | .u8=>by decide
 | .str=>by decide
 | .sl _=>Nat.one_pos
 | .DB=>by decide
 | .au=>by decide
 | .b9=>by decide
 | .an=>by decide
 | .fD=>by decide
 | .dL=>by decide
 | .bH=>by decide
 | .cX=>by decide
 | .Ev=>by decide
 | .jm=>by decide
 | .jV=>by decide
 | .Plain=>by decide
 | .dg=>by decide
def aK:(t:Tag)→T t
 | .int=>(0:Int)
 | .u8=>(0:UInt8)
 | .str=>([]:List UInt8)
 | .sl t=>([]:List (T t))
 | .DB=>(default:DB)
 | .au=>(default:au)
 | .b9=>(default:b9)
 | .an=>(default:an)
 | .fD=>(default:fD)
 | .dL=>(default:dL)
 | .bH=>(default:bH)
 | .cX=>(default:cX)
 | .Ev=>(default:Ev)
 | .jm=>(default:jm)
 | .jV=>(default:jV)
 | .Plain=>(default:Plain)
 | .dg=>(default:dg)
inductive V where
 |any
 |lit(v:Value)
 |sl(t:Tag)(l:List (T t))
 |own(n:Nat)
 |ptr(n off:Nat)
 |fA(n i off:Nat)
 |ip(t:Tag)(x:T t)(off:Nat)
 |vw(n:Nat)(p:Option (Nat×Nat))(t:Tag)(l:List (T t))
 |qm(n:Nat)(p:Option (Nat×Nat×Nat))(t:Tag)(x:T t)(off:Nat)
 |qn(n:Nat)(t:Tag)(l:List (T t))
 |mix(n:Nat)(c:Bool)(t:Tag)(l:List (T t))
 |l6(n:Nat)
 |ou(f:FuncId)(n:Nat)
 |jW(k:Nat)
 |fZ(v:Value)(t:Tag)(l:List (T t))
def RI(w:World):V→Value→List Nat→Prop
 | .lit v,u,fp=>u=v∧v.oneCell'=true∧fp= []
 | .sl t l,u,fp=>Sl (kk t) (rd t) w u l fp
 |_,_,_=>False
def aN(w:World):List V→List Value→List Nat→Prop
 | [],[],fp=>fp= []
 |V::Vs,u::us,fp=> ∃f g,RI w V u f∧aN w Vs us g∧fp=f++g
 |_,_,_=>False
theorem aN.nil{w:World}:aN w [] [] []:=rfl
theorem aN.lit{w:World}{v:Value}{Vs:List V}{us:List Value}{g:List Nat}(hv:v.oneCell'=true)(h:aN w Vs us g):aN w (.lit v::Vs) (v::us) g:=⟨[],g,⟨rfl,hv,rfl⟩,h,rfl⟩
theorem aN.sl{w:World}{u:Value}{t:Tag}{l:List (T t)}{f g:List Nat}{Vs:List V}{us:List Value}(k:Sl (kk t) (rd t) w u l f)(h:aN w Vs us g):aN w (.sl t l::Vs) (u::us) (f++g):=⟨f,g,k,h,rfl⟩
theorem aN.app{w:World}: ∀{Vs Us:List V} {vs us:List Value} {f g:List Nat},aN w Vs vs f→aN w Us us g→aN w (Vs++Us) (vs++us) (f++g)
 | [],_,[],_,_,_,h,k=>by rw[show _=_ from h];exact k
 |_::_,_,_::_,_,_,_,⟨f1,f2,h1,h2,e⟩,k=>⟨f1,f2++_,h1,aN.app h2 k,by rw[e,List.append_assoc]⟩
 | [],_,_::_,_,_,_,h,_=>h.elim
 |_::_,_,[],_,_,_,h,_=>h.elim
theorem aN.len{w:World}: ∀{Vs:List V} {us:List Value} {fp:List Nat},aN w Vs us fp→us.length=Vs.length
 | [],[],_,_=>rfl
 |_::_,_::_,_,⟨_,_,_,h,_⟩=>by simp[aN.len h]
 | [],_::_,_,h=>h.elim
 |_::_,[],_,h=>h.elim
def dA(x:DB):List V:= [.sl (.sl .u8) x.rows]
def cm(x:au):List V:= [.lit (.int .i64 x.client)]++dA x.share
def dB(x:b9):List V:= [.lit (.int .i64 x.id), .lit (.int .i64 x.rows), .lit (.int .i64 x.round), .sl .au x.received, .lit (.int .i64 x.behavior)]
def cq(x:an):List V:= [.lit (.int .i64 x.round)]++dA x.db
def cA(x:fD):List V:= [.lit (.int .i64 x.rows), .sl .an x.rounds]
def bl(x:dL):List V:= [.lit (.int .i64 x.id), .lit (.int .i64 x.dc), .lit (.int .i64 x.key), .lit (.int .i64 x.seed), .sl (.sl .u8) x.aj, .lit (.int .i64 x.sent), .sl (.sl .u8) x.inbox, .lit (.int .i64 x.next)]
def dD(x:bH):List V:=bl x.live++bl x.saved
def bM(x:cX):List V:= [.lit (.int .i64 x.rows), .sl .b9 x.aG, .sl .bH x.af]++cA x.aW++ [.lit (.int .i64 x.gC), .lit (.int .i64 x.seed), .lit (.int .i64 x.round), .sl .int x.replaced, .lit (.int .i64 x.cancelled)]
def vJ(x:Ev):List V:= [.lit (.int .i64 x.kind), .lit (.int .i64 x.node), .lit (.int .i64 x.value), .sl .u8 x.body]
def rI(x:jm):List V:= [.lit (.int .i64 x.fr), .lit (.int .i64 x.to), .lit (.int .i64 x.bytes)]
def rJ(x:jV):List V:= [.lit (.int .i64 x.server), .lit (.int .i64 x.client), .lit (.int .i64 x.round), .lit (.int .i64 x.vG), .lit (.int .i64 x.Ec)]
def dP(x:Plain):List V:= [.lit (.int .i64 x.kind), .sl .u8 x.body]
def ox(x:dg):List V:= [.lit (.int .i64 x.server), .lit (.int .i64 x.round), .sl .int x.selection, .sl .u8 x.data, .lit (.int .i64 x.Ec)]
def dec:(t:Tag)→T t→List V
 | .int,n=> [.lit (.int .i64 n)]
 | .u8,n=> [.lit (.int .u8 n.toNat)]
 | .str,s=> [.lit (.string ⟨s.toArray⟩)]
 | .sl t,l=> [.sl t l]
 | .DB,x=>dA x
 | .au,x=>cm x
 | .b9,x=>dB x
 | .an,x=>cq x
 | .fD,x=>cA x
 | .dL,x=>bl x
 | .bH,x=>dD x
 | .cX,x=>bM x
 | .Ev,x=>vJ x
 | .jm,x=>rI x
 | .jV,x=>rJ x
 | .Plain,x=>dP x
 | .dg,x=>ox x
theorem oy{w:World}{cs:List Value}{x:DB}{fp:List Nat}:Cm w cs x fp→aN w (dA x) cs fp:=by
 rintro⟨v0,f0,rfl,h0,rfl⟩
 have h:=(aN.sl (t:=(.sl .u8)) h0 aN.nil)
 simpa[dA]using h
theorem rK{w:World}{cs:List Value}{x:au}{fp:List Nat}:gA w cs x fp→aN w (cm x) cs fp:=by
 rintro⟨v0,f0,rfl,h0,rfl⟩
 have h:=(aN.app (aN.lit (w:=w) (v:= .int .i64 x.client) rfl aN.nil) (oy h0))
 simpa[cm]using h
theorem yt{w:World}{cs:List Value}{x:b9}{fp:List Nat}:vA w cs x fp→aN w (dB x) cs fp:=by
 rintro⟨v0,f0,rfl,h0,rfl⟩
 have h:=(aN.lit (w:=w) (v:= .int .i64 x.id) rfl (aN.lit (w:=w) (v:= .int .i64 x.rows) rfl (aN.lit (w:=w) (v:= .int .i64 x.round) rfl (aN.sl (t:= .au) h0 (aN.lit (w:=w) (v:= .int .i64 x.behavior) rfl aN.nil)))))
 simpa[dB]using h
theorem rL{w:World}{cs:List Value}{x:an}{fp:List Nat}:gB w cs x fp→aN w (cq x) cs fp:=by
 rintro⟨v0,f0,rfl,h0,rfl⟩
 have h:=(aN.app (aN.lit (w:=w) (v:= .int .i64 x.round) rfl aN.nil) (oy h0))
 simpa[cq]using h
theorem qG{w:World}{cs:List Value}{x:fD}{fp:List Nat}:vB w cs x fp→aN w (cA x) cs fp:=by
 rintro⟨v0,f0,rfl,h0,rfl⟩
 have h:=(aN.lit (w:=w) (v:= .int .i64 x.rows) rfl (aN.sl (t:= .an) h0 aN.nil))
 simpa[cA]using h
theorem l7{w:World}{cs:List Value}{x:dL}{fp:List Nat}:rG w cs x fp→aN w (bl x) cs fp:=by
 rintro⟨v0,v1,f0,f1,rfl,h0,h1,rfl⟩
 have h:=(aN.lit (w:=w) (v:= .int .i64 x.id) rfl (aN.lit (w:=w) (v:= .int .i64 x.dc) rfl (aN.lit (w:=w) (v:= .int .i64 x.key) rfl (aN.lit (w:=w) (v:= .int .i64 x.seed) rfl (aN.sl (t:=(.sl .u8)) h0 (aN.lit (w:=w) (v:= .int .i64 x.sent) rfl (aN.sl (t:=(.sl .u8)) h1 (aN.lit (w:=w) (v:= .int .i64 x.next) rfl aN.nil))))))))
 simpa[bl]using h
theorem yu{w:World}{cs:List Value}{x:bH}{fp:List Nat}:vD w cs x fp→aN w (dD x) cs fp:=by
 rintro⟨v0,v1,f0,f1,rfl,h0,h1,rfl⟩
 have h:=(aN.app (l7 h0) (l7 h1))
 simpa[dD]using h
theorem qH{w:World}{cs:List Value}{x:cX}{fp:List Nat}:vF w cs x fp→aN w (bM x) cs fp:=by
 rintro⟨v0,v1,v2,v3,f0,f1,f2,f3,rfl,h0,h1,h2,h3,rfl⟩
 have h:=(aN.app (aN.app (aN.lit (w:=w) (v:= .int .i64 x.rows) rfl (aN.sl (t:= .b9) h0 (aN.sl (t:= .bH) h1 aN.nil))) (qG h2)) (aN.lit (w:=w) (v:= .int .i64 x.gC) rfl (aN.lit (w:=w) (v:= .int .i64 x.seed) rfl (aN.lit (w:=w) (v:= .int .i64 x.round) rfl (aN.sl (t:= .int) h3 (aN.lit (w:=w) (v:= .int .i64 x.cancelled) rfl aN.nil))))))
 simpa[bM]using h
theorem zV{w:World}{cs:List Value}{x:Ev}{fp:List Nat}:G8 w cs x fp→aN w (vJ x) cs fp:=by
 rintro⟨v0,f0,rfl,h0,rfl⟩
 have h:=(aN.lit (w:=w) (v:= .int .i64 x.kind) rfl (aN.lit (w:=w) (v:= .int .i64 x.node) rfl (aN.lit (w:=w) (v:= .int .i64 x.value) rfl (aN.sl (t:= .u8) h0 aN.nil))))
 simpa[vJ]using h
theorem yw{w:World}{cs:List Value}{x:jm}{fp:List Nat}:zN w cs x fp→aN w (rI x) cs fp:=by
 rintro⟨rfl,rfl⟩
 have h:=(aN.lit (w:=w) (v:= .int .i64 x.fr) rfl (aN.lit (w:=w) (v:= .int .i64 x.to) rfl (aN.lit (w:=w) (v:= .int .i64 x.bytes) rfl aN.nil)))
 simpa[rI]using h
theorem yx{w:World}{cs:List Value}{x:jV}{fp:List Nat}:zP w cs x fp→aN w (rJ x) cs fp:=by
 rintro⟨rfl,rfl⟩
 have h:=(aN.lit (w:=w) (v:= .int .i64 x.server) rfl (aN.lit (w:=w) (v:= .int .i64 x.client) rfl (aN.lit (w:=w) (v:= .int .i64 x.round) rfl (aN.lit (w:=w) (v:= .int .i64 x.vG) rfl (aN.lit (w:=w) (v:= .int .i64 x.Ec) rfl aN.nil)))))
 simpa[rJ]using h
theorem tu{w:World}{cs:List Value}{x:Plain}{fp:List Nat}:rH w cs x fp→aN w (dP x) cs fp:=by
 rintro⟨v0,f0,rfl,h0,rfl⟩
 have h:=(aN.lit (w:=w) (v:= .int .i64 x.kind) rfl (aN.sl (t:= .u8) h0 aN.nil))
 simpa[dP]using h
theorem vK{w:World}{cs:List Value}{x:dg}{fp:List Nat}:xj w cs x fp→aN w (ox x) cs fp:=by
 rintro⟨v0,v1,f0,f1,rfl,h0,h1,rfl⟩
 have h:=(aN.lit (w:=w) (v:= .int .i64 x.server) rfl (aN.lit (w:=w) (v:= .int .i64 x.round) rfl (aN.sl (t:= .int) h0 (aN.sl (t:= .u8) h1 (aN.lit (w:=w) (v:= .int .i64 x.Ec) rfl aN.nil)))))
 simpa[ox]using h
theorem reads{w:World}:(t:Tag)→{cs:List Value}→{x:T t}→{fp:List Nat}→rd t w cs x fp→aN w (dec t x) cs fp
 | .int,_,_,_,⟨rfl,rfl⟩=>aN.lit (v:= .int .i64 _) rfl aN.nil
 | .u8,_,_,_,⟨rfl,rfl⟩=>aN.lit (v:= .int .u8 _) rfl aN.nil
 | .str,_,_,_,⟨rfl,_,rfl⟩=>aN.lit (v:= .string _) rfl aN.nil
 | .sl t,_,_,_,⟨v,rfl,h⟩=>by have:=aN.sl (t:=t) h (aN.nil);rwa [List.append_nil]at this
 | .DB,_,_,_,h=>oy h
 | .au,_,_,_,h=>rK h
 | .b9,_,_,_,h=>yt h
 | .an,_,_,_,h=>rL h
 | .fD,_,_,_,h=>qG h
 | .dL,_,_,_,h=>l7 h
 | .bH,_,_,_,h=>yu h
 | .cX,_,_,_,h=>qH h
 | .Ev,_,_,_,h=>zV h
 | .jm,_,_,_,h=>yw h
 | .jV,_,_,_,h=>yx h
 | .Plain,_,_,_,h=>tu h
 | .dg,_,_,_,h=>vK h
end
section
def cB:(t t':Tag)→List (T t')→Option (List (T t))
 | .int, .int,l=>some l
 | .u8, .u8,l=>some l
 | .str, .str,l=>some l
 | .sl .int, .sl .int,l=>some l
 | .sl .u8, .sl .u8,l=>some l
 | .sl .str, .sl .str,l=>some l
 | .sl (.sl .u8), .sl (.sl .u8),l=>some l
 | .sl (.sl .int), .sl (.sl .int),l=>some l
 | .DB, .DB,l=>some l
 | .au, .au,l=>some l
 | .b9, .b9,l=>some l
 | .an, .an,l=>some l
 | .fD, .fD,l=>some l
 | .dL, .dL,l=>some l
 | .bH, .bH,l=>some l
 | .cX, .cX,l=>some l
 | .Ev, .Ev,l=>some l
 | .jm, .jm,l=>some l
 | .jV, .jV,l=>some l
 | .Plain, .Plain,l=>some l
 | .dg, .dg,l=>some l
 |_,_,_=>none
theorem bk{t t':Tag}{l:List (T t')}{l2:List (T t)}(h:cB t t' l=some l2): ∃e:t'=t,l2=e▸l:=by
 unfold cB at h
 split at h<;>first
  | (simp only[Option.some.injEq]at h;exact⟨rfl,h.symm⟩)
  |cases h
def gi:V→Option Int
 | .lit (.int .i64 n)=>some n
 |_=>none
def gs(t:Tag):V→Option (List (T t))
 | .sl t' l=>cB t t' l
 | .lit (.slice none 0 0)=>some []
 |_=>none
theorem bz{w:World}{v:V}{u:Value}{f:List Nat}{n:Int}(h:gi v=some n)(hr:RI w v u f):u= .int .i64 n∧f= []:=by
 unfold gi at h
 split at h
 ·simp only[Option.some.injEq]at h
  subst h
  exact⟨hr.1,hr.2.2⟩
 ·cases h
theorem gb{w:World}{t:Tag}{v:V}{u:Value}{f:List Nat}{l:List (T t)}(h:gs t v=some l)(hr:RI w v u f):Sl (kk t) (rd t) w u l f:=by
 unfold gs at h
 split at h
 ·rename_i t' l'
  obtain⟨he,rfl⟩:=bk h
  subst he
  exact hr
 ·simp only[Option.some.injEq]at h
  subst h
  obtain⟨rfl,_,rfl⟩:=hr
  exact⟨none,0,rfl,Nat.le_refl _,Nat.zero_le _,Or.inl ⟨rfl,rfl,fun _=>rfl⟩⟩
 ·cases h
def l8:List V→Option DB
 | [a0]=>match gs (.sl .u8) a0 with
   |some x0=>some ⟨x0⟩
   |_=>none
 |_=>none
theorem jo{w:World}{c:List V}{us:List Value}{fp:List Nat}{x:DB}(h:l8 c=some x)(hr:aN w c us fp):Cm w us x fp:=by
 unfold l8 at h
 split at h
 ·rename_i a0
  split at h
  ·rename_i x0 e0
   simp only[Option.some.injEq]at h
   subst h
   match us,hr with
   | [u0],⟨f0,g0,r0,h9,q0⟩=>
     have h9:g0= []:=h9
     have z0:=gb e0 r0
     refine⟨u0,f0,?_,z0,?_⟩
     ·rfl
     ·simp[q0,h9]
  ·cases h
 ·cases h
def gE:List V→Option au
 | [a0,a1]=>match gi a0,l8 [a1]with
   |some x0,some x1=>some ⟨x0,x1⟩
   |_,_=>none
 |_=>none
theorem jR{w:World}{c:List V}{us:List Value}{fp:List Nat}{x:au}(h:gE c=some x)(hr:aN w c us fp):gA w us x fp:=by
 unfold gE at h
 split at h
 ·rename_i a0 a1
  split at h
  ·rename_i x0 x1 e0 e1
   simp only[Option.some.injEq]at h
   subst h
   match us,hr with
   | [u0,u1],⟨f0,g0,r0,⟨f1,g1,r1,h9,q1⟩,q0⟩=>
     have h9:g1= []:=h9
     obtain⟨z0,y0⟩:=bz e0 r0
     have z1:=jo (w:=w) (us:= [u1]) (fp:=(f1++ [])) e1 ⟨f1,_,r1,rfl,rfl⟩
     refine⟨[u1],(f1++ []),?_,z1,?_⟩
     ·simp[z0]
     ·simp[q0,q1,h9,y0]
  ·cases h
 ·cases h
def nK:List V→Option b9
 | [a0,a1,a2,a3,a4]=>match gi a0,gi a1,gi a2,gs .au a3,gi a4 with
   |some x0,some x1,some x2,some x3,some x4=>some ⟨x0,x1,x2,x3,x4⟩
   |_,_,_,_,_=>none
 |_=>none
theorem oz{w:World}{c:List V}{us:List Value}{fp:List Nat}{x:b9}(h:nK c=some x)(hr:aN w c us fp):vA w us x fp:=by
 unfold nK at h
 split at h
 ·rename_i a0 a1 a2 a3 a4
  split at h
  ·rename_i x0 x1 x2 x3 x4 e0 e1 e2 e3 e4
   simp only[Option.some.injEq]at h
   subst h
   match us,hr with
   | [u0,u1,u2,u3,u4],⟨f0,g0,r0,⟨f1,g1,r1,⟨f2,g2,r2,⟨f3,g3,r3,⟨f4,g4,r4,h9,q4⟩,q3⟩,q2⟩,q1⟩,q0⟩=>
     have h9:g4= []:=h9
     obtain⟨z0,y0⟩:=bz e0 r0
     obtain⟨z1,y1⟩:=bz e1 r1
     obtain⟨z2,y2⟩:=bz e2 r2
     have z3:=gb e3 r3
     obtain⟨z4,y4⟩:=bz e4 r4
     refine⟨u3,f3,?_,z3,?_⟩
     ·simp[z0,z1,z2,z4]
     ·simp[q0,q1,q2,q3,q4,h9,y0,y1,y2,y4]
  ·cases h
 ·cases h
def gF:List V→Option an
 | [a0,a1]=>match gi a0,l8 [a1]with
   |some x0,some x1=>some ⟨x0,x1⟩
   |_,_=>none
 |_=>none
theorem jS{w:World}{c:List V}{us:List Value}{fp:List Nat}{x:an}(h:gF c=some x)(hr:aN w c us fp):gB w us x fp:=by
 unfold gF at h
 split at h
 ·rename_i a0 a1
  split at h
  ·rename_i x0 x1 e0 e1
   simp only[Option.some.injEq]at h
   subst h
   match us,hr with
   | [u0,u1],⟨f0,g0,r0,⟨f1,g1,r1,h9,q1⟩,q0⟩=>
     have h9:g1= []:=h9
     obtain⟨z0,y0⟩:=bz e0 r0
     have z1:=jo (w:=w) (us:= [u1]) (fp:=(f1++ [])) e1 ⟨f1,_,r1,rfl,rfl⟩
     refine⟨[u1],(f1++ []),?_,z1,?_⟩
     ·simp[z0]
     ·simp[q0,q1,h9,y0]
  ·cases h
 ·cases h
def kP:List V→Option fD
 | [a0,a1]=>match gi a0,gs .an a1 with
   |some x0,some x1=>some ⟨x0,x1⟩
   |_,_=>none
 |_=>none
theorem jX{w:World}{c:List V}{us:List Value}{fp:List Nat}{x:fD}(h:kP c=some x)(hr:aN w c us fp):vB w us x fp:=by
 unfold kP at h
 split at h
 ·rename_i a0 a1
  split at h
  ·rename_i x0 x1 e0 e1
   simp only[Option.some.injEq]at h
   subst h
   match us,hr with
   | [u0,u1],⟨f0,g0,r0,⟨f1,g1,r1,h9,q1⟩,q0⟩=>
     have h9:g1= []:=h9
     obtain⟨z0,y0⟩:=bz e0 r0
     have z1:=gb e1 r1
     refine⟨u1,f1,?_,z1,?_⟩
     ·simp[z0]
     ·simp[q0,q1,h9,y0]
  ·cases h
 ·cases h
def jq:List V→Option dL
 | [a0,a1,a2,a3,a4,a5,a6,a7]=>match gi a0,gi a1,gi a2,gi a3,gs (.sl .u8) a4,gi a5,gs (.sl .u8) a6,gi a7 with
   |some x0,some x1,some x2,some x3,some x4,some x5,some x6,some x7=>some ⟨x0,x1,x2,x3,x4,x5,x6,x7⟩
   |_,_,_,_,_,_,_,_=>none
 |_=>none
theorem gG{w:World}{c:List V}{us:List Value}{fp:List Nat}{x:dL}(h:jq c=some x)(hr:aN w c us fp):rG w us x fp:=by
 unfold jq at h
 split at h
 ·rename_i a0 a1 a2 a3 a4 a5 a6 a7
  split at h
  ·rename_i x0 x1 x2 x3 x4 x5 x6 x7 e0 e1 e2 e3 e4 e5 e6 e7
   simp only[Option.some.injEq]at h
   subst h
   match us,hr with
   | [u0,u1,u2,u3,u4,u5,u6,u7],⟨f0,g0,r0,⟨f1,g1,r1,⟨f2,g2,r2,⟨f3,g3,r3,⟨f4,g4,r4,⟨f5,g5,r5,⟨f6,g6,r6,⟨f7,g7,r7,h9,q7⟩,q6⟩,q5⟩,q4⟩,q3⟩,q2⟩,q1⟩,q0⟩=>
     have h9:g7= []:=h9
     obtain⟨z0,y0⟩:=bz e0 r0
     obtain⟨z1,y1⟩:=bz e1 r1
     obtain⟨z2,y2⟩:=bz e2 r2
     obtain⟨z3,y3⟩:=bz e3 r3
     have z4:=gb e4 r4
     obtain⟨z5,y5⟩:=bz e5 r5
     have z6:=gb e6 r6
     obtain⟨z7,y7⟩:=bz e7 r7
     refine⟨u4,u6,f4,f6,?_,z4,z6,?_⟩
     ·simp[z0,z1,z2,z3,z5,z7]
     ·simp[q0,q1,q2,q3,q4,q5,q6,q7,h9,y0,y1,y2,y3,y5,y7]
  ·cases h
 ·cases h
def nL:List V→Option bH
 | [a0,a1,a2,a3,a4,a5,a6,a7,a8,a9,Iz,IA,IB,IC,ID,IE]=>match jq [a0,a1,a2,a3,a4,a5,a6,a7],jq [a8,a9,Iz,IA,IB,IC,ID,IE]with
   |some x0,some x8=>some ⟨x0,x8⟩
   |_,_=>none
 |_=>none
theorem oA{w:World}{c:List V}{us:List Value}{fp:List Nat}{x:bH}(h:nL c=some x)(hr:aN w c us fp):vD w us x fp:=by
 unfold nL at h
 split at h
 ·rename_i a0 a1 a2 a3 a4 a5 a6 a7 a8 a9 Iz IA IB IC ID IE
  split at h
  ·rename_i x0 x8 e0 e1
   simp only[Option.some.injEq]at h
   subst h
   match us,hr with
   | [u0,u1,u2,u3,u4,u5,u6,u7,u8,u9,IF,IG,II,IJ,IK,IL],⟨f0,g0,r0,⟨f1,g1,r1,⟨f2,g2,r2,⟨f3,g3,r3,⟨f4,g4,r4,⟨f5,g5,r5,⟨f6,g6,r6,⟨f7,g7,r7,⟨f8,g8,r8,⟨f9,g9,r9,⟨f10,Ky,Jl,⟨f11,Kz,Jm,⟨f12,KA,Jn,⟨f13,KB,Jo,⟨f14,KC,Jp,⟨f15,Jq,Jr,h9,Js⟩,Jt⟩,Ju⟩,Jv⟩,Jw⟩,Jx⟩,q9⟩,q8⟩,q7⟩,q6⟩,q5⟩,q4⟩,q3⟩,q2⟩,q1⟩,q0⟩=>
     have h9:Jq= []:=h9
     have z0:=gG (w:=w) (us:= [u0,u1,u2,u3,u4,u5,u6,u7]) (fp:=(f0++(f1++(f2++(f3++(f4++(f5++(f6++(f7++ []))))))))) e0 ⟨f0,_,r0,⟨f1,_,r1,⟨f2,_,r2,⟨f3,_,r3,⟨f4,_,r4,⟨f5,_,r5,⟨f6,_,r6,⟨f7,_,r7,rfl,rfl⟩,rfl⟩,rfl⟩,rfl⟩,rfl⟩,rfl⟩,rfl⟩,rfl⟩
     have z8:=gG (w:=w) (us:= [u8,u9,IF,IG,II,IJ,IK,IL]) (fp:=(f8++(f9++(f10++(f11++(f12++(f13++(f14++(f15++ []))))))))) e1 ⟨f8,_,r8,⟨f9,_,r9,⟨f10,_,Jl,⟨f11,_,Jm,⟨f12,_,Jn,⟨f13,_,Jo,⟨f14,_,Jp,⟨f15,_,Jr,rfl,rfl⟩,rfl⟩,rfl⟩,rfl⟩,rfl⟩,rfl⟩,rfl⟩,rfl⟩
     refine⟨[u0,u1,u2,u3,u4,u5,u6,u7],[u8,u9,IF,IG,II,IJ,IK,IL],(f0++(f1++(f2++(f3++(f4++(f5++(f6++(f7++ [])))))))),(f8++(f9++(f10++(f11++(f12++(f13++(f14++(f15++ [])))))))),?_,z0,z8,?_⟩
     ·rfl
     ·simp[q0,q1,q2,q3,q4,q5,q6,q7,q8,q9,Jx,Jw,Jv,Ju,Jt,Js,h9]
  ·cases h
 ·cases h
def nM:List V→Option cX
 | [a0,a1,a2,a3,a4,a5,a6,a7,a8,a9]=>match gi a0,gs .b9 a1,gs .bH a2,kP [a3,a4],gi a5,gi a6,gi a7,gs .int a8,gi a9 with
   |some x0,some x1,some x2,some x3,some x5,some x6,some x7,some x8,some x9=>some ⟨x0,x1,x2,x3,x5,x6,x7,x8,x9⟩
   |_,_,_,_,_,_,_,_,_=>none
 |_=>none
theorem oB{w:World}{c:List V}{us:List Value}{fp:List Nat}{x:cX}(h:nM c=some x)(hr:aN w c us fp):vF w us x fp:=by
 unfold nM at h
 split at h
 ·rename_i a0 a1 a2 a3 a4 a5 a6 a7 a8 a9
  split at h
  ·rename_i x0 x1 x2 x3 x5 x6 x7 x8 x9 e0 e1 e2 e3 e4 e5 e6 e7 e8
   simp only[Option.some.injEq]at h
   subst h
   match us,hr with
   | [u0,u1,u2,u3,u4,u5,u6,u7,u8,u9],⟨f0,g0,r0,⟨f1,g1,r1,⟨f2,g2,r2,⟨f3,g3,r3,⟨f4,g4,r4,⟨f5,g5,r5,⟨f6,g6,r6,⟨f7,g7,r7,⟨f8,g8,r8,⟨f9,g9,r9,h9,q9⟩,q8⟩,q7⟩,q6⟩,q5⟩,q4⟩,q3⟩,q2⟩,q1⟩,q0⟩=>
     have h9:g9= []:=h9
     obtain⟨z0,y0⟩:=bz e0 r0
     have z1:=gb e1 r1
     have z2:=gb e2 r2
     have z3:=jX (w:=w) (us:= [u3,u4]) (fp:=(f3++(f4++ []))) e3 ⟨f3,_,r3,⟨f4,_,r4,rfl,rfl⟩,rfl⟩
     obtain⟨z5,y5⟩:=bz e4 r5
     obtain⟨z6,y6⟩:=bz e5 r6
     obtain⟨z7,y7⟩:=bz e6 r7
     have z8:=gb e7 r8
     obtain⟨z9,y9⟩:=bz e8 r9
     refine⟨u1,u2,[u3,u4],u8,f1,f2,(f3++(f4++ [])),f8,?_,z1,z2,z3,z8,?_⟩
     ·simp[z0,z5,z6,z7,z9]
     ·simp[q0,q1,q2,q3,q4,q5,q6,q7,q8,q9,h9,y0,y5,y6,y7,y9]
  ·cases h
 ·cases h
def rM:List V→Option Ev
 | [a0,a1,a2,a3]=>match gi a0,gi a1,gi a2,gs .u8 a3 with
   |some x0,some x1,some x2,some x3=>some ⟨x0,x1,x2,x3⟩
   |_,_,_,_=>none
 |_=>none
theorem qI{w:World}{c:List V}{us:List Value}{fp:List Nat}{x:Ev}(h:rM c=some x)(hr:aN w c us fp):G8 w us x fp:=by
 unfold rM at h
 split at h
 ·rename_i a0 a1 a2 a3
  split at h
  ·rename_i x0 x1 x2 x3 e0 e1 e2 e3
   simp only[Option.some.injEq]at h
   subst h
   match us,hr with
   | [u0,u1,u2,u3],⟨f0,g0,r0,⟨f1,g1,r1,⟨f2,g2,r2,⟨f3,g3,r3,h9,q3⟩,q2⟩,q1⟩,q0⟩=>
     have h9:g3= []:=h9
     obtain⟨z0,y0⟩:=bz e0 r0
     obtain⟨z1,y1⟩:=bz e1 r1
     obtain⟨z2,y2⟩:=bz e2 r2
     have z3:=gb e3 r3
     refine⟨u3,f3,?_,z3,?_⟩
     ·simp[z0,z1,z2]
     ·simp[q0,q1,q2,q3,h9,y0,y1,y2]
  ·cases h
 ·cases h
def nN:List V→Option jm
 | [a0,a1,a2]=>match gi a0,gi a1,gi a2 with
   |some x0,some x1,some x2=>some ⟨x0,x1,x2⟩
   |_,_,_=>none
 |_=>none
theorem oC{w:World}{c:List V}{us:List Value}{fp:List Nat}{x:jm}(h:nN c=some x)(hr:aN w c us fp):zN w us x fp:=by
 unfold nN at h
 split at h
 ·rename_i a0 a1 a2
  split at h
  ·rename_i x0 x1 x2 e0 e1 e2
   simp only[Option.some.injEq]at h
   subst h
   match us,hr with
   | [u0,u1,u2],⟨f0,g0,r0,⟨f1,g1,r1,⟨f2,g2,r2,h9,q2⟩,q1⟩,q0⟩=>
     have h9:g2= []:=h9
     obtain⟨z0,y0⟩:=bz e0 r0
     obtain⟨z1,y1⟩:=bz e1 r1
     obtain⟨z2,y2⟩:=bz e2 r2
     refine⟨?_,?_⟩
     ·simp[z0,z1,z2]
     ·simp[q0,q1,q2,h9,y0,y1,y2]
  ·cases h
 ·cases h
def nO:List V→Option jV
 | [a0,a1,a2,a3,a4]=>match gi a0,gi a1,gi a2,gi a3,gi a4 with
   |some x0,some x1,some x2,some x3,some x4=>some ⟨x0,x1,x2,x3,x4⟩
   |_,_,_,_,_=>none
 |_=>none
theorem oD{w:World}{c:List V}{us:List Value}{fp:List Nat}{x:jV}(h:nO c=some x)(hr:aN w c us fp):zP w us x fp:=by
 unfold nO at h
 split at h
 ·rename_i a0 a1 a2 a3 a4
  split at h
  ·rename_i x0 x1 x2 x3 x4 e0 e1 e2 e3 e4
   simp only[Option.some.injEq]at h
   subst h
   match us,hr with
   | [u0,u1,u2,u3,u4],⟨f0,g0,r0,⟨f1,g1,r1,⟨f2,g2,r2,⟨f3,g3,r3,⟨f4,g4,r4,h9,q4⟩,q3⟩,q2⟩,q1⟩,q0⟩=>
     have h9:g4= []:=h9
     obtain⟨z0,y0⟩:=bz e0 r0
     obtain⟨z1,y1⟩:=bz e1 r1
     obtain⟨z2,y2⟩:=bz e2 r2
     obtain⟨z3,y3⟩:=bz e3 r3
     obtain⟨z4,y4⟩:=bz e4 r4
     refine⟨?_,?_⟩
     ·simp[z0,z1,z2,z3,z4]
     ·simp[q0,q1,q2,q3,q4,h9,y0,y1,y2,y3,y4]
  ·cases h
 ·cases h
def jr:List V→Option Plain
 | [a0,a1]=>match gi a0,gs .u8 a1 with
   |some x0,some x1=>some ⟨x0,x1⟩
   |_,_=>none
 |_=>none
theorem kQ{w:World}{c:List V}{us:List Value}{fp:List Nat}{x:Plain}(h:jr c=some x)(hr:aN w c us fp):rH w us x fp:=by
 unfold jr at h
 split at h
 ·rename_i a0 a1
  split at h
  ·rename_i x0 x1 e0 e1
   simp only[Option.some.injEq]at h
   subst h
   match us,hr with
   | [u0,u1],⟨f0,g0,r0,⟨f1,g1,r1,h9,q1⟩,q0⟩=>
     have h9:g1= []:=h9
     obtain⟨z0,y0⟩:=bz e0 r0
     have z1:=gb e1 r1
     refine⟨u1,f1,?_,z1,?_⟩
     ·simp[z0]
     ·simp[q0,q1,h9,y0]
  ·cases h
 ·cases h
def kR:List V→Option dg
 | [a0,a1,a2,a3,a4]=>match gi a0,gi a1,gs .int a2,gs .u8 a3,gi a4 with
   |some x0,some x1,some x2,some x3,some x4=>some ⟨x0,x1,x2,x3,x4⟩
   |_,_,_,_,_=>none
 |_=>none
theorem mZ{w:World}{c:List V}{us:List Value}{fp:List Nat}{x:dg}(h:kR c=some x)(hr:aN w c us fp):xj w us x fp:=by
 unfold kR at h
 split at h
 ·rename_i a0 a1 a2 a3 a4
  split at h
  ·rename_i x0 x1 x2 x3 x4 e0 e1 e2 e3 e4
   simp only[Option.some.injEq]at h
   subst h
   match us,hr with
   | [u0,u1,u2,u3,u4],⟨f0,g0,r0,⟨f1,g1,r1,⟨f2,g2,r2,⟨f3,g3,r3,⟨f4,g4,r4,h9,q4⟩,q3⟩,q2⟩,q1⟩,q0⟩=>
     have h9:g4= []:=h9
     obtain⟨z0,y0⟩:=bz e0 r0
     obtain⟨z1,y1⟩:=bz e1 r1
     have z2:=gb e2 r2
     have z3:=gb e3 r3
     obtain⟨z4,y4⟩:=bz e4 r4
     refine⟨u2,u3,f2,f3,?_,z2,z3,?_⟩
     ·simp[z0,z1,z4]
     ·simp[q0,q1,q2,q3,q4,h9,y0,y1,y4]
  ·cases h
 ·cases h
def rN:List V→Option (List Prop×Int)
 | [v]=>match gi v with|some n=>some ([],n)|none=>none
 |_=>none
def vL:List V→Option (List Prop×UInt8)
 | [.lit (.int .u8 n)]=>some ([0≤n∧n<256],UInt8.ofNat n.toNat)
 |_=>none
def rO:List V→Option (List Prop×List UInt8)
 | [.lit (.string s)]=>some ([s.size≤maxLen],s.data.toList)
 |_=>none
def vM(t:Tag):List V→Option (List Prop×List (T t))
 | [v]=>match gs t v with|some l=>some ([],l)|none=>none
 |_=>none
def dM{α:Type}:Option α→Option (List Prop×α)
 |some x=>some ([],x)
 |none=>none
theorem bJ{α:Type}{o:Option α}{vc:List Prop}{x:α}(h:dM o=some (vc,x)):o=some x:=by
 cases o with
 |none=>cases h
 |some y=>simp only[dM,Option.some.injEq,Prod.mk.injEq]at h;rw[h.2]
def enc:(t:Tag)→List V→Option (List Prop×T t)
 | .int,c=>rN c
 | .u8,c=>vL c
 | .str,c=>rO c
 | .sl t,c=>vM t c
 | .DB,c=>dM (l8 c)
 | .au,c=>dM (gE c)
 | .b9,c=>dM (nK c)
 | .an,c=>dM (gF c)
 | .fD,c=>dM (kP c)
 | .dL,c=>dM (jq c)
 | .bH,c=>dM (nL c)
 | .cX,c=>dM (nM c)
 | .Ev,c=>dM (rM c)
 | .jm,c=>dM (nN c)
 | .jV,c=>dM (nO c)
 | .Plain,c=>dM (jr c)
 | .dg,c=>dM (kR c)
theorem jY{w:World}:(t:Tag)→{c:List V}→{us:List Value}→{fp:List Nat}→{vc:List Prop}→{x:T t}→enc t c=some (vc,x)→(∀q,q∈vc→q)→aN w c us fp→rd t w us x fp
 | .int,c,us,fp,vc,x,h,hv,hr=>by
   have h:rN c=some (vc,x):=h
   unfold rN at h
   split at h<;>first| (cases h;done)|skip
   ·split at h
    ·rename_i v _ n e
     simp only[Option.some.injEq,Prod.mk.injEq]at h
     obtain⟨rfl,rfl⟩:=h
     match us,hr with
     | [u],⟨f,g,r,h9,q⟩=>
       obtain⟨z,y⟩:=bz e r
       have h9:g= []:=h9
       exact⟨by rw[z],by simp[q,y,h9]⟩
    ·cases h
 | .u8,c,us,fp,vc,x,h,hv,hr=>by
   have h:vL c=some (vc,x):=h
   unfold vL at h
   split at h<;>first| (cases h;done)|skip
   ·rename_i n _
    simp only[Option.some.injEq,Prod.mk.injEq]at h
    obtain⟨rfl,rfl⟩:=h
    obtain⟨h0,h1⟩:=hv _ (List.mem_singleton.2 rfl)
    match us,hr with
    | [u],⟨f,g,r,h9,q⟩=>
      have h9:g= []:=h9
      obtain⟨rfl,_,rfl⟩:=r
      refine⟨?_,by simp[q,h9]⟩
      have:((UInt8.ofNat n.toNat).toNat:Int)=n:=by rw[UInt8.toNat_ofNat'];omega
      rw[this]
 | .str,c,us,fp,vc,x,h,hv,hr=>by
   have h:rO c=some (vc,x):=h
   unfold rO at h
   split at h<;>first| (cases h;done)|skip
   ·rename_i s _
    simp only[Option.some.injEq,Prod.mk.injEq]at h
    obtain⟨rfl,rfl⟩:=h
    have h0:=hv _ (List.mem_singleton.2 rfl)
    match us,hr with
    | [u],⟨f,g,r,h9,q⟩=>
      have h9:g= []:=h9
      obtain⟨rfl,_,rfl⟩:=r
      exact⟨rfl,h0,by simp[q,h9]⟩
 | .sl t,c,us,fp,vc,x,h,hv,hr=>by
   have h:vM t c=some (vc,x):=h
   unfold vM at h
   split at h<;>first| (cases h;done)|skip
   ·split at h
    ·rename_i v _ l e
     simp only[Option.some.injEq,Prod.mk.injEq]at h
     obtain⟨rfl,rfl⟩:=h
     match us,hr with
     | [u],⟨f,g,r,h9,q⟩=>
       have h9:g= []:=h9
       refine⟨u,rfl,?_⟩
       have:=gb e r
       rw[q,h9,List.append_nil];exact this
    ·cases h
 | .DB,c,us,fp,vc,x,h,hv,hr=>by
   exact jo (bJ (show dM (l8 c)=_ from h)) hr
 | .au,c,us,fp,vc,x,h,hv,hr=>by
   exact jR (bJ (show dM (gE c)=_ from h)) hr
 | .b9,c,us,fp,vc,x,h,hv,hr=>by
   exact oz (bJ (show dM (nK c)=_ from h)) hr
 | .an,c,us,fp,vc,x,h,hv,hr=>by
   exact jS (bJ (show dM (gF c)=_ from h)) hr
 | .fD,c,us,fp,vc,x,h,hv,hr=>by
   exact jX (bJ (show dM (kP c)=_ from h)) hr
 | .dL,c,us,fp,vc,x,h,hv,hr=>by
   exact gG (bJ (show dM (jq c)=_ from h)) hr
 | .bH,c,us,fp,vc,x,h,hv,hr=>by
   exact oA (bJ (show dM (nL c)=_ from h)) hr
 | .cX,c,us,fp,vc,x,h,hv,hr=>by
   exact oB (bJ (show dM (nM c)=_ from h)) hr
 | .Ev,c,us,fp,vc,x,h,hv,hr=>by
   exact qI (bJ (show dM (rM c)=_ from h)) hr
 | .jm,c,us,fp,vc,x,h,hv,hr=>by
   exact oC (bJ (show dM (nN c)=_ from h)) hr
 | .jV,c,us,fp,vc,x,h,hv,hr=>by
   exact oD (bJ (show dM (nO c)=_ from h)) hr
 | .Plain,c,us,fp,vc,x,h,hv,hr=>by
   exact kQ (bJ (show dM (jr c)=_ from h)) hr
 | .dg,c,us,fp,vc,x,h,hv,hr=>by
   exact mZ (bJ (show dM (kR c)=_ from h)) hr
def bP:Tag→Value
 | .int=> .int .i64 0
 | .u8=> .int .u8 0
 | .str=> .string ⟨#[]⟩
 | .sl _=> .slice none 0 0
 | .DB=> .agg #[.slice none 0 0]
 | .au=> .agg #[.int .i64 0, .slice none 0 0]
 | .b9=> .agg #[.int .i64 0, .int .i64 0, .int .i64 0, .slice none 0 0, .int .i64 0]
 | .an=> .agg #[.int .i64 0, .slice none 0 0]
 | .fD=> .agg #[.int .i64 0, .slice none 0 0]
 | .dL=> .agg #[.int .i64 0, .int .i64 0, .int .i64 0, .int .i64 0, .slice none 0 0, .int .i64 0, .slice none 0 0, .int .i64 0]
 | .bH=> .agg #[.int .i64 0, .int .i64 0, .int .i64 0, .int .i64 0, .slice none 0 0, .int .i64 0, .slice none 0 0, .int .i64 0, .int .i64 0, .int .i64 0, .int .i64 0, .int .i64 0, .slice none 0 0, .int .i64 0, .slice none 0 0, .int .i64 0]
 | .cX=> .agg #[.int .i64 0, .slice none 0 0, .slice none 0 0, .int .i64 0, .slice none 0 0, .int .i64 0, .int .i64 0, .int .i64 0, .slice none 0 0, .int .i64 0]
 | .Ev=> .agg #[.int .i64 0, .int .i64 0, .int .i64 0, .slice none 0 0]
 | .jm=> .agg #[.int .i64 0, .int .i64 0, .int .i64 0]
 | .jV=> .agg #[.int .i64 0, .int .i64 0, .int .i64 0, .int .i64 0, .int .i64 0]
 | .Plain=> .agg #[.int .i64 0, .slice none 0 0]
 | .dg=> .agg #[.int .i64 0, .int .i64 0, .slice none 0 0, .slice none 0 0, .int .i64 0]
def iA:Tag→Nat
 | .int=>8
 | .u8=>1
 | .str=>16
 | .sl _=>24
 | .DB=>24
 | .au=>32
 | .b9=>56
 | .an=>32
 | .fD=>32
 | .dL=>96
 | .bH=>192
 | .cX=>144
 | .Ev=>48
 | .jm=>24
 | .jV=>40
 | .Plain=>32
 | .dg=>72
theorem gH:(t:Tag)→(bP t).cells.size=kk t
 | .int=>rfl
 | .u8=>rfl
 | .str=>rfl
 | .sl _=>rfl
 | .DB=>rfl
 | .au=>rfl
 | .b9=>rfl
 | .an=>rfl
 | .fD=>rfl
 | .dL=>rfl
 | .bH=>rfl
 | .cX=>rfl
 | .Ev=>rfl
 | .jm=>rfl
 | .jV=>rfl
 | .Plain=>rfl
 | .dg=>rfl
def flat:Tag→Bool
 | .int=>true
 | .u8=>true
 | .str=>true
 | .sl _=>false
 | .DB=>false
 | .au=>false
 | .b9=>false
 | .an=>false
 | .fD=>false
 | .dL=>false
 | .bH=>false
 | .cX=>false
 | .Ev=>false
 | .jm=>true
 | .jV=>true
 | .Plain=>false
 | .dg=>false
theorem Cp{w:World}(t:Tag){cs:List Value}{x:T t}{fp:List Nat}(hf:flat t=true)(h:rd t w cs x fp):fp= []:=by
 cases t with
 |int=>exact(show eE w cs x fp from h).2
 |u8=>exact(show vl w cs x fp from h).2
 |str=>exact(show D8 w cs x fp from h).2.2
 |sl _=>cases hf
 |DB=>cases hf
 |au=>cases hf
 |b9=>cases hf
 |an=>cases hf
 |fD=>cases hf
 |dL=>cases hf
 |bH=>cases hf
 |cX=>cases hf
 |Ev=>cases hf
 |jm=>exact(show zN w cs x fp from h).2
 |jV=>exact(show zP w cs x fp from h).2
 |Plain=>cases hf
 |dg=>cases hf
theorem aN.lits{w:World}: ∀{z:List Value},(∀v,v∈z→v.oneCell'=true)→aN w (z.map V.lit) z []
 | [],_=>rfl
 |v::r,h=>⟨[],[],⟨rfl,h v (by simp),rfl⟩,aN.lits fun u hu=>h u (by simp[hu]),rfl⟩
theorem Cq{w:World}:(t:Tag)→rd t w (bP t).cells.toList (aK t) []
 | .int=>⟨rfl,rfl⟩
 | .u8=>⟨rfl,rfl⟩
 | .str=>⟨rfl,by decide,rfl⟩
 | .sl _=>⟨_,rfl,none,0,rfl,Nat.le_refl _,Nat.zero_le _,Or.inl ⟨rfl,rfl,fun _=>rfl⟩⟩
 | .DB=>jo (c:=(bP .DB).cells.toList.map V.lit) rfl (aN.lits (by simp[bP,Value.cells,Value.oneCell']))
 | .au=>jR (c:=(bP .au).cells.toList.map V.lit) rfl (aN.lits (by simp[bP,Value.cells,Value.oneCell']))
 | .b9=>oz (c:=(bP .b9).cells.toList.map V.lit) rfl (aN.lits (by simp[bP,Value.cells,Value.oneCell']))
 | .an=>jS (c:=(bP .an).cells.toList.map V.lit) rfl (aN.lits (by simp[bP,Value.cells,Value.oneCell']))
 | .fD=>jX (c:=(bP .fD).cells.toList.map V.lit) rfl (aN.lits (by simp[bP,Value.cells,Value.oneCell']))
 | .dL=>gG (c:=(bP .dL).cells.toList.map V.lit) rfl (aN.lits (by simp[bP,Value.cells,Value.oneCell']))
 | .bH=>oA (c:=(bP .bH).cells.toList.map V.lit) rfl (aN.lits (by simp[bP,Value.cells,Value.oneCell']))
 | .cX=>oB (c:=(bP .cX).cells.toList.map V.lit) rfl (aN.lits (by simp[bP,Value.cells,Value.oneCell']))
 | .Ev=>qI (c:=(bP .Ev).cells.toList.map V.lit) rfl (aN.lits (by simp[bP,Value.cells,Value.oneCell']))
 | .jm=>oC (c:=(bP .jm).cells.toList.map V.lit) rfl (aN.lits (by simp[bP,Value.cells,Value.oneCell']))
 | .jV=>oD (c:=(bP .jV).cells.toList.map V.lit) rfl (aN.lits (by simp[bP,Value.cells,Value.oneCell']))
 | .Plain=>kQ (c:=(bP .Plain).cells.toList.map V.lit) rfl (aN.lits (by simp[bP,Value.cells,Value.oneCell']))
 | .dg=>mZ (c:=(bP .dg).cells.toList.map V.lit) rfl (aN.lits (by simp[bP,Value.cells,Value.oneCell']))
end
section
def tv(_:Nat):Prop:=False
def qJ(_:World):Prop:=True
theorem qJ.keep{w w':World}(_:qJ w)(_: ∀b,tv b→b<w.heap.size→w'.heap[b]? =w.heap[b]?):qJ w':=trivial
theorem qJ.lt{w:World}(_:qJ w){b:Nat}(hb:tv b):b<w.heap.size:=hb.elim
end
end Go.Proofs.YteodajeiagmekaaGreat.G
namespace Go.Proofs.YteodajeiagmekaaGreat.L
set_option linter.all false
open Go.RowKit
section
structure bY(fp:List Nat)(w w':World):Prop where
 os:w'.os=w.os
 tape:w'.tape=w.tape
 output:w'.output=w.output
 size:w.heap.size≤w'.heap.size
 block: ∀b,b<w.heap.size→b∉fp→w'.heap[b]? =w.heap[b]?
theorem bY.refl(fp:List Nat)(w:World):bY fp w w:=⟨rfl,rfl,rfl,Nat.le_refl _,fun _ _ _=>rfl⟩
theorem bY.mono{fp fq:List Nat}{w w':World}(h:bY fp w w')(hs: ∀b,b∈fp→b∈fq):bY fq w w':=⟨h.os,h.tape,h.output,h.size,fun b hb hn=>h.block b hb fun hm=>hn (hs b hm)⟩
theorem bY.trans{fp:List Nat}{a b c:World}(h:bY fp a b)(k:bY fp b c):bY fp a c:=
 ⟨k.os.trans h.os,k.tape.trans h.tape,k.output.trans h.output,Nat.le_trans h.size k.size,fun i hi hn=>(k.block i (Nat.lt_of_lt_of_le hi h.size) hn).trans (h.block i hi hn)⟩
theorem bY.below{fp:List Nat}{w w':World}{B:Nat}(h:bY fp w w')(hB:B≤w.heap.size)(hg: ∀b,b∈fp→B≤b):Below B w w':=
 ⟨h.os,h.tape,h.output,h.size,fun b hb=>h.block b (Nat.lt_of_lt_of_le hb hB) fun hm=>Nat.not_le_of_lt hb (hg b hm)⟩
theorem bY.aB{fp fq:List Nat}{w w':World}(h:bY fp w w')(hl: ∀b,b∈fq→b<w.heap.size)(hd: ∀b,b∈fq→b∉fp):bF w w' fq:=fun b hb=>h.block b (hl b hb) (hd b hb)
section
variable{α:Type}{k:Nat}{E:ER α}{lo e g n:Nat}{w w':World}{l:List α}{az:List (List Nat)}
theorem jw{az:List (List Nat)}(h:az.flatten.Nodup){i j:Nat}{f f':List Nat}(hi:az[i]? =some f)(hj:az[j]? =some f')(hne:i≠j): ∀b,b∈f→b∉f':=by
 intro b hb hb'
 have hp:=(List.pairwise_flatten.1 h).2
 rw[List.pairwise_iff_getElem]at hp
 obtain⟨hi1,rfl⟩:=List.getElem?_eq_some_iff.1 hi
 obtain⟨CJ,rfl⟩:=List.getElem?_eq_some_iff.1 hj
 rcases Nat.lt_or_ge i j with h1|h1
 ·exact hp i j hi1 CJ h1 b hb b hb' rfl
 ·exact hp j i CJ hi1 (by omega) b hb' b hb rfl
theorem Part.set(G:bW k E)(h:Part k E lo e w g n l az){i:Nat}{f:List Nat}{cs:List Value}{x':α}(hi:i<l.length)(hin:i<n)(hf:az[i]? =some f)(hE:E w cs x' f):
  Part k E lo e (w.setCells g (i*k) cs) g n (l.set i x') az:=by
 have hlen:=G.len hE
 have hnd:=h.own.nodup
 rw[List.nodup_cons]at hnd
 obtain⟨c,hc,hs⟩:=h.l5
 obtain⟨c',vn,hs'⟩:=bC g e cs (i*k) w c hc
 have Cl:w.there g (i*k) cs.length:=by rw[hlen];exact h.there _ hin
 have nW: ∀b,b∈az.flatten→b≠g:=fun b hb e=>hnd.1 (e▸hb)
 have wY:bF w (w.setCells g (i*k) cs) az.flatten:=fun b hb=>aR g cs _ w b (nW b hb)
 refine⟨⟨c',vn,by rw[hs',hs]⟩,⟨by rw[List.length_set];exact h.el.1,fun j y fy hy jl=> ?_⟩,⟨h.own.nodup,h.own.ge,fun b hb=> ?_⟩,h.cap⟩
 ·by_cases hj:i=j
  ·subst hj
   rw[List.getElem?_set_self hi]at hy
   simp only[Option.some.injEq]at hy
   subst hy
   rw[hf]at jl
   simp only[Option.some.injEq]at jl
   subst jl
   refine⟨cs,?_,G.aB hE (wY.sub fun b hb=>aP hf hb)⟩
   rw[Nat.zero_add]
   exact World.rangeAt_setCells_same w g _ cs Cl
  ·rw[List.getElem?_set_ne hj]at hy
   obtain⟨cy,hr,zD⟩:=h.el.2 j y fy hy jl
   refine⟨cy,World.rangeAt_setCells_apart hr _ _ _ (Or.inr ?_),G.aB zD (wY.sub fun b hb=>aP jl hb)⟩
   rw[G.len zD,hlen]
   rcases Nat.lt_or_ge j i with h1|h1
   ·left
    have:=Nat.mul_le_mul_right k (show j+1≤i by omega)
    rw[Nat.add_mul]at this;omega
   ·right
    have:=Nat.mul_le_mul_right k (show i+1≤j by omega)
    rw[Nat.add_mul]at this;omega
 ·rcases List.mem_cons.1 hb with rfl|hb
  ·exact⟨_,_,vn⟩
  ·rw[wY b hb];exact h.own.kind b (List.mem_cons_of_mem _ hb)
theorem Part.Ab(G:bW k E)(h:Part k E lo e w g n l az)(hn:l.length≤n):dy k E lo e w (.slice (some ⟨g,0,none⟩) l.length n) l (g::az.flatten):=by
 obtain⟨c,hc,hs⟩:=h.l5
 have hk:l.length*k≤n*k:=Nat.mul_le_mul_right k hn
 refine⟨c.toList.take (l.length*k),az,⟨by rw[List.length_take,show c.toList.length=n*k from hs];exact Nat.min_eq_left hk,Or.inr ⟨g,n,c,rfl,h.own.ge g (by simp),hc,hn,h.cap,hs,rfl⟩⟩,h.el.1,fun i x f hx hf=> ?_,rfl,h.own⟩
 obtain⟨cs,hr,hE⟩:=h.el.2 i x f hx hf
 have hlen:=G.len hE
 have hi:i<l.length:=(List.getElem?_eq_some_iff.1 hx).1
 have h5:i*k+k≤l.length*k:=by
  have:=Nat.mul_le_mul_right k (show i+1≤l.length by omega)
  rw[Nat.add_mul]at this;omega
 have:((c.toList.take (l.length*k)).drop (i*k)).take k=cs:=by
  apply List.ext_getElem?
  intro j
  by_cases hj:j<k
  ·rw[List.getElem?_take,if_pos hj,List.getElem?_drop,List.getElem?_take,if_pos (by omega)]
   have h6:=hr j _ (List.getElem?_eq_getElem (by omega))
   rw[Nat.zero_add]at h6
   simp[World.cell?,hc]at h6
   rw[List.getElem?_eq_getElem (show j<cs.length by omega)]
   simp[h6]
  ·rw[List.getElem?_take,if_neg hj,List.getElem?_eq_none (by omega)]
 rw[this];exact hE
theorem dy.part{v:Value}{fp:List Nat}(h:dy k E lo e w v l fp):(v= .slice none 0 0∧l= []∧fp= [])∨ ∃g n az,v= .slice (some ⟨g,0,none⟩) l.length n∧l.length≤n∧fp=g::az.flatten∧Part k E lo e w g n l az:=by
 obtain⟨xs,az,⟨hxl,ho⟩,hl,hel,dN,hown⟩:=h
 rcases ho with⟨rfl,h0⟩| ⟨g,cap,cur,rfl,hg,hc,hn,FI,hcs,yO⟩
 ·have JE:l= []:=List.eq_nil_of_length_eq_zero h0
  have:az= []:=List.eq_nil_of_length_eq_zero (by omega)
  exact Or.inl ⟨rfl,JE,by rw[dN,this];rfl⟩
 ·refine Or.inr ⟨g,cap,az,rfl,hn,dN,⟨⟨cur,hc,hcs⟩,⟨hl,fun i x f hx hf=>⟨_,?_,hel i x f hx hf⟩⟩,by rw[dN]at hown;exact hown,FI⟩⟩
  intro j u hu
  have hi:i<l.length:=(List.getElem?_eq_some_iff.1 hx).1
  rw[List.getElem?_take]at hu
  split at hu
  ·rename_i hj
   rw[List.getElem?_drop, ←yO,List.getElem?_take]at hu
   split at hu
   ·simp only[World.cell?,hc]
    rw[Array.getElem?_toList]at hu
    rw[Nat.zero_add]
    simpa using hu
   ·cases hu
  ·cases hu
structure Ay{α:Type}(k:Nat)(E:ER α)(lo:Nat)(w:World)(b off:Nat)(l:List α)(az:List (List Nat)):Prop where
 el:jQ k E w b off l az
 own:Own lo w (b::az.flatten)
theorem Ay.lt{b off:Nat}(h:Ay k E lo w b off l az):b<w.heap.size:=h.own.lt b (by simp)
theorem Ay.set(G:bW k E){b off:Nat}(h:Ay k E lo w b off l az){i o:Nat}{f:List Nat}{vs cs:List Value}{x':α}(hi:i<l.length)(ho:o+vs.length≤k)(hf:az[i]? =some f)
  (hr:(w.setCells b (off+i*k+o) vs).rangeAt b (off+i*k) cs)(hE:E w cs x' f):
  Ay k E lo (w.setCells b (off+i*k+o) vs) b off (l.set i x') az:=by
 have hlen:=G.len hE
 have hnd:=h.own.nodup
 rw[List.nodup_cons]at hnd
 have nW: ∀c,c∈az.flatten→c≠b:=fun c hc e=>hnd.1 (e▸hc)
 have wY:bF w (w.setCells b (off+i*k+o) vs) az.flatten:=fun c hc=>aR b vs _ w c (nW c hc)
 refine⟨⟨by rw[List.length_set];exact h.el.1,fun j y fy hy jl=> ?_⟩,⟨h.own.nodup,h.own.ge,fun c hc=> ?_⟩⟩
 ·by_cases hj:i=j
  ·subst hj
   rw[List.getElem?_set_self hi]at hy
   simp only[Option.some.injEq]at hy
   subst hy
   rw[hf]at jl
   simp only[Option.some.injEq]at jl
   subst jl
   exact⟨cs,hr,G.aB hE (wY.sub fun b hb=>aP hf hb)⟩
  ·rw[List.getElem?_set_ne hj]at hy
   obtain⟨cy,hr,zD⟩:=h.el.2 j y fy hy jl
   refine⟨cy,World.rangeAt_setCells_apart hr _ _ _ (Or.inr ?_),G.aB zD (wY.sub fun b hb=>aP jl hb)⟩
   rw[G.len zD]
   rcases Nat.lt_or_ge j i with h1|h1
   ·left
    have:=Nat.mul_le_mul_right k (show j+1≤i by omega)
    rw[Nat.add_mul]at this;omega
   ·right
    have:=Nat.mul_le_mul_right k (show i+1≤j by omega)
    rw[Nat.add_mul]at this;omega
 ·rcases List.mem_cons.1 hc with rfl|hc
  ·obtain⟨c0,e0,hk⟩:=h.own.kind c (by simp)
   obtain⟨c',vn,_⟩:=bC c e0 vs (off+i*k+o) w c0 hk
   exact⟨_,_,vn⟩
  ·rw[wY c hc];exact h.own.kind c (List.mem_cons_of_mem _ hc)
end
end
end Go.Proofs.YteodajeiagmekaaGreat.L
