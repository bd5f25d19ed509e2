/-
  Slices that the call has made, written again: an element replaced; an element's own memory written by a call.
-/
import Derived.OpenShut
import Derived.ProofKit
import Derived.Test.YtcnomgcfijjkmaaGreatR2
namespace Go.Proofs.YtcnomgcfijjkmaaGreat.L
set_option linter.all false
open Go.RowKit Go.ChangeShapes Go.WideShapes Go.ChangeAt D
section
section
variable{H:Type}(enc:TypeId×Value→H)(P:Program)(w:World)(spare:Nat→Bool)(held:Bool)
def Kw{α:Type}(t:TypeId)(E:ER α)(W:α→Prop):Prop:=
 ∀fuel cs y,DataW.trod enc P w 0 spare held fuel t cs=some y→ ∃x fp,E w cs x fp∧W x
variable{enc P w spare held}
theorem Kx{t:TypeId}(ht:P.underlying t=some (.int .u8)):Kw enc P w spare held t GW (fun _=>True):=by
 intro fuel cs y h
 obtain⟨n,rfl,_,hw⟩:=DataW.trod_int ht h
 have hb:=bounds_u8 hw
 refine⟨UInt8.ofNat n.toNat,[],⟨?_,rfl⟩,trivial⟩
 have:((UInt8.ofNat n.toNat).toNat:Int)=n:=by
  rw[UInt8.toNat_ofNat'];omega
 rw[this]
theorem Ky{α:Type} [Inhabited α]{k:Nat}{E:ER α}{W:α→Prop}{t e:TypeId}(ht:P.underlying t=some (.slice e))(hk:P.cellsOf e=k)(hpos:0<k)(ho:Kw enc P w spare held e E W)(hspare: ∀b,spare b=true:=by exact fun _=>rfl):
  Kw enc P w spare held t (Ux k E) (fun l=> ∀x,x∈l→W x):=by
 intro fuel cs y h
 rcases Go.Deep.open_slice ht h with⟨rfl,_⟩| ⟨a,len,cap,m,n,D,Pl,rfl,_,hl,hm,YN,_,hx⟩
 ·exact⟨[],[],⟨_,rfl,none,0,rfl,Nat.le_refl _,Nat.zero_le _,Or.inl ⟨rfl,rfl,rfl⟩⟩,by simp⟩
 rw[hk]at hx
 rw[if_pos (hspare _)]at YN
 subst YN
 by_cases h0:m=0
 ·subst h0
  have:len=0:=by omega
  subst this
  exact⟨[],[],⟨_,rfl,some a,0,rfl,hl,hm,Or.inl ⟨rfl,rfl,rfl⟩⟩,by simp⟩
 have hsp:a.spot=none:=by
  obtain⟨cs',hc,_⟩:=hx 0 (by omega)
  obtain⟨_,h1,h2⟩:=World.cells?_some hc
  have h3:=h2 0 (by omega)
  have ha:((a.add (0*k)).add 0)=a:=by simp[Addr.add]
  rw[ha]at h3
  have hlen:0<cs'.length:=by omega
  rw[List.getElem?_eq_getElem hlen]at h3
  simp only[World.cell?]at h3
  split at h3
  ·split at h3
   ·cases h3
   ·rename_i hs;simpa using hs
  ·cases h3
 obtain⟨b,off,rfl⟩: ∃b off,a=⟨b,off,none⟩:=⟨a.block,a.off,by cases a;simp_all⟩
 have hel: ∀i,i<len→ ∃q:α×List Nat,(∃cs',w.rangeAt b (off+i*k) cs'∧E w cs' q.1 q.2)∧W q.1:=by
  intro i hi
  obtain⟨cs',hc,ZF⟩:=hx i (by omega)
  obtain⟨x,fp,hE,hW⟩:=ho _ _ _ ZF
  obtain⟨_,h1,h2⟩:=World.cells?_some hc
  refine⟨(x,fp),⟨cs',fun j v hv=> ?_,hE⟩,hW⟩
  have hj:=(List.getElem?_eq_some_iff.1 hv).1
  have:=h2 j (by omega)
  rw[Addr.add_mid,Addr.add_mid,hv]at this
  exact this
 obtain⟨f,hf⟩:=Go.Deep.choose_lt hel
 refine⟨(List.range len).map fun i=>(f i).1,b::((List.range len).map fun i=>(f i).2).flatten,⟨_,rfl,some ⟨b,off,none⟩,m,by simp,by simpa using hl,hm,Or.inr ⟨b,off,(List.range len).map fun i=>(f i).2,rfl,?_,rfl,by simp,?_⟩⟩,?_⟩
 ·obtain⟨cs',hc,_⟩:=hx (m-1) (by omega)
  obtain⟨_,h1,h2⟩:=World.cells?_some hc
  have h3:=h2 (k-1) (by omega)
  rw[Addr.add_mid,Addr.add_mid,List.getElem?_eq_getElem (by omega)]at h3
  have hmk:off+(m-1)*k+(k-1)+1=off+m*k:=by
   obtain⟨q,rfl⟩: ∃q,m=q+1:=⟨m-1,by omega⟩
   rw[Nat.add_sub_cancel,Nat.add_mul];omega
  simp only[World.cell?]at h3
  split at h3
  ·rename_i c e fz hb
   refine⟨c,e,fz,hb,?_⟩
   have h4:off+(m-1)*k+(k-1)<c.size:=by
    apply Decidable.byContradiction
    intro hge
    simp[Array.getElem?_eq_none (show c.size≤off+(m-1)*k+(k-1)by omega)]at h3
   omega
  ·cases h3
 ·intro i x fp hx eK
  have hi:i<len:=by have:=(List.getElem?_eq_some_iff.1 hx).1;simpa using this
  simp[hi]at hx eK
  subst hx;subst eK
  exact(hf i hi).1
 ·intro x hx
  simp only[List.mem_map,List.mem_range]at hx
  obtain⟨i,hi,rfl⟩:=hx
  exact(hf i hi).2
end
end
end Go.Proofs.YtcnomgcfijjkmaaGreat.L
namespace Go.Proofs.YtcnomgcfijjkmaaGreat.G
set_option linter.all false
open Go.RowKit L D
section
inductive Tag where
 |int|u8|str|sl(t:Tag)|DB|aM|bl|aC|gH|cX|aS|aR|Ev|pP|ep|Plain|cD
 deriving DecidableEq
@[reducible] def T:Tag→Type
  | .int=>Int
  | .u8=>UInt8
  | .str=>List UInt8
  | .sl t=>List (T t)
  | .DB=>DB
  | .aM=>aM
  | .bl=>bl
  | .aC=>aC
  | .gH=>gH
  | .cX=>cX
  | .aS=>aS
  | .aR=>aR
  | .Ev=>Ev
  | .pP=>pP
  | .ep=>ep
  | .Plain=>Plain
  | .cD=>cD
def kk:Tag→Nat
 | .int=>1
 | .u8=>1
 | .str=>1
 | .sl _=>1
 | .DB=>1
 | .aM=>2
 | .bl=>5
 | .aC=>2
 | .gH=>2
 | .cX=>8
 | .aS=>16
 | .aR=>10
 | .Ev=>4
 | .pP=>3
 | .ep=>5
 | .Plain=>2
 | .cD=>5
def rd:(t:Tag)→ER (T t)
 | .int=>Kc
 | .u8=>GW
 | .str=>Oz
 | .sl t=>Ux (kk t) (rd t)
 | .DB=>Uy
 | .aM=>sA
 | .bl=>Kj
 | .aC=>sB
 | .gH=>Kk
 | .cX=>Ix
 | .aS=>Kl
 | .aR=>OC
 | .Ev=>WE
 | .pP=>Kp
 | .ep=>Kr
 | .Plain=>BY
 | .cD=>G6
theorem cF:(t:Tag)→eB (kk t) (rd t)
 | .int=>n7
 | .u8=>fK
 | .str=>Ke
 | .sl t=>mH (cF t)
 | .DB=>ju
 | .aM=>n9
 | .bl=>xQ
 | .aC=>oc
 | .gH=>og
 | .cX=>gK
 | .aS=>xR
 | .aR=>Ko
 | .Ev=>OD
 | .pP=>Kq
 | .ep=>Ks
 | .Plain=>FA
 | .cD=>Iy
theorem eu:(t:Tag)→0<kk t
 | .int=>by decide
 | .u8=>by decide
 | .str=>by decide
 | .sl _=>Nat.one_pos
 | .DB=>by decide
 | .aM=>by decide
 | .bl=>by decide
 | .aC=>by decide
 | .gH=>by decide
 | .cX=>by decide
 | .aS=>by decide
 | .aR=>by decide
 | .Ev=>by decide
 | .pP=>by decide
 | .ep=>by decide
 | .Plain=>by decide
 | .cD=>by decide
def aA:(t:Tag)→T t
 | .int=>(0:Int)
 | .u8=>(0:UInt8)
 | .str=>([]:List UInt8)
 | .sl t=>([]:List (T t))
 | .DB=>(default:DB)
 | .aM=>(default:aM)
 | .bl=>(default:bl)
 | .aC=>(default:aC)
 | .gH=>(default:gH)
 | .cX=>(default:cX)
 | .aS=>(default:aS)
 | .aR=>(default:aR)
 | .Ev=>(default:Ev)
 | .pP=>(default:pP)
 | .ep=>(default:ep)
 | .Plain=>(default:Plain)
 | .cD=>(default:cD)
inductive V where
 |any
 |lit(v:Value)
 |sl(t:Tag)(l:List (T t))
 |own(n:Nat)
 |ptr(n off:Nat)
 |iQ(n i off:Nat)
 |ip(t:Tag)(x:T t)(off:Nat)
 |vw(n:Nat)(p:Option (Nat×Nat))(t:Tag)(l:List (T t))
 |wK(n:Nat)(p:Option (Nat×Nat×Nat))(t:Tag)(x:T t)(off:Nat)
 |wL(n:Nat)(t:Tag)(l:List (T t))
 |mix(n:Nat)(c:Bool)(t:Tag)(l:List (T t))
 |nK(n:Nat)
 |vV(f:FuncId)(n:Nat)
 |mJ(k:Nat)
 |raw(v:Value)
 |gL(v:Value)(t:Tag)(l:List (T t))
def RI(w:World):V→Value→List Nat→Prop
 | .lit v,u,fp=>u=v∧v.oneCell'=true∧fp= []
 | .sl t l,u,fp=>Sl (kk t) (rd t) w u l fp
 |_,_,_=>False
def bG(w:World):List V→List Value→List Nat→Prop
 | [],[],fp=>fp= []
 |V::Vs,u::us,fp=> ∃f g,RI w V u f∧bG w Vs us g∧fp=f++g
 |_,_,_=>False
theorem bG.nil{w:World}:bG w [] [] []:=rfl
theorem bG.lit{w:World}{v:Value}{Vs:List V}{us:List Value}{g:List Nat}(hv:v.oneCell'=true)(h:bG w Vs us g):bG w (.lit v::Vs) (v::us) g:=⟨[],g,⟨rfl,hv,rfl⟩,h,rfl⟩
theorem bG.sl{w:World}{u:Value}{t:Tag}{l:List (T t)}{f g:List Nat}{Vs:List V}{us:List Value}(k:Sl (kk t) (rd t) w u l f)(h:bG w Vs us g):bG w (.sl t l::Vs) (u::us) (f++g):=⟨f,g,k,h,rfl⟩
theorem bG.app{w:World}: ∀{Vs Us:List V} {vs us:List Value} {f g:List Nat},bG w Vs vs f→bG w Us us g→bG w (Vs++Us) (vs++us) (f++g)
 | [],_,[],_,_,_,h,k=>by rw[show _=_ from h];exact k
 |_::_,_,_::_,_,_,_,⟨f1,f2,h1,h2,e⟩,k=>⟨f1,f2++_,h1,bG.app h2 k,by rw[e,List.append_assoc]⟩
 | [],_,_::_,_,_,_,h,_=>h.elim
 |_::_,_,[],_,_,_,h,_=>h.elim
theorem bG.len{w:World}: ∀{Vs:List V} {us:List Value} {fp:List Nat},bG w Vs us fp→us.length=Vs.length
 | [],[],_,_=>rfl
 |_::_,_::_,_,⟨_,_,_,h,_⟩=>by simp[bG.len h]
 | [],_::_,_,h=>h.elim
 |_::_,[],_,h=>h.elim
def bA(x:DB):List V:= [.sl (.sl .u8) x.rows]
def qZ(x:aM):List V:= [.lit (.int .i64 x.client)]++bA x.share
def cx(x:bl):List V:= [.lit (.int .i64 x.id), .lit (.int .i64 x.rows), .lit (.int .i64 x.round), .sl .aM x.received, .lit (.int .i64 x.behavior)]
def rj(x:aC):List V:= [.lit (.int .i64 x.round)]++bA x.db
def dS(x:gH):List V:= [.lit (.int .i64 x.rows), .sl .aC x.rounds]
def bR(x:cX):List V:= [.lit (.int .i64 x.id), .lit (.int .i64 x.dF), .lit (.int .i64 x.key), .lit (.int .i64 x.seed), .sl (.sl .u8) x.aE, .lit (.int .i64 x.sent), .sl (.sl .u8) x.inbox, .lit (.int .i64 x.next)]
def cq(x:aS):List V:=bR x.live++bR x.saved
def aZ(x:aR):List V:= [.lit (.int .i64 x.rows), .sl .bl x.aj, .sl .aS x.aa]++dS x.az++ [.lit (.int .i64 x.bh), .lit (.int .i64 x.seed), .lit (.int .i64 x.round), .sl .int x.replaced, .lit (.int .i64 x.cancelled)]
def FB(x:Ev):List V:= [.lit (.int .i64 x.kind), .lit (.int .i64 x.node), .lit (.int .i64 x.value), .sl .u8 x.body]
def B0(x:pP):List V:= [.lit (.int .i64 x.fr), .lit (.int .i64 x.to), .lit (.int .i64 x.bytes)]
def mK(x:ep):List V:= [.lit (.int .i64 x.server), .lit (.int .i64 x.client), .lit (.int .i64 x.round), .lit (.int .i64 x.oo), .lit (.int .i64 x.G5)]
def gB(x:Plain):List V:= [.lit (.int .i64 x.kind), .sl .u8 x.body]
def gM(x:cD):List V:= [.lit (.int .i64 x.server), .lit (.int .i64 x.round), .sl .int x.selection, .sl .u8 x.data, .lit (.int .i64 x.G5)]
def dec:(t:Tag)→T t→List V
 | .int,n=> [.lit (.int .i64 n)]
 | .u8,n=> [.lit (.int .u8 n.toNat)]
 | .str,s=> [.lit (.string ⟨s.toArray⟩)]
 | .sl t,l=> [.sl t l]
 | .DB,x=>bA x
 | .aM,x=>qZ x
 | .bl,x=>cx x
 | .aC,x=>rj x
 | .gH,x=>dS x
 | .cX,x=>bR x
 | .aS,x=>cq x
 | .aR,x=>aZ x
 | .Ev,x=>FB x
 | .pP,x=>B0 x
 | .ep,x=>mK x
 | .Plain,x=>gB x
 | .cD,x=>gM x
theorem xY{w:World}{cs:List Value}{x:DB}{fp:List Nat}:Uy w cs x fp→bG w (bA x) cs fp:=by
 rintro⟨v0,f0,rfl,h0,rfl⟩
 have h:=(bG.sl (t:=(.sl .u8)) h0 bG.nil)
 simpa[bA]using h
theorem B1{w:World}{cs:List Value}{x:aM}{fp:List Nat}:sA w cs x fp→bG w (qZ x) cs fp:=by
 rintro⟨v0,f0,rfl,h0,rfl⟩
 have h:=(bG.app (bG.lit (w:=w) (v:= .int .i64 x.client) rfl bG.nil) (xY h0))
 simpa[qZ]using h
theorem IA{w:World}{cs:List Value}{x:bl}{fp:List Nat}:Kj w cs x fp→bG w (cx x) cs fp:=by
 rintro⟨v0,f0,rfl,h0,rfl⟩
 have h:=(bG.lit (w:=w) (v:= .int .i64 x.id) rfl (bG.lit (w:=w) (v:= .int .i64 x.rows) rfl (bG.lit (w:=w) (v:= .int .i64 x.round) rfl (bG.sl (t:= .aM) h0 (bG.lit (w:=w) (v:= .int .i64 x.behavior) rfl bG.nil)))))
 simpa[cx]using h
theorem B2{w:World}{cs:List Value}{x:aC}{fp:List Nat}:sB w cs x fp→bG w (rj x) cs fp:=by
 rintro⟨v0,f0,rfl,h0,rfl⟩
 have h:=(bG.app (bG.lit (w:=w) (v:= .int .i64 x.round) rfl bG.nil) (xY h0))
 simpa[rj]using h
theorem AZ{w:World}{cs:List Value}{x:gH}{fp:List Nat}:Kk w cs x fp→bG w (dS x) cs fp:=by
 rintro⟨v0,f0,rfl,h0,rfl⟩
 have h:=(bG.lit (w:=w) (v:= .int .i64 x.rows) rfl (bG.sl (t:= .aC) h0 bG.nil))
 simpa[dS]using h
theorem ur{w:World}{cs:List Value}{x:cX}{fp:List Nat}:Ix w cs x fp→bG w (bR x) cs fp:=by
 rintro⟨v0,v1,f0,f1,rfl,h0,h1,rfl⟩
 have h:=(bG.lit (w:=w) (v:= .int .i64 x.id) rfl (bG.lit (w:=w) (v:= .int .i64 x.dF) rfl (bG.lit (w:=w) (v:= .int .i64 x.key) rfl (bG.lit (w:=w) (v:= .int .i64 x.seed) rfl (bG.sl (t:=(.sl .u8)) h0 (bG.lit (w:=w) (v:= .int .i64 x.sent) rfl (bG.sl (t:=(.sl .u8)) h1 (bG.lit (w:=w) (v:= .int .i64 x.next) rfl bG.nil))))))))
 simpa[bR]using h
theorem IB{w:World}{cs:List Value}{x:aS}{fp:List Nat}:Kl w cs x fp→bG w (cq x) cs fp:=by
 rintro⟨v0,v1,f0,f1,rfl,h0,h1,rfl⟩
 have h:=(bG.app (ur h0) (ur h1))
 simpa[cq]using h
theorem IC{w:World}{cs:List Value}{x:aR}{fp:List Nat}:OC w cs x fp→bG w (aZ x) cs fp:=by
 rintro⟨v0,v1,v2,v3,f0,f1,f2,f3,rfl,h0,h1,h2,h3,rfl⟩
 have h:=(bG.app (bG.app (bG.lit (w:=w) (v:= .int .i64 x.rows) rfl (bG.sl (t:= .bl) h0 (bG.sl (t:= .aS) h1 bG.nil))) (AZ h2)) (bG.lit (w:=w) (v:= .int .i64 x.bh) rfl (bG.lit (w:=w) (v:= .int .i64 x.seed) rfl (bG.lit (w:=w) (v:= .int .i64 x.round) rfl (bG.sl (t:= .int) h3 (bG.lit (w:=w) (v:= .int .i64 x.cancelled) rfl bG.nil))))))
 simpa[aZ]using h
theorem Kz{w:World}{cs:List Value}{x:Ev}{fp:List Nat}:WE w cs x fp→bG w (FB x) cs fp:=by
 rintro⟨v0,f0,rfl,h0,rfl⟩
 have h:=(bG.lit (w:=w) (v:= .int .i64 x.kind) rfl (bG.lit (w:=w) (v:= .int .i64 x.node) rfl (bG.lit (w:=w) (v:= .int .i64 x.value) rfl (bG.sl (t:= .u8) h0 bG.nil))))
 simpa[FB]using h
theorem ID{w:World}{cs:List Value}{x:pP}{fp:List Nat}:Kp w cs x fp→bG w (B0 x) cs fp:=by
 rintro⟨rfl,rfl⟩
 have h:=(bG.lit (w:=w) (v:= .int .i64 x.fr) rfl (bG.lit (w:=w) (v:= .int .i64 x.to) rfl (bG.lit (w:=w) (v:= .int .i64 x.bytes) rfl bG.nil)))
 simpa[B0]using h
theorem IE{w:World}{cs:List Value}{x:ep}{fp:List Nat}:Kr w cs x fp→bG w (mK x) cs fp:=by
 rintro⟨rfl,rfl⟩
 have h:=(bG.lit (w:=w) (v:= .int .i64 x.server) rfl (bG.lit (w:=w) (v:= .int .i64 x.client) rfl (bG.lit (w:=w) (v:= .int .i64 x.round) rfl (bG.lit (w:=w) (v:= .int .i64 x.oo) rfl (bG.lit (w:=w) (v:= .int .i64 x.G5) rfl bG.nil)))))
 simpa[mK]using h
theorem Dw{w:World}{cs:List Value}{x:Plain}{fp:List Nat}:BY w cs x fp→bG w (gB x) cs fp:=by
 rintro⟨v0,f0,rfl,h0,rfl⟩
 have h:=(bG.lit (w:=w) (v:= .int .i64 x.kind) rfl (bG.sl (t:= .u8) h0 bG.nil))
 simpa[gB]using h
theorem FC{w:World}{cs:List Value}{x:cD}{fp:List Nat}:G6 w cs x fp→bG w (gM x) cs fp:=by
 rintro⟨v0,v1,f0,f1,rfl,h0,h1,rfl⟩
 have h:=(bG.lit (w:=w) (v:= .int .i64 x.server) rfl (bG.lit (w:=w) (v:= .int .i64 x.round) rfl (bG.sl (t:= .int) h0 (bG.sl (t:= .u8) h1 (bG.lit (w:=w) (v:= .int .i64 x.G5) rfl bG.nil)))))
 simpa[gM]using h
theorem reads{w:World}:(t:Tag)→{cs:List Value}→{x:T t}→{fp:List Nat}→rd t w cs x fp→bG w (dec t x) cs fp
 | .int,_,_,_,⟨rfl,rfl⟩=>bG.lit (v:= .int .i64 _) rfl bG.nil
 | .u8,_,_,_,⟨rfl,rfl⟩=>bG.lit (v:= .int .u8 _) rfl bG.nil
 | .str,_,_,_,⟨rfl,_,rfl⟩=>bG.lit (v:= .string _) rfl bG.nil
 | .sl t,_,_,_,⟨v,rfl,h⟩=>by have:=bG.sl (t:=t) h (bG.nil);rwa [List.append_nil]at this
 | .DB,_,_,_,h=>xY h
 | .aM,_,_,_,h=>B1 h
 | .bl,_,_,_,h=>IA h
 | .aC,_,_,_,h=>B2 h
 | .gH,_,_,_,h=>AZ h
 | .cX,_,_,_,h=>ur h
 | .aS,_,_,_,h=>IB h
 | .aR,_,_,_,h=>IC h
 | .Ev,_,_,_,h=>Kz h
 | .pP,_,_,_,h=>ID h
 | .ep,_,_,_,h=>IE h
 | .Plain,_,_,_,h=>Dw h
 | .cD,_,_,_,h=>FC h
end
section
def eL:(t t':Tag)→List (T t')→Option (List (T t))
 | .int, .int,l=>some l
 | .u8, .u8,l=>some l
 | .str, .str,l=>some l
 | .sl .int, .sl .int,l=>some l
 | .sl .u8, .sl .u8,l=>some l
 | .sl .str, .sl .str,l=>some l
 | .sl (.sl .u8), .sl (.sl .u8),l=>some l
 | .sl (.sl .int), .sl (.sl .int),l=>some l
 | .DB, .DB,l=>some l
 | .aM, .aM,l=>some l
 | .bl, .bl,l=>some l
 | .aC, .aC,l=>some l
 | .gH, .gH,l=>some l
 | .cX, .cX,l=>some l
 | .aS, .aS,l=>some l
 | .aR, .aR,l=>some l
 | .Ev, .Ev,l=>some l
 | .pP, .pP,l=>some l
 | .ep, .ep,l=>some l
 | .Plain, .Plain,l=>some l
 | .cD, .cD,l=>some l
 |_,_,_=>none
theorem ct{t t':Tag}{l:List (T t')}{l2:List (T t)}(h:eL t t' l=some l2): ∃e:t'=t,l2=e▸l:=by
 unfold eL at h
 split at h<;>first
  | (simp only[oI]at h;exact⟨rfl,h.symm⟩)
  |cases h
def gi:V→Option Int
 | .lit (.int .i64 n)=>some n
 |_=>none
def gs(t:Tag):V→Option (List (T t))
 | .sl t' l=>eL t t' l
 | .lit (.slice none 0 0)=>some []
 |_=>none
theorem dx{w:World}{v:V}{u:Value}{f:List Nat}{n:Int}(h:gi v=some n)(hr:RI w v u f):u= .int .i64 n∧f= []:=by
 unfold gi at h
 split at h
 ·simp only[oI]at h
  subst h
  exact⟨hr.1,hr.2.2⟩
 ·cases h
theorem lV{w:World}{t:Tag}{v:V}{u:Value}{f:List Nat}{l:List (T t)}(h:gs t v=some l)(hr:RI w v u f):Sl (kk t) (rd t) w u l f:=by
 unfold gs at h
 split at h
 ·rename_i t' l'
  obtain⟨he,rfl⟩:=ct h
  subst he
  exact hr
 ·simp only[oI]at h
  subst h
  obtain⟨rfl,_,rfl⟩:=hr
  exact⟨none,0,rfl,Nat.le_refl _,Nat.zero_le _,Or.inl ⟨rfl,rfl,rfl⟩⟩
 ·cases h
def uu:List V→Option DB
 | [a0]=>match gs (.sl .u8) a0 with
   |some x0=>some ⟨x0⟩
   |_=>none
 |_=>none
theorem pQ{w:World}{c:List V}{us:List Value}{fp:List Nat}{x:DB}(h:uu c=some x)(hr:bG w c us fp):Uy w us x fp:=by
 unfold uu at h
 split at h
 ·rename_i a0
  split at h
  ·rename_i x0 e0
   simp only[oI]at h
   subst h
   match us,hr with
   | [u0],⟨f0,g0,r0,h9,q0⟩=>
     have h9:g0= []:=h9
     have z0:=lV e0 r0
     refine⟨u0,f0,?_,z0,?_⟩
     ·rfl
     ·simp[q0,h9]
  ·cases h
 ·cases h
def mL:List V→Option aM
 | [a0,a1]=>match gi a0,uu [a1]with
   |some x0,some x1=>some ⟨x0,x1⟩
   |_,_=>none
 |_=>none
theorem qP{w:World}{c:List V}{us:List Value}{fp:List Nat}{x:aM}(h:mL c=some x)(hr:bG w c us fp):sA w us x fp:=by
 unfold mL at h
 split at h
 ·rename_i a0 a1
  split at h
  ·rename_i x0 x1 e0 e1
   simp only[oI]at h
   subst h
   match us,hr with
   | [u0,u1],⟨f0,g0,r0,⟨f1,g1,r1,h9,q1⟩,q0⟩=>
     have h9:g1= []:=h9
     obtain⟨z0,y0⟩:=dx e0 r0
     have z1:=pQ (w:=w) (us:= [u1]) (fp:=(f1++ [])) e1 ⟨f1,_,r1,rfl,rfl⟩
     refine⟨[u1],(f1++ []),?_,z1,?_⟩
     ·simp[z0]
     ·simp[q0,q1,h9,y0]
  ·cases h
 ·cases h
def xd:List V→Option bl
 | [a0,a1,a2,a3,a4]=>match gi a0,gi a1,gi a2,gs .aM a3,gi a4 with
   |some x0,some x1,some x2,some x3,some x4=>some ⟨x0,x1,x2,x3,x4⟩
   |_,_,_,_,_=>none
 |_=>none
theorem xZ{w:World}{c:List V}{us:List Value}{fp:List Nat}{x:bl}(h:xd c=some x)(hr:bG w c us fp):Kj w us x fp:=by
 unfold xd at h
 split at h
 ·rename_i a0 a1 a2 a3 a4
  split at h
  ·rename_i x0 x1 x2 x3 x4 e0 e1 e2 e3 e4
   simp only[oI]at h
   subst h
   match us,hr with
   | [u0,u1,u2,u3,u4],⟨f0,g0,r0,⟨f1,g1,r1,⟨f2,g2,r2,⟨f3,g3,r3,⟨f4,g4,r4,h9,q4⟩,q3⟩,q2⟩,q1⟩,q0⟩=>
     have h9:g4= []:=h9
     obtain⟨z0,y0⟩:=dx e0 r0
     obtain⟨z1,y1⟩:=dx e1 r1
     obtain⟨z2,y2⟩:=dx e2 r2
     have z3:=lV e3 r3
     obtain⟨z4,y4⟩:=dx e4 r4
     refine⟨u3,f3,?_,z3,?_⟩
     ·simp[z0,z1,z2,z4]
     ·simp[q0,q1,q2,q3,q4,h9,y0,y1,y2,y4]
  ·cases h
 ·cases h
def mM:List V→Option aC
 | [a0,a1]=>match gi a0,uu [a1]with
   |some x0,some x1=>some ⟨x0,x1⟩
   |_,_=>none
 |_=>none
theorem qQ{w:World}{c:List V}{us:List Value}{fp:List Nat}{x:aC}(h:mM c=some x)(hr:bG w c us fp):sB w us x fp:=by
 unfold mM at h
 split at h
 ·rename_i a0 a1
  split at h
  ·rename_i x0 x1 e0 e1
   simp only[oI]at h
   subst h
   match us,hr with
   | [u0,u1],⟨f0,g0,r0,⟨f1,g1,r1,h9,q1⟩,q0⟩=>
     have h9:g1= []:=h9
     obtain⟨z0,y0⟩:=dx e0 r0
     have z1:=pQ (w:=w) (us:= [u1]) (fp:=(f1++ [])) e1 ⟨f1,_,r1,rfl,rfl⟩
     refine⟨[u1],(f1++ []),?_,z1,?_⟩
     ·simp[z0]
     ·simp[q0,q1,h9,y0]
  ·cases h
 ·cases h
def sC:List V→Option gH
 | [a0,a1]=>match gi a0,gs .aC a1 with
   |some x0,some x1=>some ⟨x0,x1⟩
   |_,_=>none
 |_=>none
theorem rm{w:World}{c:List V}{us:List Value}{fp:List Nat}{x:gH}(h:sC c=some x)(hr:bG w c us fp):Kk w us x fp:=by
 unfold sC at h
 split at h
 ·rename_i a0 a1
  split at h
  ·rename_i x0 x1 e0 e1
   simp only[oI]at h
   subst h
   match us,hr with
   | [u0,u1],⟨f0,g0,r0,⟨f1,g1,r1,h9,q1⟩,q0⟩=>
     have h9:g1= []:=h9
     obtain⟨z0,y0⟩:=dx e0 r0
     have z1:=lV e1 r1
     refine⟨u1,f1,?_,z1,?_⟩
     ·simp[z0]
     ·simp[q0,q1,h9,y0]
  ·cases h
 ·cases h
def pR:List V→Option cX
 | [a0,a1,a2,a3,a4,a5,a6,a7]=>match gi a0,gi a1,gi a2,gi a3,gs (.sl .u8) a4,gi a5,gs (.sl .u8) a6,gi a7 with
   |some x0,some x1,some x2,some x3,some x4,some x5,some x6,some x7=>some ⟨x0,x1,x2,x3,x4,x5,x6,x7⟩
   |_,_,_,_,_,_,_,_=>none
 |_=>none
theorem mN{w:World}{c:List V}{us:List Value}{fp:List Nat}{x:cX}(h:pR c=some x)(hr:bG w c us fp):Ix w us x fp:=by
 unfold pR at h
 split at h
 ·rename_i a0 a1 a2 a3 a4 a5 a6 a7
  split at h
  ·rename_i x0 x1 x2 x3 x4 x5 x6 x7 e0 e1 e2 e3 e4 e5 e6 e7
   simp only[oI]at h
   subst h
   match us,hr with
   | [u0,u1,u2,u3,u4,u5,u6,u7],⟨f0,g0,r0,⟨f1,g1,r1,⟨f2,g2,r2,⟨f3,g3,r3,⟨f4,g4,r4,⟨f5,g5,r5,⟨f6,g6,r6,⟨f7,g7,r7,h9,q7⟩,q6⟩,q5⟩,q4⟩,q3⟩,q2⟩,q1⟩,q0⟩=>
     have h9:g7= []:=h9
     obtain⟨z0,y0⟩:=dx e0 r0
     obtain⟨z1,y1⟩:=dx e1 r1
     obtain⟨z2,y2⟩:=dx e2 r2
     obtain⟨z3,y3⟩:=dx e3 r3
     have z4:=lV e4 r4
     obtain⟨z5,y5⟩:=dx e5 r5
     have z6:=lV e6 r6
     obtain⟨z7,y7⟩:=dx e7 r7
     refine⟨u4,u6,f4,f6,?_,z4,z6,?_⟩
     ·simp[z0,z1,z2,z3,z5,z7]
     ·simp[q0,q1,q2,q3,q4,q5,q6,q7,h9,y0,y1,y2,y3,y5,y7]
  ·cases h
 ·cases h
def xe:List V→Option aS
 | [a0,a1,a2,a3,a4,a5,a6,a7,a8,a9,YO,YP,a12,YQ,YR,YS]=>match pR [a0,a1,a2,a3,a4,a5,a6,a7],pR [a8,a9,YO,YP,a12,YQ,YR,YS]with
   |some x0,some x8=>some ⟨x0,x8⟩
   |_,_=>none
 |_=>none
theorem ya{w:World}{c:List V}{us:List Value}{fp:List Nat}{x:aS}(h:xe c=some x)(hr:bG w c us fp):Kl w us x fp:=by
 unfold xe at h
 split at h
 ·rename_i a0 a1 a2 a3 a4 a5 a6 a7 a8 a9 YO YP a12 YQ YR YS
  split at h
  ·rename_i x0 x8 e0 e1
   simp only[oI]at h
   subst h
   match us,hr with
   | [u0,u1,u2,u3,u4,u5,u6,u7,u8,u9,YT,YU,YV,YW,YX,YY],⟨f0,g0,r0,⟨f1,g1,r1,⟨f2,g2,r2,⟨f3,g3,r3,⟨f4,g4,r4,⟨f5,g5,r5,⟨f6,g6,r6,⟨f7,g7,r7,⟨f8,g8,r8,⟨f9,g9,r9,⟨f10,g10,ZG,⟨f11,g11,ZH,⟨f12,g12,ZI,⟨f13,g13,ZJ,⟨f14,g14,ZK,⟨f15,g15,ZL,h9,ZM⟩,ZN⟩,ZO⟩,ZP⟩,ZQ⟩,ZR⟩,q9⟩,q8⟩,q7⟩,q6⟩,q5⟩,q4⟩,q3⟩,q2⟩,q1⟩,q0⟩=>
     have h9:g15= []:=h9
     have z0:=mN (w:=w) (us:= [u0,u1,u2,u3,u4,u5,u6,u7]) (fp:=(f0++(f1++(f2++(f3++(f4++(f5++(f6++(f7++ []))))))))) e0 ⟨f0,_,r0,⟨f1,_,r1,⟨f2,_,r2,⟨f3,_,r3,⟨f4,_,r4,⟨f5,_,r5,⟨f6,_,r6,⟨f7,_,r7,rfl,rfl⟩,rfl⟩,rfl⟩,rfl⟩,rfl⟩,rfl⟩,rfl⟩,rfl⟩
     have z8:=mN (w:=w) (us:= [u8,u9,YT,YU,YV,YW,YX,YY]) (fp:=(f8++(f9++(f10++(f11++(f12++(f13++(f14++(f15++ []))))))))) e1 ⟨f8,_,r8,⟨f9,_,r9,⟨f10,_,ZG,⟨f11,_,ZH,⟨f12,_,ZI,⟨f13,_,ZJ,⟨f14,_,ZK,⟨f15,_,ZL,rfl,rfl⟩,rfl⟩,rfl⟩,rfl⟩,rfl⟩,rfl⟩,rfl⟩,rfl⟩
     refine⟨[u0,u1,u2,u3,u4,u5,u6,u7],[u8,u9,YT,YU,YV,YW,YX,YY],(f0++(f1++(f2++(f3++(f4++(f5++(f6++(f7++ [])))))))),(f8++(f9++(f10++(f11++(f12++(f13++(f14++(f15++ [])))))))),?_,z0,z8,?_⟩
     ·rfl
     ·simp[q0,q1,q2,q3,q4,q5,q6,q7,q8,q9,ZR,ZQ,ZP,ZO,ZN,ZM,h9]
  ·cases h
 ·cases h
def xg:List V→Option aR
 | [a0,a1,a2,a3,a4,a5,a6,a7,a8,a9]=>match gi a0,gs .bl a1,gs .aS a2,sC [a3,a4],gi a5,gi a6,gi a7,gs .int a8,gi a9 with
   |some x0,some x1,some x2,some x3,some x5,some x6,some x7,some x8,some x9=>some ⟨x0,x1,x2,x3,x5,x6,x7,x8,x9⟩
   |_,_,_,_,_,_,_,_,_=>none
 |_=>none
theorem yc{w:World}{c:List V}{us:List Value}{fp:List Nat}{x:aR}(h:xg c=some x)(hr:bG w c us fp):OC w us x fp:=by
 unfold xg at h
 split at h
 ·rename_i a0 a1 a2 a3 a4 a5 a6 a7 a8 a9
  split at h
  ·rename_i x0 x1 x2 x3 x5 x6 x7 x8 x9 e0 e1 e2 e3 e4 e5 e6 e7 e8
   simp only[oI]at h
   subst h
   match us,hr with
   | [u0,u1,u2,u3,u4,u5,u6,u7,u8,u9],⟨f0,g0,r0,⟨f1,g1,r1,⟨f2,g2,r2,⟨f3,g3,r3,⟨f4,g4,r4,⟨f5,g5,r5,⟨f6,g6,r6,⟨f7,g7,r7,⟨f8,g8,r8,⟨f9,g9,r9,h9,q9⟩,q8⟩,q7⟩,q6⟩,q5⟩,q4⟩,q3⟩,q2⟩,q1⟩,q0⟩=>
     have h9:g9= []:=h9
     obtain⟨z0,y0⟩:=dx e0 r0
     have z1:=lV e1 r1
     have z2:=lV e2 r2
     have z3:=rm (w:=w) (us:= [u3,u4]) (fp:=(f3++(f4++ []))) e3 ⟨f3,_,r3,⟨f4,_,r4,rfl,rfl⟩,rfl⟩
     obtain⟨z5,y5⟩:=dx e4 r5
     obtain⟨z6,y6⟩:=dx e5 r6
     obtain⟨z7,y7⟩:=dx e6 r7
     have z8:=lV e7 r8
     obtain⟨z9,y9⟩:=dx e8 r9
     refine⟨u1,u2,[u3,u4],u8,f1,f2,(f3++(f4++ [])),f8,?_,z1,z2,z3,z8,?_⟩
     ·simp[z0,z5,z6,z7,z9]
     ·simp[q0,q1,q2,q3,q4,q5,q6,q7,q8,q9,h9,y0,y5,y6,y7,y9]
  ·cases h
 ·cases h
def B3:List V→Option Ev
 | [a0,a1,a2,a3]=>match gi a0,gi a1,gi a2,gs .u8 a3 with
   |some x0,some x1,some x2,some x3=>some ⟨x0,x1,x2,x3⟩
   |_,_,_,_=>none
 |_=>none
theorem A2{w:World}{c:List V}{us:List Value}{fp:List Nat}{x:Ev}(h:B3 c=some x)(hr:bG w c us fp):WE w us x fp:=by
 unfold B3 at h
 split at h
 ·rename_i a0 a1 a2 a3
  split at h
  ·rename_i x0 x1 x2 x3 e0 e1 e2 e3
   simp only[oI]at h
   subst h
   match us,hr with
   | [u0,u1,u2,u3],⟨f0,g0,r0,⟨f1,g1,r1,⟨f2,g2,r2,⟨f3,g3,r3,h9,q3⟩,q2⟩,q1⟩,q0⟩=>
     have h9:g3= []:=h9
     obtain⟨z0,y0⟩:=dx e0 r0
     obtain⟨z1,y1⟩:=dx e1 r1
     obtain⟨z2,y2⟩:=dx e2 r2
     have z3:=lV e3 r3
     refine⟨u3,f3,?_,z3,?_⟩
     ·simp[z0,z1,z2]
     ·simp[q0,q1,q2,q3,h9,y0,y1,y2]
  ·cases h
 ·cases h
def xh:List V→Option pP
 | [a0,a1,a2]=>match gi a0,gi a1,gi a2 with
   |some x0,some x1,some x2=>some ⟨x0,x1,x2⟩
   |_,_,_=>none
 |_=>none
theorem yd{w:World}{c:List V}{us:List Value}{fp:List Nat}{x:pP}(h:xh c=some x)(hr:bG w c us fp):Kp w us x fp:=by
 unfold xh at h
 split at h
 ·rename_i a0 a1 a2
  split at h
  ·rename_i x0 x1 x2 e0 e1 e2
   simp only[oI]at h
   subst h
   match us,hr with
   | [u0,u1,u2],⟨f0,g0,r0,⟨f1,g1,r1,⟨f2,g2,r2,h9,q2⟩,q1⟩,q0⟩=>
     have h9:g2= []:=h9
     obtain⟨z0,y0⟩:=dx e0 r0
     obtain⟨z1,y1⟩:=dx e1 r1
     obtain⟨z2,y2⟩:=dx e2 r2
     refine⟨?_,?_⟩
     ·simp[z0,z1,z2]
     ·simp[q0,q1,q2,h9,y0,y1,y2]
  ·cases h
 ·cases h
def xj:List V→Option ep
 | [a0,a1,a2,a3,a4]=>match gi a0,gi a1,gi a2,gi a3,gi a4 with
   |some x0,some x1,some x2,some x3,some x4=>some ⟨x0,x1,x2,x3,x4⟩
   |_,_,_,_,_=>none
 |_=>none
theorem yf{w:World}{c:List V}{us:List Value}{fp:List Nat}{x:ep}(h:xj c=some x)(hr:bG w c us fp):Kr w us x fp:=by
 unfold xj at h
 split at h
 ·rename_i a0 a1 a2 a3 a4
  split at h
  ·rename_i x0 x1 x2 x3 x4 e0 e1 e2 e3 e4
   simp only[oI]at h
   subst h
   match us,hr with
   | [u0,u1,u2,u3,u4],⟨f0,g0,r0,⟨f1,g1,r1,⟨f2,g2,r2,⟨f3,g3,r3,⟨f4,g4,r4,h9,q4⟩,q3⟩,q2⟩,q1⟩,q0⟩=>
     have h9:g4= []:=h9
     obtain⟨z0,y0⟩:=dx e0 r0
     obtain⟨z1,y1⟩:=dx e1 r1
     obtain⟨z2,y2⟩:=dx e2 r2
     obtain⟨z3,y3⟩:=dx e3 r3
     obtain⟨z4,y4⟩:=dx e4 r4
     refine⟨?_,?_⟩
     ·simp[z0,z1,z2,z3,z4]
     ·simp[q0,q1,q2,q3,q4,h9,y0,y1,y2,y3,y4]
  ·cases h
 ·cases h
def pS:List V→Option Plain
 | [a0,a1]=>match gi a0,gs .u8 a1 with
   |some x0,some x1=>some ⟨x0,x1⟩
   |_,_=>none
 |_=>none
theorem sD{w:World}{c:List V}{us:List Value}{fp:List Nat}{x:Plain}(h:pS c=some x)(hr:bG w c us fp):BY w us x fp:=by
 unfold pS at h
 split at h
 ·rename_i a0 a1
  split at h
  ·rename_i x0 x1 e0 e1
   simp only[oI]at h
   subst h
   match us,hr with
   | [u0,u1],⟨f0,g0,r0,⟨f1,g1,r1,h9,q1⟩,q0⟩=>
     have h9:g1= []:=h9
     obtain⟨z0,y0⟩:=dx e0 r0
     have z1:=lV e1 r1
     refine⟨u1,f1,?_,z1,?_⟩
     ·simp[z0]
     ·simp[q0,q1,h9,y0]
  ·cases h
 ·cases h
def sE:List V→Option cD
 | [a0,a1,a2,a3,a4]=>match gi a0,gi a1,gs .int a2,gs .u8 a3,gi a4 with
   |some x0,some x1,some x2,some x3,some x4=>some ⟨x0,x1,x2,x3,x4⟩
   |_,_,_,_,_=>none
 |_=>none
theorem vW{w:World}{c:List V}{us:List Value}{fp:List Nat}{x:cD}(h:sE c=some x)(hr:bG w c us fp):G6 w us x fp:=by
 unfold sE at h
 split at h
 ·rename_i a0 a1 a2 a3 a4
  split at h
  ·rename_i x0 x1 x2 x3 x4 e0 e1 e2 e3 e4
   simp only[oI]at h
   subst h
   match us,hr with
   | [u0,u1,u2,u3,u4],⟨f0,g0,r0,⟨f1,g1,r1,⟨f2,g2,r2,⟨f3,g3,r3,⟨f4,g4,r4,h9,q4⟩,q3⟩,q2⟩,q1⟩,q0⟩=>
     have h9:g4= []:=h9
     obtain⟨z0,y0⟩:=dx e0 r0
     obtain⟨z1,y1⟩:=dx e1 r1
     have z2:=lV e2 r2
     have z3:=lV e3 r3
     obtain⟨z4,y4⟩:=dx e4 r4
     refine⟨u2,u3,f2,f3,?_,z2,z3,?_⟩
     ·simp[z0,z1,z4]
     ·simp[q0,q1,q2,q3,q4,h9,y0,y1,y4]
  ·cases h
 ·cases h
def B4:List V→Option (List Prop×Int)
 | [v]=>match gi v with|some n=>some ([],n)|none=>none
 |_=>none
def FD:List V→Option (List Prop×UInt8)
 | [.lit (.int .u8 n)]=>some ([0≤n∧n<256],UInt8.ofNat n.toNat)
 |_=>none
def B5:List V→Option (List Prop×List UInt8)
 | [.lit (.string s)]=>some ([s.size≤maxLen],s.data.toList)
 |_=>none
def FE(t:Tag):List V→Option (List Prop×List (T t))
 | [v]=>match gs t v with|some l=>some ([],l)|none=>none
 |_=>none
def gZ{α:Type}:Option α→Option (List Prop×α)
 |some x=>some ([],x)
 |none=>none
theorem dK{α:Type}{o:Option α}{vc:List Prop}{x:α}(h:gZ o=some (vc,x)):o=some x:=by
 cases o with
 |none=>cases h
 |some y=>simp only[gZ,oI,pI]at h;rw[h.2]
def enc:(t:Tag)→List V→Option (List Prop×T t)
 | .int,c=>B4 c
 | .u8,c=>FD c
 | .str,c=>B5 c
 | .sl t,c=>FE t c
 | .DB,c=>gZ (uu c)
 | .aM,c=>gZ (mL c)
 | .bl,c=>gZ (xd c)
 | .aC,c=>gZ (mM c)
 | .gH,c=>gZ (sC c)
 | .cX,c=>gZ (pR c)
 | .aS,c=>gZ (xe c)
 | .aR,c=>gZ (xg c)
 | .Ev,c=>gZ (B3 c)
 | .pP,c=>gZ (xh c)
 | .ep,c=>gZ (xj c)
 | .Plain,c=>gZ (pS c)
 | .cD,c=>gZ (sE c)
theorem oq{w:World}:(t:Tag)→{c:List V}→{us:List Value}→{fp:List Nat}→{vc:List Prop}→{x:T t}→enc t c=some (vc,x)→(∀q,q∈vc→q)→bG w c us fp→rd t w us x fp
 | .int,c,us,fp,vc,x,h,hv,hr=>by
   have h:B4 c=some (vc,x):=h
   unfold B4 at h
   split at h<;>first| (cases h;done)|skip
   ·split at h
    ·rename_i v _ n e
     simp only[oI,pI]at h
     obtain⟨rfl,rfl⟩:=h
     match us,hr with
     | [u],⟨f,g,r,h9,q⟩=>
       obtain⟨z,y⟩:=dx e r
       have h9:g= []:=h9
       exact⟨by rw[z],by simp[q,y,h9]⟩
    ·cases h
 | .u8,c,us,fp,vc,x,h,hv,hr=>by
   have h:FD c=some (vc,x):=h
   unfold FD at h
   split at h<;>first| (cases h;done)|skip
   ·rename_i n _
    simp only[oI,pI]at h
    obtain⟨rfl,rfl⟩:=h
    obtain⟨h0,h1⟩:=hv _ (List.mem_singleton.2 rfl)
    match us,hr with
    | [u],⟨f,g,r,h9,q⟩=>
      have h9:g= []:=h9
      obtain⟨rfl,_,rfl⟩:=r
      refine⟨?_,by simp[q,h9]⟩
      have:((UInt8.ofNat n.toNat).toNat:Int)=n:=by rw[UInt8.toNat_ofNat'];omega
      rw[this]
 | .str,c,us,fp,vc,x,h,hv,hr=>by
   have h:B5 c=some (vc,x):=h
   unfold B5 at h
   split at h<;>first| (cases h;done)|skip
   ·rename_i s _
    simp only[oI,pI]at h
    obtain⟨rfl,rfl⟩:=h
    have h0:=hv _ (List.mem_singleton.2 rfl)
    match us,hr with
    | [u],⟨f,g,r,h9,q⟩=>
      have h9:g= []:=h9
      obtain⟨rfl,_,rfl⟩:=r
      exact⟨rfl,h0,by simp[q,h9]⟩
 | .sl t,c,us,fp,vc,x,h,hv,hr=>by
   have h:FE t c=some (vc,x):=h
   unfold FE at h
   split at h<;>first| (cases h;done)|skip
   ·split at h
    ·rename_i v _ l e
     simp only[oI,pI]at h
     obtain⟨rfl,rfl⟩:=h
     match us,hr with
     | [u],⟨f,g,r,h9,q⟩=>
       have h9:g= []:=h9
       refine⟨u,rfl,?_⟩
       have:=lV e r
       rw[q,h9,List.append_nil];exact this
    ·cases h
 | .DB,c,us,fp,vc,x,h,hv,hr=>by
   exact pQ (dK (show gZ (uu c)=_ from h)) hr
 | .aM,c,us,fp,vc,x,h,hv,hr=>by
   exact qP (dK (show gZ (mL c)=_ from h)) hr
 | .bl,c,us,fp,vc,x,h,hv,hr=>by
   exact xZ (dK (show gZ (xd c)=_ from h)) hr
 | .aC,c,us,fp,vc,x,h,hv,hr=>by
   exact qQ (dK (show gZ (mM c)=_ from h)) hr
 | .gH,c,us,fp,vc,x,h,hv,hr=>by
   exact rm (dK (show gZ (sC c)=_ from h)) hr
 | .cX,c,us,fp,vc,x,h,hv,hr=>by
   exact mN (dK (show gZ (pR c)=_ from h)) hr
 | .aS,c,us,fp,vc,x,h,hv,hr=>by
   exact ya (dK (show gZ (xe c)=_ from h)) hr
 | .aR,c,us,fp,vc,x,h,hv,hr=>by
   exact yc (dK (show gZ (xg c)=_ from h)) hr
 | .Ev,c,us,fp,vc,x,h,hv,hr=>by
   exact A2 (dK (show gZ (B3 c)=_ from h)) hr
 | .pP,c,us,fp,vc,x,h,hv,hr=>by
   exact yd (dK (show gZ (xh c)=_ from h)) hr
 | .ep,c,us,fp,vc,x,h,hv,hr=>by
   exact yf (dK (show gZ (xj c)=_ from h)) hr
 | .Plain,c,us,fp,vc,x,h,hv,hr=>by
   exact sD (dK (show gZ (pS c)=_ from h)) hr
 | .cD,c,us,fp,vc,x,h,hv,hr=>by
   exact vW (dK (show gZ (sE c)=_ from h)) hr
def dN:Tag→Value
 | .int=> .int .i64 0
 | .u8=> .int .u8 0
 | .str=> .string ⟨#[]⟩
 | .sl _=> .slice none 0 0
 | .DB=> .agg #[.slice none 0 0]
 | .aM=> .agg #[.int .i64 0, .slice none 0 0]
 | .bl=> .agg #[.int .i64 0, .int .i64 0, .int .i64 0, .slice none 0 0, .int .i64 0]
 | .aC=> .agg #[.int .i64 0, .slice none 0 0]
 | .gH=> .agg #[.int .i64 0, .slice none 0 0]
 | .cX=> .agg #[.int .i64 0, .int .i64 0, .int .i64 0, .int .i64 0, .slice none 0 0, .int .i64 0, .slice none 0 0, .int .i64 0]
 | .aS=> .agg #[.int .i64 0, .int .i64 0, .int .i64 0, .int .i64 0, .slice none 0 0, .int .i64 0, .slice none 0 0, .int .i64 0, .int .i64 0, .int .i64 0, .int .i64 0, .int .i64 0, .slice none 0 0, .int .i64 0, .slice none 0 0, .int .i64 0]
 | .aR=> .agg #[.int .i64 0, .slice none 0 0, .slice none 0 0, .int .i64 0, .slice none 0 0, .int .i64 0, .int .i64 0, .int .i64 0, .slice none 0 0, .int .i64 0]
 | .Ev=> .agg #[.int .i64 0, .int .i64 0, .int .i64 0, .slice none 0 0]
 | .pP=> .agg #[.int .i64 0, .int .i64 0, .int .i64 0]
 | .ep=> .agg #[.int .i64 0, .int .i64 0, .int .i64 0, .int .i64 0, .int .i64 0]
 | .Plain=> .agg #[.int .i64 0, .slice none 0 0]
 | .cD=> .agg #[.int .i64 0, .int .i64 0, .slice none 0 0, .slice none 0 0, .int .i64 0]
def dB:Tag→Nat
 | .int=>8
 | .u8=>1
 | .str=>16
 | .sl _=>24
 | .DB=>24
 | .aM=>32
 | .bl=>56
 | .aC=>32
 | .gH=>32
 | .cX=>96
 | .aS=>192
 | .aR=>144
 | .Ev=>48
 | .pP=>24
 | .ep=>40
 | .Plain=>32
 | .cD=>72
theorem ij:(t:Tag)→(dN t).cells.size=kk t
 | .int=>rfl
 | .u8=>rfl
 | .str=>rfl
 | .sl _=>rfl
 | .DB=>rfl
 | .aM=>rfl
 | .bl=>rfl
 | .aC=>rfl
 | .gH=>rfl
 | .cX=>rfl
 | .aS=>rfl
 | .aR=>rfl
 | .Ev=>rfl
 | .pP=>rfl
 | .ep=>rfl
 | .Plain=>rfl
 | .cD=>rfl
def flat:Tag→Bool
 | .int=>true
 | .u8=>true
 | .str=>true
 | .sl _=>false
 | .DB=>false
 | .aM=>false
 | .bl=>false
 | .aC=>false
 | .gH=>false
 | .cX=>false
 | .aS=>false
 | .aR=>false
 | .Ev=>false
 | .pP=>true
 | .ep=>true
 | .Plain=>false
 | .cD=>false
theorem OE{w:World}(t:Tag){cs:List Value}{x:T t}{fp:List Nat}(hf:flat t=true)(h:rd t w cs x fp):fp= []:=by
 cases t with
 |int=>exact(show Kc w cs x fp from h).2
 |u8=>exact(show GW w cs x fp from h).2
 |str=>exact(show Oz w cs x fp from h).2.2
 |sl _=>cases hf
 |DB=>cases hf
 |aM=>cases hf
 |bl=>cases hf
 |aC=>cases hf
 |gH=>cases hf
 |cX=>cases hf
 |aS=>cases hf
 |aR=>cases hf
 |Ev=>cases hf
 |pP=>exact(show Kp w cs x fp from h).2
 |ep=>exact(show Kr w cs x fp from h).2
 |Plain=>cases hf
 |cD=>cases hf
theorem bG.lits{w:World}: ∀{z:List Value},(∀v,v∈z→v.oneCell'=true)→bG w (z.map V.lit) z []
 | [],_=>rfl
 |v::r,h=>⟨[],[],⟨rfl,h v (by simp),rfl⟩,bG.lits fun u hu=>h u (by simp[hu]),rfl⟩
theorem OF{w:World}:(t:Tag)→rd t w (dN t).cells.toList (aA t) []
 | .int=>⟨rfl,rfl⟩
 | .u8=>⟨rfl,rfl⟩
 | .str=>⟨rfl,by decide,rfl⟩
 | .sl _=>⟨_,rfl,none,0,rfl,Nat.le_refl _,Nat.zero_le _,Or.inl ⟨rfl,rfl,rfl⟩⟩
 | .DB=>pQ (c:=(dN .DB).cells.toList.map V.lit) rfl (bG.lits (by simp[dN,Value.cells,Value.oneCell']))
 | .aM=>qP (c:=(dN .aM).cells.toList.map V.lit) rfl (bG.lits (by simp[dN,Value.cells,Value.oneCell']))
 | .bl=>xZ (c:=(dN .bl).cells.toList.map V.lit) rfl (bG.lits (by simp[dN,Value.cells,Value.oneCell']))
 | .aC=>qQ (c:=(dN .aC).cells.toList.map V.lit) rfl (bG.lits (by simp[dN,Value.cells,Value.oneCell']))
 | .gH=>rm (c:=(dN .gH).cells.toList.map V.lit) rfl (bG.lits (by simp[dN,Value.cells,Value.oneCell']))
 | .cX=>mN (c:=(dN .cX).cells.toList.map V.lit) rfl (bG.lits (by simp[dN,Value.cells,Value.oneCell']))
 | .aS=>ya (c:=(dN .aS).cells.toList.map V.lit) rfl (bG.lits (by simp[dN,Value.cells,Value.oneCell']))
 | .aR=>yc (c:=(dN .aR).cells.toList.map V.lit) rfl (bG.lits (by simp[dN,Value.cells,Value.oneCell']))
 | .Ev=>A2 (c:=(dN .Ev).cells.toList.map V.lit) rfl (bG.lits (by simp[dN,Value.cells,Value.oneCell']))
 | .pP=>yd (c:=(dN .pP).cells.toList.map V.lit) rfl (bG.lits (by simp[dN,Value.cells,Value.oneCell']))
 | .ep=>yf (c:=(dN .ep).cells.toList.map V.lit) rfl (bG.lits (by simp[dN,Value.cells,Value.oneCell']))
 | .Plain=>sD (c:=(dN .Plain).cells.toList.map V.lit) rfl (bG.lits (by simp[dN,Value.cells,Value.oneCell']))
 | .cD=>vW (c:=(dN .cD).cells.toList.map V.lit) rfl (bG.lits (by simp[dN,Value.cells,Value.oneCell']))
end
section
def Dx(_:Nat):Prop:=False
def A3(_:World):Prop:=True
theorem A3.keep{w w':World}(_:A3 w)(_: ∀b,Dx b→b<w.heap.size→w'.heap[b]? =w.heap[b]?):A3 w':=trivial
theorem A3.lt{w:World}(_:A3 w){b:Nat}(hb:Dx b):b<w.heap.size:=hb.elim
end
end Go.Proofs.YtcnomgcfijjkmaaGreat.G
namespace Go.Proofs.YtcnomgcfijjkmaaGreat.L
set_option linter.all false
open Go.RowKit
section
structure eD(fp:List Nat)(w w':World):Prop where
 os:w'.os=w.os
 tape:w'.tape=w.tape
 output:w'.output=w.output
 size:w.heap.size≤w'.heap.size
 block: ∀b,b<w.heap.size→b∉fp→w'.heap[b]? =w.heap[b]?
theorem eD.refl(fp:List Nat)(w:World):eD fp w w:=⟨rfl,rfl,rfl,Nat.le_refl _,fun _ _ _=>rfl⟩
theorem eD.mono{fp fq:List Nat}{w w':World}(h:eD fp w w')(hs: ∀b,b∈fp→b∈fq):eD fq w w':=⟨h.os,h.tape,h.output,h.size,fun b hb hn=>h.block b hb fun hm=>hn (hs b hm)⟩
theorem eD.trans{fp:List Nat}{a b c:World}(h:eD fp a b)(k:eD fp b c):eD fp a c:=
 ⟨k.os.trans h.os,k.tape.trans h.tape,k.output.trans h.output,Nat.le_trans h.size k.size,fun i hi hn=>(k.block i (Nat.lt_of_lt_of_le hi h.size) hn).trans (h.block i hi hn)⟩
theorem eD.below{fp:List Nat}{w w':World}{B:Nat}(h:eD fp w w')(hB:B≤w.heap.size)(hg: ∀b,b∈fp→B≤b):Below B w w':=
 ⟨h.os,h.tape,h.output,h.size,fun b hb=>h.block b (Nat.lt_of_lt_of_le hb hB) fun hm=>Nat.not_le_of_lt hb (hg b hm)⟩
theorem eD.agree{fp fq:List Nat}{w w':World}(h:eD fp w w')(hl: ∀b,b∈fq→b<w.heap.size)(hd: ∀b,b∈fq→b∉fp):Agree w w' fq:=fun b hb=>h.block b (hl b hb) (hd b hb)
section
variable{α:Type}{k:Nat}{E:ER α}{lo e g n:Nat}{w w':World}{l:List α}{aO:List (List Nat)}
theorem pY{aO:List (List Nat)}(h:aO.flatten.Nodup){i j:Nat}{f f':List Nat}(hi:aO[i]? =some f)(hj:aO[j]? =some f')(hne:i≠j): ∀b,b∈f→b∉f':=by
 intro b hb hb'
 have hp:=(List.pairwise_flatten.1 h).2
 rw[List.pairwise_iff_getElem]at hp
 obtain⟨hi1,rfl⟩:=List.getElem?_eq_some_iff.1 hi
 obtain⟨K8,rfl⟩:=List.getElem?_eq_some_iff.1 hj
 rcases Nat.lt_or_ge i j with h1|h1
 ·exact hp i j hi1 K8 h1 b hb b hb' rfl
 ·exact hp j i K8 hi1 (by omega) b hb' b hb rfl
theorem Part.set(G:eB k E)(h:Part k E lo e w g n l aO){i:Nat}{f:List Nat}{cs:List Value}{x':α}(hi:i<l.length)(hin:i<n)(hf:aO[i]? =some f)(hE:E w cs x' f):
  Part k E lo e (w.setCells g (i*k) cs) g n (l.set i x') aO:=by
 have hlen:=G.len hE
 have hnd:=h.own.nodup
 rw[List.nodup_cons]at hnd
 obtain⟨c,hc,hs⟩:=h.sy
 obtain⟨c',AS,hs'⟩:=cC g e cs (i*k) w c hc
 have GX:w.there g (i*k) cs.length:=by rw[hlen];exact h.there _ hin
 have xL: ∀b,b∈aO.flatten→b≠g:=fun b hb e=>hnd.1 (e▸hb)
 have xM:Agree w (w.setCells g (i*k) cs) aO.flatten:=fun b hb=>bI g cs _ w b (xL b hb)
 refine⟨⟨c',AS,by rw[hs',hs]⟩,⟨by rw[List.length_set];exact h.el.1,fun j y fy hy jt=> ?_⟩,⟨h.own.nodup,h.own.ge,fun b hb=> ?_⟩,h.cap⟩
 ·by_cases hj:i=j
  ·subst hj
   rw[List.getElem?_set_self hi]at hy
   simp only[oI]at hy
   subst hy
   rw[hf]at jt
   simp only[oI]at jt
   subst jt
   refine⟨cs,?_,G.agree hE (xM.sub fun b hb=>bL hf hb)⟩
   rw[Nat.zero_add]
   exact World.rangeAt_setCells_same w g _ cs GX
  ·rw[List.getElem?_set_ne hj]at hy
   obtain⟨cy,hr,GY⟩:=h.el.2 j y fy hy jt
   refine⟨cy,World.rangeAt_setCells_apart hr _ _ _ (Or.inr ?_),G.agree GY (xM.sub fun b hb=>bL jt hb)⟩
   rw[G.len GY,hlen]
   rcases Nat.lt_or_ge j i with h1|h1
   ·left
    have:=Nat.mul_le_mul_right k (show j+1≤i by omega)
    rw[Nat.add_mul]at this;omega
   ·right
    have:=Nat.mul_le_mul_right k (show i+1≤j by omega)
    rw[Nat.add_mul]at this;omega
 ·rcases List.mem_cons.1 hb with rfl|hb
  ·exact⟨_,_,AS⟩
  ·rw[xM b hb];exact h.own.kind b (List.mem_cons_of_mem _ hb)
theorem gD(G:eB k E){g o n:Nat}{c:Array Value}(hc:w.heap[g]? =some (.cells c e (0,0)))(hfit:o+n*k≤c.size)(hn:l.length≤n)(hcap:n≤maxLen)(hel:jQ k E w g o l aO)(hown:Own lo w (g::aO.flatten)):
  fZ k E lo e w (.slice (some ⟨g,o,none⟩) l.length n) l (g::aO.flatten):=by
 have hk:l.length*k≤n*k:=Nat.mul_le_mul_right k hn
 have um:c.toList.length=c.size:=Array.length_toList
 refine⟨(c.toList.drop o).take (l.length*k),aO,⟨by rw[List.length_take,List.length_drop];omega,Or.inr ⟨g,o,n,c,rfl,hown.ge g (by simp),hc,hn,hcap,hfit,rfl⟩⟩,hel.1,fun i x f hx hf=> ?_,rfl,hown⟩
 obtain⟨cs,hr,hE⟩:=hel.2 i x f hx hf
 have hlen:=G.len hE
 have hi:i<l.length:=(List.getElem?_eq_some_iff.1 hx).1
 have h5:i*k+k≤l.length*k:=by
  have:=Nat.mul_le_mul_right k (show i+1≤l.length by omega)
  rw[Nat.add_mul]at this;omega
 have:(((c.toList.drop o).take (l.length*k)).drop (i*k)).take k=cs:=by
  apply List.ext_getElem?
  intro j
  by_cases hj:j<k
  ·rw[List.getElem?_take,if_pos hj,List.getElem?_drop,List.getElem?_take,if_pos (by omega),List.getElem?_drop]
   have h6:=hr j _ (List.getElem?_eq_getElem (by omega))
   simp[World.cell?,hc]at h6
   rw[List.getElem?_eq_getElem (show j<cs.length by omega), ←Nat.add_assoc]
   simp[h6]
  ·rw[List.getElem?_take,if_neg hj,List.getElem?_eq_none (by omega)]
 rw[this];exact hE
theorem fZ.parts{v:Value}{fp:List Nat}(h:fZ k E lo e w v l fp):(v= .slice none 0 0∧l= []∧fp= [])∨ ∃g o n c, ∃aO:List (List Nat),v= .slice (some ⟨g,o,none⟩) l.length n∧l.length≤n∧n≤maxLen∧w.heap[g]? =some (.cells c e (0,0))∧o+n*k≤c.size∧fp=g::aO.flatten:=by
 obtain⟨xs,aO,⟨hxl,ho⟩,hl,hel,eK,hown⟩:=h
 rcases ho with⟨rfl,h0⟩| ⟨g,o,cap,cur,rfl,hg,hc,hn,hcm,hcs,J5⟩
 ·have hl0:l= []:=List.eq_nil_of_length_eq_zero h0
  have:aO= []:=List.eq_nil_of_length_eq_zero (by omega)
  exact Or.inl ⟨rfl,hl0,by rw[eK,this];rfl⟩
 ·exact Or.inr ⟨g,o,cap,cur,aO,rfl,hn,hcm,hc,hcs,eK⟩
structure K9{α:Type}(k:Nat)(E:ER α)(lo:Nat)(w:World)(b off:Nat)(l:List α)(aO:List (List Nat)):Prop where
 el:jQ k E w b off l aO
 own:Own lo w (b::aO.flatten)
theorem K9.lt{b off:Nat}(h:K9 k E lo w b off l aO):b<w.heap.size:=h.own.lt b (by simp)
theorem K9.set(G:eB k E){b off:Nat}(h:K9 k E lo w b off l aO){i o:Nat}{f:List Nat}{vs cs:List Value}{x':α}(hi:i<l.length)(ho:o+vs.length≤k)(hf:aO[i]? =some f)
  (hr:(w.setCells b (off+i*k+o) vs).rangeAt b (off+i*k) cs)(hE:E w cs x' f):
  K9 k E lo (w.setCells b (off+i*k+o) vs) b off (l.set i x') aO:=by
 have hlen:=G.len hE
 have hnd:=h.own.nodup
 rw[List.nodup_cons]at hnd
 have xL: ∀c,c∈aO.flatten→c≠b:=fun c hc e=>hnd.1 (e▸hc)
 have xM:Agree w (w.setCells b (off+i*k+o) vs) aO.flatten:=fun c hc=>bI b vs _ w c (xL c hc)
 refine⟨⟨by rw[List.length_set];exact h.el.1,fun j y fy hy jt=> ?_⟩,⟨h.own.nodup,h.own.ge,fun c hc=> ?_⟩⟩
 ·by_cases hj:i=j
  ·subst hj
   rw[List.getElem?_set_self hi]at hy
   simp only[oI]at hy
   subst hy
   rw[hf]at jt
   simp only[oI]at jt
   subst jt
   exact⟨cs,hr,G.agree hE (xM.sub fun b hb=>bL hf hb)⟩
  ·rw[List.getElem?_set_ne hj]at hy
   obtain⟨cy,hr,GY⟩:=h.el.2 j y fy hy jt
   refine⟨cy,World.rangeAt_setCells_apart hr _ _ _ (Or.inr ?_),G.agree GY (xM.sub fun b hb=>bL jt hb)⟩
   rw[G.len GY]
   rcases Nat.lt_or_ge j i with h1|h1
   ·left
    have:=Nat.mul_le_mul_right k (show j+1≤i by omega)
    rw[Nat.add_mul]at this;omega
   ·right
    have:=Nat.mul_le_mul_right k (show i+1≤j by omega)
    rw[Nat.add_mul]at this;omega
 ·rcases List.mem_cons.1 hc with rfl|hc
  ·obtain⟨c0,e0,hk⟩:=h.own.kind c (by simp)
   obtain⟨c',AS,_⟩:=cC c e0 vs (off+i*k+o) w c0 hk
   exact⟨_,_,AS⟩
  ·rw[xM c hc];exact h.own.kind c (List.mem_cons_of_mem _ hc)
end
end
end Go.Proofs.YtcnomgcfijjkmaaGreat.L
