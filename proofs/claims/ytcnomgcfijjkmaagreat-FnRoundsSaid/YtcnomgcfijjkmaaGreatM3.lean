/-
  Slices that the call has made, written again: an element replaced; an element's own memory written by a call.
-/
import Derived.OpenShut
import Derived.ProofKit
import Derived.Test.YtcnomgcfijjkmaaGreatM2
namespace Go.Proofs.YtcnomgcfijjkmaaGreat.L
set_option linter.all false
open Go.RowKit Go.ChangeShapes Go.WideShapes Go.ChangeAt D
section
section
variable{H:Type}(enc:TypeId×Value→H)(P:Program)(w:World)(spare:Nat→Bool)(held:Bool)
def Q6{α:Type}(t:TypeId)(E:ER α)(W:α→Prop):Prop:=
 ∀fuel cs y,DataW.trod enc P w 0 spare held fuel t cs=some y→ ∃x fp,E w cs x fp∧W x
variable{enc P w spare held}
theorem Jg{t:TypeId}(ht:P.underlying t=some (.int .u8)):Q6 enc P w spare held t LC (fun _=>True):=by
 intro fuel cs y h
 obtain⟨n,rfl,_,hw⟩:=DataW.trod_int ht h
 have hb:=bounds_u8 hw
 refine⟨UInt8.ofNat n.toNat,[],⟨?_,rfl⟩,trivial⟩
 have:((UInt8.ofNat n.toNat).toNat:Int)=n:=by
  rw[UInt8.toNat_ofNat'];omega
 rw[this]
theorem Jh{α:Type} [Inhabited α]{k:Nat}{E:ER α}{W:α→Prop}{t e:TypeId}(ht:P.underlying t=some (.slice e))(hk:P.cellsOf e=k)(hpos:0<k)(ho:Q6 enc P w spare held e E W)(hspare: ∀b,spare b=true:=by exact fun _=>rfl):
  Q6 enc P w spare held t (ESl k E) (fun l=> ∀x,x∈l→W x):=by
 intro fuel cs y h
 rcases Go.Deep.open_slice ht h with⟨rfl,_⟩| ⟨a,len,cap,m,n,D,Pl,rfl,_,hl,hm,hmm,_,hx⟩
 ·exact⟨[],[],⟨_,rfl,none,0,rfl,Nat.le_refl _,Nat.zero_le _,Or.inl ⟨rfl,rfl,rfl⟩⟩,by simp⟩
 rw[hk]at hx
 rw[if_pos (hspare _)]at hmm
 subst hmm
 by_cases h0:m=0
 ·subst h0
  have:len=0:=by omega
  subst this
  exact⟨[],[],⟨_,rfl,some a,0,rfl,hl,hm,Or.inl ⟨rfl,rfl,rfl⟩⟩,by simp⟩
 have hsp:a.spot=none:=by
  obtain⟨cs',hc,_⟩:=hx 0 (by omega)
  obtain⟨_,h1,h2⟩:=World.cells?_some hc
  have h3:=h2 0 (by omega)
  have ha:((a.add (0*k)).add 0)=a:=by simp[Addr.add]
  rw[ha]at h3
  have hlen:0<cs'.length:=by omega
  rw[List.getElem?_eq_getElem hlen]at h3
  simp only[World.cell?]at h3
  split at h3
  ·split at h3
   ·cases h3
   ·rename_i hs;simpa using hs
  ·cases h3
 obtain⟨b,off,rfl⟩: ∃b off,a=⟨b,off,none⟩:=⟨a.block,a.off,by cases a;simp_all⟩
 have hel: ∀i,i<len→ ∃q:α×List Nat,(∃cs',w.rangeAt b (off+i*k) cs'∧E w cs' q.1 q.2)∧W q.1:=by
  intro i hi
  obtain⟨cs',hc,htr⟩:=hx i (by omega)
  obtain⟨x,fp,hE,hW⟩:=ho _ _ _ htr
  obtain⟨_,h1,h2⟩:=World.cells?_some hc
  refine⟨(x,fp),⟨cs',fun j v hv=> ?_,hE⟩,hW⟩
  have hj:=(List.getElem?_eq_some_iff.1 hv).1
  have:=h2 j (by omega)
  rw[Addr.add_mid,Addr.add_mid,hv]at this
  exact this
 obtain⟨f,hf⟩:=Go.Deep.choose_lt hel
 refine⟨(List.range len).map fun i=>(f i).1,b::((List.range len).map fun i=>(f i).2).flatten,⟨_,rfl,some ⟨b,off,none⟩,m,by simp,by simpa using hl,hm,Or.inr ⟨b,off,(List.range len).map fun i=>(f i).2,rfl,?_,rfl,by simp,?_⟩⟩,?_⟩
 ·obtain⟨cs',hc,_⟩:=hx (m-1) (by omega)
  obtain⟨_,h1,h2⟩:=World.cells?_some hc
  have h3:=h2 (k-1) (by omega)
  rw[Addr.add_mid,Addr.add_mid,List.getElem?_eq_getElem (by omega)]at h3
  have hmk:off+(m-1)*k+(k-1)+1=off+m*k:=by
   obtain⟨q,rfl⟩: ∃q,m=q+1:=⟨m-1,by omega⟩
   rw[Nat.add_sub_cancel,Nat.add_mul];omega
  simp only[World.cell?]at h3
  split at h3
  ·rename_i c e fz hb
   refine⟨c,e,fz,hb,?_⟩
   have h4:off+(m-1)*k+(k-1)<c.size:=by
    apply Decidable.byContradiction
    intro hge
    simp[Array.getElem?_eq_none (show c.size≤off+(m-1)*k+(k-1)by omega)]at h3
   omega
  ·cases h3
 ·intro i x fp hx gC
  have hi:i<len:=by have:=(List.getElem?_eq_some_iff.1 hx).1;simpa using this
  simp[hi]at hx gC
  subst hx;subst gC
  exact(hf i hi).1
 ·intro x hx
  simp only[List.mem_map,List.mem_range]at hx
  obtain⟨i,hi,rfl⟩:=hx
  exact(hf i hi).2
end
end
end Go.Proofs.YtcnomgcfijjkmaaGreat.L
namespace Go.Proofs.YtcnomgcfijjkmaaGreat.G
set_option linter.all false
open Go.RowKit L D
section
inductive Tag where
 |int|u8|str|sl(t:Tag)|DB|aR|bw|aN|iP|eg|bC|bp|Ev|gB|eD|Plain|cY
 deriving DecidableEq
@[reducible] def T:Tag→Type
  | .int=>Int
  | .u8=>UInt8
  | .str=>List UInt8
  | .sl t=>List (T t)
  | .DB=>DB
  | .aR=>aR
  | .bw=>bw
  | .aN=>aN
  | .iP=>iP
  | .eg=>eg
  | .bC=>bC
  | .bp=>bp
  | .Ev=>Ev
  | .gB=>gB
  | .eD=>eD
  | .Plain=>Plain
  | .cY=>cY
def kk:Tag→Nat
 | .int=>1
 | .u8=>1
 | .str=>1
 | .sl _=>1
 | .DB=>1
 | .aR=>2
 | .bw=>5
 | .aN=>2
 | .iP=>2
 | .eg=>8
 | .bC=>16
 | .bp=>10
 | .Ev=>4
 | .gB=>3
 | .eD=>5
 | .Plain=>2
 | .cY=>5
def rd:(t:Tag)→ER (T t)
 | .int=>QJ
 | .u8=>LC
 | .str=>YP
 | .sl t=>ESl (kk t) (rd t)
 | .DB=>EDB
 | .aR=>yz
 | .bw=>QS
 | .aN=>yA
 | .iP=>QT
 | .eg=>O9
 | .bC=>QU
 | .bp=>VD
 | .Ev=>EEv
 | .gB=>QY
 | .eD=>Q0
 | .Plain=>Ho
 | .cY=>Nt
theorem eA:(t:Tag)→fX (kk t) (rd t)
 | .int=>tS
 | .u8=>iQ
 | .str=>QK
 | .sl t=>rE (eA t)
 | .DB=>mY
 | .aR=>tU
 | .bw=>Dm
 | .aN=>tV
 | .iP=>tW
 | .eg=>kC
 | .bC=>Dn
 | .bp=>QX
 | .Ev=>VE
 | .gB=>QZ
 | .eD=>Q1
 | .Plain=>LF
 | .cY=>Pa
theorem fY:(t:Tag)→0<kk t
 | .int=>by decide
 | .u8=>by decide
 | .str=>by decide
 | .sl _=>Nat.one_pos
 | .DB=>by decide
 | .aR=>by decide
 | .bw=>by decide
 | .aN=>by decide
 | .iP=>by decide
 | .eg=>by decide
 | .bC=>by decide
 | .bp=>by decide
 | .Ev=>by decide
 | .gB=>by decide
 | .eD=>by decide
 | .Plain=>by decide
 | .cY=>by decide
def aI:(t:Tag)→T t
 | .int=>(0:Int)
 | .u8=>(0:UInt8)
 | .str=>([]:List UInt8)
 | .sl t=>([]:List (T t))
 | .DB=>(default:DB)
 | .aR=>(default:aR)
 | .bw=>(default:bw)
 | .aN=>(default:aN)
 | .iP=>(default:iP)
 | .eg=>(default:eg)
 | .bC=>(default:bC)
 | .bp=>(default:bp)
 | .Ev=>(default:Ev)
 | .gB=>(default:gB)
 | .eD=>(default:eD)
 | .Plain=>(default:Plain)
 | .cY=>(default:cY)
inductive V where
 |any
 |lit(v:Value)
 |sl(t:Tag)(l:List (T t))
 |own(n:Nat)
 |ptr(n off:Nat)
 |mL(n i off:Nat)
 |ip(t:Tag)(x:T t)(off:Nat)
 |vw(n:Nat)(p:Option (Nat×Nat))(t:Tag)(l:List (T t))
 |B9(n:Nat)(p:Option (Nat×Nat×Nat))(t:Tag)(x:T t)(off:Nat)
 |Ca(n:Nat)(t:Tag)(l:List (T t))
 |mix(n:Nat)(c:Bool)(t:Tag)(l:List (T t))
 |we(n:Nat)
 |As(f:FuncId)(n:Nat)
 |rF(k:Nat)
 |raw(v:Value)
 |eX(v:Value)(t:Tag)(l:List (T t))
def RI(w:World):V→Value→List Nat→Prop
 | .lit v,u,fp=>u=v∧v.oneCell'=true∧fp= []
 | .sl t l,u,fp=>Sl (kk t) (rd t) w u l fp
 |_,_,_=>False
def cE(w:World):List V→List Value→List Nat→Prop
 | [],[],fp=>fp= []
 |V::Vs,u::us,fp=> ∃f g,RI w V u f∧cE w Vs us g∧fp=f++g
 |_,_,_=>False
theorem cE.nil{w:World}:cE w [] [] []:=rfl
theorem cE.lit{w:World}{v:Value}{Vs:List V}{us:List Value}{g:List Nat}(hv:v.oneCell'=true)(h:cE w Vs us g):cE w (.lit v::Vs) (v::us) g:=⟨[],g,⟨rfl,hv,rfl⟩,h,rfl⟩
theorem cE.sl{w:World}{u:Value}{t:Tag}{l:List (T t)}{f g:List Nat}{Vs:List V}{us:List Value}(k:Sl (kk t) (rd t) w u l f)(h:cE w Vs us g):cE w (.sl t l::Vs) (u::us) (f++g):=⟨f,g,k,h,rfl⟩
theorem cE.app{w:World}: ∀{Vs Us:List V} {vs us:List Value} {f g:List Nat},cE w Vs vs f→cE w Us us g→cE w (Vs++Us) (vs++us) (f++g)
 | [],_,[],_,_,_,h,k=>by rw[show _=_ from h];exact k
 |_::_,_,_::_,_,_,_,⟨f1,f2,h1,h2,e⟩,k=>⟨f1,f2++_,h1,cE.app h2 k,by rw[e,List.append_assoc]⟩
 | [],_,_::_,_,_,_,h,_=>h.elim
 |_::_,_,[],_,_,_,h,_=>h.elim
theorem cE.len{w:World}: ∀{Vs:List V} {us:List Value} {fp:List Nat},cE w Vs us fp→us.length=Vs.length
 | [],[],_,_=>rfl
 |_::_,_::_,_,⟨_,_,_,h,_⟩=>by simp[cE.len h]
 | [],_::_,_,h=>h.elim
 |_::_,[],_,h=>h.elim
def aZ(x:DB):List V:= [.sl (.sl .u8) x.rows]
def iz(x:aR):List V:= [.lit (.int .i64 x.client)]++aZ x.share
def bR(x:bw):List V:= [.lit (.int .i64 x.id), .lit (.int .i64 x.rows), .lit (.int .i64 x.round), .sl .aR x.received, .lit (.int .i64 x.behavior)]
def jM(x:aN):List V:= [.lit (.int .i64 x.round)]++aZ x.db
def dc(x:iP):List V:= [.lit (.int .i64 x.rows), .sl .aN x.rounds]
def bP(x:eg):List V:= [.lit (.int .i64 x.id), .lit (.int .i64 x.ct), .lit (.int .i64 x.key), .lit (.int .i64 x.seed), .sl (.sl .u8) x.aJ, .lit (.int .i64 x.sent), .sl (.sl .u8) x.inbox, .lit (.int .i64 x.next)]
def bK(x:bC):List V:=bP x.live++bP x.saved
def aT(x:bp):List V:= [.lit (.int .i64 x.rows), .sl .bw x.av, .sl .bC x.ak]++dc x.aB++ [.lit (.int .i64 x.aX), .lit (.int .i64 x.seed), .lit (.int .i64 x.round), .sl .int x.replaced, .lit (.int .i64 x.cancelled)]
def tX(x:Ev):List V:= [.lit (.int .i64 x.kind), .lit (.int .i64 x.node), .lit (.int .i64 x.value), .sl .u8 x.body]
def Hq(x:gB):List V:= [.lit (.int .i64 x.fr), .lit (.int .i64 x.to), .lit (.int .i64 x.bytes)]
def kD(x:eD):List V:= [.lit (.int .i64 x.server), .lit (.int .i64 x.client), .lit (.int .i64 x.round), .lit (.int .i64 x.nI), .lit (.int .i64 x.Ls)]
def iS(x:Plain):List V:= [.lit (.int .i64 x.kind), .sl .u8 x.body]
def fA(x:cY):List V:= [.lit (.int .i64 x.server), .lit (.int .i64 x.round), .sl .int x.selection, .sl .u8 x.data, .lit (.int .i64 x.Ls)]
def dec:(t:Tag)→T t→List V
 | .int,n=> [.lit (.int .i64 n)]
 | .u8,n=> [.lit (.int .u8 n.toNat)]
 | .str,s=> [.lit (.string ⟨s.toArray⟩)]
 | .sl t,l=> [.sl t l]
 | .DB,x=>aZ x
 | .aR,x=>iz x
 | .bw,x=>bR x
 | .aN,x=>jM x
 | .iP,x=>dc x
 | .eg,x=>bP x
 | .bC,x=>bK x
 | .bp,x=>aT x
 | .Ev,x=>tX x
 | .gB,x=>Hq x
 | .eD,x=>kD x
 | .Plain,x=>iS x
 | .cY,x=>fA x
theorem Du{w:World}{cs:List Value}{x:DB}{fp:List Nat}:EDB w cs x fp→cE w (aZ x) cs fp:=by
 rintro⟨v0,f0,rfl,h0,rfl⟩
 have h:=(cE.sl (t:=(.sl .u8)) h0 cE.nil)
 simpa[aZ]using h
theorem Hr{w:World}{cs:List Value}{x:aR}{fp:List Nat}:yz w cs x fp→cE w (iz x) cs fp:=by
 rintro⟨v0,f0,rfl,h0,rfl⟩
 have h:=(cE.app (cE.lit (w:=w) (v:= .int .i64 x.client) rfl cE.nil) (Du h0))
 simpa[iz]using h
theorem Pd{w:World}{cs:List Value}{x:bw}{fp:List Nat}:QS w cs x fp→cE w (bR x) cs fp:=by
 rintro⟨v0,f0,rfl,h0,rfl⟩
 have h:=(cE.lit (w:=w) (v:= .int .i64 x.id) rfl (cE.lit (w:=w) (v:= .int .i64 x.rows) rfl (cE.lit (w:=w) (v:= .int .i64 x.round) rfl (cE.sl (t:= .aR) h0 (cE.lit (w:=w) (v:= .int .i64 x.behavior) rfl cE.nil)))))
 simpa[bR]using h
theorem Hs{w:World}{cs:List Value}{x:aN}{fp:List Nat}:yA w cs x fp→cE w (jM x) cs fp:=by
 rintro⟨v0,f0,rfl,h0,rfl⟩
 have h:=(cE.app (cE.lit (w:=w) (v:= .int .i64 x.round) rfl cE.nil) (Du h0))
 simpa[jM]using h
theorem Gc{w:World}{cs:List Value}{x:iP}{fp:List Nat}:QT w cs x fp→cE w (dc x) cs fp:=by
 rintro⟨v0,f0,rfl,h0,rfl⟩
 have h:=(cE.lit (w:=w) (v:= .int .i64 x.rows) rfl (cE.sl (t:= .aN) h0 cE.nil))
 simpa[dc]using h
theorem At{w:World}{cs:List Value}{x:eg}{fp:List Nat}:O9 w cs x fp→cE w (bP x) cs fp:=by
 rintro⟨v0,v1,f0,f1,rfl,h0,h1,rfl⟩
 have h:=(cE.lit (w:=w) (v:= .int .i64 x.id) rfl (cE.lit (w:=w) (v:= .int .i64 x.ct) rfl (cE.lit (w:=w) (v:= .int .i64 x.key) rfl (cE.lit (w:=w) (v:= .int .i64 x.seed) rfl (cE.sl (t:=(.sl .u8)) h0 (cE.lit (w:=w) (v:= .int .i64 x.sent) rfl (cE.sl (t:=(.sl .u8)) h1 (cE.lit (w:=w) (v:= .int .i64 x.next) rfl cE.nil))))))))
 simpa[bP]using h
theorem Pe{w:World}{cs:List Value}{x:bC}{fp:List Nat}:QU w cs x fp→cE w (bK x) cs fp:=by
 rintro⟨v0,v1,f0,f1,rfl,h0,h1,rfl⟩
 have h:=(cE.app (At h0) (At h1))
 simpa[bK]using h
theorem Pf{w:World}{cs:List Value}{x:bp}{fp:List Nat}:VD w cs x fp→cE w (aT x) cs fp:=by
 rintro⟨v0,v1,v2,v3,f0,f1,f2,f3,rfl,h0,h1,h2,h3,rfl⟩
 have h:=(cE.app (cE.app (cE.lit (w:=w) (v:= .int .i64 x.rows) rfl (cE.sl (t:= .bw) h0 (cE.sl (t:= .bC) h1 cE.nil))) (Gc h2)) (cE.lit (w:=w) (v:= .int .i64 x.aX) rfl (cE.lit (w:=w) (v:= .int .i64 x.seed) rfl (cE.lit (w:=w) (v:= .int .i64 x.round) rfl (cE.sl (t:= .int) h3 (cE.lit (w:=w) (v:= .int .i64 x.cancelled) rfl cE.nil))))))
 simpa[aT]using h
theorem Q7{w:World}{cs:List Value}{x:Ev}{fp:List Nat}:EEv w cs x fp→cE w (tX x) cs fp:=by
 rintro⟨v0,f0,rfl,h0,rfl⟩
 have h:=(cE.lit (w:=w) (v:= .int .i64 x.kind) rfl (cE.lit (w:=w) (v:= .int .i64 x.node) rfl (cE.lit (w:=w) (v:= .int .i64 x.value) rfl (cE.sl (t:= .u8) h0 cE.nil))))
 simpa[tX]using h
theorem Pg{w:World}{cs:List Value}{x:gB}{fp:List Nat}:QY w cs x fp→cE w (Hq x) cs fp:=by
 rintro⟨rfl,rfl⟩
 have h:=(cE.lit (w:=w) (v:= .int .i64 x.fr) rfl (cE.lit (w:=w) (v:= .int .i64 x.to) rfl (cE.lit (w:=w) (v:= .int .i64 x.bytes) rfl cE.nil)))
 simpa[Hq]using h
theorem Ph{w:World}{cs:List Value}{x:eD}{fp:List Nat}:Q0 w cs x fp→cE w (kD x) cs fp:=by
 rintro⟨rfl,rfl⟩
 have h:=(cE.lit (w:=w) (v:= .int .i64 x.server) rfl (cE.lit (w:=w) (v:= .int .i64 x.client) rfl (cE.lit (w:=w) (v:= .int .i64 x.round) rfl (cE.lit (w:=w) (v:= .int .i64 x.nI) rfl (cE.lit (w:=w) (v:= .int .i64 x.Ls) rfl cE.nil)))))
 simpa[kD]using h
theorem Ji{w:World}{cs:List Value}{x:Plain}{fp:List Nat}:Ho w cs x fp→cE w (iS x) cs fp:=by
 rintro⟨v0,f0,rfl,h0,rfl⟩
 have h:=(cE.lit (w:=w) (v:= .int .i64 x.kind) rfl (cE.sl (t:= .u8) h0 cE.nil))
 simpa[iS]using h
theorem LH{w:World}{cs:List Value}{x:cY}{fp:List Nat}:Nt w cs x fp→cE w (fA x) cs fp:=by
 rintro⟨v0,v1,f0,f1,rfl,h0,h1,rfl⟩
 have h:=(cE.lit (w:=w) (v:= .int .i64 x.server) rfl (cE.lit (w:=w) (v:= .int .i64 x.round) rfl (cE.sl (t:= .int) h0 (cE.sl (t:= .u8) h1 (cE.lit (w:=w) (v:= .int .i64 x.Ls) rfl cE.nil)))))
 simpa[fA]using h
theorem reads{w:World}:(t:Tag)→{cs:List Value}→{x:T t}→{fp:List Nat}→rd t w cs x fp→cE w (dec t x) cs fp
 | .int,_,_,_,⟨rfl,rfl⟩=>cE.lit (v:= .int .i64 _) rfl cE.nil
 | .u8,_,_,_,⟨rfl,rfl⟩=>cE.lit (v:= .int .u8 _) rfl cE.nil
 | .str,_,_,_,⟨rfl,_,rfl⟩=>cE.lit (v:= .string _) rfl cE.nil
 | .sl t,_,_,_,⟨v,rfl,h⟩=>by have:=cE.sl (t:=t) h (cE.nil);rwa [List.append_nil]at this
 | .DB,_,_,_,h=>Du h
 | .aR,_,_,_,h=>Hr h
 | .bw,_,_,_,h=>Pd h
 | .aN,_,_,_,h=>Hs h
 | .iP,_,_,_,h=>Gc h
 | .eg,_,_,_,h=>At h
 | .bC,_,_,_,h=>Pe h
 | .bp,_,_,_,h=>Pf h
 | .Ev,_,_,_,h=>Q7 h
 | .gB,_,_,_,h=>Pg h
 | .eD,_,_,_,h=>Ph h
 | .Plain,_,_,_,h=>Ji h
 | .cY,_,_,_,h=>LH h
end
section
def gL:(t t':Tag)→List (T t')→Option (List (T t))
 | .int, .int,l=>some l
 | .u8, .u8,l=>some l
 | .str, .str,l=>some l
 | .sl .int, .sl .int,l=>some l
 | .sl .u8, .sl .u8,l=>some l
 | .sl .str, .sl .str,l=>some l
 | .sl (.sl .u8), .sl (.sl .u8),l=>some l
 | .sl (.sl .int), .sl (.sl .int),l=>some l
 | .DB, .DB,l=>some l
 | .aR, .aR,l=>some l
 | .bw, .bw,l=>some l
 | .aN, .aN,l=>some l
 | .iP, .iP,l=>some l
 | .eg, .eg,l=>some l
 | .bC, .bC,l=>some l
 | .bp, .bp,l=>some l
 | .Ev, .Ev,l=>some l
 | .gB, .gB,l=>some l
 | .eD, .eD,l=>some l
 | .Plain, .Plain,l=>some l
 | .cY, .cY,l=>some l
 |_,_,_=>none
theorem dH{t t':Tag}{l:List (T t')}{l2:List (T t)}(h:gL t t' l=some l2): ∃e:t'=t,l2=e▸l:=by
 unfold gL at h
 split at h<;>first
  | (simp only[oI]at h;exact⟨rfl,h.symm⟩)
  |cases h
def gi:V→Option Int
 | .lit (.int .i64 n)=>some n
 |_=>none
def gs(t:Tag):V→Option (List (T t))
 | .sl t' l=>gL t t' l
 | .lit (.slice none 0 0)=>some []
 |_=>none
theorem eL{w:World}{v:V}{u:Value}{f:List Nat}{n:Int}(h:gi v=some n)(hr:RI w v u f):u= .int .i64 n∧f= []:=by
 unfold gi at h
 split at h
 ·simp only[oI]at h
  subst h
  exact⟨hr.1,hr.2.2⟩
 ·cases h
theorem qo{w:World}{t:Tag}{v:V}{u:Value}{f:List Nat}{l:List (T t)}(h:gs t v=some l)(hr:RI w v u f):Sl (kk t) (rd t) w u l f:=by
 unfold gs at h
 split at h
 ·rename_i t' l'
  obtain⟨he,rfl⟩:=dH h
  subst he
  exact hr
 ·simp only[oI]at h
  subst h
  obtain⟨rfl,_,rfl⟩:=hr
  exact⟨none,0,rfl,Nat.le_refl _,Nat.zero_le _,Or.inl ⟨rfl,rfl,rfl⟩⟩
 ·cases h
def Au:List V→Option DB
 | [a0]=>match gs (.sl .u8) a0 with
   |some x0=>some ⟨x0⟩
   |_=>none
 |_=>none
theorem vB{w:World}{c:List V}{us:List Value}{fp:List Nat}{x:DB}(h:Au c=some x)(hr:cE w c us fp):EDB w us x fp:=by
 unfold Au at h
 split at h
 ·rename_i a0
  split at h
  ·rename_i x0 e0
   simp only[oI]at h
   subst h
   match us,hr with
   | [u0],⟨f0,g0,r0,h9,q0⟩=>
     have h9:g0= []:=h9
     have z0:=qo e0 r0
     refine⟨u0,f0,?_,z0,?_⟩
     ·rfl
     ·simp[q0,h9]
  ·cases h
 ·cases h
def rG:List V→Option aR
 | [a0,a1]=>match gi a0,Au [a1]with
   |some x0,some x1=>some ⟨x0,x1⟩
   |_,_=>none
 |_=>none
theorem wL{w:World}{c:List V}{us:List Value}{fp:List Nat}{x:aR}(h:rG c=some x)(hr:cE w c us fp):yz w us x fp:=by
 unfold rG at h
 split at h
 ·rename_i a0 a1
  split at h
  ·rename_i x0 x1 e0 e1
   simp only[oI]at h
   subst h
   match us,hr with
   | [u0,u1],⟨f0,g0,r0,⟨f1,g1,r1,h9,q1⟩,q0⟩=>
     have h9:g1= []:=h9
     obtain⟨z0,y0⟩:=eL e0 r0
     have z1:=vB (w:=w) (us:= [u1]) (fp:=(f1++ [])) e1 ⟨f1,_,r1,rfl,rfl⟩
     refine⟨[u1],(f1++ []),?_,z1,?_⟩
     ·simp[z0]
     ·simp[q0,q1,h9,y0]
  ·cases h
 ·cases h
def CF:List V→Option bw
 | [a0,a1,a2,a3,a4]=>match gi a0,gi a1,gi a2,gs .aR a3,gi a4 with
   |some x0,some x1,some x2,some x3,some x4=>some ⟨x0,x1,x2,x3,x4⟩
   |_,_,_,_,_=>none
 |_=>none
theorem Dv{w:World}{c:List V}{us:List Value}{fp:List Nat}{x:bw}(h:CF c=some x)(hr:cE w c us fp):QS w us x fp:=by
 unfold CF at h
 split at h
 ·rename_i a0 a1 a2 a3 a4
  split at h
  ·rename_i x0 x1 x2 x3 x4 e0 e1 e2 e3 e4
   simp only[oI]at h
   subst h
   match us,hr with
   | [u0,u1,u2,u3,u4],⟨f0,g0,r0,⟨f1,g1,r1,⟨f2,g2,r2,⟨f3,g3,r3,⟨f4,g4,r4,h9,q4⟩,q3⟩,q2⟩,q1⟩,q0⟩=>
     have h9:g4= []:=h9
     obtain⟨z0,y0⟩:=eL e0 r0
     obtain⟨z1,y1⟩:=eL e1 r1
     obtain⟨z2,y2⟩:=eL e2 r2
     have z3:=qo e3 r3
     obtain⟨z4,y4⟩:=eL e4 r4
     refine⟨u3,f3,?_,z3,?_⟩
     ·simp[z0,z1,z2,z4]
     ·simp[q0,q1,q2,q3,q4,h9,y0,y1,y2,y4]
  ·cases h
 ·cases h
def rH:List V→Option aN
 | [a0,a1]=>match gi a0,Au [a1]with
   |some x0,some x1=>some ⟨x0,x1⟩
   |_,_=>none
 |_=>none
theorem wM{w:World}{c:List V}{us:List Value}{fp:List Nat}{x:aN}(h:rH c=some x)(hr:cE w c us fp):yA w us x fp:=by
 unfold rH at h
 split at h
 ·rename_i a0 a1
  split at h
  ·rename_i x0 x1 e0 e1
   simp only[oI]at h
   subst h
   match us,hr with
   | [u0,u1],⟨f0,g0,r0,⟨f1,g1,r1,h9,q1⟩,q0⟩=>
     have h9:g1= []:=h9
     obtain⟨z0,y0⟩:=eL e0 r0
     have z1:=vB (w:=w) (us:= [u1]) (fp:=(f1++ [])) e1 ⟨f1,_,r1,rfl,rfl⟩
     refine⟨[u1],(f1++ []),?_,z1,?_⟩
     ·simp[z0]
     ·simp[q0,q1,h9,y0]
  ·cases h
 ·cases h
def yB:List V→Option iP
 | [a0,a1]=>match gi a0,gs .aN a1 with
   |some x0,some x1=>some ⟨x0,x1⟩
   |_,_=>none
 |_=>none
theorem xj{w:World}{c:List V}{us:List Value}{fp:List Nat}{x:iP}(h:yB c=some x)(hr:cE w c us fp):QT w us x fp:=by
 unfold yB at h
 split at h
 ·rename_i a0 a1
  split at h
  ·rename_i x0 x1 e0 e1
   simp only[oI]at h
   subst h
   match us,hr with
   | [u0,u1],⟨f0,g0,r0,⟨f1,g1,r1,h9,q1⟩,q0⟩=>
     have h9:g1= []:=h9
     obtain⟨z0,y0⟩:=eL e0 r0
     have z1:=qo e1 r1
     refine⟨u1,f1,?_,z1,?_⟩
     ·simp[z0]
     ·simp[q0,q1,h9,y0]
  ·cases h
 ·cases h
def vC:List V→Option eg
 | [a0,a1,a2,a3,a4,a5,a6,a7]=>match gi a0,gi a1,gi a2,gi a3,gs (.sl .u8) a4,gi a5,gs (.sl .u8) a6,gi a7 with
   |some x0,some x1,some x2,some x3,some x4,some x5,some x6,some x7=>some ⟨x0,x1,x2,x3,x4,x5,x6,x7⟩
   |_,_,_,_,_,_,_,_=>none
 |_=>none
theorem rI{w:World}{c:List V}{us:List Value}{fp:List Nat}{x:eg}(h:vC c=some x)(hr:cE w c us fp):O9 w us x fp:=by
 unfold vC at h
 split at h
 ·rename_i a0 a1 a2 a3 a4 a5 a6 a7
  split at h
  ·rename_i x0 x1 x2 x3 x4 x5 x6 x7 e0 e1 e2 e3 e4 e5 e6 e7
   simp only[oI]at h
   subst h
   match us,hr with
   | [u0,u1,u2,u3,u4,u5,u6,u7],⟨f0,g0,r0,⟨f1,g1,r1,⟨f2,g2,r2,⟨f3,g3,r3,⟨f4,g4,r4,⟨f5,g5,r5,⟨f6,g6,r6,⟨f7,g7,r7,h9,q7⟩,q6⟩,q5⟩,q4⟩,q3⟩,q2⟩,q1⟩,q0⟩=>
     have h9:g7= []:=h9
     obtain⟨z0,y0⟩:=eL e0 r0
     obtain⟨z1,y1⟩:=eL e1 r1
     obtain⟨z2,y2⟩:=eL e2 r2
     obtain⟨z3,y3⟩:=eL e3 r3
     have z4:=qo e4 r4
     obtain⟨z5,y5⟩:=eL e5 r5
     have z6:=qo e6 r6
     obtain⟨z7,y7⟩:=eL e7 r7
     refine⟨u4,u6,f4,f6,?_,z4,z6,?_⟩
     ·simp[z0,z1,z2,z3,z5,z7]
     ·simp[q0,q1,q2,q3,q4,q5,q6,q7,h9,y0,y1,y2,y3,y5,y7]
  ·cases h
 ·cases h
def CG:List V→Option bC
 | [a0,a1,a2,a3,a4,a5,a6,a7,a8,a9,a10,a11,a12,a13,a14,a15]=>match vC [a0,a1,a2,a3,a4,a5,a6,a7],vC [a8,a9,a10,a11,a12,a13,a14,a15]with
   |some x0,some x8=>some ⟨x0,x8⟩
   |_,_=>none
 |_=>none
theorem Dw{w:World}{c:List V}{us:List Value}{fp:List Nat}{x:bC}(h:CG c=some x)(hr:cE w c us fp):QU w us x fp:=by
 unfold CG at h
 split at h
 ·rename_i a0 a1 a2 a3 a4 a5 a6 a7 a8 a9 a10 a11 a12 a13 a14 a15
  split at h
  ·rename_i x0 x8 e0 e1
   simp only[oI]at h
   subst h
   match us,hr with
   | [u0,u1,u2,u3,u4,u5,u6,u7,u8,u9,u10,u11,u12,u13,u14,u15],⟨f0,g0,r0,⟨f1,g1,r1,⟨f2,g2,r2,⟨f3,g3,r3,⟨f4,g4,r4,⟨f5,g5,r5,⟨f6,g6,r6,⟨f7,g7,r7,⟨f8,g8,r8,⟨f9,g9,r9,⟨f10,g10,r10,⟨f11,g11,r11,⟨f12,g12,r12,⟨f13,g13,r13,⟨f14,g14,r14,⟨f15,g15,r15,h9,q15⟩,q14⟩,q13⟩,q12⟩,q11⟩,q10⟩,q9⟩,q8⟩,q7⟩,q6⟩,q5⟩,q4⟩,q3⟩,q2⟩,q1⟩,q0⟩=>
     have h9:g15= []:=h9
     have z0:=rI (w:=w) (us:= [u0,u1,u2,u3,u4,u5,u6,u7]) (fp:=(f0++(f1++(f2++(f3++(f4++(f5++(f6++(f7++ []))))))))) e0 ⟨f0,_,r0,⟨f1,_,r1,⟨f2,_,r2,⟨f3,_,r3,⟨f4,_,r4,⟨f5,_,r5,⟨f6,_,r6,⟨f7,_,r7,rfl,rfl⟩,rfl⟩,rfl⟩,rfl⟩,rfl⟩,rfl⟩,rfl⟩,rfl⟩
     have z8:=rI (w:=w) (us:= [u8,u9,u10,u11,u12,u13,u14,u15]) (fp:=(f8++(f9++(f10++(f11++(f12++(f13++(f14++(f15++ []))))))))) e1 ⟨f8,_,r8,⟨f9,_,r9,⟨f10,_,r10,⟨f11,_,r11,⟨f12,_,r12,⟨f13,_,r13,⟨f14,_,r14,⟨f15,_,r15,rfl,rfl⟩,rfl⟩,rfl⟩,rfl⟩,rfl⟩,rfl⟩,rfl⟩,rfl⟩
     refine⟨[u0,u1,u2,u3,u4,u5,u6,u7],[u8,u9,u10,u11,u12,u13,u14,u15],(f0++(f1++(f2++(f3++(f4++(f5++(f6++(f7++ [])))))))),(f8++(f9++(f10++(f11++(f12++(f13++(f14++(f15++ [])))))))),?_,z0,z8,?_⟩
     ·rfl
     ·simp[q0,q1,q2,q3,q4,q5,q6,q7,q8,q9,q10,q11,q12,q13,q14,q15,h9]
  ·cases h
 ·cases h
def CH:List V→Option bp
 | [a0,a1,a2,a3,a4,a5,a6,a7,a8,a9]=>match gi a0,gs .bw a1,gs .bC a2,yB [a3,a4],gi a5,gi a6,gi a7,gs .int a8,gi a9 with
   |some x0,some x1,some x2,some x3,some x5,some x6,some x7,some x8,some x9=>some ⟨x0,x1,x2,x3,x5,x6,x7,x8,x9⟩
   |_,_,_,_,_,_,_,_,_=>none
 |_=>none
theorem Dx{w:World}{c:List V}{us:List Value}{fp:List Nat}{x:bp}(h:CH c=some x)(hr:cE w c us fp):VD w us x fp:=by
 unfold CH at h
 split at h
 ·rename_i a0 a1 a2 a3 a4 a5 a6 a7 a8 a9
  split at h
  ·rename_i x0 x1 x2 x3 x5 x6 x7 x8 x9 e0 e1 e2 e3 e4 e5 e6 e7 e8
   simp only[oI]at h
   subst h
   match us,hr with
   | [u0,u1,u2,u3,u4,u5,u6,u7,u8,u9],⟨f0,g0,r0,⟨f1,g1,r1,⟨f2,g2,r2,⟨f3,g3,r3,⟨f4,g4,r4,⟨f5,g5,r5,⟨f6,g6,r6,⟨f7,g7,r7,⟨f8,g8,r8,⟨f9,g9,r9,h9,q9⟩,q8⟩,q7⟩,q6⟩,q5⟩,q4⟩,q3⟩,q2⟩,q1⟩,q0⟩=>
     have h9:g9= []:=h9
     obtain⟨z0,y0⟩:=eL e0 r0
     have z1:=qo e1 r1
     have z2:=qo e2 r2
     have z3:=xj (w:=w) (us:= [u3,u4]) (fp:=(f3++(f4++ []))) e3 ⟨f3,_,r3,⟨f4,_,r4,rfl,rfl⟩,rfl⟩
     obtain⟨z5,y5⟩:=eL e4 r5
     obtain⟨z6,y6⟩:=eL e5 r6
     obtain⟨z7,y7⟩:=eL e6 r7
     have z8:=qo e7 r8
     obtain⟨z9,y9⟩:=eL e8 r9
     refine⟨u1,u2,[u3,u4],u8,f1,f2,(f3++(f4++ [])),f8,?_,z1,z2,z3,z8,?_⟩
     ·simp[z0,z5,z6,z7,z9]
     ·simp[q0,q1,q2,q3,q4,q5,q6,q7,q8,q9,h9,y0,y5,y6,y7,y9]
  ·cases h
 ·cases h
def Ht:List V→Option Ev
 | [a0,a1,a2,a3]=>match gi a0,gi a1,gi a2,gs .u8 a3 with
   |some x0,some x1,some x2,some x3=>some ⟨x0,x1,x2,x3⟩
   |_,_,_,_=>none
 |_=>none
theorem Gd{w:World}{c:List V}{us:List Value}{fp:List Nat}{x:Ev}(h:Ht c=some x)(hr:cE w c us fp):EEv w us x fp:=by
 unfold Ht at h
 split at h
 ·rename_i a0 a1 a2 a3
  split at h
  ·rename_i x0 x1 x2 x3 e0 e1 e2 e3
   simp only[oI]at h
   subst h
   match us,hr with
   | [u0,u1,u2,u3],⟨f0,g0,r0,⟨f1,g1,r1,⟨f2,g2,r2,⟨f3,g3,r3,h9,q3⟩,q2⟩,q1⟩,q0⟩=>
     have h9:g3= []:=h9
     obtain⟨z0,y0⟩:=eL e0 r0
     obtain⟨z1,y1⟩:=eL e1 r1
     obtain⟨z2,y2⟩:=eL e2 r2
     have z3:=qo e3 r3
     refine⟨u3,f3,?_,z3,?_⟩
     ·simp[z0,z1,z2]
     ·simp[q0,q1,q2,q3,h9,y0,y1,y2]
  ·cases h
 ·cases h
def CI:List V→Option gB
 | [a0,a1,a2]=>match gi a0,gi a1,gi a2 with
   |some x0,some x1,some x2=>some ⟨x0,x1,x2⟩
   |_,_,_=>none
 |_=>none
theorem Dy{w:World}{c:List V}{us:List Value}{fp:List Nat}{x:gB}(h:CI c=some x)(hr:cE w c us fp):QY w us x fp:=by
 unfold CI at h
 split at h
 ·rename_i a0 a1 a2
  split at h
  ·rename_i x0 x1 x2 e0 e1 e2
   simp only[oI]at h
   subst h
   match us,hr with
   | [u0,u1,u2],⟨f0,g0,r0,⟨f1,g1,r1,⟨f2,g2,r2,h9,q2⟩,q1⟩,q0⟩=>
     have h9:g2= []:=h9
     obtain⟨z0,y0⟩:=eL e0 r0
     obtain⟨z1,y1⟩:=eL e1 r1
     obtain⟨z2,y2⟩:=eL e2 r2
     refine⟨?_,?_⟩
     ·simp[z0,z1,z2]
     ·simp[q0,q1,q2,h9,y0,y1,y2]
  ·cases h
 ·cases h
def CJ:List V→Option eD
 | [a0,a1,a2,a3,a4]=>match gi a0,gi a1,gi a2,gi a3,gi a4 with
   |some x0,some x1,some x2,some x3,some x4=>some ⟨x0,x1,x2,x3,x4⟩
   |_,_,_,_,_=>none
 |_=>none
theorem Dz{w:World}{c:List V}{us:List Value}{fp:List Nat}{x:eD}(h:CJ c=some x)(hr:cE w c us fp):Q0 w us x fp:=by
 unfold CJ at h
 split at h
 ·rename_i a0 a1 a2 a3 a4
  split at h
  ·rename_i x0 x1 x2 x3 x4 e0 e1 e2 e3 e4
   simp only[oI]at h
   subst h
   match us,hr with
   | [u0,u1,u2,u3,u4],⟨f0,g0,r0,⟨f1,g1,r1,⟨f2,g2,r2,⟨f3,g3,r3,⟨f4,g4,r4,h9,q4⟩,q3⟩,q2⟩,q1⟩,q0⟩=>
     have h9:g4= []:=h9
     obtain⟨z0,y0⟩:=eL e0 r0
     obtain⟨z1,y1⟩:=eL e1 r1
     obtain⟨z2,y2⟩:=eL e2 r2
     obtain⟨z3,y3⟩:=eL e3 r3
     obtain⟨z4,y4⟩:=eL e4 r4
     refine⟨?_,?_⟩
     ·simp[z0,z1,z2,z3,z4]
     ·simp[q0,q1,q2,q3,q4,h9,y0,y1,y2,y3,y4]
  ·cases h
 ·cases h
def vD:List V→Option Plain
 | [a0,a1]=>match gi a0,gs .u8 a1 with
   |some x0,some x1=>some ⟨x0,x1⟩
   |_,_=>none
 |_=>none
theorem yC{w:World}{c:List V}{us:List Value}{fp:List Nat}{x:Plain}(h:vD c=some x)(hr:cE w c us fp):Ho w us x fp:=by
 unfold vD at h
 split at h
 ·rename_i a0 a1
  split at h
  ·rename_i x0 x1 e0 e1
   simp only[oI]at h
   subst h
   match us,hr with
   | [u0,u1],⟨f0,g0,r0,⟨f1,g1,r1,h9,q1⟩,q0⟩=>
     have h9:g1= []:=h9
     obtain⟨z0,y0⟩:=eL e0 r0
     have z1:=qo e1 r1
     refine⟨u1,f1,?_,z1,?_⟩
     ·simp[z0]
     ·simp[q0,q1,h9,y0]
  ·cases h
 ·cases h
def yD:List V→Option cY
 | [a0,a1,a2,a3,a4]=>match gi a0,gi a1,gs .int a2,gs .u8 a3,gi a4 with
   |some x0,some x1,some x2,some x3,some x4=>some ⟨x0,x1,x2,x3,x4⟩
   |_,_,_,_,_=>none
 |_=>none
theorem BN{w:World}{c:List V}{us:List Value}{fp:List Nat}{x:cY}(h:yD c=some x)(hr:cE w c us fp):Nt w us x fp:=by
 unfold yD at h
 split at h
 ·rename_i a0 a1 a2 a3 a4
  split at h
  ·rename_i x0 x1 x2 x3 x4 e0 e1 e2 e3 e4
   simp only[oI]at h
   subst h
   match us,hr with
   | [u0,u1,u2,u3,u4],⟨f0,g0,r0,⟨f1,g1,r1,⟨f2,g2,r2,⟨f3,g3,r3,⟨f4,g4,r4,h9,q4⟩,q3⟩,q2⟩,q1⟩,q0⟩=>
     have h9:g4= []:=h9
     obtain⟨z0,y0⟩:=eL e0 r0
     obtain⟨z1,y1⟩:=eL e1 r1
     have z2:=qo e2 r2
     have z3:=qo e3 r3
     obtain⟨z4,y4⟩:=eL e4 r4
     refine⟨u2,u3,f2,f3,?_,z2,z3,?_⟩
     ·simp[z0,z1,z4]
     ·simp[q0,q1,q2,q3,q4,h9,y0,y1,y4]
  ·cases h
 ·cases h
def Hu:List V→Option (List Prop×Int)
 | [v]=>match gi v with|some n=>some ([],n)|none=>none
 |_=>none
def LI:List V→Option (List Prop×UInt8)
 | [.lit (.int .u8 n)]=>some ([0≤n∧n<256],UInt8.ofNat n.toNat)
 |_=>none
def Hv:List V→Option (List Prop×List UInt8)
 | [.lit (.string s)]=>some ([s.size≤maxLen],s.data.toList)
 |_=>none
def LJ(t:Tag):List V→Option (List Prop×List (T t))
 | [v]=>match gs t v with|some l=>some ([],l)|none=>none
 |_=>none
def lq{α:Type}:Option α→Option (List Prop×α)
 |some x=>some ([],x)
 |none=>none
theorem eY{α:Type}{o:Option α}{vc:List Prop}{x:α}(h:lq o=some (vc,x)):o=some x:=by
 cases o with
 |none=>cases h
 |some y=>simp only[lq,oI,pI]at h;rw[h.2]
def enc:(t:Tag)→List V→Option (List Prop×T t)
 | .int,c=>Hu c
 | .u8,c=>LI c
 | .str,c=>Hv c
 | .sl t,c=>LJ t c
 | .DB,c=>lq (Au c)
 | .aR,c=>lq (rG c)
 | .bw,c=>lq (CF c)
 | .aN,c=>lq (rH c)
 | .iP,c=>lq (yB c)
 | .eg,c=>lq (vC c)
 | .bC,c=>lq (CG c)
 | .bp,c=>lq (CH c)
 | .Ev,c=>lq (Ht c)
 | .gB,c=>lq (CI c)
 | .eD,c=>lq (CJ c)
 | .Plain,c=>lq (vD c)
 | .cY,c=>lq (yD c)
theorem tY{w:World}:(t:Tag)→{c:List V}→{us:List Value}→{fp:List Nat}→{vc:List Prop}→{x:T t}→enc t c=some (vc,x)→(∀q,q∈vc→q)→cE w c us fp→rd t w us x fp
 | .int,c,us,fp,vc,x,h,hv,hr=>by
   have h:Hu c=some (vc,x):=h
   unfold Hu at h
   split at h<;>first| (cases h;done)|skip
   ·split at h
    ·rename_i v _ n e
     simp only[oI,pI]at h
     obtain⟨rfl,rfl⟩:=h
     match us,hr with
     | [u],⟨f,g,r,h9,q⟩=>
       obtain⟨z,y⟩:=eL e r
       have h9:g= []:=h9
       exact⟨by rw[z],by simp[q,y,h9]⟩
    ·cases h
 | .u8,c,us,fp,vc,x,h,hv,hr=>by
   have h:LI c=some (vc,x):=h
   unfold LI at h
   split at h<;>first| (cases h;done)|skip
   ·rename_i n _
    simp only[oI,pI]at h
    obtain⟨rfl,rfl⟩:=h
    obtain⟨h0,h1⟩:=hv _ (List.mem_singleton.2 rfl)
    match us,hr with
    | [u],⟨f,g,r,h9,q⟩=>
      have h9:g= []:=h9
      obtain⟨rfl,_,rfl⟩:=r
      refine⟨?_,by simp[q,h9]⟩
      have:((UInt8.ofNat n.toNat).toNat:Int)=n:=by rw[UInt8.toNat_ofNat'];omega
      rw[this]
 | .str,c,us,fp,vc,x,h,hv,hr=>by
   have h:Hv c=some (vc,x):=h
   unfold Hv at h
   split at h<;>first| (cases h;done)|skip
   ·rename_i s _
    simp only[oI,pI]at h
    obtain⟨rfl,rfl⟩:=h
    have h0:=hv _ (List.mem_singleton.2 rfl)
    match us,hr with
    | [u],⟨f,g,r,h9,q⟩=>
      have h9:g= []:=h9
      obtain⟨rfl,_,rfl⟩:=r
      exact⟨rfl,h0,by simp[q,h9]⟩
 | .sl t,c,us,fp,vc,x,h,hv,hr=>by
   have h:LJ t c=some (vc,x):=h
   unfold LJ at h
   split at h<;>first| (cases h;done)|skip
   ·split at h
    ·rename_i v _ l e
     simp only[oI,pI]at h
     obtain⟨rfl,rfl⟩:=h
     match us,hr with
     | [u],⟨f,g,r,h9,q⟩=>
       have h9:g= []:=h9
       refine⟨u,rfl,?_⟩
       have:=qo e r
       rw[q,h9,List.append_nil];exact this
    ·cases h
 | .DB,c,us,fp,vc,x,h,hv,hr=>by
   exact vB (eY (show lq (Au c)=_ from h)) hr
 | .aR,c,us,fp,vc,x,h,hv,hr=>by
   exact wL (eY (show lq (rG c)=_ from h)) hr
 | .bw,c,us,fp,vc,x,h,hv,hr=>by
   exact Dv (eY (show lq (CF c)=_ from h)) hr
 | .aN,c,us,fp,vc,x,h,hv,hr=>by
   exact wM (eY (show lq (rH c)=_ from h)) hr
 | .iP,c,us,fp,vc,x,h,hv,hr=>by
   exact xj (eY (show lq (yB c)=_ from h)) hr
 | .eg,c,us,fp,vc,x,h,hv,hr=>by
   exact rI (eY (show lq (vC c)=_ from h)) hr
 | .bC,c,us,fp,vc,x,h,hv,hr=>by
   exact Dw (eY (show lq (CG c)=_ from h)) hr
 | .bp,c,us,fp,vc,x,h,hv,hr=>by
   exact Dx (eY (show lq (CH c)=_ from h)) hr
 | .Ev,c,us,fp,vc,x,h,hv,hr=>by
   exact Gd (eY (show lq (Ht c)=_ from h)) hr
 | .gB,c,us,fp,vc,x,h,hv,hr=>by
   exact Dy (eY (show lq (CI c)=_ from h)) hr
 | .eD,c,us,fp,vc,x,h,hv,hr=>by
   exact Dz (eY (show lq (CJ c)=_ from h)) hr
 | .Plain,c,us,fp,vc,x,h,hv,hr=>by
   exact yC (eY (show lq (vD c)=_ from h)) hr
 | .cY,c,us,fp,vc,x,h,hv,hr=>by
   exact BN (eY (show lq (yD c)=_ from h)) hr
def eZ:Tag→Value
 | .int=> .int .i64 0
 | .u8=> .int .u8 0
 | .str=> .string ⟨#[]⟩
 | .sl _=> .slice none 0 0
 | .DB=> .agg #[.slice none 0 0]
 | .aR=> .agg #[.int .i64 0, .slice none 0 0]
 | .bw=> .agg #[.int .i64 0, .int .i64 0, .int .i64 0, .slice none 0 0, .int .i64 0]
 | .aN=> .agg #[.int .i64 0, .slice none 0 0]
 | .iP=> .agg #[.int .i64 0, .slice none 0 0]
 | .eg=> .agg #[.int .i64 0, .int .i64 0, .int .i64 0, .int .i64 0, .slice none 0 0, .int .i64 0, .slice none 0 0, .int .i64 0]
 | .bC=> .agg #[.int .i64 0, .int .i64 0, .int .i64 0, .int .i64 0, .slice none 0 0, .int .i64 0, .slice none 0 0, .int .i64 0, .int .i64 0, .int .i64 0, .int .i64 0, .int .i64 0, .slice none 0 0, .int .i64 0, .slice none 0 0, .int .i64 0]
 | .bp=> .agg #[.int .i64 0, .slice none 0 0, .slice none 0 0, .int .i64 0, .slice none 0 0, .int .i64 0, .int .i64 0, .int .i64 0, .slice none 0 0, .int .i64 0]
 | .Ev=> .agg #[.int .i64 0, .int .i64 0, .int .i64 0, .slice none 0 0]
 | .gB=> .agg #[.int .i64 0, .int .i64 0, .int .i64 0]
 | .eD=> .agg #[.int .i64 0, .int .i64 0, .int .i64 0, .int .i64 0, .int .i64 0]
 | .Plain=> .agg #[.int .i64 0, .slice none 0 0]
 | .cY=> .agg #[.int .i64 0, .int .i64 0, .slice none 0 0, .slice none 0 0, .int .i64 0]
def dO:Tag→Nat
 | .int=>8
 | .u8=>1
 | .str=>16
 | .sl _=>24
 | .DB=>24
 | .aR=>32
 | .bw=>56
 | .aN=>32
 | .iP=>32
 | .eg=>96
 | .bC=>192
 | .bp=>144
 | .Ev=>48
 | .gB=>24
 | .eD=>40
 | .Plain=>32
 | .cY=>72
theorem lK:(t:Tag)→(eZ t).cells.size=kk t
 | .int=>rfl
 | .u8=>rfl
 | .str=>rfl
 | .sl _=>rfl
 | .DB=>rfl
 | .aR=>rfl
 | .bw=>rfl
 | .aN=>rfl
 | .iP=>rfl
 | .eg=>rfl
 | .bC=>rfl
 | .bp=>rfl
 | .Ev=>rfl
 | .gB=>rfl
 | .eD=>rfl
 | .Plain=>rfl
 | .cY=>rfl
def flat:Tag→Bool
 | .int=>true
 | .u8=>true
 | .str=>true
 | .sl _=>false
 | .DB=>false
 | .aR=>false
 | .bw=>false
 | .aN=>false
 | .iP=>false
 | .eg=>false
 | .bC=>false
 | .bp=>false
 | .Ev=>false
 | .gB=>true
 | .eD=>true
 | .Plain=>false
 | .cY=>false
theorem VG{w:World}(t:Tag){cs:List Value}{x:T t}{fp:List Nat}(hf:flat t=true)(h:rd t w cs x fp):fp= []:=by
 cases t with
 |int=>exact(show QJ w cs x fp from h).2
 |u8=>exact(show LC w cs x fp from h).2
 |str=>exact(show YP w cs x fp from h).2.2
 |sl _=>cases hf
 |DB=>cases hf
 |aR=>cases hf
 |bw=>cases hf
 |aN=>cases hf
 |iP=>cases hf
 |eg=>cases hf
 |bC=>cases hf
 |bp=>cases hf
 |Ev=>cases hf
 |gB=>exact(show QY w cs x fp from h).2
 |eD=>exact(show Q0 w cs x fp from h).2
 |Plain=>cases hf
 |cY=>cases hf
theorem cE.lits{w:World}: ∀{z:List Value},(∀v,v∈z→v.oneCell'=true)→cE w (z.map V.lit) z []
 | [],_=>rfl
 |v::r,h=>⟨[],[],⟨rfl,h v (by simp),rfl⟩,cE.lits fun u hu=>h u (by simp[hu]),rfl⟩
theorem VH{w:World}:(t:Tag)→rd t w (eZ t).cells.toList (aI t) []
 | .int=>⟨rfl,rfl⟩
 | .u8=>⟨rfl,rfl⟩
 | .str=>⟨rfl,by decide,rfl⟩
 | .sl _=>⟨_,rfl,none,0,rfl,Nat.le_refl _,Nat.zero_le _,Or.inl ⟨rfl,rfl,rfl⟩⟩
 | .DB=>vB (c:=(eZ .DB).cells.toList.map V.lit) rfl (cE.lits (by simp[eZ,Value.cells,Value.oneCell']))
 | .aR=>wL (c:=(eZ .aR).cells.toList.map V.lit) rfl (cE.lits (by simp[eZ,Value.cells,Value.oneCell']))
 | .bw=>Dv (c:=(eZ .bw).cells.toList.map V.lit) rfl (cE.lits (by simp[eZ,Value.cells,Value.oneCell']))
 | .aN=>wM (c:=(eZ .aN).cells.toList.map V.lit) rfl (cE.lits (by simp[eZ,Value.cells,Value.oneCell']))
 | .iP=>xj (c:=(eZ .iP).cells.toList.map V.lit) rfl (cE.lits (by simp[eZ,Value.cells,Value.oneCell']))
 | .eg=>rI (c:=(eZ .eg).cells.toList.map V.lit) rfl (cE.lits (by simp[eZ,Value.cells,Value.oneCell']))
 | .bC=>Dw (c:=(eZ .bC).cells.toList.map V.lit) rfl (cE.lits (by simp[eZ,Value.cells,Value.oneCell']))
 | .bp=>Dx (c:=(eZ .bp).cells.toList.map V.lit) rfl (cE.lits (by simp[eZ,Value.cells,Value.oneCell']))
 | .Ev=>Gd (c:=(eZ .Ev).cells.toList.map V.lit) rfl (cE.lits (by simp[eZ,Value.cells,Value.oneCell']))
 | .gB=>Dy (c:=(eZ .gB).cells.toList.map V.lit) rfl (cE.lits (by simp[eZ,Value.cells,Value.oneCell']))
 | .eD=>Dz (c:=(eZ .eD).cells.toList.map V.lit) rfl (cE.lits (by simp[eZ,Value.cells,Value.oneCell']))
 | .Plain=>yC (c:=(eZ .Plain).cells.toList.map V.lit) rfl (cE.lits (by simp[eZ,Value.cells,Value.oneCell']))
 | .cY=>BN (c:=(eZ .cY).cells.toList.map V.lit) rfl (cE.lits (by simp[eZ,Value.cells,Value.oneCell']))
end
section
def Jj(_:Nat):Prop:=False
def Ge(_:World):Prop:=True
theorem Ge.keep{w w':World}(_:Ge w)(_: ∀b,Jj b→b<w.heap.size→w'.heap[b]? =w.heap[b]?):Ge w':=trivial
theorem Ge.lt{w:World}(_:Ge w){b:Nat}(hb:Jj b):b<w.heap.size:=hb.elim
end
end Go.Proofs.YtcnomgcfijjkmaaGreat.G
namespace Go.Proofs.YtcnomgcfijjkmaaGreat.L
set_option linter.all false
open Go.RowKit
section
structure fZ(fp:List Nat)(w w':World):Prop where
 os:w'.os=w.os
 tape:w'.tape=w.tape
 output:w'.output=w.output
 size:w.heap.size≤w'.heap.size
 block: ∀b,b<w.heap.size→b∉fp→w'.heap[b]? =w.heap[b]?
theorem fZ.refl(fp:List Nat)(w:World):fZ fp w w:=⟨rfl,rfl,rfl,Nat.le_refl _,fun _ _ _=>rfl⟩
theorem fZ.mono{fp fq:List Nat}{w w':World}(h:fZ fp w w')(hs: ∀b,b∈fp→b∈fq):fZ fq w w':=⟨h.os,h.tape,h.output,h.size,fun b hb hn=>h.block b hb fun hm=>hn (hs b hm)⟩
theorem fZ.trans{fp:List Nat}{a b c:World}(h:fZ fp a b)(k:fZ fp b c):fZ fp a c:=
 ⟨k.os.trans h.os,k.tape.trans h.tape,k.output.trans h.output,Nat.le_trans h.size k.size,fun i hi hn=>(k.block i (Nat.lt_of_lt_of_le hi h.size) hn).trans (h.block i hi hn)⟩
theorem fZ.below{fp:List Nat}{w w':World}{B:Nat}(h:fZ fp w w')(hB:B≤w.heap.size)(hg: ∀b,b∈fp→B≤b):Below B w w':=
 ⟨h.os,h.tape,h.output,h.size,fun b hb=>h.block b (Nat.lt_of_lt_of_le hb hB) fun hm=>Nat.not_le_of_lt hb (hg b hm)⟩
theorem fZ.bI{fp fq:List Nat}{w w':World}(h:fZ fp w w')(hl: ∀b,b∈fq→b<w.heap.size)(hd: ∀b,b∈fq→b∉fp):eU w w' fq:=fun b hb=>h.block b (hl b hb) (hd b hb)
section
variable{α:Type}{k:Nat}{E:ER α}{lo e g n:Nat}{w w':World}{l:List α}{bA:List (List Nat)}
theorem vK{bA:List (List Nat)}(h:bA.flatten.Nodup){i j:Nat}{f f':List Nat}(hi:bA[i]? =some f)(hj:bA[j]? =some f')(hne:i≠j): ∀b,b∈f→b∉f':=by
 intro b hb hb'
 have hp:=(List.pairwise_flatten.1 h).2
 rw[List.pairwise_iff_getElem]at hp
 obtain⟨hi1,rfl⟩:=List.getElem?_eq_some_iff.1 hi
 obtain⟨Rz,rfl⟩:=List.getElem?_eq_some_iff.1 hj
 rcases Nat.lt_or_ge i j with h1|h1
 ·exact hp i j hi1 Rz h1 b hb b hb' rfl
 ·exact hp j i Rz hi1 (by omega) b hb' b hb rfl
theorem Part.set(G:fX k E)(h:Part k E lo e w g n l bA){i:Nat}{f:List Nat}{cs:List Value}{x':α}(hi:i<l.length)(hin:i<n)(hf:bA[i]? =some f)(hE:E w cs x' f):
  Part k E lo e (w.setCells g (i*k) cs) g n (l.set i x') bA:=by
 have hlen:=G.len hE
 have hnd:=h.own.nodup
 rw[List.nodup_cons]at hnd
 obtain⟨c,hc,hs⟩:=h.Ao
 obtain⟨c',I5,hs'⟩:=eE g e cs (i*k) w c hc
 have VC:w.there g (i*k) cs.length:=by rw[hlen];exact h.there _ hin
 have Di: ∀b,b∈bA.flatten→b≠g:=fun b hb e=>hnd.1 (e▸hb)
 have Nm:eU w (w.setCells g (i*k) cs) bA.flatten:=fun b hb=>cW g cs _ w b (Di b hb)
 refine⟨⟨c',I5,by rw[hs',hs]⟩,⟨by rw[List.length_set];exact h.el.1,fun j y fy hy vA=> ?_⟩,⟨h.own.nodup,h.own.ge,fun b hb=> ?_⟩,h.cap⟩
 ·by_cases hj:i=j
  ·subst hj
   rw[List.getElem?_set_self hi]at hy
   simp only[oI]at hy
   subst hy
   rw[hf]at vA
   simp only[oI]at vA
   subst vA
   refine⟨cs,?_,G.bI hE (Nm.sub fun b hb=>cX hf hb)⟩
   rw[Nat.zero_add]
   exact World.rangeAt_setCells_same w g _ cs VC
  ·rw[List.getElem?_set_ne hj]at hy
   obtain⟨cy,hr,QM⟩:=h.el.2 j y fy hy vA
   refine⟨cy,World.rangeAt_setCells_apart hr _ _ _ (Or.inr ?_),G.bI QM (Nm.sub fun b hb=>cX vA hb)⟩
   rw[G.len QM,hlen]
   rcases Nat.lt_or_ge j i with h1|h1
   ·left
    have:=Nat.mul_le_mul_right k (show j+1≤i by omega)
    rw[Nat.add_mul]at this;omega
   ·right
    have:=Nat.mul_le_mul_right k (show i+1≤j by omega)
    rw[Nat.add_mul]at this;omega
 ·rcases List.mem_cons.1 hb with rfl|hb
  ·exact⟨_,_,I5⟩
  ·rw[Nm b hb];exact h.own.kind b (List.mem_cons_of_mem _ hb)
theorem lN(G:fX k E){g o n:Nat}{c:Array Value}(hc:w.heap[g]? =some (.cells c e (0,0)))(hfit:o+n*k≤c.size)(hn:l.length≤n)(hcap:n≤maxLen)(hel:qn k E w g o l bA)(hown:Own lo w (g::bA.flatten)):
  jm k E lo e w (.slice (some ⟨g,o,none⟩) l.length n) l (g::bA.flatten):=by
 have hk:l.length*k≤n*k:=Nat.mul_le_mul_right k hn
 have yx:c.toList.length=c.size:=Array.length_toList
 refine⟨(c.toList.drop o).take (l.length*k),bA,⟨by rw[List.length_take,List.length_drop];omega,Or.inr ⟨g,o,n,c,rfl,hown.ge g (by simp),hc,hn,hcap,hfit,rfl⟩⟩,hel.1,fun i x f hx hf=> ?_,rfl,hown⟩
 obtain⟨cs,hr,hE⟩:=hel.2 i x f hx hf
 have hlen:=G.len hE
 have hi:i<l.length:=(List.getElem?_eq_some_iff.1 hx).1
 have h5:i*k+k≤l.length*k:=by
  have:=Nat.mul_le_mul_right k (show i+1≤l.length by omega)
  rw[Nat.add_mul]at this;omega
 have:(((c.toList.drop o).take (l.length*k)).drop (i*k)).take k=cs:=by
  apply List.ext_getElem?
  intro j
  by_cases hj:j<k
  ·rw[List.getElem?_take,if_pos hj,List.getElem?_drop,List.getElem?_take,if_pos (by omega),List.getElem?_drop]
   have h6:=hr j _ (List.getElem?_eq_getElem (by omega))
   simp[World.cell?,hc]at h6
   rw[List.getElem?_eq_getElem (show j<cs.length by omega), ←Nat.add_assoc]
   simp[h6]
  ·rw[List.getElem?_take,if_neg hj,List.getElem?_eq_none (by omega)]
 rw[this];exact hE
theorem jm.parts{v:Value}{fp:List Nat}(h:jm k E lo e w v l fp):(v= .slice none 0 0∧l= []∧fp= [])∨ ∃g o n c, ∃bA:List (List Nat),v= .slice (some ⟨g,o,none⟩) l.length n∧l.length≤n∧n≤maxLen∧w.heap[g]? =some (.cells c e (0,0))∧o+n*k≤c.size∧fp=g::bA.flatten:=by
 obtain⟨xs,bA,⟨hxl,ho⟩,hl,hel,gC,hown⟩:=h
 rcases ho with⟨rfl,h0⟩| ⟨g,o,cap,cur,rfl,hg,hc,hn,YQ,hcs,Qz⟩
 ·have hl0:l= []:=List.eq_nil_of_length_eq_zero h0
  have:bA= []:=List.eq_nil_of_length_eq_zero (by omega)
  exact Or.inl ⟨rfl,hl0,by rw[gC,this];rfl⟩
 ·exact Or.inr ⟨g,o,cap,cur,bA,rfl,hn,YQ,hc,hcs,gC⟩
structure RC{α:Type}(k:Nat)(E:ER α)(lo:Nat)(w:World)(b off:Nat)(l:List α)(bA:List (List Nat)):Prop where
 el:qn k E w b off l bA
 own:Own lo w (b::bA.flatten)
theorem RC.lt{b off:Nat}(h:RC k E lo w b off l bA):b<w.heap.size:=h.own.lt b (by simp)
theorem RC.set(G:fX k E){b off:Nat}(h:RC k E lo w b off l bA){i o:Nat}{f:List Nat}{vs cs:List Value}{x':α}(hi:i<l.length)(ho:o+vs.length≤k)(hf:bA[i]? =some f)
  (hr:(w.setCells b (off+i*k+o) vs).rangeAt b (off+i*k) cs)(hE:E w cs x' f):
  RC k E lo (w.setCells b (off+i*k+o) vs) b off (l.set i x') bA:=by
 have hlen:=G.len hE
 have hnd:=h.own.nodup
 rw[List.nodup_cons]at hnd
 have Di: ∀c,c∈bA.flatten→c≠b:=fun c hc e=>hnd.1 (e▸hc)
 have Nm:eU w (w.setCells b (off+i*k+o) vs) bA.flatten:=fun c hc=>cW b vs _ w c (Di c hc)
 refine⟨⟨by rw[List.length_set];exact h.el.1,fun j y fy hy vA=> ?_⟩,⟨h.own.nodup,h.own.ge,fun c hc=> ?_⟩⟩
 ·by_cases hj:i=j
  ·subst hj
   rw[List.getElem?_set_self hi]at hy
   simp only[oI]at hy
   subst hy
   rw[hf]at vA
   simp only[oI]at vA
   subst vA
   exact⟨cs,hr,G.bI hE (Nm.sub fun b hb=>cX hf hb)⟩
  ·rw[List.getElem?_set_ne hj]at hy
   obtain⟨cy,hr,QM⟩:=h.el.2 j y fy hy vA
   refine⟨cy,World.rangeAt_setCells_apart hr _ _ _ (Or.inr ?_),G.bI QM (Nm.sub fun b hb=>cX vA hb)⟩
   rw[G.len QM]
   rcases Nat.lt_or_ge j i with h1|h1
   ·left
    have:=Nat.mul_le_mul_right k (show j+1≤i by omega)
    rw[Nat.add_mul]at this;omega
   ·right
    have:=Nat.mul_le_mul_right k (show i+1≤j by omega)
    rw[Nat.add_mul]at this;omega
 ·rcases List.mem_cons.1 hc with rfl|hc
  ·obtain⟨c0,e0,hk⟩:=h.own.kind c (by simp)
   obtain⟨c',I5,_⟩:=eE c e0 vs (off+i*k+o) w c0 hk
   exact⟨_,_,I5⟩
  ·rw[Nm c hc];exact h.own.kind c (List.mem_cons_of_mem _ hc)
end
end
end Go.Proofs.YtcnomgcfijjkmaaGreat.L
