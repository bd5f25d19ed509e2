/-
  Slices that the call has made, written again: an element replaced; an element's own memory written by a call.
-/
import Derived.OpenShut
import Derived.ProofKit
import Derived.Test.YtkcegdacbddipaaGreatM2
open Go.Addr renaming add_mid→eM
open Go.Value renaming cells→eu,oneCell'→ew
open Go.World renaming cell?→qX,cells?_some→tS,rangeAt_setCells_apart→dI
open List renaming append_nil→cW,eq_nil_of_length_eq_zero→bR,getElem?_drop→cJ,getElem?_eq_getElem→au,getElem?_eq_some_iff→aI,getElem?_set_ne→hY,getElem?_set_self→eY,getElem?_take→cE,length_set→bH,mem_cons→aW,mem_cons_of_mem→aJ,mem_singleton→aP,nodup_cons→b9,range→bA
open Nat renaming add_mul→cG,le_refl→bh,lt_of_lt_of_le→nr,lt_or_ge→mS,mul_le_mul_right→bI,zero_le→aA
open Or renaming inl→bG,inr→bg
open UInt8 renaming ofNat→dJ,toNat_ofNat'→A2
namespace Go.Proofs.YtkcegdacbddipaaGreat.L
set_option linter.all false
open Go.RowKit Go.ChangeShapes Go.WideShapes Go.ChangeAt D
section
section
variable{H:Type}(enc:TypeId×Value→H)(P:Program)(w:World)(spare:Nat→Bool)(held:Bool)
def VA{α:Type}(t:TypeId)(E:ER α)(W:α→Prop):Prop:=
 ∀fuel cs y,DataW.trod enc P w 0 spare held fuel t cs=some y→ ∃x fp,E w cs x fp∧W x
variable{enc P w spare held}
theorem VB{t:TypeId}(ht:P.underlying t=some (.int .u8)):VA enc P w spare held t QL (fun _=>True):=by
 intro fuel cs y h
 obtain⟨n,rfl,_,hw⟩:=DataW.trod_int ht h
 have hb:=bounds_u8 hw
 refine⟨dJ n.toNat,[],⟨?_,rfl⟩,trivial⟩
 have:((dJ n.toNat).toNat:Int)=n:=by
  rw[A2];omega
 rw[this]
theorem VC{α:Type} [Inhabited α]{k:Nat}{E:ER α}{W:α→Prop}{t e:TypeId}(ht:P.underlying t=some (.slice e))(hk:P.cellsOf e=k)(hpos:0<k)(ho:VA enc P w spare held e E W)(hspare: ∀b,spare b=true:=by exact fun _=>rfl):
  VA enc P w spare held t (ESl k E) (fun l=> ∀x,x∈l→W x):=by
 intro fuel cs y h
 rcases Go.Deep.open_slice ht h with⟨rfl,_⟩| ⟨a,len,cap,m,n,D,Pl,rfl,_,hl,hm,hmm,_,hx⟩
 ·exact⟨[],[],⟨_,rfl,none,0,rfl,bh _,aA _,bG ⟨rfl,rfl,rfl⟩⟩,by simp⟩
 rw[hk]at hx
 rw[if_pos (hspare _)]at hmm
 subst hmm
 by_cases h0:m=0
 ·subst h0
  have:len=0:=by omega
  subst this
  exact⟨[],[],⟨_,rfl,some a,0,rfl,hl,hm,bG ⟨rfl,rfl,rfl⟩⟩,by simp⟩
 have hsp:a.spot=none:=by
  obtain⟨cs',hc,_⟩:=hx 0 (by omega)
  obtain⟨_,h1,h2⟩:=tS hc
  have h3:=h2 0 (by omega)
  have ha:((a.add (0*k)).add 0)=a:=by simp[Addr.add]
  rw[ha]at h3
  have hlen:0<cs'.length:=by omega
  rw[au hlen]at h3
  simp only[qX]at h3
  split at h3
  ·split at h3
   ·cases h3
   ·rename_i hs;simpa using hs
  ·cases h3
 obtain⟨b,off,rfl⟩: ∃b off,a=⟨b,off,none⟩:=⟨a.block,a.off,by cases a;simp_all⟩
 have hel: ∀i,i<len→ ∃q:α×List Nat,(∃cs',w.rangeAt b (off+i*k) cs'∧E w cs' q.1 q.2)∧W q.1:=by
  intro i hi
  obtain⟨cs',hc,htr⟩:=hx i (by omega)
  obtain⟨x,fp,hE,hW⟩:=ho _ _ _ htr
  obtain⟨_,h1,h2⟩:=tS hc
  refine⟨(x,fp),⟨cs',fun j v hv=> ?_,hE⟩,hW⟩
  have hj:=(aI.1 hv).1
  have:=h2 j (by omega)
  rw[eM,eM,hv]at this
  exact this
 obtain⟨f,hf⟩:=Go.Deep.choose_lt hel
 refine⟨(bA len).map fun i=>(f i).1,b::((bA len).map fun i=>(f i).2).flatten,⟨_,rfl,some ⟨b,off,none⟩,m,by simp,by simpa using hl,hm,bg ⟨b,off,(bA len).map fun i=>(f i).2,rfl,?_,rfl,by simp,?_⟩⟩,?_⟩
 ·obtain⟨cs',hc,_⟩:=hx (m-1) (by omega)
  obtain⟨_,h1,h2⟩:=tS hc
  have h3:=h2 (k-1) (by omega)
  rw[eM,eM,au (by omega)]at h3
  have hmk:off+(m-1)*k+(k-1)+1=off+m*k:=by
   obtain⟨q,rfl⟩: ∃q,m=q+1:=⟨m-1,by omega⟩
   rw[Nat.add_sub_cancel,cG];omega
  simp only[qX]at h3
  split at h3
  ·rename_i c e fz hb
   refine⟨c,e,fz,hb,?_⟩
   have h4:off+(m-1)*k+(k-1)<c.size:=by
    apply Decidable.byContradiction
    intro hge
    simp[Array.getElem?_eq_none (show c.size≤off+(m-1)*k+(k-1)by omega)]at h3
   omega
  ·cases h3
 ·intro i x fp hx iV
  have hi:i<len:=by have:=(aI.1 hx).1;simpa using this
  simp[hi]at hx iV
  subst hx;subst iV
  exact(hf i hi).1
 ·intro x hx
  simp only[List.mem_map,List.mem_range]at hx
  obtain⟨i,hi,rfl⟩:=hx
  exact(hf i hi).2
end
end
end Go.Proofs.YtkcegdacbddipaaGreat.L
namespace Go.Proofs.YtkcegdacbddipaaGreat.G
set_option linter.all false
open Go.RowKit L D
section
inductive Tag where
 |int|u8|str|sl(t:Tag)|DB|bC|cg|bt|mj|gS|cD|cm|Ev|Cy|gB|Plain|eN
 deriving DecidableEq
@[reducible] def T:Tag→Type
  | .int=>Int
  | .u8=>UInt8
  | .str=>List UInt8
  | .sl t=>List (T t)
  | .DB=>DB
  | .bC=>bC
  | .cg=>cg
  | .bt=>bt
  | .mj=>mj
  | .gS=>gS
  | .cD=>cD
  | .cm=>cm
  | .Ev=>Ev
  | .Cy=>Cy
  | .gB=>gB
  | .Plain=>Plain
  | .eN=>eN
def kk:Tag→Nat
 | .int=>1
 | .u8=>1
 | .str=>1
 | .sl _=>1
 | .DB=>1
 | .bC=>2
 | .cg=>5
 | .bt=>2
 | .mj=>2
 | .gS=>8
 | .cD=>16
 | .cm=>10
 | .Ev=>4
 | .Cy=>3
 | .gB=>5
 | .Plain=>2
 | .eN=>5
def rd:(t:Tag)→ER (T t)
 | .int=>Vg
 | .u8=>QL
 | .str=>adu
 | .sl t=>ESl (kk t) (rd t)
 | .DB=>EDB
 | .bC=>AY
 | .cg=>Vl
 | .bt=>AZ
 | .mj=>Vm
 | .gS=>S7
 | .cD=>Vn
 | .cm=>ZM
 | .Ev=>EEv
 | .Cy=>Vr
 | .gB=>Vu
 | .Plain=>Kg
 | .eN=>QY
theorem fP:(t:Tag)→jA (kk t) (rd t)
 | .int=>wO
 | .u8=>lq
 | .str=>Vh
 | .sl t=>uP (fP t)
 | .DB=>qB
 | .bC=>wT
 | .cg=>F0
 | .bt=>wU
 | .mj=>wV
 | .gS=>nj
 | .cD=>F1
 | .cm=>Vq
 | .Ev=>ZN
 | .Cy=>Vt
 | .gB=>Vv
 | .Plain=>O3
 | .eN=>S8
theorem iW:(t:Tag)→0<kk t
 | .int=>by decide
 | .u8=>by decide
 | .str=>by decide
 | .sl _=>Nat.one_pos
 | .DB=>by decide
 | .bC=>by decide
 | .cg=>by decide
 | .bt=>by decide
 | .mj=>by decide
 | .gS=>by decide
 | .cD=>by decide
 | .cm=>by decide
 | .Ev=>by decide
 | .Cy=>by decide
 | .gB=>by decide
 | .Plain=>by decide
 | .eN=>by decide
def aO:(t:Tag)→T t
 | .int=>(0:Int)
 | .u8=>(0:UInt8)
 | .str=>([]:List UInt8)
 | .sl t=>([]:List (T t))
 | .DB=>(default:DB)
 | .bC=>(default:bC)
 | .cg=>(default:cg)
 | .bt=>(default:bt)
 | .mj=>(default:mj)
 | .gS=>(default:gS)
 | .cD=>(default:cD)
 | .cm=>(default:cm)
 | .Ev=>(default:Ev)
 | .Cy=>(default:Cy)
 | .gB=>(default:gB)
 | .Plain=>(default:Plain)
 | .eN=>(default:eN)
inductive V where
 |any
 |lit(v:Value)
 |sl(t:Tag)(l:List (T t))
 |own(n:Nat)
 |ptr(n off:Nat)
 |rj(n i off:Nat)
 |ip(t:Tag)(x:T t)(off:Nat)
 |vw(n:Nat)(p:Option (Nat×Nat))(t:Tag)(l:List (T t))
 |Iq(n:Nat)(p:Option (Nat×Nat×Nat))(t:Tag)(x:T t)(off:Nat)
 |Ir(n:Nat)(t:Tag)(l:List (T t))
 |mix(n:Nat)(c:Bool)(t:Tag)(l:List (T t))
 |yC(n:Nat)
 |Fi(f:FuncId)(n:Nat)
 |zf(k:Nat)
 |raw(v:Value)
 |vO(v:Value)(t:Tag)(l:List (T t))
def RI(w:World):V→Value→List Nat→Prop
 | .lit v,u,fp=>u=v∧v.oneCell'=true∧fp= []
 | .sl t l,u,fp=>Sl (kk t) (rd t) w u l fp
 |_,_,_=>False
def dM(w:World):List V→List Value→List Nat→Prop
 | [],[],fp=>fp= []
 |V::Vs,u::us,fp=> ∃f g,RI w V u f∧dM w Vs us g∧fp=f++g
 |_,_,_=>False
theorem dM.nil{w:World}:dM w [] [] []:=rfl
theorem dM.lit{w:World}{v:Value}{Vs:List V}{us:List Value}{g:List Nat}(hv:v.oneCell'=true)(h:dM w Vs us g):dM w (.lit v::Vs) (v::us) g:=⟨[],g,⟨rfl,hv,rfl⟩,h,rfl⟩
theorem dM.sl{w:World}{u:Value}{t:Tag}{l:List (T t)}{f g:List Nat}{Vs:List V}{us:List Value}(k:Sl (kk t) (rd t) w u l f)(h:dM w Vs us g):dM w (.sl t l::Vs) (u::us) (f++g):=⟨f,g,k,h,rfl⟩
theorem dM.app{w:World}: ∀{Vs Us:List V} {vs us:List Value} {f g:List Nat},dM w Vs vs f→dM w Us us g→dM w (Vs++Us) (vs++us) (f++g)
 | [],_,[],_,_,_,h,k=>by rw[show _=_ from h];exact k
 |_::_,_,_::_,_,_,_,⟨f1,f2,h1,h2,e⟩,k=>⟨f1,f2++_,h1,dM.app h2 k,by rw[e,List.append_assoc]⟩
 | [],_,_::_,_,_,_,h,_=>h.elim
 |_::_,_,[],_,_,_,h,_=>h.elim
theorem dM.len{w:World}: ∀{Vs:List V} {us:List Value} {fp:List Nat},dM w Vs us fp→us.length=Vs.length
 | [],[],_,_=>rfl
 |_::_,_::_,_,⟨_,_,_,h,_⟩=>by simp[dM.len h]
 | [],_::_,_,h=>h.elim
 |_::_,[],_,h=>h.elim
def bJ(x:DB):List V:= [.sl (.sl .u8) x.rows]
def uS(x:bC):List V:= [.lit (.int .i64 x.client)]++bJ x.share
def dr(x:cg):List V:= [.lit (.int .i64 x.id), .lit (.int .i64 x.rows), .lit (.int .i64 x.round), .sl .bC x.received, .lit (.int .i64 x.behavior)]
def zT(x:bt):List V:= [.lit (.int .i64 x.round)]++bJ x.db
def fY(x:mj):List V:= [.lit (.int .i64 x.rows), .sl .bt x.rounds]
def c9(x:gS):List V:= [.lit (.int .i64 x.id), .lit (.int .i64 x.gZ), .lit (.int .i64 x.key), .lit (.int .i64 x.seed), .sl (.sl .u8) x.bz, .lit (.int .i64 x.sent), .sl (.sl .u8) x.inbox, .lit (.int .i64 x.next)]
def dZ(x:cD):List V:=c9 x.live++c9 x.saved
def cq(x:cm):List V:= [.lit (.int .i64 x.rows), .sl .cg x.aC, .sl .cD x.aq]++fY x.aN++ [.lit (.int .i64 x.bZ), .lit (.int .i64 x.seed), .lit (.int .i64 x.round), .sl .int x.replaced, .lit (.int .i64 x.cancelled)]
def O4(x:Ev):List V:= [.lit (.int .i64 x.kind), .lit (.int .i64 x.node), .lit (.int .i64 x.value), .sl .u8 x.body]
def Ki(x:Cy):List V:= [.lit (.int .i64 x.fr), .lit (.int .i64 x.to), .lit (.int .i64 x.bytes)]
def nk(x:gB):List V:= [.lit (.int .i64 x.server), .lit (.int .i64 x.client), .lit (.int .i64 x.round), .lit (.int .i64 x.qZ), .lit (.int .i64 x.OJ)]
def lz(x:Plain):List V:= [.lit (.int .i64 x.kind), .sl .u8 x.body]
def iM(x:eN):List V:= [.lit (.int .i64 x.server), .lit (.int .i64 x.round), .sl .int x.selection, .sl .u8 x.data, .lit (.int .i64 x.OJ)]
def dec:(t:Tag)→T t→List V
 | .int,n=> [.lit (.int .i64 n)]
 | .u8,n=> [.lit (.int .u8 n.toNat)]
 | .str,s=> [.lit (.string ⟨s.toArray⟩)]
 | .sl t,l=> [.sl t l]
 | .DB,x=>bJ x
 | .bC,x=>uS x
 | .cg,x=>dr x
 | .bt,x=>zT x
 | .mj,x=>fY x
 | .gS,x=>c9 x
 | .cD,x=>dZ x
 | .cm,x=>cq x
 | .Ev,x=>O4 x
 | .Cy,x=>Ki x
 | .gB,x=>nk x
 | .Plain,x=>lz x
 | .eN,x=>iM x
theorem F8{w:World}{cs:List Value}{x:DB}{fp:List Nat}:EDB w cs x fp→dM w (bJ x) cs fp:=by
 rintro⟨v0,f0,rfl,h0,rfl⟩
 have h:=(dM.sl (t:=(.sl .u8)) h0 dM.nil)
 simpa[bJ]using h
theorem Kj{w:World}{cs:List Value}{x:bC}{fp:List Nat}:AY w cs x fp→dM w (uS x) cs fp:=by
 rintro⟨v0,f0,rfl,h0,rfl⟩
 have h:=(dM.app (dM.lit (w:=w) (v:= .int .i64 x.client) rfl dM.nil) (F8 h0))
 simpa[uS]using h
theorem Tb{w:World}{cs:List Value}{x:cg}{fp:List Nat}:Vl w cs x fp→dM w (dr x) cs fp:=by
 rintro⟨v0,f0,rfl,h0,rfl⟩
 have h:=(dM.lit (w:=w) (v:= .int .i64 x.id) rfl (dM.lit (w:=w) (v:= .int .i64 x.rows) rfl (dM.lit (w:=w) (v:= .int .i64 x.round) rfl (dM.sl (t:= .bC) h0 (dM.lit (w:=w) (v:= .int .i64 x.behavior) rfl dM.nil)))))
 simpa[dr]using h
theorem Kk{w:World}{cs:List Value}{x:bt}{fp:List Nat}:AZ w cs x fp→dM w (zT x) cs fp:=by
 rintro⟨v0,f0,rfl,h0,rfl⟩
 have h:=(dM.app (dM.lit (w:=w) (v:= .int .i64 x.round) rfl dM.nil) (F8 h0))
 simpa[zT]using h
theorem Jd{w:World}{cs:List Value}{x:mj}{fp:List Nat}:Vm w cs x fp→dM w (fY x) cs fp:=by
 rintro⟨v0,f0,rfl,h0,rfl⟩
 have h:=(dM.lit (w:=w) (v:= .int .i64 x.rows) rfl (dM.sl (t:= .bt) h0 dM.nil))
 simpa[fY]using h
theorem CC{w:World}{cs:List Value}{x:gS}{fp:List Nat}:S7 w cs x fp→dM w (c9 x) cs fp:=by
 rintro⟨v0,v1,f0,f1,rfl,h0,h1,rfl⟩
 have h:=(dM.lit (w:=w) (v:= .int .i64 x.id) rfl (dM.lit (w:=w) (v:= .int .i64 x.gZ) rfl (dM.lit (w:=w) (v:= .int .i64 x.key) rfl (dM.lit (w:=w) (v:= .int .i64 x.seed) rfl (dM.sl (t:=(.sl .u8)) h0 (dM.lit (w:=w) (v:= .int .i64 x.sent) rfl (dM.sl (t:=(.sl .u8)) h1 (dM.lit (w:=w) (v:= .int .i64 x.next) rfl dM.nil))))))))
 simpa[c9]using h
theorem Tc{w:World}{cs:List Value}{x:cD}{fp:List Nat}:Vn w cs x fp→dM w (dZ x) cs fp:=by
 rintro⟨v0,v1,f0,f1,rfl,h0,h1,rfl⟩
 have h:=(dM.app (CC h0) (CC h1))
 simpa[dZ]using h
theorem Td{w:World}{cs:List Value}{x:cm}{fp:List Nat}:ZM w cs x fp→dM w (cq x) cs fp:=by
 rintro⟨v0,v1,v2,v3,f0,f1,f2,f3,rfl,h0,h1,h2,h3,rfl⟩
 have h:=(dM.app (dM.app (dM.lit (w:=w) (v:= .int .i64 x.rows) rfl (dM.sl (t:= .cg) h0 (dM.sl (t:= .cD) h1 dM.nil))) (Jd h2)) (dM.lit (w:=w) (v:= .int .i64 x.bZ) rfl (dM.lit (w:=w) (v:= .int .i64 x.seed) rfl (dM.lit (w:=w) (v:= .int .i64 x.round) rfl (dM.sl (t:= .int) h3 (dM.lit (w:=w) (v:= .int .i64 x.cancelled) rfl dM.nil))))))
 simpa[cq]using h
theorem VD{w:World}{cs:List Value}{x:Ev}{fp:List Nat}:EEv w cs x fp→dM w (O4 x) cs fp:=by
 rintro⟨v0,f0,rfl,h0,rfl⟩
 have h:=(dM.lit (w:=w) (v:= .int .i64 x.kind) rfl (dM.lit (w:=w) (v:= .int .i64 x.node) rfl (dM.lit (w:=w) (v:= .int .i64 x.value) rfl (dM.sl (t:= .u8) h0 dM.nil))))
 simpa[O4]using h
theorem Te{w:World}{cs:List Value}{x:Cy}{fp:List Nat}:Vr w cs x fp→dM w (Ki x) cs fp:=by
 rintro⟨rfl,rfl⟩
 have h:=(dM.lit (w:=w) (v:= .int .i64 x.fr) rfl (dM.lit (w:=w) (v:= .int .i64 x.to) rfl (dM.lit (w:=w) (v:= .int .i64 x.bytes) rfl dM.nil)))
 simpa[Ki]using h
theorem Tf{w:World}{cs:List Value}{x:gB}{fp:List Nat}:Vu w cs x fp→dM w (nk x) cs fp:=by
 rintro⟨rfl,rfl⟩
 have h:=(dM.lit (w:=w) (v:= .int .i64 x.server) rfl (dM.lit (w:=w) (v:= .int .i64 x.client) rfl (dM.lit (w:=w) (v:= .int .i64 x.round) rfl (dM.lit (w:=w) (v:= .int .i64 x.qZ) rfl (dM.lit (w:=w) (v:= .int .i64 x.OJ) rfl dM.nil)))))
 simpa[nk]using h
theorem Mi{w:World}{cs:List Value}{x:Plain}{fp:List Nat}:Kg w cs x fp→dM w (lz x) cs fp:=by
 rintro⟨v0,f0,rfl,h0,rfl⟩
 have h:=(dM.lit (w:=w) (v:= .int .i64 x.kind) rfl (dM.sl (t:= .u8) h0 dM.nil))
 simpa[lz]using h
theorem O5{w:World}{cs:List Value}{x:eN}{fp:List Nat}:QY w cs x fp→dM w (iM x) cs fp:=by
 rintro⟨v0,v1,f0,f1,rfl,h0,h1,rfl⟩
 have h:=(dM.lit (w:=w) (v:= .int .i64 x.server) rfl (dM.lit (w:=w) (v:= .int .i64 x.round) rfl (dM.sl (t:= .int) h0 (dM.sl (t:= .u8) h1 (dM.lit (w:=w) (v:= .int .i64 x.OJ) rfl dM.nil)))))
 simpa[iM]using h
theorem reads{w:World}:(t:Tag)→{cs:List Value}→{x:T t}→{fp:List Nat}→rd t w cs x fp→dM w (dec t x) cs fp
 | .int,_,_,_,⟨rfl,rfl⟩=>dM.lit (v:= .int .i64 _) rfl dM.nil
 | .u8,_,_,_,⟨rfl,rfl⟩=>dM.lit (v:= .int .u8 _) rfl dM.nil
 | .str,_,_,_,⟨rfl,_,rfl⟩=>dM.lit (v:= .string _) rfl dM.nil
 | .sl t,_,_,_,⟨v,rfl,h⟩=>by have:=dM.sl (t:=t) h (dM.nil);rwa [cW]at this
 | .DB,_,_,_,h=>F8 h
 | .bC,_,_,_,h=>Kj h
 | .cg,_,_,_,h=>Tb h
 | .bt,_,_,_,h=>Kk h
 | .mj,_,_,_,h=>Jd h
 | .gS,_,_,_,h=>CC h
 | .cD,_,_,_,h=>Tc h
 | .cm,_,_,_,h=>Td h
 | .Ev,_,_,_,h=>VD h
 | .Cy,_,_,_,h=>Te h
 | .gB,_,_,_,h=>Tf h
 | .Plain,_,_,_,h=>Mi h
 | .eN,_,_,_,h=>O5 h
end
section
def jX:(t t':Tag)→List (T t')→Option (List (T t))
 | .int, .int,l=>some l
 | .u8, .u8,l=>some l
 | .str, .str,l=>some l
 | .sl .int, .sl .int,l=>some l
 | .sl .u8, .sl .u8,l=>some l
 | .sl .str, .sl .str,l=>some l
 | .sl (.sl .u8), .sl (.sl .u8),l=>some l
 | .sl (.sl .int), .sl (.sl .int),l=>some l
 | .DB, .DB,l=>some l
 | .bC, .bC,l=>some l
 | .cg, .cg,l=>some l
 | .bt, .bt,l=>some l
 | .mj, .mj,l=>some l
 | .gS, .gS,l=>some l
 | .cD, .cD,l=>some l
 | .cm, .cm,l=>some l
 | .Ev, .Ev,l=>some l
 | .Cy, .Cy,l=>some l
 | .gB, .gB,l=>some l
 | .Plain, .Plain,l=>some l
 | .eN, .eN,l=>some l
 |_,_,_=>none
theorem fL{t t':Tag}{l:List (T t')}{l2:List (T t)}(h:jX t t' l=some l2): ∃e:t'=t,l2=e▸l:=by
 unfold jX at h
 split at h<;>first
  | (simp only[oI]at h;exact⟨rfl,h.symm⟩)
  |cases h
def gi:V→Option Int
 | .lit (.int .i64 n)=>some n
 |_=>none
def gs(t:Tag):V→Option (List (T t))
 | .sl t' l=>jX t t' l
 | .lit (.slice none 0 0)=>some []
 |_=>none
theorem gU{w:World}{v:V}{u:Value}{f:List Nat}{n:Int}(h:gi v=some n)(hr:RI w v u f):u= .int .i64 n∧f= []:=by
 unfold gi at h
 split at h
 ·simp only[oI]at h
  subst h
  exact⟨hr.1,hr.2.2⟩
 ·cases h
theorem tT{w:World}{t:Tag}{v:V}{u:Value}{f:List Nat}{l:List (T t)}(h:gs t v=some l)(hr:RI w v u f):Sl (kk t) (rd t) w u l f:=by
 unfold gs at h
 split at h
 ·rename_i t' l'
  obtain⟨he,rfl⟩:=fL h
  subst he
  exact hr
 ·simp only[oI]at h
  subst h
  obtain⟨rfl,_,rfl⟩:=hr
  exact⟨none,0,rfl,bh _,aA _,bG ⟨rfl,rfl,rfl⟩⟩
 ·cases h
def CD:List V→Option DB
 | [a0]=>match gs (.sl .u8) a0 with
   |some x0=>some ⟨x0⟩
   |_=>none
 |_=>none
theorem yD{w:World}{c:List V}{us:List Value}{fp:List Nat}{x:DB}(h:CD c=some x)(hr:dM w c us fp):EDB w us x fp:=by
 unfold CD at h
 split at h
 ·rename_i a0
  split at h
  ·rename_i x0 e0
   simp only[oI]at h
   subst h
   match us,hr with
   | [u0],⟨f0,g0,r0,h9,q0⟩=>
     have h9:g0= []:=h9
     have z0:=tT e0 r0
     refine⟨u0,f0,?_,z0,?_⟩
     ·rfl
     ·simp[q0,h9]
  ·cases h
 ·cases h
def uT:List V→Option bC
 | [a0,a1]=>match gi a0,CD [a1]with
   |some x0,some x1=>some ⟨x0,x1⟩
   |_,_=>none
 |_=>none
theorem zF{w:World}{c:List V}{us:List Value}{fp:List Nat}{x:bC}(h:uT c=some x)(hr:dM w c us fp):AY w us x fp:=by
 unfold uT at h
 split at h
 ·rename_i a0 a1
  split at h
  ·rename_i x0 x1 e0 e1
   simp only[oI]at h
   subst h
   match us,hr with
   | [u0,u1],⟨f0,g0,r0,⟨f1,g1,r1,h9,q1⟩,q0⟩=>
     have h9:g1= []:=h9
     obtain⟨z0,y0⟩:=gU e0 r0
     have z1:=yD (w:=w) (us:= [u1]) (fp:=(f1++ [])) e1 ⟨f1,_,r1,rfl,rfl⟩
     refine⟨[u1],(f1++ []),?_,z1,?_⟩
     ·simp[z0]
     ·simp[q0,q1,h9,y0]
  ·cases h
 ·cases h
def Fj:List V→Option cg
 | [a0,a1,a2,a3,a4]=>match gi a0,gi a1,gi a2,gs .bC a3,gi a4 with
   |some x0,some x1,some x2,some x3,some x4=>some ⟨x0,x1,x2,x3,x4⟩
   |_,_,_,_,_=>none
 |_=>none
theorem F9{w:World}{c:List V}{us:List Value}{fp:List Nat}{x:cg}(h:Fj c=some x)(hr:dM w c us fp):Vl w us x fp:=by
 unfold Fj at h
 split at h
 ·rename_i a0 a1 a2 a3 a4
  split at h
  ·rename_i x0 x1 x2 x3 x4 e0 e1 e2 e3 e4
   simp only[oI]at h
   subst h
   match us,hr with
   | [u0,u1,u2,u3,u4],⟨f0,g0,r0,⟨f1,g1,r1,⟨f2,g2,r2,⟨f3,g3,r3,⟨f4,g4,r4,h9,q4⟩,q3⟩,q2⟩,q1⟩,q0⟩=>
     have h9:g4= []:=h9
     obtain⟨z0,y0⟩:=gU e0 r0
     obtain⟨z1,y1⟩:=gU e1 r1
     obtain⟨z2,y2⟩:=gU e2 r2
     have z3:=tT e3 r3
     obtain⟨z4,y4⟩:=gU e4 r4
     refine⟨u3,f3,?_,z3,?_⟩
     ·simp[z0,z1,z2,z4]
     ·simp[q0,q1,q2,q3,q4,h9,y0,y1,y2,y4]
  ·cases h
 ·cases h
def uU:List V→Option bt
 | [a0,a1]=>match gi a0,CD [a1]with
   |some x0,some x1=>some ⟨x0,x1⟩
   |_,_=>none
 |_=>none
theorem zG{w:World}{c:List V}{us:List Value}{fp:List Nat}{x:bt}(h:uU c=some x)(hr:dM w c us fp):AZ w us x fp:=by
 unfold uU at h
 split at h
 ·rename_i a0 a1
  split at h
  ·rename_i x0 x1 e0 e1
   simp only[oI]at h
   subst h
   match us,hr with
   | [u0,u1],⟨f0,g0,r0,⟨f1,g1,r1,h9,q1⟩,q0⟩=>
     have h9:g1= []:=h9
     obtain⟨z0,y0⟩:=gU e0 r0
     have z1:=yD (w:=w) (us:= [u1]) (fp:=(f1++ [])) e1 ⟨f1,_,r1,rfl,rfl⟩
     refine⟨[u1],(f1++ []),?_,z1,?_⟩
     ·simp[z0]
     ·simp[q0,q1,h9,y0]
  ·cases h
 ·cases h
def A3:List V→Option mj
 | [a0,a1]=>match gi a0,gs .bt a1 with
   |some x0,some x1=>some ⟨x0,x1⟩
   |_,_=>none
 |_=>none
theorem zU{w:World}{c:List V}{us:List Value}{fp:List Nat}{x:mj}(h:A3 c=some x)(hr:dM w c us fp):Vm w us x fp:=by
 unfold A3 at h
 split at h
 ·rename_i a0 a1
  split at h
  ·rename_i x0 x1 e0 e1
   simp only[oI]at h
   subst h
   match us,hr with
   | [u0,u1],⟨f0,g0,r0,⟨f1,g1,r1,h9,q1⟩,q0⟩=>
     have h9:g1= []:=h9
     obtain⟨z0,y0⟩:=gU e0 r0
     have z1:=tT e1 r1
     refine⟨u1,f1,?_,z1,?_⟩
     ·simp[z0]
     ·simp[q0,q1,h9,y0]
  ·cases h
 ·cases h
def yE:List V→Option gS
 | [a0,a1,a2,a3,a4,a5,a6,a7]=>match gi a0,gi a1,gi a2,gi a3,gs (.sl .u8) a4,gi a5,gs (.sl .u8) a6,gi a7 with
   |some x0,some x1,some x2,some x3,some x4,some x5,some x6,some x7=>some ⟨x0,x1,x2,x3,x4,x5,x6,x7⟩
   |_,_,_,_,_,_,_,_=>none
 |_=>none
theorem uV{w:World}{c:List V}{us:List Value}{fp:List Nat}{x:gS}(h:yE c=some x)(hr:dM w c us fp):S7 w us x fp:=by
 unfold yE at h
 split at h
 ·rename_i a0 a1 a2 a3 a4 a5 a6 a7
  split at h
  ·rename_i x0 x1 x2 x3 x4 x5 x6 x7 e0 e1 e2 e3 e4 e5 e6 e7
   simp only[oI]at h
   subst h
   match us,hr with
   | [u0,u1,u2,u3,u4,u5,u6,u7],⟨f0,g0,r0,⟨f1,g1,r1,⟨f2,g2,r2,⟨f3,g3,r3,⟨f4,g4,r4,⟨f5,g5,r5,⟨f6,g6,r6,⟨f7,g7,r7,h9,q7⟩,q6⟩,q5⟩,q4⟩,q3⟩,q2⟩,q1⟩,q0⟩=>
     have h9:g7= []:=h9
     obtain⟨z0,y0⟩:=gU e0 r0
     obtain⟨z1,y1⟩:=gU e1 r1
     obtain⟨z2,y2⟩:=gU e2 r2
     obtain⟨z3,y3⟩:=gU e3 r3
     have z4:=tT e4 r4
     obtain⟨z5,y5⟩:=gU e5 r5
     have z6:=tT e6 r6
     obtain⟨z7,y7⟩:=gU e7 r7
     refine⟨u4,u6,f4,f6,?_,z4,z6,?_⟩
     ·simp[z0,z1,z2,z3,z5,z7]
     ·simp[q0,q1,q2,q3,q4,q5,q6,q7,h9,y0,y1,y2,y3,y5,y7]
  ·cases h
 ·cases h
def Fk:List V→Option cD
 | [a0,a1,a2,a3,a4,a5,a6,a7,a8,a9,a10,a11,a12,a13,a14,a15]=>match yE [a0,a1,a2,a3,a4,a5,a6,a7],yE [a8,a9,a10,a11,a12,a13,a14,a15]with
   |some x0,some x8=>some ⟨x0,x8⟩
   |_,_=>none
 |_=>none
theorem Ga{w:World}{c:List V}{us:List Value}{fp:List Nat}{x:cD}(h:Fk c=some x)(hr:dM w c us fp):Vn w us x fp:=by
 unfold Fk at h
 split at h
 ·rename_i a0 a1 a2 a3 a4 a5 a6 a7 a8 a9 a10 a11 a12 a13 a14 a15
  split at h
  ·rename_i x0 x8 e0 e1
   simp only[oI]at h
   subst h
   match us,hr with
   | [u0,u1,u2,u3,u4,u5,u6,u7,u8,u9,u10,u11,u12,u13,u14,u15],⟨f0,g0,r0,⟨f1,g1,r1,⟨f2,g2,r2,⟨f3,g3,r3,⟨f4,g4,r4,⟨f5,g5,r5,⟨f6,g6,r6,⟨f7,g7,r7,⟨f8,g8,r8,⟨f9,g9,r9,⟨f10,g10,r10,⟨f11,g11,r11,⟨f12,g12,r12,⟨f13,g13,r13,⟨f14,g14,r14,⟨f15,g15,r15,h9,q15⟩,q14⟩,q13⟩,q12⟩,q11⟩,q10⟩,q9⟩,q8⟩,q7⟩,q6⟩,q5⟩,q4⟩,q3⟩,q2⟩,q1⟩,q0⟩=>
     have h9:g15= []:=h9
     have z0:=uV (w:=w) (us:= [u0,u1,u2,u3,u4,u5,u6,u7]) (fp:=(f0++(f1++(f2++(f3++(f4++(f5++(f6++(f7++ []))))))))) e0 ⟨f0,_,r0,⟨f1,_,r1,⟨f2,_,r2,⟨f3,_,r3,⟨f4,_,r4,⟨f5,_,r5,⟨f6,_,r6,⟨f7,_,r7,rfl,rfl⟩,rfl⟩,rfl⟩,rfl⟩,rfl⟩,rfl⟩,rfl⟩,rfl⟩
     have z8:=uV (w:=w) (us:= [u8,u9,u10,u11,u12,u13,u14,u15]) (fp:=(f8++(f9++(f10++(f11++(f12++(f13++(f14++(f15++ []))))))))) e1 ⟨f8,_,r8,⟨f9,_,r9,⟨f10,_,r10,⟨f11,_,r11,⟨f12,_,r12,⟨f13,_,r13,⟨f14,_,r14,⟨f15,_,r15,rfl,rfl⟩,rfl⟩,rfl⟩,rfl⟩,rfl⟩,rfl⟩,rfl⟩,rfl⟩
     refine⟨[u0,u1,u2,u3,u4,u5,u6,u7],[u8,u9,u10,u11,u12,u13,u14,u15],(f0++(f1++(f2++(f3++(f4++(f5++(f6++(f7++ [])))))))),(f8++(f9++(f10++(f11++(f12++(f13++(f14++(f15++ [])))))))),?_,z0,z8,?_⟩
     ·rfl
     ·simp[q0,q1,q2,q3,q4,q5,q6,q7,q8,q9,q10,q11,q12,q13,q14,q15,h9]
  ·cases h
 ·cases h
def Fl:List V→Option cm
 | [a0,a1,a2,a3,a4,a5,a6,a7,a8,a9]=>match gi a0,gs .cg a1,gs .cD a2,A3 [a3,a4],gi a5,gi a6,gi a7,gs .int a8,gi a9 with
   |some x0,some x1,some x2,some x3,some x5,some x6,some x7,some x8,some x9=>some ⟨x0,x1,x2,x3,x5,x6,x7,x8,x9⟩
   |_,_,_,_,_,_,_,_,_=>none
 |_=>none
theorem Gb{w:World}{c:List V}{us:List Value}{fp:List Nat}{x:cm}(h:Fl c=some x)(hr:dM w c us fp):ZM w us x fp:=by
 unfold Fl at h
 split at h
 ·rename_i a0 a1 a2 a3 a4 a5 a6 a7 a8 a9
  split at h
  ·rename_i x0 x1 x2 x3 x5 x6 x7 x8 x9 e0 e1 e2 e3 e4 e5 e6 e7 e8
   simp only[oI]at h
   subst h
   match us,hr with
   | [u0,u1,u2,u3,u4,u5,u6,u7,u8,u9],⟨f0,g0,r0,⟨f1,g1,r1,⟨f2,g2,r2,⟨f3,g3,r3,⟨f4,g4,r4,⟨f5,g5,r5,⟨f6,g6,r6,⟨f7,g7,r7,⟨f8,g8,r8,⟨f9,g9,r9,h9,q9⟩,q8⟩,q7⟩,q6⟩,q5⟩,q4⟩,q3⟩,q2⟩,q1⟩,q0⟩=>
     have h9:g9= []:=h9
     obtain⟨z0,y0⟩:=gU e0 r0
     have z1:=tT e1 r1
     have z2:=tT e2 r2
     have z3:=zU (w:=w) (us:= [u3,u4]) (fp:=(f3++(f4++ []))) e3 ⟨f3,_,r3,⟨f4,_,r4,rfl,rfl⟩,rfl⟩
     obtain⟨z5,y5⟩:=gU e4 r5
     obtain⟨z6,y6⟩:=gU e5 r6
     obtain⟨z7,y7⟩:=gU e6 r7
     have z8:=tT e7 r8
     obtain⟨z9,y9⟩:=gU e8 r9
     refine⟨u1,u2,[u3,u4],u8,f1,f2,(f3++(f4++ [])),f8,?_,z1,z2,z3,z8,?_⟩
     ·simp[z0,z5,z6,z7,z9]
     ·simp[q0,q1,q2,q3,q4,q5,q6,q7,q8,q9,h9,y0,y5,y6,y7,y9]
  ·cases h
 ·cases h
def Kl:List V→Option Ev
 | [a0,a1,a2,a3]=>match gi a0,gi a1,gi a2,gs .u8 a3 with
   |some x0,some x1,some x2,some x3=>some ⟨x0,x1,x2,x3⟩
   |_,_,_,_=>none
 |_=>none
theorem Je{w:World}{c:List V}{us:List Value}{fp:List Nat}{x:Ev}(h:Kl c=some x)(hr:dM w c us fp):EEv w us x fp:=by
 unfold Kl at h
 split at h
 ·rename_i a0 a1 a2 a3
  split at h
  ·rename_i x0 x1 x2 x3 e0 e1 e2 e3
   simp only[oI]at h
   subst h
   match us,hr with
   | [u0,u1,u2,u3],⟨f0,g0,r0,⟨f1,g1,r1,⟨f2,g2,r2,⟨f3,g3,r3,h9,q3⟩,q2⟩,q1⟩,q0⟩=>
     have h9:g3= []:=h9
     obtain⟨z0,y0⟩:=gU e0 r0
     obtain⟨z1,y1⟩:=gU e1 r1
     obtain⟨z2,y2⟩:=gU e2 r2
     have z3:=tT e3 r3
     refine⟨u3,f3,?_,z3,?_⟩
     ·simp[z0,z1,z2]
     ·simp[q0,q1,q2,q3,h9,y0,y1,y2]
  ·cases h
 ·cases h
def Fm:List V→Option Cy
 | [a0,a1,a2]=>match gi a0,gi a1,gi a2 with
   |some x0,some x1,some x2=>some ⟨x0,x1,x2⟩
   |_,_,_=>none
 |_=>none
theorem Gc{w:World}{c:List V}{us:List Value}{fp:List Nat}{x:Cy}(h:Fm c=some x)(hr:dM w c us fp):Vr w us x fp:=by
 unfold Fm at h
 split at h
 ·rename_i a0 a1 a2
  split at h
  ·rename_i x0 x1 x2 e0 e1 e2
   simp only[oI]at h
   subst h
   match us,hr with
   | [u0,u1,u2],⟨f0,g0,r0,⟨f1,g1,r1,⟨f2,g2,r2,h9,q2⟩,q1⟩,q0⟩=>
     have h9:g2= []:=h9
     obtain⟨z0,y0⟩:=gU e0 r0
     obtain⟨z1,y1⟩:=gU e1 r1
     obtain⟨z2,y2⟩:=gU e2 r2
     refine⟨?_,?_⟩
     ·simp[z0,z1,z2]
     ·simp[q0,q1,q2,h9,y0,y1,y2]
  ·cases h
 ·cases h
def Fo:List V→Option gB
 | [a0,a1,a2,a3,a4]=>match gi a0,gi a1,gi a2,gi a3,gi a4 with
   |some x0,some x1,some x2,some x3,some x4=>some ⟨x0,x1,x2,x3,x4⟩
   |_,_,_,_,_=>none
 |_=>none
theorem Gd{w:World}{c:List V}{us:List Value}{fp:List Nat}{x:gB}(h:Fo c=some x)(hr:dM w c us fp):Vu w us x fp:=by
 unfold Fo at h
 split at h
 ·rename_i a0 a1 a2 a3 a4
  split at h
  ·rename_i x0 x1 x2 x3 x4 e0 e1 e2 e3 e4
   simp only[oI]at h
   subst h
   match us,hr with
   | [u0,u1,u2,u3,u4],⟨f0,g0,r0,⟨f1,g1,r1,⟨f2,g2,r2,⟨f3,g3,r3,⟨f4,g4,r4,h9,q4⟩,q3⟩,q2⟩,q1⟩,q0⟩=>
     have h9:g4= []:=h9
     obtain⟨z0,y0⟩:=gU e0 r0
     obtain⟨z1,y1⟩:=gU e1 r1
     obtain⟨z2,y2⟩:=gU e2 r2
     obtain⟨z3,y3⟩:=gU e3 r3
     obtain⟨z4,y4⟩:=gU e4 r4
     refine⟨?_,?_⟩
     ·simp[z0,z1,z2,z3,z4]
     ·simp[q0,q1,q2,q3,q4,h9,y0,y1,y2,y3,y4]
  ·cases h
 ·cases h
def yF:List V→Option Plain
 | [a0,a1]=>match gi a0,gs .u8 a1 with
   |some x0,some x1=>some ⟨x0,x1⟩
   |_,_=>none
 |_=>none
theorem A4{w:World}{c:List V}{us:List Value}{fp:List Nat}{x:Plain}(h:yF c=some x)(hr:dM w c us fp):Kg w us x fp:=by
 unfold yF at h
 split at h
 ·rename_i a0 a1
  split at h
  ·rename_i x0 x1 e0 e1
   simp only[oI]at h
   subst h
   match us,hr with
   | [u0,u1],⟨f0,g0,r0,⟨f1,g1,r1,h9,q1⟩,q0⟩=>
     have h9:g1= []:=h9
     obtain⟨z0,y0⟩:=gU e0 r0
     have z1:=tT e1 r1
     refine⟨u1,f1,?_,z1,?_⟩
     ·simp[z0]
     ·simp[q0,q1,h9,y0]
  ·cases h
 ·cases h
def A5:List V→Option eN
 | [a0,a1,a2,a3,a4]=>match gi a0,gi a1,gs .int a2,gs .u8 a3,gi a4 with
   |some x0,some x1,some x2,some x3,some x4=>some ⟨x0,x1,x2,x3,x4⟩
   |_,_,_,_,_=>none
 |_=>none
theorem D6{w:World}{c:List V}{us:List Value}{fp:List Nat}{x:eN}(h:A5 c=some x)(hr:dM w c us fp):QY w us x fp:=by
 unfold A5 at h
 split at h
 ·rename_i a0 a1 a2 a3 a4
  split at h
  ·rename_i x0 x1 x2 x3 x4 e0 e1 e2 e3 e4
   simp only[oI]at h
   subst h
   match us,hr with
   | [u0,u1,u2,u3,u4],⟨f0,g0,r0,⟨f1,g1,r1,⟨f2,g2,r2,⟨f3,g3,r3,⟨f4,g4,r4,h9,q4⟩,q3⟩,q2⟩,q1⟩,q0⟩=>
     have h9:g4= []:=h9
     obtain⟨z0,y0⟩:=gU e0 r0
     obtain⟨z1,y1⟩:=gU e1 r1
     have z2:=tT e2 r2
     have z3:=tT e3 r3
     obtain⟨z4,y4⟩:=gU e4 r4
     refine⟨u2,u3,f2,f3,?_,z2,z3,?_⟩
     ·simp[z0,z1,z4]
     ·simp[q0,q1,q2,q3,q4,h9,y0,y1,y4]
  ·cases h
 ·cases h
def Km:List V→Option (List Prop×Int)
 | [v]=>match gi v with|some n=>some ([],n)|none=>none
 |_=>none
def O6:List V→Option (List Prop×UInt8)
 | [.lit (.int .u8 n)]=>some ([0≤n∧n<256],dJ n.toNat)
 |_=>none
def Kn:List V→Option (List Prop×List UInt8)
 | [.lit (.string s)]=>some ([s.size≤maxLen],s.data.toList)
 |_=>none
def O7(t:Tag):List V→Option (List Prop×List (T t))
 | [v]=>match gs t v with|some l=>some ([],l)|none=>none
 |_=>none
def og{α:Type}:Option α→Option (List Prop×α)
 |some x=>some ([],x)
 |none=>none
theorem iG{α:Type}{o:Option α}{vc:List Prop}{x:α}(h:og o=some (vc,x)):o=some x:=by
 cases o with
 |none=>cases h
 |some y=>simp only[og,oI,pI]at h;rw[h.2]
def enc:(t:Tag)→List V→Option (List Prop×T t)
 | .int,c=>Km c
 | .u8,c=>O6 c
 | .str,c=>Kn c
 | .sl t,c=>O7 t c
 | .DB,c=>og (CD c)
 | .bC,c=>og (uT c)
 | .cg,c=>og (Fj c)
 | .bt,c=>og (uU c)
 | .mj,c=>og (A3 c)
 | .gS,c=>og (yE c)
 | .cD,c=>og (Fk c)
 | .cm,c=>og (Fl c)
 | .Ev,c=>og (Kl c)
 | .Cy,c=>og (Fm c)
 | .gB,c=>og (Fo c)
 | .Plain,c=>og (yF c)
 | .eN,c=>og (A5 c)
theorem uW{w:World}:(t:Tag)→{c:List V}→{us:List Value}→{fp:List Nat}→{vc:List Prop}→{x:T t}→enc t c=some (vc,x)→(∀q,q∈vc→q)→dM w c us fp→rd t w us x fp
 | .int,c,us,fp,vc,x,h,hv,hr=>by
   have h:Km c=some (vc,x):=h
   unfold Km at h
   split at h<;>first| (cases h;done)|skip
   ·split at h
    ·rename_i v _ n e
     simp only[oI,pI]at h
     obtain⟨rfl,rfl⟩:=h
     match us,hr with
     | [u],⟨f,g,r,h9,q⟩=>
       obtain⟨z,y⟩:=gU e r
       have h9:g= []:=h9
       exact⟨by rw[z],by simp[q,y,h9]⟩
    ·cases h
 | .u8,c,us,fp,vc,x,h,hv,hr=>by
   have h:O6 c=some (vc,x):=h
   unfold O6 at h
   split at h<;>first| (cases h;done)|skip
   ·rename_i n _
    simp only[oI,pI]at h
    obtain⟨rfl,rfl⟩:=h
    obtain⟨h0,h1⟩:=hv _ (aP.2 rfl)
    match us,hr with
    | [u],⟨f,g,r,h9,q⟩=>
      have h9:g= []:=h9
      obtain⟨rfl,_,rfl⟩:=r
      refine⟨?_,by simp[q,h9]⟩
      have:((dJ n.toNat).toNat:Int)=n:=by rw[A2];omega
      rw[this]
 | .str,c,us,fp,vc,x,h,hv,hr=>by
   have h:Kn c=some (vc,x):=h
   unfold Kn at h
   split at h<;>first| (cases h;done)|skip
   ·rename_i s _
    simp only[oI,pI]at h
    obtain⟨rfl,rfl⟩:=h
    have h0:=hv _ (aP.2 rfl)
    match us,hr with
    | [u],⟨f,g,r,h9,q⟩=>
      have h9:g= []:=h9
      obtain⟨rfl,_,rfl⟩:=r
      exact⟨rfl,h0,by simp[q,h9]⟩
 | .sl t,c,us,fp,vc,x,h,hv,hr=>by
   have h:O7 t c=some (vc,x):=h
   unfold O7 at h
   split at h<;>first| (cases h;done)|skip
   ·split at h
    ·rename_i v _ l e
     simp only[oI,pI]at h
     obtain⟨rfl,rfl⟩:=h
     match us,hr with
     | [u],⟨f,g,r,h9,q⟩=>
       have h9:g= []:=h9
       refine⟨u,rfl,?_⟩
       have:=tT e r
       rw[q,h9,cW];exact this
    ·cases h
 | .DB,c,us,fp,vc,x,h,hv,hr=>by
   exact yD (iG (show og (CD c)=_ from h)) hr
 | .bC,c,us,fp,vc,x,h,hv,hr=>by
   exact zF (iG (show og (uT c)=_ from h)) hr
 | .cg,c,us,fp,vc,x,h,hv,hr=>by
   exact F9 (iG (show og (Fj c)=_ from h)) hr
 | .bt,c,us,fp,vc,x,h,hv,hr=>by
   exact zG (iG (show og (uU c)=_ from h)) hr
 | .mj,c,us,fp,vc,x,h,hv,hr=>by
   exact zU (iG (show og (A3 c)=_ from h)) hr
 | .gS,c,us,fp,vc,x,h,hv,hr=>by
   exact uV (iG (show og (yE c)=_ from h)) hr
 | .cD,c,us,fp,vc,x,h,hv,hr=>by
   exact Ga (iG (show og (Fk c)=_ from h)) hr
 | .cm,c,us,fp,vc,x,h,hv,hr=>by
   exact Gb (iG (show og (Fl c)=_ from h)) hr
 | .Ev,c,us,fp,vc,x,h,hv,hr=>by
   exact Je (iG (show og (Kl c)=_ from h)) hr
 | .Cy,c,us,fp,vc,x,h,hv,hr=>by
   exact Gc (iG (show og (Fm c)=_ from h)) hr
 | .gB,c,us,fp,vc,x,h,hv,hr=>by
   exact Gd (iG (show og (Fo c)=_ from h)) hr
 | .Plain,c,us,fp,vc,x,h,hv,hr=>by
   exact A4 (iG (show og (yF c)=_ from h)) hr
 | .eN,c,us,fp,vc,x,h,hv,hr=>by
   exact D6 (iG (show og (A5 c)=_ from h)) hr
def iH:Tag→Value
 | .int=> .int .i64 0
 | .u8=> .int .u8 0
 | .str=> .string ⟨#[]⟩
 | .sl _=> .slice none 0 0
 | .DB=> .agg #[.slice none 0 0]
 | .bC=> .agg #[.int .i64 0, .slice none 0 0]
 | .cg=> .agg #[.int .i64 0, .int .i64 0, .int .i64 0, .slice none 0 0, .int .i64 0]
 | .bt=> .agg #[.int .i64 0, .slice none 0 0]
 | .mj=> .agg #[.int .i64 0, .slice none 0 0]
 | .gS=> .agg #[.int .i64 0, .int .i64 0, .int .i64 0, .int .i64 0, .slice none 0 0, .int .i64 0, .slice none 0 0, .int .i64 0]
 | .cD=> .agg #[.int .i64 0, .int .i64 0, .int .i64 0, .int .i64 0, .slice none 0 0, .int .i64 0, .slice none 0 0, .int .i64 0, .int .i64 0, .int .i64 0, .int .i64 0, .int .i64 0, .slice none 0 0, .int .i64 0, .slice none 0 0, .int .i64 0]
 | .cm=> .agg #[.int .i64 0, .slice none 0 0, .slice none 0 0, .int .i64 0, .slice none 0 0, .int .i64 0, .int .i64 0, .int .i64 0, .slice none 0 0, .int .i64 0]
 | .Ev=> .agg #[.int .i64 0, .int .i64 0, .int .i64 0, .slice none 0 0]
 | .Cy=> .agg #[.int .i64 0, .int .i64 0, .int .i64 0]
 | .gB=> .agg #[.int .i64 0, .int .i64 0, .int .i64 0, .int .i64 0, .int .i64 0]
 | .Plain=> .agg #[.int .i64 0, .slice none 0 0]
 | .eN=> .agg #[.int .i64 0, .int .i64 0, .slice none 0 0, .slice none 0 0, .int .i64 0]
def gl:Tag→Nat
 | .int=>8
 | .u8=>1
 | .str=>16
 | .sl _=>24
 | .DB=>24
 | .bC=>32
 | .cg=>56
 | .bt=>32
 | .mj=>32
 | .gS=>96
 | .cD=>192
 | .cm=>144
 | .Ev=>48
 | .Cy=>24
 | .gB=>40
 | .Plain=>32
 | .eN=>72
theorem mB:(t:Tag)→(iH t).cells.size=kk t
 | .int=>rfl
 | .u8=>rfl
 | .str=>rfl
 | .sl _=>rfl
 | .DB=>rfl
 | .bC=>rfl
 | .cg=>rfl
 | .bt=>rfl
 | .mj=>rfl
 | .gS=>rfl
 | .cD=>rfl
 | .cm=>rfl
 | .Ev=>rfl
 | .Cy=>rfl
 | .gB=>rfl
 | .Plain=>rfl
 | .eN=>rfl
def flat:Tag→Bool
 | .int=>true
 | .u8=>true
 | .str=>true
 | .sl _=>false
 | .DB=>false
 | .bC=>false
 | .cg=>false
 | .bt=>false
 | .mj=>false
 | .gS=>false
 | .cD=>false
 | .cm=>false
 | .Ev=>false
 | .Cy=>true
 | .gB=>true
 | .Plain=>false
 | .eN=>false
theorem ZO{w:World}(t:Tag){cs:List Value}{x:T t}{fp:List Nat}(hf:flat t=true)(h:rd t w cs x fp):fp= []:=by
 cases t with
 |int=>exact(show Vg w cs x fp from h).2
 |u8=>exact(show QL w cs x fp from h).2
 |str=>exact(show adu w cs x fp from h).2.2
 |sl _=>cases hf
 |DB=>cases hf
 |bC=>cases hf
 |cg=>cases hf
 |bt=>cases hf
 |mj=>cases hf
 |gS=>cases hf
 |cD=>cases hf
 |cm=>cases hf
 |Ev=>cases hf
 |Cy=>exact(show Vr w cs x fp from h).2
 |gB=>exact(show Vu w cs x fp from h).2
 |Plain=>cases hf
 |eN=>cases hf
theorem dM.lits{w:World}: ∀{z:List Value},(∀v,v∈z→v.oneCell'=true)→dM w (z.map V.lit) z []
 | [],_=>rfl
 |v::r,h=>⟨[],[],⟨rfl,h v (by simp),rfl⟩,dM.lits fun u hu=>h u (by simp[hu]),rfl⟩
theorem ZP{w:World}:(t:Tag)→rd t w (iH t).cells.toList (aO t) []
 | .int=>⟨rfl,rfl⟩
 | .u8=>⟨rfl,rfl⟩
 | .str=>⟨rfl,by decide,rfl⟩
 | .sl _=>⟨_,rfl,none,0,rfl,bh _,aA _,bG ⟨rfl,rfl,rfl⟩⟩
 | .DB=>yD (c:=(iH .DB).cells.toList.map V.lit) rfl (dM.lits (by simp[iH,eu,ew]))
 | .bC=>zF (c:=(iH .bC).cells.toList.map V.lit) rfl (dM.lits (by simp[iH,eu,ew]))
 | .cg=>F9 (c:=(iH .cg).cells.toList.map V.lit) rfl (dM.lits (by simp[iH,eu,ew]))
 | .bt=>zG (c:=(iH .bt).cells.toList.map V.lit) rfl (dM.lits (by simp[iH,eu,ew]))
 | .mj=>zU (c:=(iH .mj).cells.toList.map V.lit) rfl (dM.lits (by simp[iH,eu,ew]))
 | .gS=>uV (c:=(iH .gS).cells.toList.map V.lit) rfl (dM.lits (by simp[iH,eu,ew]))
 | .cD=>Ga (c:=(iH .cD).cells.toList.map V.lit) rfl (dM.lits (by simp[iH,eu,ew]))
 | .cm=>Gb (c:=(iH .cm).cells.toList.map V.lit) rfl (dM.lits (by simp[iH,eu,ew]))
 | .Ev=>Je (c:=(iH .Ev).cells.toList.map V.lit) rfl (dM.lits (by simp[iH,eu,ew]))
 | .Cy=>Gc (c:=(iH .Cy).cells.toList.map V.lit) rfl (dM.lits (by simp[iH,eu,ew]))
 | .gB=>Gd (c:=(iH .gB).cells.toList.map V.lit) rfl (dM.lits (by simp[iH,eu,ew]))
 | .Plain=>A4 (c:=(iH .Plain).cells.toList.map V.lit) rfl (dM.lits (by simp[iH,eu,ew]))
 | .eN=>D6 (c:=(iH .eN).cells.toList.map V.lit) rfl (dM.lits (by simp[iH,eu,ew]))
end
section
def O8(_:Nat):Prop:=False
def Ko(_:World):Prop:=True
theorem Ko.keep{w w':World}(_:Ko w)(_: ∀b,O8 b→b<w.heap.size→w'.heap[b]? =w.heap[b]?):Ko w':=trivial
theorem Ko.lt{w:World}(_:Ko w){b:Nat}(hb:O8 b):b<w.heap.size:=hb.elim
end
end Go.Proofs.YtkcegdacbddipaaGreat.G
namespace Go.Proofs.YtkcegdacbddipaaGreat.L
set_option linter.all false
open Go.RowKit
section
structure jD(fp:List Nat)(w w':World):Prop where
 os:w'.os=w.os
 tape:w'.tape=w.tape
 output:w'.output=w.output
 size:w.heap.size≤w'.heap.size
 block: ∀b,b<w.heap.size→b∉fp→w'.heap[b]? =w.heap[b]?
theorem jD.refl(fp:List Nat)(w:World):jD fp w w:=⟨rfl,rfl,rfl,bh _,fun _ _ _=>rfl⟩
theorem jD.mono{fp fq:List Nat}{w w':World}(h:jD fp w w')(hs: ∀b,b∈fp→b∈fq):jD fq w w':=⟨h.os,h.tape,h.output,h.size,fun b hb hn=>h.block b hb fun hm=>hn (hs b hm)⟩
theorem jD.trans{fp:List Nat}{a b c:World}(h:jD fp a b)(k:jD fp b c):jD fp a c:=
 ⟨k.os.trans h.os,k.tape.trans h.tape,k.output.trans h.output,Nat.le_trans h.size k.size,fun i hi hn=>(k.block i (nr hi h.size) hn).trans (h.block i hi hn)⟩
theorem jD.below{fp:List Nat}{w w':World}{B:Nat}(h:jD fp w w')(hB:B≤w.heap.size)(hg: ∀b,b∈fp→B≤b):Below B w w':=
 ⟨h.os,h.tape,h.output,h.size,fun b hb=>h.block b (nr hb hB) fun hm=>Nat.not_le_of_lt hb (hg b hm)⟩
theorem jD.agree{fp fq:List Nat}{w w':World}(h:jD fp w w')(hl: ∀b,b∈fq→b<w.heap.size)(hd: ∀b,b∈fq→b∉fp):Agree w w' fq:=fun b hb=>h.block b (hl b hb) (hd b hb)
section
variable{α:Type}{k:Nat}{E:ER α}{lo e g n:Nat}{w w':World}{l:List α}{cu:List (List Nat)}
theorem yK{cu:List (List Nat)}(h:cu.flatten.Nodup){i j:Nat}{f f':List Nat}(hi:cu[i]? =some f)(hj:cu[j]? =some f')(hne:i≠j): ∀b,b∈f→b∉f':=by
 intro b hb hb'
 have hp:=(List.pairwise_flatten.1 h).2
 rw[List.pairwise_iff_getElem]at hp
 obtain⟨hi1,rfl⟩:=aI.1 hi
 obtain⟨hj1,rfl⟩:=aI.1 hj
 rcases mS i j with h1|h1
 ·exact hp i j hi1 hj1 h1 b hb b hb' rfl
 ·exact hp j i hj1 hi1 (by omega) b hb' b hb rfl
theorem Part.set(G:jA k E)(h:Part k E lo e w g n l cu){i:Nat}{f:List Nat}{cs:List Value}{x':α}(hi:i<l.length)(hin:i<n)(hf:cu[i]? =some f)(hE:E w cs x' f):
  Part k E lo e (w.setCells g (i*k) cs) g n (l.set i x') cu:=by
 have hlen:=G.len hE
 have hnd:=h.own.nodup
 rw[b9]at hnd
 obtain⟨c,hc,hs⟩:=h.zS
 obtain⟨c',L2,hs'⟩:=fN g e cs (i*k) w c hc
 have QN:w.there g (i*k) cs.length:=by rw[hlen];exact h.there _ hin
 have FU: ∀b,b∈cu.flatten→b≠g:=fun b hb e=>hnd.1 (e▸hb)
 have FV:Agree w (w.setCells g (i*k) cs) cu.flatten:=fun b hb=>dP g cs _ w b (FU b hb)
 refine⟨⟨c',L2,by rw[hs',hs]⟩,⟨by rw[bH];exact h.el.1,fun j y fy hy qA=> ?_⟩,⟨h.own.nodup,h.own.ge,fun b hb=> ?_⟩,h.cap⟩
 ·by_cases hj:i=j
  ·subst hj
   rw[eY hi]at hy
   simp only[oI]at hy
   subst hy
   rw[hf]at qA
   simp only[oI]at qA
   subst qA
   refine⟨cs,?_,G.agree hE (FV.sub fun b hb=>dU hf hb)⟩
   rw[Nat.zero_add]
   exact World.rangeAt_setCells_same w g _ cs QN
  ·rw[hY hj]at hy
   obtain⟨cy,hr,QO⟩:=h.el.2 j y fy hy qA
   refine⟨cy,dI hr _ _ _ (bg ?_),G.agree QO (FV.sub fun b hb=>dU qA hb)⟩
   rw[G.len QO,hlen]
   rcases mS j i with h1|h1
   ·left
    have:=bI k (show j+1≤i by omega)
    rw[cG]at this;omega
   ·right
    have:=bI k (show i+1≤j by omega)
    rw[cG]at this;omega
 ·rcases aW.1 hb with rfl|hb
  ·exact⟨_,_,L2⟩
  ·rw[FV b hb];exact h.own.kind b (aJ _ hb)
theorem mT(G:jA k E){g o n:Nat}{c:Array Value}(hc:w.heap[g]? =some (.cells c e (0,0)))(hfit:o+n*k≤c.size)(hn:l.length≤n)(hcap:n≤maxLen)(hel:sM k E w g o l cu)(hown:Own lo w (g::cu.flatten)):
  lP k E lo e w (.slice (some ⟨g,o,none⟩) l.length n) l (g::cu.flatten):=by
 have hk:l.length*k≤n*k:=bI k hn
 have zZ:c.toList.length=c.size:=Array.length_toList
 refine⟨(c.toList.drop o).take (l.length*k),cu,⟨by rw[List.length_take,List.length_drop];omega,bg ⟨g,o,n,c,rfl,hown.ge g (by simp),hc,hn,hcap,hfit,rfl⟩⟩,hel.1,fun i x f hx hf=> ?_,rfl,hown⟩
 obtain⟨cs,hr,hE⟩:=hel.2 i x f hx hf
 have hlen:=G.len hE
 have hi:i<l.length:=(aI.1 hx).1
 have h5:i*k+k≤l.length*k:=by
  have:=bI k (show i+1≤l.length by omega)
  rw[cG]at this;omega
 have:(((c.toList.drop o).take (l.length*k)).drop (i*k)).take k=cs:=by
  apply List.ext_getElem?
  intro j
  by_cases hj:j<k
  ·rw[cE,if_pos hj,cJ,cE,if_pos (by omega),cJ]
   have h6:=hr j _ (au (by omega))
   simp[qX,hc]at h6
   rw[au (show j<cs.length by omega), ←Nat.add_assoc]
   simp[h6]
  ·rw[cE,if_neg hj,List.getElem?_eq_none (by omega)]
 rw[this];exact hE
theorem lP.parts{v:Value}{fp:List Nat}(h:lP k E lo e w v l fp):(v= .slice none 0 0∧l= []∧fp= [])∨ ∃g o n c, ∃cu:List (List Nat),v= .slice (some ⟨g,o,none⟩) l.length n∧l.length≤n∧n≤maxLen∧w.heap[g]? =some (.cells c e (0,0))∧o+n*k≤c.size∧fp=g::cu.flatten:=by
 obtain⟨xs,cu,⟨hxl,ho⟩,hl,hel,iV,hown⟩:=h
 rcases ho with⟨rfl,h0⟩| ⟨g,o,cap,cur,rfl,hg,hc,hn,hcm,hcs,UZ⟩
 ·have hl0:l= []:=bR h0
  have:cu= []:=bR (by omega)
  exact bG ⟨rfl,hl0,by rw[iV,this];rfl⟩
 ·exact bg ⟨g,o,cap,cur,cu,rfl,hn,hcm,hc,hcs,iV⟩
structure Wa{α:Type}(k:Nat)(E:ER α)(lo:Nat)(w:World)(b off:Nat)(l:List α)(cu:List (List Nat)):Prop where
 el:sM k E w b off l cu
 own:Own lo w (b::cu.flatten)
theorem Wa.lt{b off:Nat}(h:Wa k E lo w b off l cu):b<w.heap.size:=h.own.lt b (by simp)
theorem Wa.set(G:jA k E){b off:Nat}(h:Wa k E lo w b off l cu){i o:Nat}{f:List Nat}{vs cs:List Value}{x':α}(hi:i<l.length)(ho:o+vs.length≤k)(hf:cu[i]? =some f)
  (hr:(w.setCells b (off+i*k+o) vs).rangeAt b (off+i*k) cs)(hE:E w cs x' f):
  Wa k E lo (w.setCells b (off+i*k+o) vs) b off (l.set i x') cu:=by
 have hlen:=G.len hE
 have hnd:=h.own.nodup
 rw[b9]at hnd
 have FU: ∀c,c∈cu.flatten→c≠b:=fun c hc e=>hnd.1 (e▸hc)
 have FV:Agree w (w.setCells b (off+i*k+o) vs) cu.flatten:=fun c hc=>dP b vs _ w c (FU c hc)
 refine⟨⟨by rw[bH];exact h.el.1,fun j y fy hy qA=> ?_⟩,⟨h.own.nodup,h.own.ge,fun c hc=> ?_⟩⟩
 ·by_cases hj:i=j
  ·subst hj
   rw[eY hi]at hy
   simp only[oI]at hy
   subst hy
   rw[hf]at qA
   simp only[oI]at qA
   subst qA
   exact⟨cs,hr,G.agree hE (FV.sub fun b hb=>dU hf hb)⟩
  ·rw[hY hj]at hy
   obtain⟨cy,hr,QO⟩:=h.el.2 j y fy hy qA
   refine⟨cy,dI hr _ _ _ (bg ?_),G.agree QO (FV.sub fun b hb=>dU qA hb)⟩
   rw[G.len QO]
   rcases mS j i with h1|h1
   ·left
    have:=bI k (show j+1≤i by omega)
    rw[cG]at this;omega
   ·right
    have:=bI k (show i+1≤j by omega)
    rw[cG]at this;omega
 ·rcases aW.1 hc with rfl|hc
  ·obtain⟨c0,e0,hk⟩:=h.own.kind c (by simp)
   obtain⟨c',L2,_⟩:=fN c e0 vs (off+i*k+o) w c0 hk
   exact⟨_,_,L2⟩
  ·rw[FV c hc];exact h.own.kind c (aJ _ hc)
end
end
end Go.Proofs.YtkcegdacbddipaaGreat.L
