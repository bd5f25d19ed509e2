/- Steps. -/
import Derived.OpenShut
import Derived.ProofKit
import Derived.Test.YtaalpcnbbldlaaaGreatDoorR2
open Go.Addr renaming add_mid→jL
open Go.World renaming cell?→tU,cells?_some→zG,rangeAt_setCells_apart→ga
open List renaming append_nil→cW,eq_nil_of_length_eq_zero→ck,getElem?_drop→dc,getElem?_eq_getElem→az,getElem?_eq_some_iff→aU,getElem?_set_ne→mO,getElem?_set_self→jR,getElem?_take→dH,length_set→bX,mem_cons→bh,mem_cons_of_mem→aE,mem_singleton→aV,nodup_cons→dx,range→bK
open Nat renaming add_mul→cM,le_refl→aS,lt_of_lt_of_le→cz,lt_or_ge→uX,mul_le_mul_right→cG,zero_le→aY
open Or renaming inl→bP,inr→bw
open UInt8 renaming ofNat→cN,toNat_ofNat'→H7
namespace Go.Proofs.YtaalpcnbbldlaaaGreatDoor.L
set_option linter.all false
open Go.RowKit Go.ChangeShapes Go.WideShapes Go.ChangeAt D
section
section
variable{H:Type}(enc:TypeId×Value→H)(P:Program)(w:World)(spare:Nat→Bool)(held:Bool)
def akv{α:Type}(t:TypeId)(E:ER α)(W:α→Prop):Prop:=
 ∀fuel cs y,DataW.trod enc P w 0 spare held fuel t cs=some y→ ∃x fp,E w cs x fp∧W x
variable{enc P w spare held}
theorem akw{t:TypeId}(ht:P.underlying t=some (.int .u8)):akv enc P w spare held t EU8 (fun _=>True):=by
 intro fuel cs y h;obtain⟨n,rfl,_,hw⟩:=DataW.trod_int ht h;have hb:=bounds_u8 hw;refine⟨cN n.toNat,[],⟨?_,rfl⟩,trivial⟩;have:((cN n.toNat).toNat:Int)=n:=by
  rw[H7];omega
 rw[this]
theorem akx{α:Type} [Inhabited α]{k:Nat}{E:ER α}{W:α→Prop}{t e:TypeId}(ht:P.underlying t=some (.slice e))(hk:P.cellsOf e=k)(hpos:0<k)(ho:akv enc P w spare held e E W)(hspare: ∀b,spare b=true:=by exact fun _=>rfl):
  akv enc P w spare held t (ESl k E) (fun l=> ∀x,x∈l→W x):=by
 intro fuel cs y h;rcases Go.Deep.open_slice ht h with⟨rfl,_⟩| ⟨a,len,cap,m,n,D,Pl,rfl,_,hl,hm,hmm,_,hx⟩
 ·exact⟨[],[],⟨_,rfl,none,0,rfl,aS _,aY _,bP ⟨rfl,rfl,rfl⟩⟩,by simp⟩
 rw[hk]at hx;rw[if_pos (hspare _)]at hmm;subst hmm;by_cases h0:m=0
 ·subst h0;have:len=0:=by omega
  subst this;exact⟨[],[],⟨_,rfl,some a,0,rfl,hl,hm,bP ⟨rfl,rfl,rfl⟩⟩,by simp⟩
 have hsp:a.spot=none:=by
  obtain⟨cs',hc,_⟩:=hx 0 aJ;obtain⟨_,h1,h2⟩:=zG hc;have h3:=h2 0 aJ;have ha:((a.add (0*k)).add 0)=a:=by simp[Addr.add]
  rw[ha]at h3;have hlen:0<cs'.length:=by omega
  rw[az hlen]at h3;simp only[tU]at h3;split at h3
  ·split at h3
   ·cases h3
   ·rename_i hs;simpa using hs
  ·cases h3
 obtain⟨b,off,rfl⟩: ∃b off,a=⟨b,off,none⟩:=⟨a.block,a.off,by cases a;simp_all⟩;have hel: ∀i,i<len→ ∃q:α×List Nat,(∃cs',w.rangeAt b (off+i*k) cs'∧E w cs' q.1 q.2)∧W q.1:=by
  intro i hi;obtain⟨cs',hc,htr⟩:=hx i aJ;obtain⟨x,fp,hE,hW⟩:=ho _ _ _ htr;obtain⟨_,h1,h2⟩:=zG hc;refine⟨(x,fp),⟨cs',fun j v hv=> ?_,hE⟩,hW⟩;have hj:=(aU.1 hv).1;have:=h2 j aJ;rw[jL,jL,hv]at this;exact this
 obtain⟨f,hf⟩:=Go.Deep.choose_lt hel;refine⟨(bK len).map fun i=>(f i).1,b::((bK len).map fun i=>(f i).2).flatten,⟨_,rfl,some ⟨b,off,none⟩,m,by simp,by simpa using hl,hm,bw ⟨b,off,(bK len).map fun i=>(f i).2,rfl,?_,rfl,by simp,?_⟩⟩,?_⟩
 ·obtain⟨cs',hc,_⟩:=hx (m-1) aJ;obtain⟨_,h1,h2⟩:=zG hc;have h3:=h2 (k-1) aJ;rw[jL,jL,az aJ]at h3;have hmk:off+(m-1)*k+(k-1)+1=off+m*k:=by
   obtain⟨q,rfl⟩: ∃q,m=q+1:=⟨m-1,aJ⟩;rw[Nat.add_sub_cancel,cM];omega
  simp only[tU]at h3;split at h3
  ·rename_i c e fz hb;refine⟨c,e,fz,hb,?_⟩;have h4:off+(m-1)*k+(k-1)<c.size:=by
    apply Decidable.byContradiction;intro hge;simp[Array.getElem?_eq_none (show c.size≤off+(m-1)*k+(k-1)by omega)]at h3
   omega
  ·cases h3
 ·intro i x fp hx qx;have hi:i<len:=by have:=(aU.1 hx).1;simpa using this
  simp[hi]at hx qx;subst hx;subst qx;exact(hf i hi).1
 ·intro x hx;simp only[List.mem_map,List.mem_range]at hx;obtain⟨i,hi,rfl⟩:=hx;exact(hf i hi).2
end
end
end Go.Proofs.YtaalpcnbbldlaaaGreatDoor.L
namespace Go.Proofs.YtaalpcnbbldlaaaGreatDoor.G
set_option linter.all false
open Go.RowKit L D
section
variable{w:World}{fp:List Nat}
inductive Tag where
 |int|u8|str|sl(t:Tag)|DB|bL|cH|bn|tE|kf|bR|dF|Ev|lV|kj|Plain|gw
 deriving DecidableEq
@[reducible] def T:Tag→Type
  | .int=>Int
  | .u8=>UInt8
  | .str=>List UInt8
  | .sl t=>List (T t)
  | .DB=>DB
  | .bL=>bL
  | .cH=>cH
  | .bn=>bn
  | .tE=>tE
  | .kf=>kf
  | .bR=>bR
  | .dF=>dF
  | .Ev=>Ev
  | .lV=>lV
  | .kj=>kj
  | .Plain=>Plain
  | .gw=>gw
def kk:Tag→Nat
 | .int=>1
 | .u8=>1
 | .str=>1
 | .sl _=>1
 | .DB=>1
 | .bL=>2
 | .cH=>5
 | .bn=>2
 | .tE=>2
 | .kf=>8
 | .bR=>16
 | .dF=>10
 | .Ev=>4
 | .lV=>3
 | .kj=>5
 | .Plain=>2
 | .gw=>5
def rd:(t:Tag)→ER (T t)
 | .int=>aj9
 | .u8=>EU8
 | .str=>aka
 | .sl t=>ESl (kk t) (rd t)
 | .DB=>EDB
 | .bL=>HZ
 | .cH=>akh
 | .bn=>H6
 | .tE=>aki
 | .kf=>ahe
 | .bR=>akj
 | .dF=>arq
 | .Ev=>EEv
 | .lV=>akn
 | .kj=>akp
 | .Plain=>UF
 | .gw=>adZ
theorem ko:(t:Tag)→mZ (kk t) (rd t)
 | .int=>C0
 | .u8=>pM
 | .str=>akb
 | .sl t=>AK (ko t)
 | .DB=>wL
 | .bL=>C3
 | .cH=>OR
 | .bn=>C4
 | .tE=>C6
 | .kf=>sB
 | .bR=>OS
 | .dF=>akm
 | .Ev=>ars
 | .lV=>ako
 | .kj=>akq
 | .Plain=>abD
 | .gw=>ahf
theorem oc:(t:Tag)→0<kk t
 | .int=>by decide
 | .u8=>by decide
 | .str=>by decide
 | .sl _=>Nat.one_pos
 | .DB=>by decide
 | .bL=>by decide
 | .cH=>by decide
 | .bn=>by decide
 | .tE=>by decide
 | .kf=>by decide
 | .bR=>by decide
 | .dF=>by decide
 | .Ev=>by decide
 | .lV=>by decide
 | .kj=>by decide
 | .Plain=>by decide
 | .gw=>by decide
def aO:(t:Tag)→T t
 | .int=>(0:Int)
 | .u8=>(0:UInt8)
 | .str=>([]:List UInt8)
 | .sl t=>([]:List (T t))
 | .DB=>(default:DB)
 | .bL=>(default:bL)
 | .cH=>(default:cH)
 | .bn=>(default:bn)
 | .tE=>(default:tE)
 | .kf=>(default:kf)
 | .bR=>(default:bR)
 | .dF=>(default:dF)
 | .Ev=>(default:Ev)
 | .lV=>(default:lV)
 | .kj=>(default:kj)
 | .Plain=>(default:Plain)
 | .gw=>(default:gw)
inductive V where
 |any
 |lit(v:Value)
 |sl(t:Tag)(l:List (T t))
 |own(n:Nat)
 |ptr(n off:Nat)
 |Cm(n i off:Nat)
 |ip(t:Tag)(x:T t)(off:Nat)
 |vw(n:Nat)(p:Option (Nat×Nat))(t:Tag)(l:List (T t))
 |Xb(n:Nat)(p:Option (Nat×Nat×Nat))(t:Tag)(x:T t)(off:Nat)
 |Xc(n:Nat)(t:Tag)(l:List (T t))
 |mix(n:Nat)(c:Bool)(t:Tag)(l:List (T t))
 |RX(n:Nat)
 |S3(f:FuncId)(n:Nat)
 |Nb(k:Nat)
 |raw(v:Value)
 |uS(v:Value)(t:Tag)(l:List (T t))
def RI(w:World):V→Value→List Nat→Prop
 | .lit v,u,fp=>u=v∧v.oneCell'=true∧fp= []
 | .sl t l,u,fp=>Sl (kk t) (rd t) w u l fp
 |_,_,_=>False
def fH(w:World):List V→List Value→List Nat→Prop
 | [],[],fp=>fp= []
 |V::Vs,u::us,fp=> ∃f g,RI w V u f∧fH w Vs us g∧fp=f++g
 |_,_,_=>False
theorem fH.nil:fH w [] [] []:=rfl
theorem fH.lit{v:Value}{Vs:List V}{us:List Value}{g:List Nat}(hv:v.oneCell'=true)(h:fH w Vs us g):fH w (.lit v::Vs) (v::us) g:=⟨[],g,⟨rfl,hv,rfl⟩,h,rfl⟩
theorem fH.sl{u:Value}{t:Tag}{l:List (T t)}{f g:List Nat}{Vs:List V}{us:List Value}(k:Sl (kk t) (rd t) w u l f)(h:fH w Vs us g):fH w (.sl t l::Vs) (u::us) (f++g):=⟨f,g,k,h,rfl⟩
theorem fH.app: ∀{Vs Us:List V} {vs us:List Value} {f g:List Nat},fH w Vs vs f→fH w Us us g→fH w (Vs++Us) (vs++us) (f++g)
 | [],_,[],_,_,_,h,k=>by rw[show _=_ from h];exact k
 |_::_,_,_::_,_,_,_,⟨f1,f2,h1,h2,e⟩,k=>⟨f1,f2++_,h1,fH.app h2 k,by rw[e,List.append_assoc]⟩
 | [],_,_::_,_,_,_,h,_=>h.elim
 |_::_,_,[],_,_,_,h,_=>h.elim
theorem fH.len: ∀{Vs:List V} {us:List Value} {fp:List Nat},fH w Vs us fp→us.length=Vs.length
 | [],[],_,_=>rfl
 |_::_,_::_,_,⟨_,_,_,h,_⟩=>by simp[fH.len h]
 | [],_::_,_,h=>h.elim
 |_::_,[],_,h=>h.elim
def bT(x:DB):List V:= [.sl (.sl .u8) x.rows]
def AM(x:bL):List V:= [.lit (.int .i64 x.client)]++bT x.share
def ep(x:cH):List V:= [.lit (.int .i64 x.id), .lit (.int .i64 x.rows), .lit (.int .i64 x.round), .sl .bL x.received, .lit (.int .i64 x.behavior)]
def GG(x:bn):List V:= [.lit (.int .i64 x.round)]++bT x.db
def gX(x:tE):List V:= [.lit (.int .i64 x.rows), .sl .bn x.rounds]
def dw(x:kf):List V:= [.lit (.int .i64 x.id), .lit (.int .i64 x.gJ), .lit (.int .i64 x.key), .lit (.int .i64 x.seed), .sl (.sl .u8) x.aT, .lit (.int .i64 x.sent), .sl (.sl .u8) x.inbox, .lit (.int .i64 x.next)]
def dU(x:bR):List V:=dw x.live++dw x.saved
def bC(x:dF):List V:= [.lit (.int .i64 x.rows), .sl .cH x.aC, .sl .bR x.ah]++gX x.aH++ [.lit (.int .i64 x.bW), .lit (.int .i64 x.seed), .lit (.int .i64 x.round), .sl .int x.replaced, .lit (.int .i64 x.cancelled)]
def sC(x:Ev):List V:= [.lit (.int .i64 x.kind), .lit (.int .i64 x.node), .lit (.int .i64 x.value), .sl .u8 x.body]
def UG(x:lV):List V:= [.lit (.int .i64 x.fr), .lit (.int .i64 x.to), .lit (.int .i64 x.bytes)]
def sD(x:kj):List V:= [.lit (.int .i64 x.server), .lit (.int .i64 x.client), .lit (.int .i64 x.round), .lit (.int .i64 x.xl), .lit (.int .i64 x.mac)]
def pP(x:Plain):List V:= [.lit (.int .i64 x.kind), .sl .u8 x.body]
def lD(x:gw):List V:= [.lit (.int .i64 x.server), .lit (.int .i64 x.round), .sl .int x.selection, .sl .u8 x.data, .lit (.int .i64 x.mac)]
def dec:(t:Tag)→T t→List V
 | .int,n=> [.lit (.int .i64 n)]
 | .u8,n=> [.lit (.int .u8 n.toNat)]
 | .str,s=> [.lit (.string ⟨s.toArray⟩)]
 | .sl t,l=> [.sl t l]
 | .DB,x=>bT x
 | .bL,x=>AM x
 | .cH,x=>ep x
 | .bn,x=>GG x
 | .tE,x=>gX x
 | .kf,x=>dw x
 | .bR,x=>dU x
 | .dF,x=>bC x
 | .Ev,x=>sC x
 | .lV,x=>UG x
 | .kj,x=>sD x
 | .Plain,x=>pP x
 | .gw,x=>lD x
theorem OY{cs:List Value}{x:DB}:EDB w cs x fp→fH w (bT x) cs fp:=by
 rintro⟨v0,f0,rfl,h0,rfl⟩;have h:=(fH.sl (t:=(.sl .u8)) h0 fH.nil);simpa[bT]using h
theorem UH{cs:List Value}{x:bL}:HZ w cs x fp→fH w (AM x) cs fp:=by
 rintro⟨v0,f0,rfl,h0,rfl⟩;have h:=(fH.app (fH.lit (w:=w) (v:= .int .i64 x.client) rfl fH.nil) (OY h0));simpa[AM]using h
theorem ahi{cs:List Value}{x:cH}:akh w cs x fp→fH w (ep x) cs fp:=by
 rintro⟨v0,f0,rfl,h0,rfl⟩;have h:=(fH.lit (w:=w) (v:= .int .i64 x.id) rfl (fH.lit (w:=w) (v:= .int .i64 x.rows) rfl (fH.lit (w:=w) (v:= .int .i64 x.round) rfl (fH.sl (t:= .bL) h0 (fH.lit (w:=w) (v:= .int .i64 x.behavior) rfl fH.nil)))));simpa[ep]using h
theorem UI{cs:List Value}{x:bn}:H6 w cs x fp→fH w (GG x) cs fp:=by
 rintro⟨v0,f0,rfl,h0,rfl⟩;have h:=(fH.app (fH.lit (w:=w) (v:= .int .i64 x.round) rfl fH.nil) (OY h0));simpa[GG]using h
theorem S4{cs:List Value}{x:tE}:aki w cs x fp→fH w (gX x) cs fp:=by
 rintro⟨v0,f0,rfl,h0,rfl⟩;have h:=(fH.lit (w:=w) (v:= .int .i64 x.rows) rfl (fH.sl (t:= .bn) h0 fH.nil));simpa[gX]using h
theorem Kv{cs:List Value}{x:kf}:ahe w cs x fp→fH w (dw x) cs fp:=by
 rintro⟨v0,v1,f0,f1,rfl,h0,h1,rfl⟩;have h:=(fH.lit (w:=w) (v:= .int .i64 x.id) rfl (fH.lit (w:=w) (v:= .int .i64 x.gJ) rfl (fH.lit (w:=w) (v:= .int .i64 x.key) rfl (fH.lit (w:=w) (v:= .int .i64 x.seed) rfl (fH.sl (t:=(.sl .u8)) h0 (fH.lit (w:=w) (v:= .int .i64 x.sent) rfl (fH.sl (t:=(.sl .u8)) h1 (fH.lit (w:=w) (v:= .int .i64 x.next) rfl fH.nil))))))));simpa[dw]using h
theorem ahj{cs:List Value}{x:bR}:akj w cs x fp→fH w (dU x) cs fp:=by
 rintro⟨v0,v1,f0,f1,rfl,h0,h1,rfl⟩;have h:=(fH.app (Kv h0) (Kv h1));simpa[dU]using h
theorem ahk{cs:List Value}{x:dF}:arq w cs x fp→fH w (bC x) cs fp:=by
 rintro⟨v0,v1,v2,v3,f0,f1,f2,f3,rfl,h0,h1,h2,h3,rfl⟩;have h:=(fH.app (fH.app (fH.lit (w:=w) (v:= .int .i64 x.rows) rfl (fH.sl (t:= .cH) h0 (fH.sl (t:= .bR) h1 fH.nil))) (S4 h2)) (fH.lit (w:=w) (v:= .int .i64 x.bW) rfl (fH.lit (w:=w) (v:= .int .i64 x.seed) rfl (fH.lit (w:=w) (v:= .int .i64 x.round) rfl (fH.sl (t:= .int) h3 (fH.lit (w:=w) (v:= .int .i64 x.cancelled) rfl fH.nil))))));simpa[bC]using h
theorem aky{cs:List Value}{x:Ev}:EEv w cs x fp→fH w (sC x) cs fp:=by
 rintro⟨v0,f0,rfl,h0,rfl⟩;have h:=(fH.lit (w:=w) (v:= .int .i64 x.kind) rfl (fH.lit (w:=w) (v:= .int .i64 x.node) rfl (fH.lit (w:=w) (v:= .int .i64 x.value) rfl (fH.sl (t:= .u8) h0 fH.nil))));simpa[sC]using h
theorem ahl{cs:List Value}{x:lV}:akn w cs x fp→fH w (UG x) cs fp:=by
 rintro⟨rfl,rfl⟩;have h:=(fH.lit (w:=w) (v:= .int .i64 x.fr) rfl (fH.lit (w:=w) (v:= .int .i64 x.to) rfl (fH.lit (w:=w) (v:= .int .i64 x.bytes) rfl fH.nil)));simpa[UG]using h
theorem ahm{cs:List Value}{x:kj}:akp w cs x fp→fH w (sD x) cs fp:=by
 rintro⟨rfl,rfl⟩;have h:=(fH.lit (w:=w) (v:= .int .i64 x.server) rfl (fH.lit (w:=w) (v:= .int .i64 x.client) rfl (fH.lit (w:=w) (v:= .int .i64 x.round) rfl (fH.lit (w:=w) (v:= .int .i64 x.xl) rfl (fH.lit (w:=w) (v:= .int .i64 x.mac) rfl fH.nil)))));simpa[sD]using h
theorem XO{cs:List Value}{x:Plain}:UF w cs x fp→fH w (pP x) cs fp:=by
 rintro⟨v0,f0,rfl,h0,rfl⟩;have h:=(fH.lit (w:=w) (v:= .int .i64 x.kind) rfl (fH.sl (t:= .u8) h0 fH.nil));simpa[pP]using h
theorem abG{cs:List Value}{x:gw}:adZ w cs x fp→fH w (lD x) cs fp:=by
 rintro⟨v0,v1,f0,f1,rfl,h0,h1,rfl⟩;have h:=(fH.lit (w:=w) (v:= .int .i64 x.server) rfl (fH.lit (w:=w) (v:= .int .i64 x.round) rfl (fH.sl (t:= .int) h0 (fH.sl (t:= .u8) h1 (fH.lit (w:=w) (v:= .int .i64 x.mac) rfl fH.nil)))));simpa[lD]using h
theorem reads:(t:Tag)→{cs:List Value}→{x:T t}→{fp:List Nat}→rd t w cs x fp→fH w (dec t x) cs fp
 | .int,_,_,_,⟨rfl,rfl⟩=>fH.lit (v:= .int .i64 _) rfl fH.nil
 | .u8,_,_,_,⟨rfl,rfl⟩=>fH.lit (v:= .int .u8 _) rfl fH.nil
 | .str,_,_,_,⟨rfl,_,rfl⟩=>fH.lit (v:= .string _) rfl fH.nil
 | .sl t,_,_,_,⟨v,rfl,h⟩=>by have:=fH.sl (t:=t) h (fH.nil);rwa [cW]at this
 | .DB,_,_,_,h=>OY h
 | .bL,_,_,_,h=>UH h
 | .cH,_,_,_,h=>ahi h
 | .bn,_,_,_,h=>UI h
 | .tE,_,_,_,h=>S4 h
 | .kf,_,_,_,h=>Kv h
 | .bR,_,_,_,h=>ahj h
 | .dF,_,_,_,h=>ahk h
 | .Ev,_,_,_,h=>aky h
 | .lV,_,_,_,h=>ahl h
 | .kj,_,_,_,h=>ahm h
 | .Plain,_,_,_,h=>XO h
 | .gw,_,_,_,h=>abG h
end
section
variable(t:Tag){w:World}{c:List V}{us:List Value}{fp:List Nat}
def rM:(t t':Tag)→List (T t')→Option (List (T t))
 | .int, .int,l=>some l
 | .u8, .u8,l=>some l
 | .str, .str,l=>some l
 | .sl .int, .sl .int,l=>some l
 | .sl .u8, .sl .u8,l=>some l
 | .sl .str, .sl .str,l=>some l
 | .sl (.sl .u8), .sl (.sl .u8),l=>some l
 | .sl (.sl .int), .sl (.sl .int),l=>some l
 | .DB, .DB,l=>some l
 | .bL, .bL,l=>some l
 | .cH, .cH,l=>some l
 | .bn, .bn,l=>some l
 | .tE, .tE,l=>some l
 | .kf, .kf,l=>some l
 | .bR, .bR,l=>some l
 | .dF, .dF,l=>some l
 | .Ev, .Ev,l=>some l
 | .lV, .lV,l=>some l
 | .kj, .kj,l=>some l
 | .Plain, .Plain,l=>some l
 | .gw, .gw,l=>some l
 |_,_,_=>none
theorem kq{t t':Tag}{l:List (T t')}{l2:List (T t)}(h:rM t t' l=some l2): ∃e:t'=t,l2=e▸l:=by
 unfold rM at h;split at h<;>first
  | (simp only[oI]at h;exact⟨rfl,h.symm⟩)
  |cases h
def gi:V→Option Int
 | .lit (.int .i64 n)=>some n
 |_=>none
def gs:V→Option (List (T t))
 | .sl t' l=>rM t t' l
 | .lit (.slice none 0 0)=>some []
 |_=>none
theorem kE{v:V}{u:Value}{f:List Nat}{n:Int}(h:gi v=some n)(hr:RI w v u f):u= .int .i64 n∧f= []:=by
 unfold gi at h;split at h
 ·simp only[oI]at h;subst h;exact⟨hr.1,hr.2.2⟩
 ·cases h
theorem zH{t:Tag}{v:V}{u:Value}{f:List Nat}{l:List (T t)}(h:gs t v=some l)(hr:RI w v u f):Sl (kk t) (rd t) w u l f:=by
 unfold gs at h;split at h
 ·rename_i t' l';obtain⟨he,rfl⟩:=kq h;subst he;exact hr
 ·simp only[oI]at h;subst h;obtain⟨rfl,_,rfl⟩:=hr;exact⟨none,0,rfl,aS _,aY _,bP ⟨rfl,rfl,rfl⟩⟩
 ·cases h
def Kw:List V→Option DB
 | [a0]=>match gs (.sl .u8) a0 with
   |some x0=>some ⟨x0⟩
   |_=>none
 |_=>none
theorem E1{x:DB}(h:Kw c=some x)(hr:fH w c us fp):EDB w us x fp:=by
 unfold Kw at h;split at h
 ·rename_i a0;split at h
  ·rename_i x0 e0;simp only[oI]at h;subst h;match us,hr with
   | [u0],⟨f0,g0,r0,h9,q0⟩=>
     have h9:g0= []:=h9;have z0:=zH e0 r0;refine⟨u0,f0,?_,z0,?_⟩
     ·rfl
     ·simp[q0,h9]
  ·cases h
 ·cases h
def AN:List V→Option bL
 | [a0,a1]=>match gi a0,Kw [a1]with
   |some x0,some x1=>some ⟨x0,x1⟩
   |_,_=>none
 |_=>none
theorem Gd{x:bL}(h:AN c=some x)(hr:fH w c us fp):HZ w us x fp:=by
 unfold AN at h;split at h
 ·rename_i a0 a1;split at h
  ·rename_i x0 x1 e0 e1;simp only[oI]at h;subst h;match us,hr with
   | [u0,u1],⟨f0,g0,r0,⟨f1,g1,r1,h9,q1⟩,q0⟩=>
     have h9:g1= []:=h9;obtain⟨z0,y0⟩:=kE e0 r0;have z1:=E1 (w:=w) (us:= [u1]) (fp:=(f1++ [])) e1 ⟨f1,_,r1,rfl,rfl⟩;refine⟨[u1],(f1++ []),?_,z1,?_⟩
     ·simp[z0]
     ·simp[q0,q1,h9,y0]
  ·cases h
 ·cases h
def NS:List V→Option cH
 | [a0,a1,a2,a3,a4]=>match gi a0,gi a1,gi a2,gs .bL a3,gi a4 with
   |some x0,some x1,some x2,some x3,some x4=>some ⟨x0,x1,x2,x3,x4⟩
   |_,_,_,_,_=>none
 |_=>none
theorem OZ{x:cH}(h:NS c=some x)(hr:fH w c us fp):akh w us x fp:=by
 unfold NS at h;split at h
 ·rename_i a0 a1 a2 a3 a4;split at h
  ·rename_i x0 x1 x2 x3 x4 e0 e1 e2 e3 e4;simp only[oI]at h;subst h;match us,hr with
   | [u0,u1,u2,u3,u4],⟨f0,g0,r0,⟨f1,g1,r1,⟨f2,g2,r2,⟨f3,g3,r3,⟨f4,g4,r4,h9,q4⟩,q3⟩,q2⟩,q1⟩,q0⟩=>
     have h9:g4= []:=h9;obtain⟨z0,y0⟩:=kE e0 r0;obtain⟨z1,y1⟩:=kE e1 r1;obtain⟨z2,y2⟩:=kE e2 r2;have z3:=zH e3 r3;obtain⟨z4,y4⟩:=kE e4 r4;refine⟨u3,f3,?_,z3,?_⟩
     ·simp[z0,z1,z2,z4]
     ·simp[q0,q1,q2,q3,q4,h9,y0,y1,y2,y4]
  ·cases h
 ·cases h
def AO:List V→Option bn
 | [a0,a1]=>match gi a0,Kw [a1]with
   |some x0,some x1=>some ⟨x0,x1⟩
   |_,_=>none
 |_=>none
theorem Ge{x:bn}(h:AO c=some x)(hr:fH w c us fp):H6 w us x fp:=by
 unfold AO at h;split at h
 ·rename_i a0 a1;split at h
  ·rename_i x0 x1 e0 e1;simp only[oI]at h;subst h;match us,hr with
   | [u0,u1],⟨f0,g0,r0,⟨f1,g1,r1,h9,q1⟩,q0⟩=>
     have h9:g1= []:=h9;obtain⟨z0,y0⟩:=kE e0 r0;have z1:=E1 (w:=w) (us:= [u1]) (fp:=(f1++ [])) e1 ⟨f1,_,r1,rfl,rfl⟩;refine⟨[u1],(f1++ []),?_,z1,?_⟩
     ·simp[z0]
     ·simp[q0,q1,h9,y0]
  ·cases h
 ·cases h
def H9:List V→Option tE
 | [a0,a1]=>match gi a0,gs .bn a1 with
   |some x0,some x1=>some ⟨x0,x1⟩
   |_,_=>none
 |_=>none
theorem GH{x:tE}(h:H9 c=some x)(hr:fH w c us fp):aki w us x fp:=by
 unfold H9 at h;split at h
 ·rename_i a0 a1;split at h
  ·rename_i x0 x1 e0 e1;simp only[oI]at h;subst h;match us,hr with
   | [u0,u1],⟨f0,g0,r0,⟨f1,g1,r1,h9,q1⟩,q0⟩=>
     have h9:g1= []:=h9;obtain⟨z0,y0⟩:=kE e0 r0;have z1:=zH e1 r1;refine⟨u1,f1,?_,z1,?_⟩
     ·simp[z0]
     ·simp[q0,q1,h9,y0]
  ·cases h
 ·cases h
def E2:List V→Option kf
 | [a0,a1,a2,a3,a4,a5,a6,a7]=>match gi a0,gi a1,gi a2,gi a3,gs (.sl .u8) a4,gi a5,gs (.sl .u8) a6,gi a7 with
   |some x0,some x1,some x2,some x3,some x4,some x5,some x6,some x7=>some ⟨x0,x1,x2,x3,x4,x5,x6,x7⟩
   |_,_,_,_,_,_,_,_=>none
 |_=>none
theorem AP{x:kf}(h:E2 c=some x)(hr:fH w c us fp):ahe w us x fp:=by
 unfold E2 at h;split at h
 ·rename_i a0 a1 a2 a3 a4 a5 a6 a7;split at h
  ·rename_i x0 x1 x2 x3 x4 x5 x6 x7 e0 e1 e2 e3 e4 e5 e6 e7;simp only[oI]at h;subst h;match us,hr with
   | [u0,u1,u2,u3,u4,u5,u6,u7],⟨f0,g0,r0,⟨f1,g1,r1,⟨f2,g2,r2,⟨f3,g3,r3,⟨f4,g4,r4,⟨f5,g5,r5,⟨f6,g6,r6,⟨f7,g7,r7,h9,q7⟩,q6⟩,q5⟩,q4⟩,q3⟩,q2⟩,q1⟩,q0⟩=>
     have h9:g7= []:=h9;obtain⟨z0,y0⟩:=kE e0 r0;obtain⟨z1,y1⟩:=kE e1 r1;obtain⟨z2,y2⟩:=kE e2 r2;obtain⟨z3,y3⟩:=kE e3 r3;have z4:=zH e4 r4;obtain⟨z5,y5⟩:=kE e5 r5;have z6:=zH e6 r6;obtain⟨z7,y7⟩:=kE e7 r7;refine⟨u4,u6,f4,f6,?_,z4,z6,?_⟩
     ·simp[z0,z1,z2,z3,z5,z7]
     ·simp[q0,q1,q2,q3,q4,q5,q6,q7,h9,y0,y1,y2,y3,y5,y7]
  ·cases h
 ·cases h
def NT:List V→Option bR
 | [a0,a1,a2,a3,a4,a5,a6,a7,a8,a9,a10,a11,a12,a13,a14,a15]=>match E2 [a0,a1,a2,a3,a4,a5,a6,a7],E2 [a8,a9,a10,a11,a12,a13,a14,a15]with
   |some x0,some x8=>some ⟨x0,x8⟩
   |_,_=>none
 |_=>none
theorem O0{x:bR}(h:NT c=some x)(hr:fH w c us fp):akj w us x fp:=by
 unfold NT at h;split at h
 ·rename_i a0 a1 a2 a3 a4 a5 a6 a7 a8 a9 a10 a11 a12 a13 a14 a15;split at h
  ·rename_i x0 x8 e0 e1;simp only[oI]at h;subst h;match us,hr with
   | [u0,u1,u2,u3,u4,u5,u6,u7,u8,u9,u10,u11,u12,u13,u14,u15],⟨f0,g0,r0,⟨f1,g1,r1,⟨f2,g2,r2,⟨f3,g3,r3,⟨f4,g4,r4,⟨f5,g5,r5,⟨f6,g6,r6,⟨f7,g7,r7,⟨f8,g8,r8,⟨f9,g9,r9,⟨f10,g10,r10,⟨f11,g11,r11,⟨f12,g12,r12,⟨f13,g13,r13,⟨f14,g14,r14,⟨f15,g15,r15,h9,q15⟩,q14⟩,q13⟩,q12⟩,q11⟩,q10⟩,q9⟩,q8⟩,q7⟩,q6⟩,q5⟩,q4⟩,q3⟩,q2⟩,q1⟩,q0⟩=>
     have h9:g15= []:=h9;have z0:=AP (w:=w) (us:= [u0,u1,u2,u3,u4,u5,u6,u7]) (fp:=(f0++(f1++(f2++(f3++(f4++(f5++(f6++(f7++ []))))))))) e0 ⟨f0,_,r0,⟨f1,_,r1,⟨f2,_,r2,⟨f3,_,r3,⟨f4,_,r4,⟨f5,_,r5,⟨f6,_,r6,⟨f7,_,r7,rfl,rfl⟩,rfl⟩,rfl⟩,rfl⟩,rfl⟩,rfl⟩,rfl⟩,rfl⟩;have z8:=AP (w:=w) (us:= [u8,u9,u10,u11,u12,u13,u14,u15]) (fp:=(f8++(f9++(f10++(f11++(f12++(f13++(f14++(f15++ []))))))))) e1 ⟨f8,_,r8,⟨f9,_,r9,⟨f10,_,r10,⟨f11,_,r11,⟨f12,_,r12,⟨f13,_,r13,⟨f14,_,r14,⟨f15,_,r15,rfl,rfl⟩,rfl⟩,rfl⟩,rfl⟩,rfl⟩,rfl⟩,rfl⟩,rfl⟩;refine⟨[u0,u1,u2,u3,u4,u5,u6,u7],[u8,u9,u10,u11,u12,u13,u14,u15],(f0++(f1++(f2++(f3++(f4++(f5++(f6++(f7++ [])))))))),(f8++(f9++(f10++(f11++(f12++(f13++(f14++(f15++ [])))))))),?_,z0,z8,?_⟩
     ·rfl
     ·simp[q0,q1,q2,q3,q4,q5,q6,q7,q8,q9,q10,q11,q12,q13,q14,q15,h9]
  ·cases h
 ·cases h
def NU:List V→Option dF
 | [a0,a1,a2,a3,a4,a5,a6,a7,a8,a9]=>match gi a0,gs .cH a1,gs .bR a2,H9 [a3,a4],gi a5,gi a6,gi a7,gs .int a8,gi a9 with
   |some x0,some x1,some x2,some x3,some x5,some x6,some x7,some x8,some x9=>some ⟨x0,x1,x2,x3,x5,x6,x7,x8,x9⟩
   |_,_,_,_,_,_,_,_,_=>none
 |_=>none
theorem O1{x:dF}(h:NU c=some x)(hr:fH w c us fp):arq w us x fp:=by
 unfold NU at h;split at h
 ·rename_i a0 a1 a2 a3 a4 a5 a6 a7 a8 a9;split at h
  ·rename_i x0 x1 x2 x3 x5 x6 x7 x8 x9 e0 e1 e2 e3 e4 e5 e6 e7 e8;simp only[oI]at h;subst h;match us,hr with
   | [u0,u1,u2,u3,u4,u5,u6,u7,u8,u9],⟨f0,g0,r0,⟨f1,g1,r1,⟨f2,g2,r2,⟨f3,g3,r3,⟨f4,g4,r4,⟨f5,g5,r5,⟨f6,g6,r6,⟨f7,g7,r7,⟨f8,g8,r8,⟨f9,g9,r9,h9,q9⟩,q8⟩,q7⟩,q6⟩,q5⟩,q4⟩,q3⟩,q2⟩,q1⟩,q0⟩=>
     have h9:g9= []:=h9;obtain⟨z0,y0⟩:=kE e0 r0;have z1:=zH e1 r1;have z2:=zH e2 r2;have z3:=GH (w:=w) (us:= [u3,u4]) (fp:=(f3++(f4++ []))) e3 ⟨f3,_,r3,⟨f4,_,r4,rfl,rfl⟩,rfl⟩;obtain⟨z5,y5⟩:=kE e4 r5;obtain⟨z6,y6⟩:=kE e5 r6;obtain⟨z7,y7⟩:=kE e6 r7;have z8:=zH e7 r8;obtain⟨z9,y9⟩:=kE e8 r9;refine⟨u1,u2,[u3,u4],u8,f1,f2,(f3++(f4++ [])),f8,?_,z1,z2,z3,z8,?_⟩
     ·simp[z0,z5,z6,z7,z9]
     ·simp[q0,q1,q2,q3,q4,q5,q6,q7,q8,q9,h9,y0,y5,y6,y7,y9]
  ·cases h
 ·cases h
def UJ:List V→Option Ev
 | [a0,a1,a2,a3]=>match gi a0,gi a1,gi a2,gs .u8 a3 with
   |some x0,some x1,some x2,some x3=>some ⟨x0,x1,x2,x3⟩
   |_,_,_,_=>none
 |_=>none
theorem S5{x:Ev}(h:UJ c=some x)(hr:fH w c us fp):EEv w us x fp:=by
 unfold UJ at h;split at h
 ·rename_i a0 a1 a2 a3;split at h
  ·rename_i x0 x1 x2 x3 e0 e1 e2 e3;simp only[oI]at h;subst h;match us,hr with
   | [u0,u1,u2,u3],⟨f0,g0,r0,⟨f1,g1,r1,⟨f2,g2,r2,⟨f3,g3,r3,h9,q3⟩,q2⟩,q1⟩,q0⟩=>
     have h9:g3= []:=h9;obtain⟨z0,y0⟩:=kE e0 r0;obtain⟨z1,y1⟩:=kE e1 r1;obtain⟨z2,y2⟩:=kE e2 r2;have z3:=zH e3 r3;refine⟨u3,f3,?_,z3,?_⟩
     ·simp[z0,z1,z2]
     ·simp[q0,q1,q2,q3,h9,y0,y1,y2]
  ·cases h
 ·cases h
def NV:List V→Option lV
 | [a0,a1,a2]=>match gi a0,gi a1,gi a2 with
   |some x0,some x1,some x2=>some ⟨x0,x1,x2⟩
   |_,_,_=>none
 |_=>none
theorem O2{x:lV}(h:NV c=some x)(hr:fH w c us fp):akn w us x fp:=by
 unfold NV at h;split at h
 ·rename_i a0 a1 a2;split at h
  ·rename_i x0 x1 x2 e0 e1 e2;simp only[oI]at h;subst h;match us,hr with
   | [u0,u1,u2],⟨f0,g0,r0,⟨f1,g1,r1,⟨f2,g2,r2,h9,q2⟩,q1⟩,q0⟩=>
     have h9:g2= []:=h9;obtain⟨z0,y0⟩:=kE e0 r0;obtain⟨z1,y1⟩:=kE e1 r1;obtain⟨z2,y2⟩:=kE e2 r2;refine⟨?_,?_⟩
     ·simp[z0,z1,z2]
     ·simp[q0,q1,q2,h9,y0,y1,y2]
  ·cases h
 ·cases h
def NW:List V→Option kj
 | [a0,a1,a2,a3,a4]=>match gi a0,gi a1,gi a2,gi a3,gi a4 with
   |some x0,some x1,some x2,some x3,some x4=>some ⟨x0,x1,x2,x3,x4⟩
   |_,_,_,_,_=>none
 |_=>none
theorem O3{x:kj}(h:NW c=some x)(hr:fH w c us fp):akp w us x fp:=by
 unfold NW at h;split at h
 ·rename_i a0 a1 a2 a3 a4;split at h
  ·rename_i x0 x1 x2 x3 x4 e0 e1 e2 e3 e4;simp only[oI]at h;subst h;match us,hr with
   | [u0,u1,u2,u3,u4],⟨f0,g0,r0,⟨f1,g1,r1,⟨f2,g2,r2,⟨f3,g3,r3,⟨f4,g4,r4,h9,q4⟩,q3⟩,q2⟩,q1⟩,q0⟩=>
     have h9:g4= []:=h9;obtain⟨z0,y0⟩:=kE e0 r0;obtain⟨z1,y1⟩:=kE e1 r1;obtain⟨z2,y2⟩:=kE e2 r2;obtain⟨z3,y3⟩:=kE e3 r3;obtain⟨z4,y4⟩:=kE e4 r4;refine⟨?_,?_⟩
     ·simp[z0,z1,z2,z3,z4]
     ·simp[q0,q1,q2,q3,q4,h9,y0,y1,y2,y3,y4]
  ·cases h
 ·cases h
def E3:List V→Option Plain
 | [a0,a1]=>match gi a0,gs .u8 a1 with
   |some x0,some x1=>some ⟨x0,x1⟩
   |_,_=>none
 |_=>none
theorem Ia{x:Plain}(h:E3 c=some x)(hr:fH w c us fp):UF w us x fp:=by
 unfold E3 at h;split at h
 ·rename_i a0 a1;split at h
  ·rename_i x0 x1 e0 e1;simp only[oI]at h;subst h;match us,hr with
   | [u0,u1],⟨f0,g0,r0,⟨f1,g1,r1,h9,q1⟩,q0⟩=>
     have h9:g1= []:=h9;obtain⟨z0,y0⟩:=kE e0 r0;have z1:=zH e1 r1;refine⟨u1,f1,?_,z1,?_⟩
     ·simp[z0]
     ·simp[q0,q1,h9,y0]
  ·cases h
 ·cases h
def Ib:List V→Option gw
 | [a0,a1,a2,a3,a4]=>match gi a0,gi a1,gs .int a2,gs .u8 a3,gi a4 with
   |some x0,some x1,some x2,some x3,some x4=>some ⟨x0,x1,x2,x3,x4⟩
   |_,_,_,_,_=>none
 |_=>none
theorem Mp{x:gw}(h:Ib c=some x)(hr:fH w c us fp):adZ w us x fp:=by
 unfold Ib at h;split at h
 ·rename_i a0 a1 a2 a3 a4;split at h
  ·rename_i x0 x1 x2 x3 x4 e0 e1 e2 e3 e4;simp only[oI]at h;subst h;match us,hr with
   | [u0,u1,u2,u3,u4],⟨f0,g0,r0,⟨f1,g1,r1,⟨f2,g2,r2,⟨f3,g3,r3,⟨f4,g4,r4,h9,q4⟩,q3⟩,q2⟩,q1⟩,q0⟩=>
     have h9:g4= []:=h9;obtain⟨z0,y0⟩:=kE e0 r0;obtain⟨z1,y1⟩:=kE e1 r1;have z2:=zH e2 r2;have z3:=zH e3 r3;obtain⟨z4,y4⟩:=kE e4 r4;refine⟨u2,u3,f2,f3,?_,z2,z3,?_⟩
     ·simp[z0,z1,z4]
     ·simp[q0,q1,q2,q3,q4,h9,y0,y1,y4]
  ·cases h
 ·cases h
def UK:List V→Option (List Prop×Int)
 | [v]=>match gi v with|some n=>some ([],n)|none=>none
 |_=>none
def abH:List V→Option (List Prop×UInt8)
 | [.lit (.int .u8 n)]=>some ([0≤n∧n<256],cN n.toNat)
 |_=>none
def UL:List V→Option (List Prop×List UInt8)
 | [.lit (.string s)]=>some ([s.size≤maxLen],s.data.toList)
 |_=>none
def abI:List V→Option (List Prop×List (T t))
 | [v]=>match gs t v with|some l=>some ([],l)|none=>none
 |_=>none
def tF{α:Type}:Option α→Option (List Prop×α)
 |some x=>some ([],x)
 |none=>none
theorem lg{α:Type}{o:Option α}{vc:List Prop}{x:α}(h:tF o=some (vc,x)):o=some x:=by
 cases o with
 |none=>cases h
 |some y=>simp only[tF,oI,pI]at h;rw[h.2]
def enc:(t:Tag)→List V→Option (List Prop×T t)
 | .int,c=>UK c
 | .u8,c=>abH c
 | .str,c=>UL c
 | .sl t,c=>abI t c
 | .DB,c=>tF (Kw c)
 | .bL,c=>tF (AN c)
 | .cH,c=>tF (NS c)
 | .bn,c=>tF (AO c)
 | .tE,c=>tF (H9 c)
 | .kf,c=>tF (E2 c)
 | .bR,c=>tF (NT c)
 | .dF,c=>tF (NU c)
 | .Ev,c=>tF (UJ c)
 | .lV,c=>tF (NV c)
 | .kj,c=>tF (NW c)
 | .Plain,c=>tF (E3 c)
 | .gw,c=>tF (Ib c)
theorem C7:(t:Tag)→{c:List V}→{us:List Value}→{fp:List Nat}→{vc:List Prop}→{x:T t}→enc t c=some (vc,x)→(∀q,q∈vc→q)→fH w c us fp→rd t w us x fp
 | .int,c,us,fp,vc,x,h,hv,hr=>by
   have h:UK c=some (vc,x):=h;unfold UK at h;split at h<;>first| (cases h;done)|skip
   ·split at h
    ·rename_i v _ n e;simp only[oI,pI]at h;obtain⟨rfl,rfl⟩:=h;match us,hr with
     | [u],⟨f,g,r,h9,q⟩=>
       obtain⟨z,y⟩:=kE e r;have h9:g= []:=h9;exact⟨by rw[z],by simp[q,y,h9]⟩
    ·cases h
 | .u8,c,us,fp,vc,x,h,hv,hr=>by
   have h:abH c=some (vc,x):=h;unfold abH at h;split at h<;>first| (cases h;done)|skip
   ·rename_i n _;simp only[oI,pI]at h;obtain⟨rfl,rfl⟩:=h;obtain⟨h0,h1⟩:=hv _ (aV.2 rfl);match us,hr with
    | [u],⟨f,g,r,h9,q⟩=>
      have h9:g= []:=h9;obtain⟨rfl,_,rfl⟩:=r;refine⟨?_,by simp[q,h9]⟩;have:((cN n.toNat).toNat:Int)=n:=by rw[H7];omega
      rw[this]
 | .str,c,us,fp,vc,x,h,hv,hr=>by
   have h:UL c=some (vc,x):=h;unfold UL at h;split at h<;>first| (cases h;done)|skip
   ·rename_i s _;simp only[oI,pI]at h;obtain⟨rfl,rfl⟩:=h;have h0:=hv _ (aV.2 rfl);match us,hr with
    | [u],⟨f,g,r,h9,q⟩=>
      have h9:g= []:=h9;obtain⟨rfl,_,rfl⟩:=r;exact⟨rfl,h0,by simp[q,h9]⟩
 | .sl t,c,us,fp,vc,x,h,hv,hr=>by
   have h:abI t c=some (vc,x):=h;unfold abI at h;split at h<;>first| (cases h;done)|skip
   ·split at h
    ·rename_i v _ l e;simp only[oI,pI]at h;obtain⟨rfl,rfl⟩:=h;match us,hr with
     | [u],⟨f,g,r,h9,q⟩=>
       have h9:g= []:=h9;refine⟨u,rfl,?_⟩;have:=zH e r;rw[q,h9,cW];exact this
    ·cases h
 | .DB,c,us,fp,vc,x,h,hv,hr=>by
   exact E1 (lg (show tF (Kw c)=_ from h)) hr
 | .bL,c,us,fp,vc,x,h,hv,hr=>by
   exact Gd (lg (show tF (AN c)=_ from h)) hr
 | .cH,c,us,fp,vc,x,h,hv,hr=>by
   exact OZ (lg (show tF (NS c)=_ from h)) hr
 | .bn,c,us,fp,vc,x,h,hv,hr=>by
   exact Ge (lg (show tF (AO c)=_ from h)) hr
 | .tE,c,us,fp,vc,x,h,hv,hr=>by
   exact GH (lg (show tF (H9 c)=_ from h)) hr
 | .kf,c,us,fp,vc,x,h,hv,hr=>by
   exact AP (lg (show tF (E2 c)=_ from h)) hr
 | .bR,c,us,fp,vc,x,h,hv,hr=>by
   exact O0 (lg (show tF (NT c)=_ from h)) hr
 | .dF,c,us,fp,vc,x,h,hv,hr=>by
   exact O1 (lg (show tF (NU c)=_ from h)) hr
 | .Ev,c,us,fp,vc,x,h,hv,hr=>by
   exact S5 (lg (show tF (UJ c)=_ from h)) hr
 | .lV,c,us,fp,vc,x,h,hv,hr=>by
   exact O2 (lg (show tF (NV c)=_ from h)) hr
 | .kj,c,us,fp,vc,x,h,hv,hr=>by
   exact O3 (lg (show tF (NW c)=_ from h)) hr
 | .Plain,c,us,fp,vc,x,h,hv,hr=>by
   exact Ia (lg (show tF (E3 c)=_ from h)) hr
 | .gw,c,us,fp,vc,x,h,hv,hr=>by
   exact Mp (lg (show tF (Ib c)=_ from h)) hr
def oL:Tag→Value
 | .int=> .int .i64 0
 | .u8=> .int .u8 0
 | .str=> .string ⟨#[]⟩
 | .sl _=> .slice none 0 0
 | .DB=> .agg #[.slice none 0 0]
 | .bL=> .agg #[.int .i64 0, .slice none 0 0]
 | .cH=> .agg #[.int .i64 0, .int .i64 0, .int .i64 0, .slice none 0 0, .int .i64 0]
 | .bn=> .agg #[.int .i64 0, .slice none 0 0]
 | .tE=> .agg #[.int .i64 0, .slice none 0 0]
 | .kf=> .agg #[.int .i64 0, .int .i64 0, .int .i64 0, .int .i64 0, .slice none 0 0, .int .i64 0, .slice none 0 0, .int .i64 0]
 | .bR=> .agg #[.int .i64 0, .int .i64 0, .int .i64 0, .int .i64 0, .slice none 0 0, .int .i64 0, .slice none 0 0, .int .i64 0, .int .i64 0, .int .i64 0, .int .i64 0, .int .i64 0, .slice none 0 0, .int .i64 0, .slice none 0 0, .int .i64 0]
 | .dF=> .agg #[.int .i64 0, .slice none 0 0, .slice none 0 0, .int .i64 0, .slice none 0 0, .int .i64 0, .int .i64 0, .int .i64 0, .slice none 0 0, .int .i64 0]
 | .Ev=> .agg #[.int .i64 0, .int .i64 0, .int .i64 0, .slice none 0 0]
 | .lV=> .agg #[.int .i64 0, .int .i64 0, .int .i64 0]
 | .kj=> .agg #[.int .i64 0, .int .i64 0, .int .i64 0, .int .i64 0, .int .i64 0]
 | .Plain=> .agg #[.int .i64 0, .slice none 0 0]
 | .gw=> .agg #[.int .i64 0, .int .i64 0, .slice none 0 0, .slice none 0 0, .int .i64 0]
def vI:Tag→Nat
 | .int=>8
 | .u8=>1
 | .str=>16
 | .sl _=>24
 | .DB=>24
 | .bL=>32
 | .cH=>56
 | .bn=>32
 | .tE=>32
 | .kf=>96
 | .bR=>192
 | .dF=>144
 | .Ev=>48
 | .lV=>24
 | .kj=>40
 | .Plain=>32
 | .gw=>72
theorem xm:(t:Tag)→(oL t).cells.size=kk t
 | .int=>rfl
 | .u8=>rfl
 | .str=>rfl
 | .sl _=>rfl
 | .DB=>rfl
 | .bL=>rfl
 | .cH=>rfl
 | .bn=>rfl
 | .tE=>rfl
 | .kf=>rfl
 | .bR=>rfl
 | .dF=>rfl
 | .Ev=>rfl
 | .lV=>rfl
 | .kj=>rfl
 | .Plain=>rfl
 | .gw=>rfl
def flat:Tag→Bool
 | .int=>true
 | .u8=>true
 | .str=>true
 | .sl _=>false
 | .DB=>false
 | .bL=>false
 | .cH=>false
 | .bn=>false
 | .tE=>false
 | .kf=>false
 | .bR=>false
 | .dF=>false
 | .Ev=>false
 | .lV=>true
 | .kj=>true
 | .Plain=>false
 | .gw=>false
theorem aru{cs:List Value}{x:T t}(hf:flat t=true)(h:rd t w cs x fp):fp= []:=by
 cases t with
 |int=>exact(show aj9 w cs x fp from h).2
 |u8=>exact(show EU8 w cs x fp from h).2
 |str=>exact(show aka w cs x fp from h).2.2
 |sl _=>cases hf
 |DB=>cases hf
 |bL=>cases hf
 |cH=>cases hf
 |bn=>cases hf
 |tE=>cases hf
 |kf=>cases hf
 |bR=>cases hf
 |dF=>cases hf
 |Ev=>cases hf
 |lV=>exact(show akn w cs x fp from h).2
 |kj=>exact(show akp w cs x fp from h).2
 |Plain=>cases hf
 |gw=>cases hf
theorem fH.lits: ∀{z:List Value},(∀v,v∈z→v.oneCell'=true)→fH w (z.map V.lit) z []
 | [],_=>rfl
 |v::r,h=>⟨[],[],⟨rfl,h v fI,rfl⟩,fH.lits fun u hu=>h u (by simp[hu]),rfl⟩
theorem arv:(t:Tag)→rd t w (oL t).cells.toList (aO t) []
 | .int=>⟨rfl,rfl⟩
 | .u8=>⟨rfl,rfl⟩
 | .str=>⟨rfl,by decide,rfl⟩
 | .sl _=>⟨_,rfl,none,0,rfl,aS _,aY _,bP ⟨rfl,rfl,rfl⟩⟩
 | .DB=>E1 (c:=(oL .DB).cells.toList.map V.lit) rfl (fH.lits Kq)
 | .bL=>Gd (c:=(oL .bL).cells.toList.map V.lit) rfl (fH.lits Kq)
 | .cH=>OZ (c:=(oL .cH).cells.toList.map V.lit) rfl (fH.lits Kq)
 | .bn=>Ge (c:=(oL .bn).cells.toList.map V.lit) rfl (fH.lits Kq)
 | .tE=>GH (c:=(oL .tE).cells.toList.map V.lit) rfl (fH.lits Kq)
 | .kf=>AP (c:=(oL .kf).cells.toList.map V.lit) rfl (fH.lits Kq)
 | .bR=>O0 (c:=(oL .bR).cells.toList.map V.lit) rfl (fH.lits Kq)
 | .dF=>O1 (c:=(oL .dF).cells.toList.map V.lit) rfl (fH.lits Kq)
 | .Ev=>S5 (c:=(oL .Ev).cells.toList.map V.lit) rfl (fH.lits Kq)
 | .lV=>O2 (c:=(oL .lV).cells.toList.map V.lit) rfl (fH.lits Kq)
 | .kj=>O3 (c:=(oL .kj).cells.toList.map V.lit) rfl (fH.lits Kq)
 | .Plain=>Ia (c:=(oL .Plain).cells.toList.map V.lit) rfl (fH.lits Kq)
 | .gw=>Mp (c:=(oL .gw).cells.toList.map V.lit) rfl (fH.lits Kq)
end
end Go.Proofs.YtaalpcnbbldlaaaGreatDoor.G
namespace Go.Proofs.YtaalpcnbbldlaaaGreatDoor.L
set_option linter.all false
open Go.RowKit
section
variable{fp f:List Nat}{i:Nat}
structure mT(fp:List Nat)(w w':World):Prop where
 os:w'.os=w.os
 tape:w'.tape=w.tape
 output:w'.output=w.output
 size:w.heap.size≤w'.heap.size
 block: ∀b,b<w.heap.size→b∉fp→w'.heap[b]? =w.heap[b]?
theorem mT.refl(fp:List Nat)(w:World):mT fp w w:=⟨rfl,rfl,rfl,aS _,fun _ _ _=>rfl⟩
theorem mT.mono{fq:List Nat}{w w':World}(h:mT fp w w')(hs: ∀b,b∈fp→b∈fq):mT fq w w':=⟨h.os,h.tape,h.output,h.size,fun b hb hn=>h.block b hb fun hm=>hn (hs b hm)⟩
theorem mT.trans{a b c:World}(h:mT fp a b)(k:mT fp b c):mT fp a c:=
 ⟨k.os.trans h.os,k.tape.trans h.tape,k.output.trans h.output,Nat.le_trans h.size k.size,fun i hi hn=>(k.block i (cz hi h.size) hn).trans (h.block i hi hn)⟩
theorem mT.below{w w':World}{B:Nat}(h:mT fp w w')(hB:B≤w.heap.size)(hg: ∀b,b∈fp→B≤b):Below B w w':=
 ⟨h.os,h.tape,h.output,h.size,fun b hb=>h.block b (cz hb hB) fun hm=>Nat.not_le_of_lt hb (hg b hm)⟩
theorem mT.agree{fq:List Nat}{w w':World}(h:mT fp w w')(hl: ∀b,b∈fq→b<w.heap.size)(hd: ∀b,b∈fq→b∉fp):Agree w w' fq:=fun b hb=>h.block b (hl b hb) (hd b hb)
section
variable{α:Type}{k:Nat}{E:ER α}{lo e g n:Nat}{w w':World}{l:List α}{eS:List (List Nat)}
theorem E8{eS:List (List Nat)}(h:eS.flatten.Nodup){j:Nat}{f':List Nat}(hi:eS[i]? =some f)(hj:eS[j]? =some f')(hne:i≠j): ∀b,b∈f→b∉f':=by
 intro b hb hb';have hp:=(List.pairwise_flatten.1 h).2;rw[List.pairwise_iff_getElem]at hp;obtain⟨hi1,rfl⟩:=aU.1 hi;obtain⟨hj1,rfl⟩:=aU.1 hj;rcases uX i j with h1|h1
 ·exact hp i j hi1 hj1 h1 b hb b hb' rfl
 ·exact hp j i hj1 hi1 aJ b hb' b hb rfl
theorem Part.set(G:mZ k E)(h:Part k E lo e w g n l eS){cs:List Value}{x':α}(hi:i<l.length)(hin:i<n)(hf:eS[i]? =some f)(hE:E w cs x' f):
  Part k E lo e (w.setCells g (i*k) cs) g n (l.set i x') eS:=by
 have hlen:=G.len hE;have hnd:=h.own.nodup;rw[dx]at hnd;obtain⟨c,hc,hs⟩:=h.blk;obtain⟨c',hc',hs'⟩:=j0 g e cs (i*k) w c hc;have hth:w.there g (i*k) cs.length:=by rw[hlen];exact h.there _ hin
 have OO: ∀b,b∈eS.flatten→b≠g:=fun b hb e=>hnd.1 (e▸hb);have hag:Agree w (w.setCells g (i*k) cs) eS.flatten:=fun b hb=>gh g cs _ w b (OO b hb);refine⟨⟨c',hc',by rw[hs',hs]⟩,⟨by rw[bX];exact h.el.1,fun j y fy hy E0=> ?_⟩,⟨h.own.nodup,h.own.ge,fun b hb=> ?_⟩,h.cap⟩
 ·by_cases hj:i=j
  ·subst hj;rw[jR hi]at hy;simp only[oI]at hy;subst hy;rw[hf]at E0;simp only[oI]at E0;subst E0;refine⟨cs,?_,G.agree hE (hag.sub fun b hb=>gB hf hb)⟩;rw[Nat.zero_add];exact World.rangeAt_setCells_same w g _ cs hth
  ·rw[mO hj]at hy;obtain⟨cy,hr,hEy⟩:=h.el.2 j y fy hy E0;refine⟨cy,ga hr _ _ _ (bw ?_),G.agree hEy (hag.sub fun b hb=>gB E0 hb)⟩;rw[G.len hEy,hlen];rcases uX j i with h1|h1
   ·left;have:=cG k (show j+1≤i by omega);rw[cM]at this;omega
   ·right;have:=cG k (show i+1≤j by omega);rw[cM]at this;omega
 ·rcases bh.1 hb with rfl|hb
  ·exact⟨_,_,hc'⟩
  ·rw[hag b hb];exact h.own.kind b (aE _ hb)
theorem zO(G:mZ k E){g o n:Nat}{c:Array Value}(hc:w.heap[g]? =some (.cells c e (0,0)))(hfit:o+n*k≤c.size)(hn:l.length≤n)(hcap:n≤maxLen)(hel:BU k E w g o l eS)(hown:Own lo w (g::eS.flatten)):
  qN k E lo e w (.slice (some ⟨g,o,none⟩) l.length n) l (g::eS.flatten):=by
 have hk:l.length*k≤n*k:=cG k hn;have hcl:c.toList.length=c.size:=Array.length_toList;refine⟨(c.toList.drop o).take (l.length*k),eS,⟨by rw[List.length_take,List.length_drop];omega,bw ⟨g,o,n,c,rfl,hown.ge g fI,hc,hn,hcap,hfit,rfl⟩⟩,hel.1,fun i x f hx hf=> ?_,rfl,hown⟩;obtain⟨cs,hr,hE⟩:=hel.2 i x f hx hf;have hlen:=G.len hE;have hi:i<l.length:=(aU.1 hx).1;have h5:i*k+k≤l.length*k:=by
  have:=cG k (show i+1≤l.length by omega);rw[cM]at this;omega
 have:(((c.toList.drop o).take (l.length*k)).drop (i*k)).take k=cs:=by
  apply List.ext_getElem?;intro j;by_cases hj:j<k
  ·rw[dH,if_pos hj,dc,dH,if_pos aJ,dc];have h6:=hr j _ (az aJ);simp[tU,hc]at h6;rw[az (show j<cs.length by omega), ←Nat.add_assoc];simp[h6]
  ·rw[dH,if_neg hj,List.getElem?_eq_none aJ]
 rw[this];exact hE
theorem qN.parts{v:Value}(h:qN k E lo e w v l fp):(v= .slice none 0 0∧l= []∧fp= [])∨ ∃g o n c, ∃eS:List (List Nat),v= .slice (some ⟨g,o,none⟩) l.length n∧l.length≤n∧n≤maxLen∧w.heap[g]? =some (.cells c e (0,0))∧o+n*k≤c.size∧fp=g::eS.flatten:=by
 obtain⟨xs,eS,⟨hxl,ho⟩,hl,hel,qx,hown⟩:=h;rcases ho with⟨rfl,h0⟩| ⟨g,o,cap,cur,rfl,hg,hc,hn,hcm,hcs,htk⟩
 ·have hl0:l= []:=ck h0;have:eS= []:=ck aJ;exact bP ⟨rfl,hl0,by rw[qx,this];rfl⟩
 ·exact bw ⟨g,o,cap,cur,eS,rfl,hn,hcm,hc,hcs,qx⟩
structure ak0{α:Type}(k:Nat)(E:ER α)(lo:Nat)(w:World)(b off:Nat)(l:List α)(eS:List (List Nat)):Prop where
 el:BU k E w b off l eS
 own:Own lo w (b::eS.flatten)
theorem ak0.lt{b off:Nat}(h:ak0 k E lo w b off l eS):b<w.heap.size:=h.own.lt b fI
theorem ak0.set(G:mZ k E){b off:Nat}(h:ak0 k E lo w b off l eS){o:Nat}{vs cs:List Value}{x':α}(hi:i<l.length)(ho:o+vs.length≤k)(hf:eS[i]? =some f)
  (hr:(w.setCells b (off+i*k+o) vs).rangeAt b (off+i*k) cs)(hE:E w cs x' f):
  ak0 k E lo (w.setCells b (off+i*k+o) vs) b off (l.set i x') eS:=by
 have hlen:=G.len hE;have hnd:=h.own.nodup;rw[dx]at hnd;have OO: ∀c,c∈eS.flatten→c≠b:=fun c hc e=>hnd.1 (e▸hc);have hag:Agree w (w.setCells b (off+i*k+o) vs) eS.flatten:=fun c hc=>gh b vs _ w c (OO c hc);refine⟨⟨by rw[bX];exact h.el.1,fun j y fy hy E0=> ?_⟩,⟨h.own.nodup,h.own.ge,fun c hc=> ?_⟩⟩
 ·by_cases hj:i=j
  ·subst hj;rw[jR hi]at hy;simp only[oI]at hy;subst hy;rw[hf]at E0;simp only[oI]at E0;subst E0;exact⟨cs,hr,G.agree hE (hag.sub fun b hb=>gB hf hb)⟩
  ·rw[mO hj]at hy;obtain⟨cy,hr,hEy⟩:=h.el.2 j y fy hy E0;refine⟨cy,ga hr _ _ _ (bw ?_),G.agree hEy (hag.sub fun b hb=>gB E0 hb)⟩;rw[G.len hEy];rcases uX j i with h1|h1
   ·left;have:=cG k (show j+1≤i by omega);rw[cM]at this;omega
   ·right;have:=cG k (show i+1≤j by omega);rw[cM]at this;omega
 ·rcases bh.1 hc with rfl|hc
  ·obtain⟨c0,e0,hk⟩:=h.own.kind c fI;obtain⟨c',hc',_⟩:=j0 c e0 vs (off+i*k+o) w c0 hk;exact⟨_,_,hc'⟩
  ·rw[hag c hc];exact h.own.kind c (aE _ hc)
end
end
end Go.Proofs.YtaalpcnbbldlaaaGreatDoor.L
