/-
  Slices that the call has made, written again: an element replaced; an element's own memory written by a call.
-/
import Derived.OpenShut
import Derived.ProofKit
import Derived.Test.YtkcegdacbddipaaGreatP2
open Go.Addr renaming add_mid→eT
open Go.Value renaming cells→eD,oneCell'→eE
open Go.World renaming cell?→rW,cells?_some→uI,rangeAt_setCells_apart→dO
open List renaming append_nil→cS,eq_nil_of_length_eq_zero→bN,getElem?_drop→cN,getElem?_eq_getElem→au,getElem?_eq_some_iff→aI,getElem?_set_ne→iI,getElem?_set_self→fm,getElem?_take→cH,length_set→bA,mem_cons→bh,mem_cons_of_mem→aK,mem_singleton→aR,nodup_cons→cu,range→bD
open Nat renaming add_mul→cJ,le_refl→aZ,lt_of_lt_of_le→nQ,lt_or_ge→nu,mul_le_mul_right→bK,zero_le→aD
open Or renaming inl→bI,inr→bn
open UInt8 renaming ofNat→dP,toNat_ofNat'→BD
namespace Go.Proofs.YtkcegdacbddipaaGreat.L
set_option linter.all false
open Go.RowKit Go.ChangeShapes Go.WideShapes Go.ChangeAt D
section
section
variable{H:Type}(enc:TypeId×Value→H)(P:Program)(w:World)(spare:Nat→Bool)(held:Bool)
def Xd{α:Type}(t:TypeId)(E:ER α)(W:α→Prop):Prop:=
 ∀fuel cs y,DataW.trod enc P w 0 spare held fuel t cs=some y→ ∃x fp,E w cs x fp∧W x
variable{enc P w spare held}
theorem Xe{t:TypeId}(ht:P.underlying t=some (.int .u8)):Xd enc P w spare held t R8 (fun _=>True):=by
 intro fuel cs y h
 obtain⟨n,rfl,_,hw⟩:=DataW.trod_int ht h
 have hb:=bounds_u8 hw
 refine⟨dP n.toNat,[],⟨?_,rfl⟩,trivial⟩
 have:((dP n.toNat).toNat:Int)=n:=by
  rw[BD];omega
 rw[this]
theorem Xf{α:Type} [Inhabited α]{k:Nat}{E:ER α}{W:α→Prop}{t e:TypeId}(ht:P.underlying t=some (.slice e))(hk:P.cellsOf e=k)(hpos:0<k)(ho:Xd enc P w spare held e E W)(hspare: ∀b,spare b=true:=by exact fun _=>rfl):
  Xd enc P w spare held t (ESl k E) (fun l=> ∀x,x∈l→W x):=by
 intro fuel cs y h
 rcases Go.Deep.open_slice ht h with⟨rfl,_⟩| ⟨a,len,cap,m,n,D,Pl,rfl,_,hl,hm,hmm,_,hx⟩
 ·exact⟨[],[],⟨_,rfl,none,0,rfl,aZ _,aD _,bI ⟨rfl,rfl,rfl⟩⟩,by simp⟩
 rw[hk]at hx
 rw[if_pos (hspare _)]at hmm
 subst hmm
 by_cases h0:m=0
 ·subst h0
  have:len=0:=by omega
  subst this
  exact⟨[],[],⟨_,rfl,some a,0,rfl,hl,hm,bI ⟨rfl,rfl,rfl⟩⟩,by simp⟩
 have hsp:a.spot=none:=by
  obtain⟨cs',hc,_⟩:=hx 0 (by omega)
  obtain⟨_,h1,h2⟩:=uI hc
  have h3:=h2 0 (by omega)
  have ha:((a.add (0*k)).add 0)=a:=by simp[Addr.add]
  rw[ha]at h3
  have hlen:0<cs'.length:=by omega
  rw[au hlen]at h3
  simp only[rW]at h3
  split at h3
  ·split at h3
   ·cases h3
   ·rename_i hs;simpa using hs
  ·cases h3
 obtain⟨b,off,rfl⟩: ∃b off,a=⟨b,off,none⟩:=⟨a.block,a.off,by cases a;simp_all⟩
 have hel: ∀i,i<len→ ∃q:α×List Nat,(∃cs',w.rangeAt b (off+i*k) cs'∧E w cs' q.1 q.2)∧W q.1:=by
  intro i hi
  obtain⟨cs',hc,htr⟩:=hx i (by omega)
  obtain⟨x,fp,hE,hW⟩:=ho _ _ _ htr
  obtain⟨_,h1,h2⟩:=uI hc
  refine⟨(x,fp),⟨cs',fun j v hv=> ?_,hE⟩,hW⟩
  have hj:=(aI.1 hv).1
  have:=h2 j (by omega)
  rw[eT,eT,hv]at this
  exact this
 obtain⟨f,hf⟩:=Go.Deep.choose_lt hel
 refine⟨(bD len).map fun i=>(f i).1,b::((bD len).map fun i=>(f i).2).flatten,⟨_,rfl,some ⟨b,off,none⟩,m,by simp,by simpa using hl,hm,bn ⟨b,off,(bD len).map fun i=>(f i).2,rfl,?_,rfl,by simp,?_⟩⟩,?_⟩
 ·obtain⟨cs',hc,_⟩:=hx (m-1) (by omega)
  obtain⟨_,h1,h2⟩:=uI hc
  have h3:=h2 (k-1) (by omega)
  rw[eT,eT,au (by omega)]at h3
  have hmk:off+(m-1)*k+(k-1)+1=off+m*k:=by
   obtain⟨q,rfl⟩: ∃q,m=q+1:=⟨m-1,by omega⟩
   rw[Nat.add_sub_cancel,cJ];omega
  simp only[rW]at h3
  split at h3
  ·rename_i c e fz hb
   refine⟨c,e,fz,hb,?_⟩
   have h4:off+(m-1)*k+(k-1)<c.size:=by
    apply Decidable.byContradiction
    intro hge
    simp[Array.getElem?_eq_none (show c.size≤off+(m-1)*k+(k-1)by omega)]at h3
   omega
  ·cases h3
 ·intro i x fp hx jr
  have hi:i<len:=by have:=(aI.1 hx).1;simpa using this
  simp[hi]at hx jr
  subst hx;subst jr
  exact(hf i hi).1
 ·intro x hx
  simp only[List.mem_map,List.mem_range]at hx
  obtain⟨i,hi,rfl⟩:=hx
  exact(hf i hi).2
end
end
end Go.Proofs.YtkcegdacbddipaaGreat.L
namespace Go.Proofs.YtkcegdacbddipaaGreat.G
set_option linter.all false
open Go.RowKit L D
section
inductive Tag where
 |int|u8|str|sl(t:Tag)|DB|bE|bZ|bz|mE|gQ|cz|ck|Ev|Ds|gK|Plain|eU
 deriving DecidableEq
@[reducible] def T:Tag→Type
  | .int=>Int
  | .u8=>UInt8
  | .str=>List UInt8
  | .sl t=>List (T t)
  | .DB=>DB
  | .bE=>bE
  | .bZ=>bZ
  | .bz=>bz
  | .mE=>mE
  | .gQ=>gQ
  | .cz=>cz
  | .ck=>ck
  | .Ev=>Ev
  | .Ds=>Ds
  | .gK=>gK
  | .Plain=>Plain
  | .eU=>eU
def kk:Tag→Nat
 | .int=>1
 | .u8=>1
 | .str=>1
 | .sl _=>1
 | .DB=>1
 | .bE=>2
 | .bZ=>5
 | .bz=>2
 | .mE=>2
 | .gQ=>8
 | .cz=>16
 | .ck=>10
 | .Ev=>4
 | .Ds=>3
 | .gK=>5
 | .Plain=>2
 | .eU=>5
def rd:(t:Tag)→ER (T t)
 | .int=>WU
 | .u8=>R8
 | .str=>abw
 | .sl t=>ESl (kk t) (rd t)
 | .DB=>EDB
 | .bE=>BB
 | .bZ=>WZ
 | .bz=>BC
 | .mE=>W0
 | .gQ=>Uw
 | .cz=>W1
 | .ck=>abz
 | .Ev=>EEv
 | .Ds=>W5
 | .gK=>W7
 | .Plain=>Lh
 | .eU=>Si
theorem gh:(t:Tag)→j0 (kk t) (rd t)
 | .int=>xF
 | .u8=>lW
 | .str=>WV
 | .sl t=>vC (gh t)
 | .DB=>rm
 | .bE=>xJ
 | .bZ=>GV
 | .bz=>xK
 | .mE=>xL
 | .gQ=>nM
 | .cz=>GW
 | .ck=>W4
 | .Ev=>abA
 | .Ds=>W6
 | .gK=>W8
 | .Plain=>Qj
 | .eU=>Ux
theorem jt:(t:Tag)→0<kk t
 | .int=>by decide
 | .u8=>by decide
 | .str=>by decide
 | .sl _=>Nat.one_pos
 | .DB=>by decide
 | .bE=>by decide
 | .bZ=>by decide
 | .bz=>by decide
 | .mE=>by decide
 | .gQ=>by decide
 | .cz=>by decide
 | .ck=>by decide
 | .Ev=>by decide
 | .Ds=>by decide
 | .gK=>by decide
 | .Plain=>by decide
 | .eU=>by decide
def aP:(t:Tag)→T t
 | .int=>(0:Int)
 | .u8=>(0:UInt8)
 | .str=>([]:List UInt8)
 | .sl t=>([]:List (T t))
 | .DB=>(default:DB)
 | .bE=>(default:bE)
 | .bZ=>(default:bZ)
 | .bz=>(default:bz)
 | .mE=>(default:mE)
 | .gQ=>(default:gQ)
 | .cz=>(default:cz)
 | .ck=>(default:ck)
 | .Ev=>(default:Ev)
 | .Ds=>(default:Ds)
 | .gK=>(default:gK)
 | .Plain=>(default:Plain)
 | .eU=>(default:eU)
inductive V where
 |any
 |lit(v:Value)
 |sl(t:Tag)(l:List (T t))
 |own(n:Nat)
 |ptr(n off:Nat)
 |rZ(n i off:Nat)
 |ip(t:Tag)(x:T t)(off:Nat)
 |vw(n:Nat)(p:Option (Nat×Nat))(t:Tag)(l:List (T t))
 |Jv(n:Nat)(p:Option (Nat×Nat×Nat))(t:Tag)(x:T t)(off:Nat)
 |Jw(n:Nat)(t:Tag)(l:List (T t))
 |mix(n:Nat)(c:Bool)(t:Tag)(l:List (T t))
 |zn(n:Nat)
 |Gi(f:FuncId)(n:Nat)
 |zU(k:Nat)
 |raw(v:Value)
 |wJ(v:Value)(t:Tag)(l:List (T t))
def RI(w:World):V→Value→List Nat→Prop
 | .lit v,u,fp=>u=v∧v.oneCell'=true∧fp= []
 | .sl t l,u,fp=>Sl (kk t) (rd t) w u l fp
 |_,_,_=>False
def dQ(w:World):List V→List Value→List Nat→Prop
 | [],[],fp=>fp= []
 |V::Vs,u::us,fp=> ∃f g,RI w V u f∧dQ w Vs us g∧fp=f++g
 |_,_,_=>False
theorem dQ.nil{w:World}:dQ w [] [] []:=rfl
theorem dQ.lit{w:World}{v:Value}{Vs:List V}{us:List Value}{g:List Nat}(hv:v.oneCell'=true)(h:dQ w Vs us g):dQ w (.lit v::Vs) (v::us) g:=⟨[],g,⟨rfl,hv,rfl⟩,h,rfl⟩
theorem dQ.sl{w:World}{u:Value}{t:Tag}{l:List (T t)}{f g:List Nat}{Vs:List V}{us:List Value}(k:Sl (kk t) (rd t) w u l f)(h:dQ w Vs us g):dQ w (.sl t l::Vs) (u::us) (f++g):=⟨f,g,k,h,rfl⟩
theorem dQ.app{w:World}: ∀{Vs Us:List V} {vs us:List Value} {f g:List Nat},dQ w Vs vs f→dQ w Us us g→dQ w (Vs++Us) (vs++us) (f++g)
 | [],_,[],_,_,_,h,k=>by rw[show _=_ from h];exact k
 |_::_,_,_::_,_,_,_,⟨f1,f2,h1,h2,e⟩,k=>⟨f1,f2++_,h1,dQ.app h2 k,by rw[e,List.append_assoc]⟩
 | [],_,_::_,_,_,_,h,_=>h.elim
 |_::_,_,[],_,_,_,h,_=>h.elim
theorem dQ.len{w:World}: ∀{Vs:List V} {us:List Value} {fp:List Nat},dQ w Vs us fp→us.length=Vs.length
 | [],[],_,_=>rfl
 |_::_,_::_,_,⟨_,_,_,h,_⟩=>by simp[dQ.len h]
 | [],_::_,_,h=>h.elim
 |_::_,[],_,h=>h.elim
def bL(x:DB):List V:= [.sl (.sl .u8) x.rows]
def vF(x:bE):List V:= [.lit (.int .i64 x.client)]++bL x.share
def dB(x:bZ):List V:= [.lit (.int .i64 x.id), .lit (.int .i64 x.rows), .lit (.int .i64 x.round), .sl .bE x.received, .lit (.int .i64 x.behavior)]
def AI(x:bz):List V:= [.lit (.int .i64 x.round)]++bL x.db
def gu(x:mE):List V:= [.lit (.int .i64 x.rows), .sl .bz x.rounds]
def dw(x:gQ):List V:= [.lit (.int .i64 x.id), .lit (.int .i64 x.gE), .lit (.int .i64 x.key), .lit (.int .i64 x.seed), .sl (.sl .u8) x.bu, .lit (.int .i64 x.sent), .sl (.sl .u8) x.inbox, .lit (.int .i64 x.next)]
def ew(x:cz):List V:=dw x.live++dw x.saved
def b7(x:ck):List V:= [.lit (.int .i64 x.rows), .sl .bZ x.av, .sl .cz x.af]++gu x.aJ++ [.lit (.int .i64 x.bS), .lit (.int .i64 x.seed), .lit (.int .i64 x.round), .sl .int x.replaced, .lit (.int .i64 x.cancelled)]
def Qk(x:Ev):List V:= [.lit (.int .i64 x.kind), .lit (.int .i64 x.node), .lit (.int .i64 x.value), .sl .u8 x.body]
def Lj(x:Ds):List V:= [.lit (.int .i64 x.fr), .lit (.int .i64 x.to), .lit (.int .i64 x.bytes)]
def nO(x:gK):List V:= [.lit (.int .i64 x.server), .lit (.int .i64 x.client), .lit (.int .i64 x.round), .lit (.int .i64 x.rY), .lit (.int .i64 x.P5)]
def lY(x:Plain):List V:= [.lit (.int .i64 x.kind), .sl .u8 x.body]
def jh(x:eU):List V:= [.lit (.int .i64 x.server), .lit (.int .i64 x.round), .sl .int x.selection, .sl .u8 x.data, .lit (.int .i64 x.P5)]
def dec:(t:Tag)→T t→List V
 | .int,n=> [.lit (.int .i64 n)]
 | .u8,n=> [.lit (.int .u8 n.toNat)]
 | .str,s=> [.lit (.string ⟨s.toArray⟩)]
 | .sl t,l=> [.sl t l]
 | .DB,x=>bL x
 | .bE,x=>vF x
 | .bZ,x=>dB x
 | .bz,x=>AI x
 | .mE,x=>gu x
 | .gQ,x=>dw x
 | .cz,x=>ew x
 | .ck,x=>b7 x
 | .Ev,x=>Qk x
 | .Ds,x=>Lj x
 | .gK,x=>nO x
 | .Plain,x=>lY x
 | .eU,x=>jh x
theorem G3{w:World}{cs:List Value}{x:DB}{fp:List Nat}:EDB w cs x fp→dQ w (bL x) cs fp:=by
 rintro⟨v0,f0,rfl,h0,rfl⟩
 have h:=(dQ.sl (t:=(.sl .u8)) h0 dQ.nil)
 simpa[bL]using h
theorem Ll{w:World}{cs:List Value}{x:bE}{fp:List Nat}:BB w cs x fp→dQ w (vF x) cs fp:=by
 rintro⟨v0,f0,rfl,h0,rfl⟩
 have h:=(dQ.app (dQ.lit (w:=w) (v:= .int .i64 x.client) rfl dQ.nil) (G3 h0))
 simpa[vF]using h
theorem UA{w:World}{cs:List Value}{x:bZ}{fp:List Nat}:WZ w cs x fp→dQ w (dB x) cs fp:=by
 rintro⟨v0,f0,rfl,h0,rfl⟩
 have h:=(dQ.lit (w:=w) (v:= .int .i64 x.id) rfl (dQ.lit (w:=w) (v:= .int .i64 x.rows) rfl (dQ.lit (w:=w) (v:= .int .i64 x.round) rfl (dQ.sl (t:= .bE) h0 (dQ.lit (w:=w) (v:= .int .i64 x.behavior) rfl dQ.nil)))))
 simpa[dB]using h
theorem Lm{w:World}{cs:List Value}{x:bz}{fp:List Nat}:BC w cs x fp→dQ w (AI x) cs fp:=by
 rintro⟨v0,f0,rfl,h0,rfl⟩
 have h:=(dQ.app (dQ.lit (w:=w) (v:= .int .i64 x.round) rfl dQ.nil) (G3 h0))
 simpa[AI]using h
theorem Kf{w:World}{cs:List Value}{x:mE}{fp:List Nat}:W0 w cs x fp→dQ w (gu x) cs fp:=by
 rintro⟨v0,f0,rfl,h0,rfl⟩
 have h:=(dQ.lit (w:=w) (v:= .int .i64 x.rows) rfl (dQ.sl (t:= .bz) h0 dQ.nil))
 simpa[gu]using h
theorem DA{w:World}{cs:List Value}{x:gQ}{fp:List Nat}:Uw w cs x fp→dQ w (dw x) cs fp:=by
 rintro⟨v0,v1,f0,f1,rfl,h0,h1,rfl⟩
 have h:=(dQ.lit (w:=w) (v:= .int .i64 x.id) rfl (dQ.lit (w:=w) (v:= .int .i64 x.gE) rfl (dQ.lit (w:=w) (v:= .int .i64 x.key) rfl (dQ.lit (w:=w) (v:= .int .i64 x.seed) rfl (dQ.sl (t:=(.sl .u8)) h0 (dQ.lit (w:=w) (v:= .int .i64 x.sent) rfl (dQ.sl (t:=(.sl .u8)) h1 (dQ.lit (w:=w) (v:= .int .i64 x.next) rfl dQ.nil))))))))
 simpa[dw]using h
theorem UB{w:World}{cs:List Value}{x:cz}{fp:List Nat}:W1 w cs x fp→dQ w (ew x) cs fp:=by
 rintro⟨v0,v1,f0,f1,rfl,h0,h1,rfl⟩
 have h:=(dQ.app (DA h0) (DA h1))
 simpa[ew]using h
theorem UC{w:World}{cs:List Value}{x:ck}{fp:List Nat}:abz w cs x fp→dQ w (b7 x) cs fp:=by
 rintro⟨v0,v1,v2,v3,f0,f1,f2,f3,rfl,h0,h1,h2,h3,rfl⟩
 have h:=(dQ.app (dQ.app (dQ.lit (w:=w) (v:= .int .i64 x.rows) rfl (dQ.sl (t:= .bZ) h0 (dQ.sl (t:= .cz) h1 dQ.nil))) (Kf h2)) (dQ.lit (w:=w) (v:= .int .i64 x.bS) rfl (dQ.lit (w:=w) (v:= .int .i64 x.seed) rfl (dQ.lit (w:=w) (v:= .int .i64 x.round) rfl (dQ.sl (t:= .int) h3 (dQ.lit (w:=w) (v:= .int .i64 x.cancelled) rfl dQ.nil))))))
 simpa[b7]using h
theorem Xg{w:World}{cs:List Value}{x:Ev}{fp:List Nat}:EEv w cs x fp→dQ w (Qk x) cs fp:=by
 rintro⟨v0,f0,rfl,h0,rfl⟩
 have h:=(dQ.lit (w:=w) (v:= .int .i64 x.kind) rfl (dQ.lit (w:=w) (v:= .int .i64 x.node) rfl (dQ.lit (w:=w) (v:= .int .i64 x.value) rfl (dQ.sl (t:= .u8) h0 dQ.nil))))
 simpa[Qk]using h
theorem UD{w:World}{cs:List Value}{x:Ds}{fp:List Nat}:W5 w cs x fp→dQ w (Lj x) cs fp:=by
 rintro⟨rfl,rfl⟩
 have h:=(dQ.lit (w:=w) (v:= .int .i64 x.fr) rfl (dQ.lit (w:=w) (v:= .int .i64 x.to) rfl (dQ.lit (w:=w) (v:= .int .i64 x.bytes) rfl dQ.nil)))
 simpa[Lj]using h
theorem UE{w:World}{cs:List Value}{x:gK}{fp:List Nat}:W7 w cs x fp→dQ w (nO x) cs fp:=by
 rintro⟨rfl,rfl⟩
 have h:=(dQ.lit (w:=w) (v:= .int .i64 x.server) rfl (dQ.lit (w:=w) (v:= .int .i64 x.client) rfl (dQ.lit (w:=w) (v:= .int .i64 x.round) rfl (dQ.lit (w:=w) (v:= .int .i64 x.rY) rfl (dQ.lit (w:=w) (v:= .int .i64 x.P5) rfl dQ.nil)))))
 simpa[nO]using h
theorem Nr{w:World}{cs:List Value}{x:Plain}{fp:List Nat}:Lh w cs x fp→dQ w (lY x) cs fp:=by
 rintro⟨v0,f0,rfl,h0,rfl⟩
 have h:=(dQ.lit (w:=w) (v:= .int .i64 x.kind) rfl (dQ.sl (t:= .u8) h0 dQ.nil))
 simpa[lY]using h
theorem Ql{w:World}{cs:List Value}{x:eU}{fp:List Nat}:Si w cs x fp→dQ w (jh x) cs fp:=by
 rintro⟨v0,v1,f0,f1,rfl,h0,h1,rfl⟩
 have h:=(dQ.lit (w:=w) (v:= .int .i64 x.server) rfl (dQ.lit (w:=w) (v:= .int .i64 x.round) rfl (dQ.sl (t:= .int) h0 (dQ.sl (t:= .u8) h1 (dQ.lit (w:=w) (v:= .int .i64 x.P5) rfl dQ.nil)))))
 simpa[jh]using h
theorem reads{w:World}:(t:Tag)→{cs:List Value}→{x:T t}→{fp:List Nat}→rd t w cs x fp→dQ w (dec t x) cs fp
 | .int,_,_,_,⟨rfl,rfl⟩=>dQ.lit (v:= .int .i64 _) rfl dQ.nil
 | .u8,_,_,_,⟨rfl,rfl⟩=>dQ.lit (v:= .int .u8 _) rfl dQ.nil
 | .str,_,_,_,⟨rfl,_,rfl⟩=>dQ.lit (v:= .string _) rfl dQ.nil
 | .sl t,_,_,_,⟨v,rfl,h⟩=>by have:=dQ.sl (t:=t) h (dQ.nil);rwa [cS]at this
 | .DB,_,_,_,h=>G3 h
 | .bE,_,_,_,h=>Ll h
 | .bZ,_,_,_,h=>UA h
 | .bz,_,_,_,h=>Lm h
 | .mE,_,_,_,h=>Kf h
 | .gQ,_,_,_,h=>DA h
 | .cz,_,_,_,h=>UB h
 | .ck,_,_,_,h=>UC h
 | .Ev,_,_,_,h=>Xg h
 | .Ds,_,_,_,h=>UD h
 | .gK,_,_,_,h=>UE h
 | .Plain,_,_,_,h=>Nr h
 | .eU,_,_,_,h=>Ql h
end
section
def kL:(t t':Tag)→List (T t')→Option (List (T t))
 | .int, .int,l=>some l
 | .u8, .u8,l=>some l
 | .str, .str,l=>some l
 | .sl .int, .sl .int,l=>some l
 | .sl .u8, .sl .u8,l=>some l
 | .sl .str, .sl .str,l=>some l
 | .sl (.sl .u8), .sl (.sl .u8),l=>some l
 | .sl (.sl .int), .sl (.sl .int),l=>some l
 | .DB, .DB,l=>some l
 | .bE, .bE,l=>some l
 | .bZ, .bZ,l=>some l
 | .bz, .bz,l=>some l
 | .mE, .mE,l=>some l
 | .gQ, .gQ,l=>some l
 | .cz, .cz,l=>some l
 | .ck, .ck,l=>some l
 | .Ev, .Ev,l=>some l
 | .Ds, .Ds,l=>some l
 | .gK, .gK,l=>some l
 | .Plain, .Plain,l=>some l
 | .eU, .eU,l=>some l
 |_,_,_=>none
theorem ga{t t':Tag}{l:List (T t')}{l2:List (T t)}(h:kL t t' l=some l2): ∃e:t'=t,l2=e▸l:=by
 unfold kL at h
 split at h<;>first
  | (simp only[oI]at h;exact⟨rfl,h.symm⟩)
  |cases h
def gi:V→Option Int
 | .lit (.int .i64 n)=>some n
 |_=>none
def gs(t:Tag):V→Option (List (T t))
 | .sl t' l=>kL t t' l
 | .lit (.slice none 0 0)=>some []
 |_=>none
theorem iB{w:World}{v:V}{u:Value}{f:List Nat}{n:Int}(h:gi v=some n)(hr:RI w v u f):u= .int .i64 n∧f= []:=by
 unfold gi at h
 split at h
 ·simp only[oI]at h
  subst h
  exact⟨hr.1,hr.2.2⟩
 ·cases h
theorem uJ{w:World}{t:Tag}{v:V}{u:Value}{f:List Nat}{l:List (T t)}(h:gs t v=some l)(hr:RI w v u f):Sl (kk t) (rd t) w u l f:=by
 unfold gs at h
 split at h
 ·rename_i t' l'
  obtain⟨he,rfl⟩:=ga h
  subst he
  exact hr
 ·simp only[oI]at h
  subst h
  obtain⟨rfl,_,rfl⟩:=hr
  exact⟨none,0,rfl,aZ _,aD _,bI ⟨rfl,rfl,rfl⟩⟩
 ·cases h
def DC:List V→Option DB
 | [a0]=>match gs (.sl .u8) a0 with
   |some x0=>some ⟨x0⟩
   |_=>none
 |_=>none
theorem zo{w:World}{c:List V}{us:List Value}{fp:List Nat}{x:DB}(h:DC c=some x)(hr:dQ w c us fp):EDB w us x fp:=by
 unfold DC at h
 split at h
 ·rename_i a0
  split at h
  ·rename_i x0 e0
   simp only[oI]at h
   subst h
   match us,hr with
   | [u0],⟨f0,g0,r0,h9,q0⟩=>
     have h9:g0= []:=h9
     have z0:=uJ e0 r0
     refine⟨u0,f0,?_,z0,?_⟩
     ·rfl
     ·simp[q0,h9]
  ·cases h
 ·cases h
def vG:List V→Option bE
 | [a0,a1]=>match gi a0,DC [a1]with
   |some x0,some x1=>some ⟨x0,x1⟩
   |_,_=>none
 |_=>none
theorem Ar{w:World}{c:List V}{us:List Value}{fp:List Nat}{x:bE}(h:vG c=some x)(hr:dQ w c us fp):BB w us x fp:=by
 unfold vG at h
 split at h
 ·rename_i a0 a1
  split at h
  ·rename_i x0 x1 e0 e1
   simp only[oI]at h
   subst h
   match us,hr with
   | [u0,u1],⟨f0,g0,r0,⟨f1,g1,r1,h9,q1⟩,q0⟩=>
     have h9:g1= []:=h9
     obtain⟨z0,y0⟩:=iB e0 r0
     have z1:=zo (w:=w) (us:= [u1]) (fp:=(f1++ [])) e1 ⟨f1,_,r1,rfl,rfl⟩
     refine⟨[u1],(f1++ []),?_,z1,?_⟩
     ·simp[z0]
     ·simp[q0,q1,h9,y0]
  ·cases h
 ·cases h
def Gj:List V→Option bZ
 | [a0,a1,a2,a3,a4]=>match gi a0,gi a1,gi a2,gs .bE a3,gi a4 with
   |some x0,some x1,some x2,some x3,some x4=>some ⟨x0,x1,x2,x3,x4⟩
   |_,_,_,_,_=>none
 |_=>none
theorem G4{w:World}{c:List V}{us:List Value}{fp:List Nat}{x:bZ}(h:Gj c=some x)(hr:dQ w c us fp):WZ w us x fp:=by
 unfold Gj at h
 split at h
 ·rename_i a0 a1 a2 a3 a4
  split at h
  ·rename_i x0 x1 x2 x3 x4 e0 e1 e2 e3 e4
   simp only[oI]at h
   subst h
   match us,hr with
   | [u0,u1,u2,u3,u4],⟨f0,g0,r0,⟨f1,g1,r1,⟨f2,g2,r2,⟨f3,g3,r3,⟨f4,g4,r4,h9,q4⟩,q3⟩,q2⟩,q1⟩,q0⟩=>
     have h9:g4= []:=h9
     obtain⟨z0,y0⟩:=iB e0 r0
     obtain⟨z1,y1⟩:=iB e1 r1
     obtain⟨z2,y2⟩:=iB e2 r2
     have z3:=uJ e3 r3
     obtain⟨z4,y4⟩:=iB e4 r4
     refine⟨u3,f3,?_,z3,?_⟩
     ·simp[z0,z1,z2,z4]
     ·simp[q0,q1,q2,q3,q4,h9,y0,y1,y2,y4]
  ·cases h
 ·cases h
def vH:List V→Option bz
 | [a0,a1]=>match gi a0,DC [a1]with
   |some x0,some x1=>some ⟨x0,x1⟩
   |_,_=>none
 |_=>none
theorem As{w:World}{c:List V}{us:List Value}{fp:List Nat}{x:bz}(h:vH c=some x)(hr:dQ w c us fp):BC w us x fp:=by
 unfold vH at h
 split at h
 ·rename_i a0 a1
  split at h
  ·rename_i x0 x1 e0 e1
   simp only[oI]at h
   subst h
   match us,hr with
   | [u0,u1],⟨f0,g0,r0,⟨f1,g1,r1,h9,q1⟩,q0⟩=>
     have h9:g1= []:=h9
     obtain⟨z0,y0⟩:=iB e0 r0
     have z1:=zo (w:=w) (us:= [u1]) (fp:=(f1++ [])) e1 ⟨f1,_,r1,rfl,rfl⟩
     refine⟨[u1],(f1++ []),?_,z1,?_⟩
     ·simp[z0]
     ·simp[q0,q1,h9,y0]
  ·cases h
 ·cases h
def BF:List V→Option mE
 | [a0,a1]=>match gi a0,gs .bz a1 with
   |some x0,some x1=>some ⟨x0,x1⟩
   |_,_=>none
 |_=>none
theorem AJ{w:World}{c:List V}{us:List Value}{fp:List Nat}{x:mE}(h:BF c=some x)(hr:dQ w c us fp):W0 w us x fp:=by
 unfold BF at h
 split at h
 ·rename_i a0 a1
  split at h
  ·rename_i x0 x1 e0 e1
   simp only[oI]at h
   subst h
   match us,hr with
   | [u0,u1],⟨f0,g0,r0,⟨f1,g1,r1,h9,q1⟩,q0⟩=>
     have h9:g1= []:=h9
     obtain⟨z0,y0⟩:=iB e0 r0
     have z1:=uJ e1 r1
     refine⟨u1,f1,?_,z1,?_⟩
     ·simp[z0]
     ·simp[q0,q1,h9,y0]
  ·cases h
 ·cases h
def zq:List V→Option gQ
 | [a0,a1,a2,a3,a4,a5,a6,a7]=>match gi a0,gi a1,gi a2,gi a3,gs (.sl .u8) a4,gi a5,gs (.sl .u8) a6,gi a7 with
   |some x0,some x1,some x2,some x3,some x4,some x5,some x6,some x7=>some ⟨x0,x1,x2,x3,x4,x5,x6,x7⟩
   |_,_,_,_,_,_,_,_=>none
 |_=>none
theorem vI{w:World}{c:List V}{us:List Value}{fp:List Nat}{x:gQ}(h:zq c=some x)(hr:dQ w c us fp):Uw w us x fp:=by
 unfold zq at h
 split at h
 ·rename_i a0 a1 a2 a3 a4 a5 a6 a7
  split at h
  ·rename_i x0 x1 x2 x3 x4 x5 x6 x7 e0 e1 e2 e3 e4 e5 e6 e7
   simp only[oI]at h
   subst h
   match us,hr with
   | [u0,u1,u2,u3,u4,u5,u6,u7],⟨f0,g0,r0,⟨f1,g1,r1,⟨f2,g2,r2,⟨f3,g3,r3,⟨f4,g4,r4,⟨f5,g5,r5,⟨f6,g6,r6,⟨f7,g7,r7,h9,q7⟩,q6⟩,q5⟩,q4⟩,q3⟩,q2⟩,q1⟩,q0⟩=>
     have h9:g7= []:=h9
     obtain⟨z0,y0⟩:=iB e0 r0
     obtain⟨z1,y1⟩:=iB e1 r1
     obtain⟨z2,y2⟩:=iB e2 r2
     obtain⟨z3,y3⟩:=iB e3 r3
     have z4:=uJ e4 r4
     obtain⟨z5,y5⟩:=iB e5 r5
     have z6:=uJ e6 r6
     obtain⟨z7,y7⟩:=iB e7 r7
     refine⟨u4,u6,f4,f6,?_,z4,z6,?_⟩
     ·simp[z0,z1,z2,z3,z5,z7]
     ·simp[q0,q1,q2,q3,q4,q5,q6,q7,h9,y0,y1,y2,y3,y5,y7]
  ·cases h
 ·cases h
def Gk:List V→Option cz
 | [a0,a1,a2,a3,a4,a5,a6,a7,a8,a9,a10,a11,a12,a13,a14,a15]=>match zq [a0,a1,a2,a3,a4,a5,a6,a7],zq [a8,a9,a10,a11,a12,a13,a14,a15]with
   |some x0,some x8=>some ⟨x0,x8⟩
   |_,_=>none
 |_=>none
theorem G5{w:World}{c:List V}{us:List Value}{fp:List Nat}{x:cz}(h:Gk c=some x)(hr:dQ w c us fp):W1 w us x fp:=by
 unfold Gk at h
 split at h
 ·rename_i a0 a1 a2 a3 a4 a5 a6 a7 a8 a9 a10 a11 a12 a13 a14 a15
  split at h
  ·rename_i x0 x8 e0 e1
   simp only[oI]at h
   subst h
   match us,hr with
   | [u0,u1,u2,u3,u4,u5,u6,u7,u8,u9,u10,u11,u12,u13,u14,u15],⟨f0,g0,r0,⟨f1,g1,r1,⟨f2,g2,r2,⟨f3,g3,r3,⟨f4,g4,r4,⟨f5,g5,r5,⟨f6,g6,r6,⟨f7,g7,r7,⟨f8,g8,r8,⟨f9,g9,r9,⟨f10,g10,r10,⟨f11,g11,r11,⟨f12,g12,r12,⟨f13,g13,r13,⟨f14,g14,r14,⟨f15,g15,r15,h9,q15⟩,q14⟩,q13⟩,q12⟩,q11⟩,q10⟩,q9⟩,q8⟩,q7⟩,q6⟩,q5⟩,q4⟩,q3⟩,q2⟩,q1⟩,q0⟩=>
     have h9:g15= []:=h9
     have z0:=vI (w:=w) (us:= [u0,u1,u2,u3,u4,u5,u6,u7]) (fp:=(f0++(f1++(f2++(f3++(f4++(f5++(f6++(f7++ []))))))))) e0 ⟨f0,_,r0,⟨f1,_,r1,⟨f2,_,r2,⟨f3,_,r3,⟨f4,_,r4,⟨f5,_,r5,⟨f6,_,r6,⟨f7,_,r7,rfl,rfl⟩,rfl⟩,rfl⟩,rfl⟩,rfl⟩,rfl⟩,rfl⟩,rfl⟩
     have z8:=vI (w:=w) (us:= [u8,u9,u10,u11,u12,u13,u14,u15]) (fp:=(f8++(f9++(f10++(f11++(f12++(f13++(f14++(f15++ []))))))))) e1 ⟨f8,_,r8,⟨f9,_,r9,⟨f10,_,r10,⟨f11,_,r11,⟨f12,_,r12,⟨f13,_,r13,⟨f14,_,r14,⟨f15,_,r15,rfl,rfl⟩,rfl⟩,rfl⟩,rfl⟩,rfl⟩,rfl⟩,rfl⟩,rfl⟩
     refine⟨[u0,u1,u2,u3,u4,u5,u6,u7],[u8,u9,u10,u11,u12,u13,u14,u15],(f0++(f1++(f2++(f3++(f4++(f5++(f6++(f7++ [])))))))),(f8++(f9++(f10++(f11++(f12++(f13++(f14++(f15++ [])))))))),?_,z0,z8,?_⟩
     ·rfl
     ·simp[q0,q1,q2,q3,q4,q5,q6,q7,q8,q9,q10,q11,q12,q13,q14,q15,h9]
  ·cases h
 ·cases h
def Gl:List V→Option ck
 | [a0,a1,a2,a3,a4,a5,a6,a7,a8,a9]=>match gi a0,gs .bZ a1,gs .cz a2,BF [a3,a4],gi a5,gi a6,gi a7,gs .int a8,gi a9 with
   |some x0,some x1,some x2,some x3,some x5,some x6,some x7,some x8,some x9=>some ⟨x0,x1,x2,x3,x5,x6,x7,x8,x9⟩
   |_,_,_,_,_,_,_,_,_=>none
 |_=>none
theorem G6{w:World}{c:List V}{us:List Value}{fp:List Nat}{x:ck}(h:Gl c=some x)(hr:dQ w c us fp):abz w us x fp:=by
 unfold Gl at h
 split at h
 ·rename_i a0 a1 a2 a3 a4 a5 a6 a7 a8 a9
  split at h
  ·rename_i x0 x1 x2 x3 x5 x6 x7 x8 x9 e0 e1 e2 e3 e4 e5 e6 e7 e8
   simp only[oI]at h
   subst h
   match us,hr with
   | [u0,u1,u2,u3,u4,u5,u6,u7,u8,u9],⟨f0,g0,r0,⟨f1,g1,r1,⟨f2,g2,r2,⟨f3,g3,r3,⟨f4,g4,r4,⟨f5,g5,r5,⟨f6,g6,r6,⟨f7,g7,r7,⟨f8,g8,r8,⟨f9,g9,r9,h9,q9⟩,q8⟩,q7⟩,q6⟩,q5⟩,q4⟩,q3⟩,q2⟩,q1⟩,q0⟩=>
     have h9:g9= []:=h9
     obtain⟨z0,y0⟩:=iB e0 r0
     have z1:=uJ e1 r1
     have z2:=uJ e2 r2
     have z3:=AJ (w:=w) (us:= [u3,u4]) (fp:=(f3++(f4++ []))) e3 ⟨f3,_,r3,⟨f4,_,r4,rfl,rfl⟩,rfl⟩
     obtain⟨z5,y5⟩:=iB e4 r5
     obtain⟨z6,y6⟩:=iB e5 r6
     obtain⟨z7,y7⟩:=iB e6 r7
     have z8:=uJ e7 r8
     obtain⟨z9,y9⟩:=iB e8 r9
     refine⟨u1,u2,[u3,u4],u8,f1,f2,(f3++(f4++ [])),f8,?_,z1,z2,z3,z8,?_⟩
     ·simp[z0,z5,z6,z7,z9]
     ·simp[q0,q1,q2,q3,q4,q5,q6,q7,q8,q9,h9,y0,y5,y6,y7,y9]
  ·cases h
 ·cases h
def Ln:List V→Option Ev
 | [a0,a1,a2,a3]=>match gi a0,gi a1,gi a2,gs .u8 a3 with
   |some x0,some x1,some x2,some x3=>some ⟨x0,x1,x2,x3⟩
   |_,_,_,_=>none
 |_=>none
theorem Kg{w:World}{c:List V}{us:List Value}{fp:List Nat}{x:Ev}(h:Ln c=some x)(hr:dQ w c us fp):EEv w us x fp:=by
 unfold Ln at h
 split at h
 ·rename_i a0 a1 a2 a3
  split at h
  ·rename_i x0 x1 x2 x3 e0 e1 e2 e3
   simp only[oI]at h
   subst h
   match us,hr with
   | [u0,u1,u2,u3],⟨f0,g0,r0,⟨f1,g1,r1,⟨f2,g2,r2,⟨f3,g3,r3,h9,q3⟩,q2⟩,q1⟩,q0⟩=>
     have h9:g3= []:=h9
     obtain⟨z0,y0⟩:=iB e0 r0
     obtain⟨z1,y1⟩:=iB e1 r1
     obtain⟨z2,y2⟩:=iB e2 r2
     have z3:=uJ e3 r3
     refine⟨u3,f3,?_,z3,?_⟩
     ·simp[z0,z1,z2]
     ·simp[q0,q1,q2,q3,h9,y0,y1,y2]
  ·cases h
 ·cases h
def Gm:List V→Option Ds
 | [a0,a1,a2]=>match gi a0,gi a1,gi a2 with
   |some x0,some x1,some x2=>some ⟨x0,x1,x2⟩
   |_,_,_=>none
 |_=>none
theorem G7{w:World}{c:List V}{us:List Value}{fp:List Nat}{x:Ds}(h:Gm c=some x)(hr:dQ w c us fp):W5 w us x fp:=by
 unfold Gm at h
 split at h
 ·rename_i a0 a1 a2
  split at h
  ·rename_i x0 x1 x2 e0 e1 e2
   simp only[oI]at h
   subst h
   match us,hr with
   | [u0,u1,u2],⟨f0,g0,r0,⟨f1,g1,r1,⟨f2,g2,r2,h9,q2⟩,q1⟩,q0⟩=>
     have h9:g2= []:=h9
     obtain⟨z0,y0⟩:=iB e0 r0
     obtain⟨z1,y1⟩:=iB e1 r1
     obtain⟨z2,y2⟩:=iB e2 r2
     refine⟨?_,?_⟩
     ·simp[z0,z1,z2]
     ·simp[q0,q1,q2,h9,y0,y1,y2]
  ·cases h
 ·cases h
def Gn:List V→Option gK
 | [a0,a1,a2,a3,a4]=>match gi a0,gi a1,gi a2,gi a3,gi a4 with
   |some x0,some x1,some x2,some x3,some x4=>some ⟨x0,x1,x2,x3,x4⟩
   |_,_,_,_,_=>none
 |_=>none
theorem G8{w:World}{c:List V}{us:List Value}{fp:List Nat}{x:gK}(h:Gn c=some x)(hr:dQ w c us fp):W7 w us x fp:=by
 unfold Gn at h
 split at h
 ·rename_i a0 a1 a2 a3 a4
  split at h
  ·rename_i x0 x1 x2 x3 x4 e0 e1 e2 e3 e4
   simp only[oI]at h
   subst h
   match us,hr with
   | [u0,u1,u2,u3,u4],⟨f0,g0,r0,⟨f1,g1,r1,⟨f2,g2,r2,⟨f3,g3,r3,⟨f4,g4,r4,h9,q4⟩,q3⟩,q2⟩,q1⟩,q0⟩=>
     have h9:g4= []:=h9
     obtain⟨z0,y0⟩:=iB e0 r0
     obtain⟨z1,y1⟩:=iB e1 r1
     obtain⟨z2,y2⟩:=iB e2 r2
     obtain⟨z3,y3⟩:=iB e3 r3
     obtain⟨z4,y4⟩:=iB e4 r4
     refine⟨?_,?_⟩
     ·simp[z0,z1,z2,z3,z4]
     ·simp[q0,q1,q2,q3,q4,h9,y0,y1,y2,y3,y4]
  ·cases h
 ·cases h
def zu:List V→Option Plain
 | [a0,a1]=>match gi a0,gs .u8 a1 with
   |some x0,some x1=>some ⟨x0,x1⟩
   |_,_=>none
 |_=>none
theorem BG{w:World}{c:List V}{us:List Value}{fp:List Nat}{x:Plain}(h:zu c=some x)(hr:dQ w c us fp):Lh w us x fp:=by
 unfold zu at h
 split at h
 ·rename_i a0 a1
  split at h
  ·rename_i x0 x1 e0 e1
   simp only[oI]at h
   subst h
   match us,hr with
   | [u0,u1],⟨f0,g0,r0,⟨f1,g1,r1,h9,q1⟩,q0⟩=>
     have h9:g1= []:=h9
     obtain⟨z0,y0⟩:=iB e0 r0
     have z1:=uJ e1 r1
     refine⟨u1,f1,?_,z1,?_⟩
     ·simp[z0]
     ·simp[q0,q1,h9,y0]
  ·cases h
 ·cases h
def BH:List V→Option eU
 | [a0,a1,a2,a3,a4]=>match gi a0,gi a1,gs .int a2,gs .u8 a3,gi a4 with
   |some x0,some x1,some x2,some x3,some x4=>some ⟨x0,x1,x2,x3,x4⟩
   |_,_,_,_,_=>none
 |_=>none
theorem E5{w:World}{c:List V}{us:List Value}{fp:List Nat}{x:eU}(h:BH c=some x)(hr:dQ w c us fp):Si w us x fp:=by
 unfold BH at h
 split at h
 ·rename_i a0 a1 a2 a3 a4
  split at h
  ·rename_i x0 x1 x2 x3 x4 e0 e1 e2 e3 e4
   simp only[oI]at h
   subst h
   match us,hr with
   | [u0,u1,u2,u3,u4],⟨f0,g0,r0,⟨f1,g1,r1,⟨f2,g2,r2,⟨f3,g3,r3,⟨f4,g4,r4,h9,q4⟩,q3⟩,q2⟩,q1⟩,q0⟩=>
     have h9:g4= []:=h9
     obtain⟨z0,y0⟩:=iB e0 r0
     obtain⟨z1,y1⟩:=iB e1 r1
     have z2:=uJ e2 r2
     have z3:=uJ e3 r3
     obtain⟨z4,y4⟩:=iB e4 r4
     refine⟨u2,u3,f2,f3,?_,z2,z3,?_⟩
     ·simp[z0,z1,z4]
     ·simp[q0,q1,q2,q3,q4,h9,y0,y1,y4]
  ·cases h
 ·cases h
def Lo:List V→Option (List Prop×Int)
 | [v]=>match gi v with|some n=>some ([],n)|none=>none
 |_=>none
def Qm:List V→Option (List Prop×UInt8)
 | [.lit (.int .u8 n)]=>some ([0≤n∧n<256],dP n.toNat)
 |_=>none
def Lp:List V→Option (List Prop×List UInt8)
 | [.lit (.string s)]=>some ([s.size≤maxLen],s.data.toList)
 |_=>none
def Qn(t:Tag):List V→Option (List Prop×List (T t))
 | [v]=>match gs t v with|some l=>some ([],l)|none=>none
 |_=>none
def oP{α:Type}:Option α→Option (List Prop×α)
 |some x=>some ([],x)
 |none=>none
theorem iW{α:Type}{o:Option α}{vc:List Prop}{x:α}(h:oP o=some (vc,x)):o=some x:=by
 cases o with
 |none=>cases h
 |some y=>simp only[oP,oI,pI]at h;rw[h.2]
def enc:(t:Tag)→List V→Option (List Prop×T t)
 | .int,c=>Lo c
 | .u8,c=>Qm c
 | .str,c=>Lp c
 | .sl t,c=>Qn t c
 | .DB,c=>oP (DC c)
 | .bE,c=>oP (vG c)
 | .bZ,c=>oP (Gj c)
 | .bz,c=>oP (vH c)
 | .mE,c=>oP (BF c)
 | .gQ,c=>oP (zq c)
 | .cz,c=>oP (Gk c)
 | .ck,c=>oP (Gl c)
 | .Ev,c=>oP (Ln c)
 | .Ds,c=>oP (Gm c)
 | .gK,c=>oP (Gn c)
 | .Plain,c=>oP (zu c)
 | .eU,c=>oP (BH c)
theorem vJ{w:World}:(t:Tag)→{c:List V}→{us:List Value}→{fp:List Nat}→{vc:List Prop}→{x:T t}→enc t c=some (vc,x)→(∀q,q∈vc→q)→dQ w c us fp→rd t w us x fp
 | .int,c,us,fp,vc,x,h,hv,hr=>by
   have h:Lo c=some (vc,x):=h
   unfold Lo at h
   split at h<;>first| (cases h;done)|skip
   ·split at h
    ·rename_i v _ n e
     simp only[oI,pI]at h
     obtain⟨rfl,rfl⟩:=h
     match us,hr with
     | [u],⟨f,g,r,h9,q⟩=>
       obtain⟨z,y⟩:=iB e r
       have h9:g= []:=h9
       exact⟨by rw[z],by simp[q,y,h9]⟩
    ·cases h
 | .u8,c,us,fp,vc,x,h,hv,hr=>by
   have h:Qm c=some (vc,x):=h
   unfold Qm at h
   split at h<;>first| (cases h;done)|skip
   ·rename_i n _
    simp only[oI,pI]at h
    obtain⟨rfl,rfl⟩:=h
    obtain⟨h0,h1⟩:=hv _ (aR.2 rfl)
    match us,hr with
    | [u],⟨f,g,r,h9,q⟩=>
      have h9:g= []:=h9
      obtain⟨rfl,_,rfl⟩:=r
      refine⟨?_,by simp[q,h9]⟩
      have:((dP n.toNat).toNat:Int)=n:=by rw[BD];omega
      rw[this]
 | .str,c,us,fp,vc,x,h,hv,hr=>by
   have h:Lp c=some (vc,x):=h
   unfold Lp at h
   split at h<;>first| (cases h;done)|skip
   ·rename_i s _
    simp only[oI,pI]at h
    obtain⟨rfl,rfl⟩:=h
    have h0:=hv _ (aR.2 rfl)
    match us,hr with
    | [u],⟨f,g,r,h9,q⟩=>
      have h9:g= []:=h9
      obtain⟨rfl,_,rfl⟩:=r
      exact⟨rfl,h0,by simp[q,h9]⟩
 | .sl t,c,us,fp,vc,x,h,hv,hr=>by
   have h:Qn t c=some (vc,x):=h
   unfold Qn at h
   split at h<;>first| (cases h;done)|skip
   ·split at h
    ·rename_i v _ l e
     simp only[oI,pI]at h
     obtain⟨rfl,rfl⟩:=h
     match us,hr with
     | [u],⟨f,g,r,h9,q⟩=>
       have h9:g= []:=h9
       refine⟨u,rfl,?_⟩
       have:=uJ e r
       rw[q,h9,cS];exact this
    ·cases h
 | .DB,c,us,fp,vc,x,h,hv,hr=>by
   exact zo (iW (show oP (DC c)=_ from h)) hr
 | .bE,c,us,fp,vc,x,h,hv,hr=>by
   exact Ar (iW (show oP (vG c)=_ from h)) hr
 | .bZ,c,us,fp,vc,x,h,hv,hr=>by
   exact G4 (iW (show oP (Gj c)=_ from h)) hr
 | .bz,c,us,fp,vc,x,h,hv,hr=>by
   exact As (iW (show oP (vH c)=_ from h)) hr
 | .mE,c,us,fp,vc,x,h,hv,hr=>by
   exact AJ (iW (show oP (BF c)=_ from h)) hr
 | .gQ,c,us,fp,vc,x,h,hv,hr=>by
   exact vI (iW (show oP (zq c)=_ from h)) hr
 | .cz,c,us,fp,vc,x,h,hv,hr=>by
   exact G5 (iW (show oP (Gk c)=_ from h)) hr
 | .ck,c,us,fp,vc,x,h,hv,hr=>by
   exact G6 (iW (show oP (Gl c)=_ from h)) hr
 | .Ev,c,us,fp,vc,x,h,hv,hr=>by
   exact Kg (iW (show oP (Ln c)=_ from h)) hr
 | .Ds,c,us,fp,vc,x,h,hv,hr=>by
   exact G7 (iW (show oP (Gm c)=_ from h)) hr
 | .gK,c,us,fp,vc,x,h,hv,hr=>by
   exact G8 (iW (show oP (Gn c)=_ from h)) hr
 | .Plain,c,us,fp,vc,x,h,hv,hr=>by
   exact BG (iW (show oP (zu c)=_ from h)) hr
 | .eU,c,us,fp,vc,x,h,hv,hr=>by
   exact E5 (iW (show oP (BH c)=_ from h)) hr
def iX:Tag→Value
 | .int=> .int .i64 0
 | .u8=> .int .u8 0
 | .str=> .string ⟨#[]⟩
 | .sl _=> .slice none 0 0
 | .DB=> .agg #[.slice none 0 0]
 | .bE=> .agg #[.int .i64 0, .slice none 0 0]
 | .bZ=> .agg #[.int .i64 0, .int .i64 0, .int .i64 0, .slice none 0 0, .int .i64 0]
 | .bz=> .agg #[.int .i64 0, .slice none 0 0]
 | .mE=> .agg #[.int .i64 0, .slice none 0 0]
 | .gQ=> .agg #[.int .i64 0, .int .i64 0, .int .i64 0, .int .i64 0, .slice none 0 0, .int .i64 0, .slice none 0 0, .int .i64 0]
 | .cz=> .agg #[.int .i64 0, .int .i64 0, .int .i64 0, .int .i64 0, .slice none 0 0, .int .i64 0, .slice none 0 0, .int .i64 0, .int .i64 0, .int .i64 0, .int .i64 0, .int .i64 0, .slice none 0 0, .int .i64 0, .slice none 0 0, .int .i64 0]
 | .ck=> .agg #[.int .i64 0, .slice none 0 0, .slice none 0 0, .int .i64 0, .slice none 0 0, .int .i64 0, .int .i64 0, .int .i64 0, .slice none 0 0, .int .i64 0]
 | .Ev=> .agg #[.int .i64 0, .int .i64 0, .int .i64 0, .slice none 0 0]
 | .Ds=> .agg #[.int .i64 0, .int .i64 0, .int .i64 0]
 | .gK=> .agg #[.int .i64 0, .int .i64 0, .int .i64 0, .int .i64 0, .int .i64 0]
 | .Plain=> .agg #[.int .i64 0, .slice none 0 0]
 | .eU=> .agg #[.int .i64 0, .int .i64 0, .slice none 0 0, .slice none 0 0, .int .i64 0]
def gb:Tag→Nat
 | .int=>8
 | .u8=>1
 | .str=>16
 | .sl _=>24
 | .DB=>24
 | .bE=>32
 | .bZ=>56
 | .bz=>32
 | .mE=>32
 | .gQ=>96
 | .cz=>192
 | .ck=>144
 | .Ev=>48
 | .Ds=>24
 | .gK=>40
 | .Plain=>32
 | .eU=>72
theorem mW:(t:Tag)→(iX t).cells.size=kk t
 | .int=>rfl
 | .u8=>rfl
 | .str=>rfl
 | .sl _=>rfl
 | .DB=>rfl
 | .bE=>rfl
 | .bZ=>rfl
 | .bz=>rfl
 | .mE=>rfl
 | .gQ=>rfl
 | .cz=>rfl
 | .ck=>rfl
 | .Ev=>rfl
 | .Ds=>rfl
 | .gK=>rfl
 | .Plain=>rfl
 | .eU=>rfl
def flat:Tag→Bool
 | .int=>true
 | .u8=>true
 | .str=>true
 | .sl _=>false
 | .DB=>false
 | .bE=>false
 | .bZ=>false
 | .bz=>false
 | .mE=>false
 | .gQ=>false
 | .cz=>false
 | .ck=>false
 | .Ev=>false
 | .Ds=>true
 | .gK=>true
 | .Plain=>false
 | .eU=>false
theorem abB{w:World}(t:Tag){cs:List Value}{x:T t}{fp:List Nat}(hf:flat t=true)(h:rd t w cs x fp):fp= []:=by
 cases t with
 |int=>exact(show WU w cs x fp from h).2
 |u8=>exact(show R8 w cs x fp from h).2
 |str=>exact(show abw w cs x fp from h).2.2
 |sl _=>cases hf
 |DB=>cases hf
 |bE=>cases hf
 |bZ=>cases hf
 |bz=>cases hf
 |mE=>cases hf
 |gQ=>cases hf
 |cz=>cases hf
 |ck=>cases hf
 |Ev=>cases hf
 |Ds=>exact(show W5 w cs x fp from h).2
 |gK=>exact(show W7 w cs x fp from h).2
 |Plain=>cases hf
 |eU=>cases hf
theorem dQ.lits{w:World}: ∀{z:List Value},(∀v,v∈z→v.oneCell'=true)→dQ w (z.map V.lit) z []
 | [],_=>rfl
 |v::r,h=>⟨[],[],⟨rfl,h v (by simp),rfl⟩,dQ.lits fun u hu=>h u (by simp[hu]),rfl⟩
theorem abC{w:World}:(t:Tag)→rd t w (iX t).cells.toList (aP t) []
 | .int=>⟨rfl,rfl⟩
 | .u8=>⟨rfl,rfl⟩
 | .str=>⟨rfl,by decide,rfl⟩
 | .sl _=>⟨_,rfl,none,0,rfl,aZ _,aD _,bI ⟨rfl,rfl,rfl⟩⟩
 | .DB=>zo (c:=(iX .DB).cells.toList.map V.lit) rfl (dQ.lits (by simp[iX,eD,eE]))
 | .bE=>Ar (c:=(iX .bE).cells.toList.map V.lit) rfl (dQ.lits (by simp[iX,eD,eE]))
 | .bZ=>G4 (c:=(iX .bZ).cells.toList.map V.lit) rfl (dQ.lits (by simp[iX,eD,eE]))
 | .bz=>As (c:=(iX .bz).cells.toList.map V.lit) rfl (dQ.lits (by simp[iX,eD,eE]))
 | .mE=>AJ (c:=(iX .mE).cells.toList.map V.lit) rfl (dQ.lits (by simp[iX,eD,eE]))
 | .gQ=>vI (c:=(iX .gQ).cells.toList.map V.lit) rfl (dQ.lits (by simp[iX,eD,eE]))
 | .cz=>G5 (c:=(iX .cz).cells.toList.map V.lit) rfl (dQ.lits (by simp[iX,eD,eE]))
 | .ck=>G6 (c:=(iX .ck).cells.toList.map V.lit) rfl (dQ.lits (by simp[iX,eD,eE]))
 | .Ev=>Kg (c:=(iX .Ev).cells.toList.map V.lit) rfl (dQ.lits (by simp[iX,eD,eE]))
 | .Ds=>G7 (c:=(iX .Ds).cells.toList.map V.lit) rfl (dQ.lits (by simp[iX,eD,eE]))
 | .gK=>G8 (c:=(iX .gK).cells.toList.map V.lit) rfl (dQ.lits (by simp[iX,eD,eE]))
 | .Plain=>BG (c:=(iX .Plain).cells.toList.map V.lit) rfl (dQ.lits (by simp[iX,eD,eE]))
 | .eU=>E5 (c:=(iX .eU).cells.toList.map V.lit) rfl (dQ.lits (by simp[iX,eD,eE]))
end
section
def Qo(_:Nat):Prop:=False
def Lr(_:World):Prop:=True
theorem Lr.keep{w w':World}(_:Lr w)(_: ∀b,Qo b→b<w.heap.size→w'.heap[b]? =w.heap[b]?):Lr w':=trivial
theorem Lr.lt{w:World}(_:Lr w){b:Nat}(hb:Qo b):b<w.heap.size:=hb.elim
end
end Go.Proofs.YtkcegdacbddipaaGreat.G
namespace Go.Proofs.YtkcegdacbddipaaGreat.L
set_option linter.all false
open Go.RowKit
section
structure j8(fp:List Nat)(w w':World):Prop where
 os:w'.os=w.os
 tape:w'.tape=w.tape
 output:w'.output=w.output
 size:w.heap.size≤w'.heap.size
 block: ∀b,b<w.heap.size→b∉fp→w'.heap[b]? =w.heap[b]?
theorem j8.refl(fp:List Nat)(w:World):j8 fp w w:=⟨rfl,rfl,rfl,aZ _,fun _ _ _=>rfl⟩
theorem j8.mono{fp fq:List Nat}{w w':World}(h:j8 fp w w')(hs: ∀b,b∈fp→b∈fq):j8 fq w w':=⟨h.os,h.tape,h.output,h.size,fun b hb hn=>h.block b hb fun hm=>hn (hs b hm)⟩
theorem j8.trans{fp:List Nat}{a b c:World}(h:j8 fp a b)(k:j8 fp b c):j8 fp a c:=
 ⟨k.os.trans h.os,k.tape.trans h.tape,k.output.trans h.output,Nat.le_trans h.size k.size,fun i hi hn=>(k.block i (nQ hi h.size) hn).trans (h.block i hi hn)⟩
theorem j8.below{fp:List Nat}{w w':World}{B:Nat}(h:j8 fp w w')(hB:B≤w.heap.size)(hg: ∀b,b∈fp→B≤b):Below B w w':=
 ⟨h.os,h.tape,h.output,h.size,fun b hb=>h.block b (nQ hb hB) fun hm=>Nat.not_le_of_lt hb (hg b hm)⟩
theorem j8.agree{fp fq:List Nat}{w w':World}(h:j8 fp w w')(hl: ∀b,b∈fq→b<w.heap.size)(hd: ∀b,b∈fq→b∉fp):Agree w w' fq:=fun b hb=>h.block b (hl b hb) (hd b hb)
section
variable{α:Type}{k:Nat}{E:ER α}{lo e g n:Nat}{w w':World}{l:List α}{cB:List (List Nat)}
theorem zz{cB:List (List Nat)}(h:cB.flatten.Nodup){i j:Nat}{f f':List Nat}(hi:cB[i]? =some f)(hj:cB[j]? =some f')(hne:i≠j): ∀b,b∈f→b∉f':=by
 intro b hb hb'
 have hp:=(List.pairwise_flatten.1 h).2
 rw[List.pairwise_iff_getElem]at hp
 obtain⟨hi1,rfl⟩:=aI.1 hi
 obtain⟨hj1,rfl⟩:=aI.1 hj
 rcases nu i j with h1|h1
 ·exact hp i j hi1 hj1 h1 b hb b hb' rfl
 ·exact hp j i hj1 hi1 (by omega) b hb' b hb rfl
theorem Part.set(G:j0 k E)(h:Part k E lo e w g n l cB){i:Nat}{f:List Nat}{cs:List Value}{x':α}(hi:i<l.length)(hin:i<n)(hf:cB[i]? =some f)(hE:E w cs x' f):
  Part k E lo e (w.setCells g (i*k) cs) g n (l.set i x') cB:=by
 have hlen:=G.len hE
 have hnd:=h.own.nodup
 rw[cu]at hnd
 obtain⟨c,hc,hs⟩:=h.AH
 obtain⟨c',M9,hs'⟩:=gf g e cs (i*k) w c hc
 have Sa:w.there g (i*k) cs.length:=by rw[hlen];exact h.there _ hin
 have GO: ∀b,b∈cB.flatten→b≠g:=fun b hb e=>hnd.1 (e▸hb)
 have GP:Agree w (w.setCells g (i*k) cs) cB.flatten:=fun b hb=>dV g cs _ w b (GO b hb)
 refine⟨⟨c',M9,by rw[hs',hs]⟩,⟨by rw[bA];exact h.el.1,fun j y fy hy rj=> ?_⟩,⟨h.own.nodup,h.own.ge,fun b hb=> ?_⟩,h.cap⟩
 ·by_cases hj:i=j
  ·subst hj
   rw[fm hi]at hy
   simp only[oI]at hy
   subst hy
   rw[hf]at rj
   simp only[oI]at rj
   subst rj
   refine⟨cs,?_,G.agree hE (GP.sub fun b hb=>eo hf hb)⟩
   rw[Nat.zero_add]
   exact World.rangeAt_setCells_same w g _ cs Sa
  ·rw[iI hj]at hy
   obtain⟨cy,hr,Sb⟩:=h.el.2 j y fy hy rj
   refine⟨cy,dO hr _ _ _ (bn ?_),G.agree Sb (GP.sub fun b hb=>eo rj hb)⟩
   rw[G.len Sb,hlen]
   rcases nu j i with h1|h1
   ·left
    have:=bK k (show j+1≤i by omega)
    rw[cJ]at this;omega
   ·right
    have:=bK k (show i+1≤j by omega)
    rw[cJ]at this;omega
 ·rcases bh.1 hb with rfl|hb
  ·exact⟨_,_,M9⟩
  ·rw[GP b hb];exact h.own.kind b (aK _ hb)
theorem nv(G:j0 k E){g o n:Nat}{c:Array Value}(hc:w.heap[g]? =some (.cells c e (0,0)))(hfit:o+n*k≤c.size)(hn:l.length≤n)(hcap:n≤maxLen)(hel:tJ k E w g o l cB)(hown:Own lo w (g::cB.flatten)):
  mo k E lo e w (.slice (some ⟨g,o,none⟩) l.length n) l (g::cB.flatten):=by
 have hk:l.length*k≤n*k:=bK k hn
 have xA:c.toList.length=c.size:=Array.length_toList
 refine⟨(c.toList.drop o).take (l.length*k),cB,⟨by rw[List.length_take,List.length_drop];omega,bn ⟨g,o,n,c,rfl,hown.ge g (by simp),hc,hn,hcap,hfit,rfl⟩⟩,hel.1,fun i x f hx hf=> ?_,rfl,hown⟩
 obtain⟨cs,hr,hE⟩:=hel.2 i x f hx hf
 have hlen:=G.len hE
 have hi:i<l.length:=(aI.1 hx).1
 have h5:i*k+k≤l.length*k:=by
  have:=bK k (show i+1≤l.length by omega)
  rw[cJ]at this;omega
 have:(((c.toList.drop o).take (l.length*k)).drop (i*k)).take k=cs:=by
  apply List.ext_getElem?
  intro j
  by_cases hj:j<k
  ·rw[cH,if_pos hj,cN,cH,if_pos (by omega),cN]
   have h6:=hr j _ (au (by omega))
   simp[rW,hc]at h6
   rw[au (show j<cs.length by omega), ←Nat.add_assoc]
   simp[h6]
  ·rw[cH,if_neg hj,List.getElem?_eq_none (by omega)]
 rw[this];exact hE
theorem mo.parts{v:Value}{fp:List Nat}(h:mo k E lo e w v l fp):(v= .slice none 0 0∧l= []∧fp= [])∨ ∃g o n c, ∃cB:List (List Nat),v= .slice (some ⟨g,o,none⟩) l.length n∧l.length≤n∧n≤maxLen∧w.heap[g]? =some (.cells c e (0,0))∧o+n*k≤c.size∧fp=g::cB.flatten:=by
 obtain⟨xs,cB,⟨hxl,ho⟩,hl,hel,jr,hown⟩:=h
 rcases ho with⟨rfl,h0⟩| ⟨g,o,cap,cur,rfl,hg,hc,hn,hcm,hcs,Wu⟩
 ·have hl0:l= []:=bN h0
  have:cB= []:=bN (by omega)
  exact bI ⟨rfl,hl0,by rw[jr,this];rfl⟩
 ·exact bn ⟨g,o,cap,cur,cB,rfl,hn,hcm,hc,hcs,jr⟩
structure XM{α:Type}(k:Nat)(E:ER α)(lo:Nat)(w:World)(b off:Nat)(l:List α)(cB:List (List Nat)):Prop where
 el:tJ k E w b off l cB
 own:Own lo w (b::cB.flatten)
theorem XM.lt{b off:Nat}(h:XM k E lo w b off l cB):b<w.heap.size:=h.own.lt b (by simp)
theorem XM.set(G:j0 k E){b off:Nat}(h:XM k E lo w b off l cB){i o:Nat}{f:List Nat}{vs cs:List Value}{x':α}(hi:i<l.length)(ho:o+vs.length≤k)(hf:cB[i]? =some f)
  (hr:(w.setCells b (off+i*k+o) vs).rangeAt b (off+i*k) cs)(hE:E w cs x' f):
  XM k E lo (w.setCells b (off+i*k+o) vs) b off (l.set i x') cB:=by
 have hlen:=G.len hE
 have hnd:=h.own.nodup
 rw[cu]at hnd
 have GO: ∀c,c∈cB.flatten→c≠b:=fun c hc e=>hnd.1 (e▸hc)
 have GP:Agree w (w.setCells b (off+i*k+o) vs) cB.flatten:=fun c hc=>dV b vs _ w c (GO c hc)
 refine⟨⟨by rw[bA];exact h.el.1,fun j y fy hy rj=> ?_⟩,⟨h.own.nodup,h.own.ge,fun c hc=> ?_⟩⟩
 ·by_cases hj:i=j
  ·subst hj
   rw[fm hi]at hy
   simp only[oI]at hy
   subst hy
   rw[hf]at rj
   simp only[oI]at rj
   subst rj
   exact⟨cs,hr,G.agree hE (GP.sub fun b hb=>eo hf hb)⟩
  ·rw[iI hj]at hy
   obtain⟨cy,hr,Sb⟩:=h.el.2 j y fy hy rj
   refine⟨cy,dO hr _ _ _ (bn ?_),G.agree Sb (GP.sub fun b hb=>eo rj hb)⟩
   rw[G.len Sb]
   rcases nu j i with h1|h1
   ·left
    have:=bK k (show j+1≤i by omega)
    rw[cJ]at this;omega
   ·right
    have:=bK k (show i+1≤j by omega)
    rw[cJ]at this;omega
 ·rcases bh.1 hc with rfl|hc
  ·obtain⟨c0,e0,hk⟩:=h.own.kind c (by simp)
   obtain⟨c',M9,_⟩:=gf c e0 vs (off+i*k+o) w c0 hk
   exact⟨_,_,M9⟩
  ·rw[GP c hc];exact h.own.kind c (aK _ hc)
end
end
end Go.Proofs.YtkcegdacbddipaaGreat.L
