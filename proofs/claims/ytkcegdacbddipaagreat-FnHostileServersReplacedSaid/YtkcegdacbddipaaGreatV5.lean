/-
  What the symbolic machine's states say of the model's worlds, and what keeps it.
-/
import Derived.Test.YtkcegdacbddipaaGreatV3
import Derived.Test.YtkcegdacbddipaaGreatV4
namespace Go.Proofs.YtkcegdacbddipaaGreat.G
set_option linter.all false
open Go.RowKit L D
section
inductive S1 where
 |a(v:V)
 |agg(l:List V)
abbrev cS(z:Int):V:= .lit (.int .i64 z)
abbrev aA(z:Int):S1:= .a (.lit (.int .i64 z))
abbrev aG(z:Bool):S1:= .a (.lit (.bool z))
inductive SV where
 |one(x:S1)
 |uQ(l:List S1)
 |cond(p:List (Nat×Bool))(x:S1)
inductive pP where
 |gone
 |mH
 |of(n:Nat)
 |mp
 |HJ(u:Value)
 |uq(p:Option (Nat×Nat×Nat))
def pP.br:pP→Prop
 | .mp| .HJ _| .uq _=>False
 |_=>True
def pP.name:pP→Option Nat
 | .of n=>some n
 | .uq (some (n,_,_))=>some n
 |_=>none
inductive Obj where
 |box(c:List V)
 |arr(t:Tag)(l:List (T t))
 |eZ(t:Tag)(l:List (T t))(s:pP)
structure St where
 n:Nat
 sl:List (Nat×SV)
 hp:List (Nat×Obj)
inductive TK where
 |int(k:IntKind)
 |bool
 |str
 |sl(t:Tag)(e:Nat)
 |st(z:List Value)(tg:List (Option Tag))(fo:List Nat)
 |mp
 |other
abbrev F7:Value:= .slice none 0 0
def jg(n:Nat):Bool:=Nat.ble 1000 n
def soft(n:Nat):Bool:=Nat.ble 900 n
def V.yO:V→V
 | .vw _ _ t l=> .sl t l
 |v=>v
def V.PX:V→V
 | .qK _ t l=> .sl t l
 |v=>v
def S1.PX:S1→S1
 | .a v=> .a v.PX
 |x=>x
def V.Xi:V→Bool
 | .vw _ _ _ _=>true
 |_=>false
def look{α:Type}:List (Nat×α)→Nat→Option α
 | [],_=>none
 | (j,x)::r,i=>match Nat.beq i j with|true=>some x|false=>look r i
def Xj(q p:List (Nat×Bool)):Bool:=q.all fun e=>p.any fun f=>Nat.beq e.1 f.1&&e.2==f.2
def SV.mentions(d:Nat):SV→Bool
 | .cond p _=>p.any fun e=>Nat.beq e.1 d
 |_=>false
def SV.PY(d:Nat)(v:SV):SV:=match v.mentions d with|true=> .one (.a .any)|false=>v
def St.put(st:St)(d:Option Nat)(v:SV):St:=
 match d with
 |some d=>match st.sl.any fun e=>e.2.mentions d with
  |false=>⟨st.n,(d,v)::st.sl,st.hp⟩
  |true=>⟨st.n,(d,v)::st.sl.map fun e=>(e.1,e.2.PY d),st.hp⟩
 |none=>st
def Km(st:St)(p:List (Nat×Bool)):Operand→Option S1
 | .tmp t=>match look st.sl t with
   |some (.one x)=>some x
   |some (.cond q x)=>match Xj q p with|true=>some x|false=>none
   |_=>none
 | .const v=>match v.oneCell' with|true=>some (.a (.lit v))|false=>none
 | .func f=>some (.a (.lit (.func (.func f) #[] #[])))
 | .global _=>none
def ff(st:St)(p:List (Nat×Bool))(x:Operand):Option S1:=match Km st p x with|some v=>some v.PX|none=>none
def bop(op:BinOp)(k:IntKind)(x y:Int):Option (List Prop×Value):=
 match op with
 | .add=>some ([], .int k (k.wrap (x+y)))
 | .sub=>some ([], .int k (k.wrap (x-y)))
 | .mul=>some ([], .int k (k.wrap (x*y)))
 | .quo=>some ([y≠0], .int k (k.wrap (x.tdiv y)))
 | .rem=>some ([y≠0], .int k (x.tmod y))
 | .eql=>some ([], .bool (x==y))
 | .neq=>some ([], .bool (x !=y))
 | .lss=>some ([], .bool (decide (x<y)))
 | .leq=>some ([], .bool (decide (x≤y)))
 | .gtr=>some ([], .bool (decide (x>y)))
 | .geq=>some ([], .bool (decide (x≥y)))
 | .and=>some ([], .int k (k.wrap (BitVec.ofInt k.bits x&&&BitVec.ofInt k.bits y).toNat))
 | .or=>some ([], .int k (k.wrap (BitVec.ofInt k.bits x|||BitVec.ofInt k.bits y).toNat))
 | .xor=>some ([], .int k (k.wrap (BitVec.ofInt k.bits x^^^BitVec.ofInt k.bits y).toNat))
 |_=>none
def T8(op:BinOp)(k k':IntKind)(x y:Int):Option (List Prop×Value):=
 match op with
 | .shl=>some ([0≤y], .int k (k.wrap (x*2^(min y.toNat k.bits))))
 | .shr=>some ([0≤y], .int k (x.fdiv (2^(min y.toNat k.bits))))
 |op=>match decEq k k' with|isTrue _=>bop op k x y|isFalse _=>none
def NZ(op:BinOp)(x y:ByteArray):Option (List Prop×Value):=
 match op with
 | .eql=>some ([], .bool (x.toList==y.toList))
 | .neq=>some ([], .bool !(x.toList==y.toList))
 | .add=>some ([((x.size+y.size:Nat):Int)≤IntKind.i64.max], .string (x++y))
 |_=>none
def mI(l:List UInt8):ByteArray:=⟨l.toArray⟩
def bytesOf(st:St):V→Option (List UInt8)
 | .sl .u8 l=>some l
 | .own n=>match look st.hp n with|some (.arr .u8 l)=>some l|_=>none
 | .vw _ _ .u8 l=>some l
 | .lit (.slice none 0 0)=>some []
 |_=>none
def lenOf(st:St)(k:TK):V→Option Int
 | .sl _ l=>match k with| .sl _ _=>some (l.length:Int)|_=>none
 | .own n=>match k with
   | .sl _ _=>match look st.hp n with|some (.arr _ l)=>some (l.length:Int)|_=>none
   |_=>none
 | .vw _ _ _ l=>match k with| .sl _ _=>some (l.length:Int)|_=>none
 | .lit (.slice none 0 0)=>match k with| .sl _ _=>some 0|_=>none
 | .lit (.string s)=>match k with| .str=>some (s.size:Int)|_=>none
 |_=>none
def mH(st:St)(tg:Option Tag):V→Option V
 | .sl t l=>some (.sl t l)
 | .own n=>match look st.hp n with|some (.arr t l)=>some (.sl t l)|_=>none
 | .vw _ _ t l=>some (.sl t l)
 | .mix _ _ t l=>some (.sl t l)
 | .tG n=>match look st.hp n with
   |some (.eZ t l .mH)=>some (.sl t l)
   |some (.eZ t l (.of _))=>some (.sl t l)
   |_=>none
 | .lit (.slice none 0 0)=>match tg with|some t=>some (.sl t [])|none=>none
 | .lit (.slice _ _ _)=>none
 | .lit v=>some (.lit v)
 |_=>none
def HY(st:St):List (Option Tag)→List V→Option (List V)
 |_,[]=>some []
 |tg,v::r=>match mH st (match tg with|t::_=>t| []=>none) v,HY st (match tg with|_::ts=>ts| []=> []) r with
  |some x,some y=>some (x::y)
  |_,_=>none
def arg1(st:St)(k:TK):S1→Option S1
 | .a v=>match mH st (match k with| .sl t _=>some t|_=>none) v with|some x=>some (.a x)|none=>none
 | .agg l=>match HY st (match k with| .st _ tg _=>tg|_=> []) l with|some x=>some (.agg x)|none=>none
def Xk:S1→Bool
 | .a (.lit (.slice none 0 0))=>true
 |_=>false
def N0(b:Bool)(st:St)(k:TK)(v:S1):Option S1:=match b&&Xk v with|true=>some v|false=>arg1 st k v
def args(b:Bool)(Γ:Nat→TK)(st:St)(p:List (Nat×Bool)):List Operand→List Nat→Option (List S1)
 | [],_=>some []
 |x::r,t=>match ff st p x with
  |some v=>match N0 b st (match t with|t::_=>Γ t| []=> .other) v,args b Γ st p r (match t with|_::ts=>ts| []=> [])with
   |some y,some ys=>some (y::ys)
   |_,_=>none
  |none=>none
structure CR where
 own:Bool
 rs:List S1
def nK(m:Nat):List V→List V×List (Nat×Obj)
 | []=>([],[])
 | .sl t l::r=>match nK (m+1) r with| (vs,os)=>(.own m::vs,(m, .arr t l)::os)
 | .vw _ _ t l::r=>match nK (m+1) r with| (vs,os)=>(.own (m+900)::vs,(m+900, .arr t l)::os)
 |v::r=>match nK (m+1) r with| (vs,os)=>(v::vs,os)
def rP(m:Nat):S1→S1×List (Nat×Obj)
 | .a v=>match nK m [v]with| ([v'],os)=>(.a v',os)|_=>(.a .any,[])
 | .agg l=>match nK m l with| (l',os)=>(.agg l',os)
def pY(m:Nat):List S1→List S1×List (Nat×Obj)
 | []=>([],[])
 |x::r=>match rP m x,pY (m+20) r with| (x',os),(r',os')=>(x'::r',os++os')
def gm:List (Nat×Obj)→Bool
 | []=>true
 | (n,_)::r=>(match look r n with|none=>true|some _=>false)&&gm r
def fresh(hp:List (Nat×Obj)):List (Nat×Obj)→Bool
 | []=>true
 | (n,_)::r=>((match look hp n with|none=>true|some _=>false)&& !jg n)&&fresh hp r
structure Out where
 vc:List Prop
 v:SV
 o:List (Nat×Obj)
def S1.HZ:S1→Bool
 | .a v=> !v.Xi
 | .agg l=>l.all fun v=> !v.Xi
def S1.yO:S1→S1
 | .a v=> .a v.yO
 | .agg l=> .agg (l.map V.yO)
def outs(m:Nat)(c:CR)(vc:List Prop):Out:=
 match c.own with
 |true=>match pY m c.rs with
  | ([x],os)=>⟨vc, .one x,os⟩
  | (l,os)=>⟨vc, .uQ l,os⟩
 |false=>match c.rs with
  | [x]=>match x.HZ with
    |true=>⟨vc, .one x,[]⟩
    |false=>⟨vc, .one x.yO,[]⟩
  |l=>match l.all S1.HZ with
   |true=>⟨vc, .uQ l,[]⟩
   |false=>⟨vc, .uQ (l.map S1.yO),[]⟩
def sub(c:List V)(off k:Nat):Option (List V):=match Nat.ble (off+k) c.length with|true=>some ((c.drop off).take k)|false=>none
def wv:List V→Nat→Option V
 | [],_=>none
 |v::_,0=>some v
 |_::r,n+1=>wv r n
def nF:List Nat→Nat→Option Nat
 | [],_=>none
 |v::_,0=>some v
 |_::r,n+1=>nF r n
def T9:S1→Option FuncId
 | .a (.lit (.func (.func f) ⟨[]⟩ ⟨[]⟩))=>some f
 |_=>none
def F8(st:St)(p:List (Nat×Bool))(z:Int):Option Operand→Option Int
 |none=>some z
 |some x=>match ff st p x with|some (.a (.lit (.int _ i)))=>some i|_=>none
def ZM(n:Nat)(p:Option (Nat×Nat)):V→V
 | .sl t l=> .vw n p t l
 | .lit v=> .lit v
 |_=> .any
def Xl(n i:Nat):Nat→List V→List V
 |_,[]=> []
 |o,v::r=>ZM n (some (i,o)) v::Xl n i (o+1) r
def Xm(n:Nat):List V→List V
 | []=> []
 |v::r=>ZM n none v::Xm n r
def N1(st:St)(p:List (Nat×Bool))(x:Operand):Option (IntKind×Int):=match ff st p x with|some (.a (.lit (.int k i)))=>some (k,i)|_=>none
def wz(st:St)(p:List (Nat×Bool)):List Operand→Option (List (IntKind×Int))
 | []=>some []
 |x::r=>match N1 st p x,wz st p r with|some y,some ys=>some (y::ys)|_,_=>none
def N2(x y:Int):Int:=if y>x then y else x
def wA(x y:Int):Int:=if y<x then y else x
def ET(f:Int→Int→Int)(k:IntKind):Int→List (IntKind×Int)→Option Int
 |x,[]=>some x
 |x,(k',y)::r=>match decEq k k' with|isTrue _=>ET f k (f x y) r|isFalse _=>none
def plain:List V→Bool
 | []=>true
 | .lit (.slice _ _ _)::_=>false
 | .lit _::r=>plain r
 |_=>false
def cellsOf:S1→List V
 | .a v=> [v]
 | .agg l=>l
def vg(hp:List (Nat×Obj)):List V→Option (List V×Nat)
 | .own n::r=>match look hp n,plain r with
   |some (.arr t l),true=>some (.sl t l::r,n)
   |_,_=>none
 | .vw n _ t l::r=>match look hp n,plain r with
   |some (.arr _ _),true=>some (.sl t l::r,n)
   |_,_=>none
 | .lit (.slice _ _ _)::_=>none
 | .lit v::r=>match vg hp r with|some (c,n)=>some (.lit v::c,n)|none=>none
 |_=>none
def ou(st:St)(p:List (Nat×Bool))(g:Tag):Nat→List (Nat×Operand)→Option (List Prop×List (T g))
 |_,[]=>some ([],[])
 |i,(j,x)::r=>match Nat.beq i j,ff st p x with
  |true,some s=>match plain (cellsOf s),enc g (cellsOf s),ou st p g (i+1) r with
   |true,some (vc,y),some (vcs,ys)=>some (vc++vcs,y::ys)
   |_,_,_=>none
  |_,_=>none
def Wl(n:Nat)(fo:List Nat)(j:Nat):Option Nat:=match nF fo j,nF fo (j+1)with
 |some a,some b=>some (b-a)
 |some a,none=>some (n-a)
 |_,_=>none
def rQ:List V→Bool
 | []=>true
 | .any::_=>false
 |_::r=>rQ r
def Es(c:List V)(off:Nat)(vs:List V):Option (List V):=match Nat.ble (off+vs.length) c.length with
 |true=>some (c.take off++(vs++c.drop (off+vs.length)))
 |false=>none
def qL(st:St)(p:List (Nat×Bool))(n:Nat)(fo:List Nat):List (Nat×Operand)→List V→Option (List V)
 | [],c=>some c
 | (j,x)::r,c=>match nF fo j,Wl n fo j,Km st p x with
   |some o,some k,some s=>match rQ (cellsOf s)&&Nat.beq (cellsOf s).length k,Es c o (cellsOf s)with
    |true,some c'=>qL st p n fo r c'
    |_,_=>none
   |_,_,_=>none
def Xn:Option (Nat×Nat)→Nat→Option (Nat×Nat×Nat)
 |some (a,b),j=>some (a,b,j)
 |none,_=>none
def dA(x:S1):Option Out:=some ⟨[], .one x,[]⟩
def PZ(st:St):Operand→Option Out
 | .tmp t=>match look st.sl t with|some (.uQ l)=>some ⟨[], .uQ l,[]⟩|_=>none
 |_=>none
def Pk(oa:Option Addr)(cap k lo hi:Nat):Value:= .slice (if cap=lo then oa else oa.map (·.add (lo*k))) (hi-lo) (cap-lo)
def quiet(Γ:Nat→TK)(E:Tag→Nat→Prop)(S:FuncId→List S1→List S1→Prop)(cr:List (Nat×CR))(st:St)(p:List (Nat×Bool))(d m:Nat):Op→Option Out
 | .move x| .assign x=>match Km st p x with|some v=>dA v|none=>PZ st x
 | .pick (.tmp c) x y=>match ff st p (.tmp c),ff st ((c,true)::p) x,ff st ((c,false)::p) y with
   |some (.a (.lit (.bool t))),some (.a (.lit (.bool u))),some (.a (.lit (.bool v)))=>dA (.a (.lit (.bool (if t then u else v))))
   |_,_,_=>none
 | .box _ x=>match ff st p x with
   |some (.agg l)=>some ⟨[], .one (.a (.ptr m 0)),[(m, .box l)]⟩
   |some (.a .any)=>none
   |some (.a v)=>some ⟨[], .one (.a (.ptr m 0)),[(m, .box [v])]⟩
   |none=>none
 | .alloc t=>match Γ t with
   | .st z _ _=>some ⟨[], .one (.a (.ptr m 0)),[(m, .box (z.map .lit))]⟩
   |_=>none
 | .load t x=>match ff st p x with
   |some (.a (.ptr n off))=>match look st.hp n with
    |some (.box c)=>match Γ t with
     | .st z _ _=>match sub c off z.length with|some l=>dA (.agg l)|none=>none
     | .other=>none
     |_=>match wv c off with|some v=>dA (.a v.PX)|none=>none
    |_=>none
   |some (.a (.ip g y off))=>match Γ t with
     | .st z _ _=>match sub (dec g y) off z.length with|some l=>dA (.agg l)|none=>none
     | .other=>none
     |_=>match wv (dec g y) off with|some v=>dA (.a v)|none=>none
   |some (.a (.Eh n _ g y off))=>match Γ t with
     | .st z _ _=>match sub (dec g y) off z.length with|some l=>dA (.agg (Xm n l))|none=>none
     | .other=>none
     |_=>match wv (dec g y) off with|some v=>dA (.a (ZM n none v))|none=>none
   |some (.a (.mG n i off))=>match look st.hp n with
    |some (.arr g l)=>match Γ t with
     | .st z _ _=>match sub (dec g (l.getD i (aB g))) off z.length with|some c=>some ⟨[i<l.length], .one (.agg (Xl n i off c)),[]⟩|none=>none
     | .other=>none
     |_=>match wv (dec g (l.getD i (aB g))) off with|some v=>some ⟨[i<l.length], .one (.a (ZM n (some (i,off)) v)),[]⟩|none=>none
    |_=>none
   |_=>none
 | .binOp op t x y _=>match ff st p x,ff st p y with
   |some (.a (.lit (.int k a))),some (.a (.lit (.int k' b)))=>match T8 op k k' a b with|some (vc,v)=>some ⟨vc, .one (.a (.lit v)),[]⟩|none=>none
   |some (.a (.lit (.string a))),some (.a (.lit (.string b)))=>match NZ op a b with|some (vc,v)=>some ⟨vc, .one (.a (.lit v)),[]⟩|none=>none
   |some (.a (.lit (.bool a))),some (.a (.lit (.bool b)))=>match Γ t,op with
    | .bool, .eql=>dA (.a (.lit (.bool (a==b))))
    | .bool, .neq=>dA (.a (.lit (.bool (a !=b))))
    |_,_=>none
   |_,_=>none
 | .unOp .not _ x=>match ff st p x with
   |some (.a (.lit (.bool t)))=>dA (.a (.lit (.bool (!t))))
   |_=>none
 | .unOp .neg _ x=>match ff st p x with
   |some (.a (.lit (.int k n)))=>dA (.a (.lit (.int k (k.wrap (0-n)))))
   |_=>none
 | .convert s t x=>match ff st p x,Γ s,Γ t with
   |some (.a (.lit (.int _ n))), .int _, .int k=>dA (.a (.lit (.int k (k.wrap n))))
   |some (.a v), .sl _ e, .str=>match Γ e,bytesOf st v with
    | .int .u8,some l=>dA (.a (.lit (.string (mI l))))
    |_,_=>none
   |_,_,_=>none
 | .makeFunc (.func f) first captured=>match first.toList,captured.toList with
   | [],[x]=>match ff st p x with
     |some (.a (.ptr n 0))=>dA (.a (.Bt f n))
     |_=>none
   |_,_=>none
 | .slice t x lo hi none=>match Γ t with
   | .sl g _=>match(look cr (d+600000)).isSome with
     |true=>match ff st p x,F8 st p 0 lo,hi with
      |some (.a (.vw _ _ _ l)),some lo,none=>some ⟨[lo=(l.length:Int)], .one (.a (.uo 0)),[]⟩
      |some (.a (.uo k)),some lo,none=>some ⟨[lo=(k:Int)], .one (.a (.uo 0)),[]⟩
      |_,_,_=>none
     |false=>match ff st p x,F8 st p 0 lo with
      |some (.a (.sl t' l)),some lo=>match F8 st p l.length hi with
       |some hi=>match Nat.beq (kk g) (kk t')with
        |true=>some ⟨[0≤lo∧lo≤hi∧hi≤(l.length:Int)], .one (.a (.sl t' ((l.take hi.toNat).drop lo.toNat))),[]⟩
        |false=>none
       |none=>none
      |some (.a (.vw n _ t' l)),some lo=>match F8 st p l.length hi with
       |some hi=>match Nat.beq (kk g) (kk t')with
        |true=>some ⟨[0≤lo∧lo≤hi∧hi≤(l.length:Int)], .one (.a (.vw n none t' ((l.take hi.toNat).drop lo.toNat))),[]⟩
        |false=>none
       |none=>none
      |some (.a (.own n)),some lo=>match look st.hp n with
       |some (.arr t' l)=>match F8 st p l.length hi with
        |some hi=>match Nat.beq (kk g) (kk t')with
         |true=>some ⟨[0≤lo∧lo≤hi∧hi≤(l.length:Int)], .one (.a (.vw n none t' ((l.take hi.toNat).drop lo.toNat))),[]⟩
         |false=>none
        |none=>none
       |_=>none
      |some (.a (.raw (.slice oa len cap))),some lo=>match F8 st p len hi with
       |some hi=>some ⟨[0≤lo∧lo≤hi∧hi≤(len:Int)∧len≤cap], .one (.a (.raw (Pk oa cap (kk g) lo.toNat hi.toNat))),[]⟩
       |none=>none
      |_,_=>none
   | .str=>match ff st p x,F8 st p 0 lo with
     |some (.a (.lit (.string s))),some lo=>match F8 st p s.size hi with
      |some hi=>some ⟨[0≤lo∧lo≤hi∧hi≤(s.size:Int)], .one (.a (.lit (.string (s.extract lo.toNat hi.toNat)))),[]⟩
      |none=>none
     |_,_=>none
   |_=>none
 | .slice t x none (some hi) (some mx)=>match Γ t with
   | .sl g _=>match ff st p x,F8 st p 0 (some hi),F8 st p 0 (some mx)with
     |some (.a (.own n)),some hi,some mx=>match look st.hp n with
      |some (.arr t' l)=>match Nat.beq (kk g) (kk t')with
       |true=>some ⟨[0≤hi∧hi=mx∧hi≤(l.length:Int)], .one (.a (.mix n true t' (l.take hi.toNat))),[]⟩
       |false=>none
      |_=>none
     |_,_,_=>none
   |_=>none
 | .fieldAddr t x f=>match Γ t with
   | .st _ _ fo=>match nF fo f with
     |some k=>match ff st p x with
      |some (.a (.ptr n off))=>dA (.a (.ptr n (off+k)))
      |some (.a (.ip t x off))=>dA (.a (.ip t x (off+k)))
      |some (.a (.mG n i off))=>dA (.a (.mG n i (off+k)))
      |some (.a (.Eh n q t x off))=>dA (.a (.Eh n q t x (off+k)))
      |_=>none
     |none=>none
   |_=>none
 | .indexAddr ty x i=>match Γ ty with
   | .sl g _=>match ff st p x,ff st p i with
     |some (.a (.sl t l)),some (.a (.lit (.int _ i)))=>match Nat.beq (kk g) (kk t)with
      |true=>some ⟨[0≤i∧i<(l.length:Int)], .one (.a (.ip t (l.getD i.toNat (aB t)) 0)),[]⟩
      |false=>none
     |some (.a (.own n)),some (.a (.lit (.int _ i)))=>match look st.hp n with
      |some (.arr t l)=>match Nat.beq (kk g) (kk t)with
       |true=>some ⟨[0≤i∧i<(l.length:Int)], .one (.a (.mG n i.toNat 0)),[]⟩
       |false=>none
      |_=>none
     |some (.a (.vw n q t l)),some (.a (.lit (.int _ i)))=>match Nat.beq (kk g) (kk t)with
      |true=>some ⟨[0≤i∧i<(l.length:Int)], .one (.a (.Eh n (Xn q i.toNat) t (l.getD i.toNat (aB t)) 0)),[]⟩
      |false=>none
     |_,_=>none
   |_=>none
 | .lookup t x y false=>match Γ t with
   | .mp=>match ff st p x,ff st p y with
     |some (.a (.tG n)),some (.a (.lit (.int .i64 k)))=>match look st.hp n with
      |some (.eZ tg l .mp)=>match gf .int tg l with
       |some l=>dA (.a (.lit (.int .i64 (nE l k))))
       |none=>none
      |_=>none
     |_,_=>none
   |_=>none
 | .index t x i=>match Γ t with
   | .str=>match ff st p x,ff st p i with
     |some (.a (.lit (.string s))),some (.a (.lit (.int _ n)))=>some ⟨[0≤n∧n<(s.size:Int)], .one (.a (.lit (.int .u8 ((s.data.toList.getD n.toNat 0).toNat:Int)))),[]⟩
     |_,_=>none
   |_=>none
 | .makeMap t none=>match Γ t with
   | .mp=>some ⟨[], .one (.a (.tG m)),[(m, .eZ .int [] .mp)]⟩
   |_=>none
 | .makeSlice ty x y=>match Γ ty with
   | .sl g e=>match ff st p x,ff st p y with
     |some (.a (.lit (.int _ a))),some (.a (.lit (.int _ b)))=>some ⟨[E g e,a=b,0≤a,a.toNat*cK g≤140737488355328∧a.toNat≤maxLen], .one (.a (.own m)),[(m, .arr g (List.replicate a.toNat (aB g)))]⟩
     |_,_=>none
   |_=>none
 | .buildSlice ty len parts=>match Γ ty with
   | .sl g e=>match(look cr (d+500000)).isSome with
     |true=>match Nat.beq len 1,parts.toList with
      |true,[(0,x)]=>match ff st p x with
       |some s=>match vg st.hp (cellsOf s)with
        |some (c,n)=>match enc g c,Nat.ble (kk g) 16777216 with
         |some (vc,y),true=>some ⟨E g e::vc, .one (.a (.Ei n g [y])),[]⟩
         |_,_=>none
        |none=>none
       |none=>none
      |_,_=>none
     |false=>match Nat.beq parts.toList.length len,Nat.ble (len*kk g) 16777216,ou st p g 0 parts.toList with
      |true,true,some (vc,xs)=>some ⟨E g e::vc, .one (.a (.own m)),[(m, .arr g xs)]⟩
      |_,_,_=>none
   |_=>none
 | .build ty parts=>match Γ ty with
   | .st z _ fo=>match qL st p z.length fo parts.toList (z.map .lit)with
     |some c=>dA (.agg c)
     |none=>none
   |_=>none
 | .nilCheck x=>match ff st p x with
   |some (.a (.ptr n off))=>dA (.a (.ptr n off))
   |some (.a (.mG n i off))=>dA (.a (.mG n i off))
   |_=>none
 | .call ⟨.builtin .max,xs,_⟩=>match wz st p xs.toList with
   |some ((k,x)::r)=>match ET N2 k x r with|some y=>dA (.a (.lit (.int k y)))|none=>none
   |_=>none
 | .call ⟨.builtin .min,xs,_⟩=>match wz st p xs.toList with
   |some ((k,x)::r)=>match ET wA k x r with|some y=>dA (.a (.lit (.int k y)))|none=>none
   |_=>none
 | .extract (.tmp t) i=>match look st.sl t with
   |some (.uQ l)=>match l[i]? with|some x=>dA x|none=>none
   |_=>none
 | .call ⟨.builtin .append,xs,ts⟩=>match(look cr (d+650000)).isSome,xs.toList,ts.toList with
   |true,[x,y],[t1,t2]=>match Nat.beq t1 t2,Γ t1 with
    |true, .sl g e=>match ff st p x,ff st p y with
     |some (.a (.mix n true t l)),some (.a (.vw n2 _ t' l'))=>match Nat.beq n n2,gf g t l,gf g t' l' with
      |true,some a,some b=>some ⟨[E g e,(a.length+b.length)*cK g≤140737488355328∧a.length+b.length≤maxLen], .one (.a (.mix n false g (a++b))),[]⟩
      |_,_,_=>none
     |_,_=>none
    |_,_=>none
   |_,_,_=>none
 | .call ⟨.builtin .len,xs,ts⟩=>match xs.toList,ts.toList with
   | [x],[t]=>match ff st p x with
     |some (.a v)=>match lenOf st (Γ t) v with|some n=>dA (.a (.lit (.int .i64 n)))|none=>none
     |_=>none
   |_,_=>none
 | .call ⟨.value (.func f),xs,ts⟩=>match args (look cr (d+300000)).isSome Γ st p xs.toList ts.toList,look cr d with
   |some as,some c=>some (outs m c [S f as c.rs])
   |_,_=>none
 | .call ⟨.value (.tmp x),xs,ts⟩=>match ff st p (.tmp x)with
   |some v=>match T9 v with
    |some f=>match args (look cr (d+300000)).isSome Γ st p xs.toList ts.toList,look cr d with
     |some as,some c=>some (outs m c [S f as c.rs])
     |_,_=>none
    |none=>none
   |none=>none
 |_=>none
def hyps(st:St):List (Nat×Bool)→List Prop
 | []=> []
 | (d,x)::r=>match look st.sl d with
   |some (.one (.a (.lit (.bool b))))=>(b=x)::hyps st r
   |some (.cond _ (.a (.lit (.bool b))))=>(b=x)::hyps st r
   |_=>hyps st r
def cV:List Prop→Prop→Prop
 | [],q=>q
 |h::r,q=>h→cV r q
def ij(st:St)(ops:List Oper)(o:Oper):Option (List (Nat×Bool)):=
 match o.guard with
 |none=>some []
 |some (j,x)=>match ops[j]? with
  |some q=>match q.dst with
   |some d=>match look st.sl d with
    |some (.one (.a (.lit (.bool _))))=>some [(d,x)]
    |some (.cond p (.a (.lit (.bool _))))=>some ((d,x)::p)
    |_=>none
   |none=>none
  |none=>none
def wD(st:St):Option Nat→Bool
 |some d=>Nat.blt d st.n
 |none=>true
def ZN(cO:List (Nat×Nat)):Option Nat→Option Nat
 |some d=>match look cO d with|some m=>some m|none=>some d
 |none=>some 99999
def oN(Γ:Nat→TK)(E:Tag→Nat→Prop)(S:FuncId→List S1→List S1→Prop)(cO:List (Nat×Nat))(cr:List (Nat×CR))(ops:List Oper)(st:St)(o:Oper):Option (List Prop×SV×List (Nat×Obj)):=
 match wD st o.dst,ZN cO o.dst,ij st ops o with
 |true,some m,some []=>match quiet Γ E S cr st [] (o.dst.getD 0) m o.op with
  |some ⟨vc,v,os⟩=>match fresh st.hp os,gm os with
   |true,true=>some (vc,v,os)
   |_,_=>none
  |none=>none
 |true,some m,some (e::p)=>match(e::p).any (fun e=>o.dst==some e.1)with
  |false=>match quiet Γ E S cr st (e::p) (o.dst.getD 0) m o.op with
   |some ⟨vc, .one v,[]⟩=>some (vc.map (cV (hyps st (e::p))), .cond (e::p) v,[])
   |_=>none
  |true=>none
 |_,_,_=>none
def P0(Γ:Nat→TK)(E:Tag→Nat→Prop)(S:FuncId→List S1→List S1→Prop)(cO:List (Nat×Nat))(cr:List (Nat×CR))(ops:List Oper)(st:St)(o:Oper):Option (List Prop×St):=
 match oN Γ E S cO cr ops st o with
 |some (vc,v,os)=>some (vc,St.put ⟨st.n,st.sl,os++st.hp⟩ o.dst v)
 |none=>none
end
section
structure CO where
 v:Value
 fp:List Nat
abbrev Env:=Nat→CO
abbrev Hp:=List (Nat×Obj)
def Ow(hp:Hp)(env:Env)(b:Nat):Prop:= ∃n o,look hp n=some o∧b∈(env n).fp
def RV(w:World)(hp:Hp)(env:Env)(n:Nat)(p:Option (Nat×Nat))(t:Tag)(l:List (T t))(u:Value):Prop:=
 (∃t l,look hp n=some (.arr t l))∧(∃fp,Sl (kk t) (rd t) w u l fp∧fp.Nodup∧ ∀b,b∈fp→b∈(env n).fp)∧
   ∀i off,p=some (i,off)→ ∃t0 l0 b o len cap,look hp n=some (.arr t0 l0)∧i<l0.length∧wv (dec t0 (l0.getD i (aB t0))) off=some (.sl t l)∧(env n).v= .slice (some ⟨b,o,none⟩) len cap∧b∈(env n).fp∧w.cell? ⟨b,o+i*kk t0+off,none⟩=some u
def P1:ER Value:=fun _ cs x fp=>cs= [x]∧fp= []∧x.oneCell'=true
theorem wE:fJ 1 P1 where
 agree:=by rintro w w' cs x fp ⟨rfl,rfl,h⟩ _;exact⟨rfl,rfl,h⟩
 lt:=by rintro w cs x fp ⟨rfl,rfl,_⟩ b hb;cases hb
 len:=by rintro w cs x fp ⟨rfl,rfl,_⟩;rfl
 one:=by rintro w cs x fp ⟨rfl,rfl,h⟩ u hu;rw[List.mem_singleton.1 hu];exact h
theorem H6{α:Type}{E:ER α}{w:World}{Pb:Nat→Prop}: ∀(us:List Value) (l:List α),us.length=l.length→(∀(i:Nat) (x:α) (u:Value),l[i]? =some x→us[i]? =some u→ ∃f,E w [u] x f∧ ∀b,b∈f→Pb b)→
  ∃bn:List (List Nat),bn.length=l.length∧ ∀(i:Nat) (x:α) (u:Value) (f:List Nat),l[i]? =some x→us[i]? =some u→bn[i]? =some f→E w [u] x f∧ ∀b,b∈f→Pb b
 | [],[],_,_=>⟨[],rfl,fun i x u f h=>by simp at h⟩
 |u::us,x::l,hl,h=>by
  obtain⟨f,hf⟩:=h 0 x u rfl rfl
  obtain⟨bn,h1,h2⟩:=H6 us l (by simpa using hl) (fun i y v hy hv=>h (i+1) y v (by simpa using hy) (by simpa using hv))
  refine⟨f::bn,by simp[h1],fun i y v g hy hv hg=> ?_⟩
  cases i with
  |zero=>
   simp at hy hv hg
   subst hy;subst hv;subst hg
   exact hf
  |succ i=>exact h2 i y v g (by simpa using hy) (by simpa using hv) (by simpa using hg)
 | [],_::_,h,_=>by simp at h
 |_::_,[],h,_=>by simp at h
theorem N3{α:Type}{E:ER α}{w:World}{v:Value}{us:List Value}{l:List α}{fp:List Nat}{Pb:Nat→Prop}(h:Sl 1 P1 w v us fp)(hl:us.length=l.length)
  (hE: ∀(i:Nat) (x:α) (u:Value),l[i]? =some x→us[i]? =some u→ ∃f,E w [u] x f∧ ∀b,b∈f→Pb b): ∃e9,Sl 1 E w v l e9∧ ∀b,b∈e9→b∈fp∨Pb b:=by
 obtain⟨oa,cap,rfl,hc,hm,h3⟩:=h
 rcases h3 with⟨rfl,_,hn⟩| ⟨b,off,fs,rfl,hb,rfl,hE2⟩
 ·have:l= []:=List.length_eq_zero_iff.1 (by rw[←hl];rfl)
  subst this
  exact⟨[],⟨oa,cap,rfl,Nat.zero_le _,hm,Or.inl ⟨rfl,rfl,hn⟩⟩,by simp⟩
 ·obtain⟨bn,q1,q2⟩:=H6 us l hl hE
  refine⟨b::bn.flatten,⟨_,cap,by rw[hl],by omega,hm,Or.inr ⟨b,off,bn,rfl,hb,rfl,q1,fun i x f hx hf=> ?_⟩⟩,fun c hc=> ?_⟩
  ·have hi:=(List.getElem?_eq_some_iff.1 hx).1
   obtain⟨u,hu⟩: ∃u,us[i]? =some u:=⟨_,List.getElem?_eq_getElem (by omega)⟩
   obtain⟨g,hg⟩: ∃g,fs[i]? =some g:=⟨_,List.getElem?_eq_getElem (by rw[hE2.1];omega)⟩
   obtain⟨cs,k1,k2,_,_⟩:=hE2.2 i u g hu hg
   subst k2
   exact⟨[u],k1,(q2 i x u f hx hu hf).1⟩
  ·rcases List.mem_cons.1 hc with rfl|hc
   ·exact Or.inl (by simp)
   ·obtain⟨f,hf,hcf⟩:=List.mem_flatten.1 hc
    obtain⟨i,hi⟩:=List.getElem?_of_mem hf
    have hil:=(List.getElem?_eq_some_iff.1 hi).1
    exact Or.inr ((q2 i l[i] us[i] f (List.getElem?_eq_getElem (by omega)) (List.getElem?_eq_getElem (by omega)) hi).2 c hcf)
def BE(w:World)(hp:Hp)(env:Env)(s:pP)(t:Tag)(x:T t)(u:Value):Prop:=match s with
 | .gone| .mp| .HJ _| .uq _=>True
 | .mH=> ∃f,rd t w [u] x f∧ ∀b,b∈f→ ¬Ow hp env b
 | .of n=>(∃t l,look hp n=some (.arr t l))∧ ∃f,rd t w [u] x f∧ ∀b,b∈f→b∈(env n).fp∨ ¬Ow hp env b
def RA(w:World)(hp:Hp)(env:Env):V→Value→Prop
 | .any,_=>True
 | .lit v,u=>u=v∧v.oneCell'=true
 | .raw v,u=>u=v∧v.oneCell'=true
 | .sl t l,u=> ∃fp,Sl (kk t) (rd t) w u l fp∧ ∀b,b∈fp→ ¬Ow hp env b
 | .own n,u=>(∃t l,look hp n=some (.arr t l))∧u=(env n).v
 | .ptr n off,u=>(∃c,look hp n=some (.box c))∧ ∃b,(env n).v= .pointer (some ⟨b,0,none⟩)∧u= .pointer (some ⟨b,off,none⟩)
 | .mG n i off,u=> ∃t l,look hp n=some (.arr t l)∧ ∃b o len cap,(env n).v= .slice (some ⟨b,o,none⟩) len cap∧u= .pointer (some ⟨b,o+i*kk t+off,none⟩)
 | .vw n p t l,u=>RV w hp env n p t l u
 | .Ei n t l,u=>(∃t l,look hp n=some (.arr t l))∧ ∃b fp,Sl (kk t) (rd t) w u l (b::fp)∧ ¬Ow hp env b∧fp.Nodup∧ ∀c,c∈fp→c∈(env n).fp
 | .tG n,u=>(∃t l s,look hp n=some (.eZ t l s))∧u=(env n).v
 | .mix n c t l,u=>(∃t l,look hp n=some (.arr t l))∧(∃fp,Sl (kk t) (rd t) w u l fp∧ ∀b,b∈fp→b∈(env n).fp∨ ¬Ow hp env b)∧(c=true→ ∃oa,u= .slice oa l.length l.length)
 | .Eh n p t x off,u=>(∃t l,look hp n=some (.arr t l))∧ ∃b o cs fp,u= .pointer (some ⟨b,o+off,none⟩)∧b∈(env n).fp∧w.rangeAt b o cs∧rd t w cs x fp∧fp.Nodup∧(∀c,c∈fp→c∈(env n).fp)∧
   ∀i o2 j,p=some (i,o2,j)→ ∃l u0 b0 ox len cap,RV w hp env n (some (i,o2)) t l u0∧j<l.length∧x=l.getD j (aB t)∧u0= .slice (some ⟨b0,ox,none⟩) len cap∧u= .pointer (some ⟨b0,ox+j*kk t+off,none⟩)
 | .Bt f n,u=>(∃c,look hp n=some (.box c))∧ ∃b,(env n).v= .pointer (some ⟨b,0,none⟩)∧u= .func (.func f) #[] #[.pointer (some ⟨b,0,none⟩)]
 | .uo k,u=> ∃oa cap,u= .slice oa k cap∧k≤cap∧cap≤maxLen∧(oa=none→cap=0)
 | .qK v t l,u=>u=v∧ ∃fp,Sl (kk t) (rd t) w u l fp∧ ∀b,b∈fp→ ¬Ow hp env b
 | .ip t x off,u=> ∃b o cs fp,u= .pointer (some ⟨b,o+off,none⟩)∧b<w.heap.size∧w.rangeAt b o cs∧rd t w cs x fp∧ ¬Ow hp env b∧ ∀c,c∈fp→ ¬Ow hp env c
theorem RA.PX{w:World}{hp:Hp}{env:Env}{v:V}{u:Value}(h:RA w hp env v u):RA w hp env v.PX u:=by
 cases v with
 |qK v t l=>exact h.2
 |_=>exact h
def bA{α β:Type}(R:α→β→Prop):List α→List β→Prop
 | [],[]=>True
 |a::as,b::bs=>R a b∧bA R as bs
 |_,_=>False
theorem bA.mono{α β:Type}{R R':α→β→Prop}: ∀{as:List α} {bs:List β},(∀a b,a∈as→R a b→R' a b)→bA R as bs→bA R' as bs
 | [],[],_,_=>trivial
 |a::as,b::bs,h,⟨h1,h2⟩=>⟨h a b (by simp) h1,bA.mono (fun a b ha=>h a b (List.mem_cons_of_mem _ ha)) h2⟩
 | [],_::_,_,h=>h.elim
 |_::_,[],_,h=>h.elim
theorem bA.len{α β:Type}{R:α→β→Prop}: ∀{as:List α} {bs:List β},bA R as bs→bs.length=as.length
 | [],[],_=>rfl
 |_::_,_::_,⟨_,h⟩=>by simp[bA.len h]
 | [],_::_,h=>h.elim
 |_::_,[],h=>h.elim
theorem bA.app{α β:Type}{R:α→β→Prop}: ∀{as as':List α} {bs bs':List β},bA R as bs→bA R as' bs'→bA R (as++as') (bs++bs')
 | [],_,[],_,_,h=>h
 |_::_,_,_::_,_,⟨h1,h2⟩,h=>⟨h1,bA.app h2 h⟩
 | [],_,_::_,_,h,_=>h.elim
 |_::_,_,[],_,h,_=>h.elim
theorem bA.drop{α β:Type}{R:α→β→Prop}: ∀{as:List α} {bs:List β} (n:Nat),bA R as bs→bA R (as.drop n) (bs.drop n)
 |_,_,0,h=>h
 | [],[],_+1,_=>trivial
 |_::_,_::_,n+1,⟨_,h⟩=>bA.drop n h
 | [],_::_,_,h=>h.elim
 |_::_,[],_,h=>h.elim
theorem bA.take{α β:Type}{R:α→β→Prop}: ∀{as:List α} {bs:List β} (n:Nat),bA R as bs→bA R (as.take n) (bs.take n)
 |_,_,0,_=>by simp[bA]
 | [],[],_+1,_=>trivial
 |_::_,_::_,n+1,⟨h1,h⟩=>⟨h1,bA.take n h⟩
 | [],_::_,_,h=>h.elim
 |_::_,[],_,h=>h.elim
theorem bA.at{α β:Type}{R:α→β→Prop}: ∀{as:List α} {bs:List β} {i:Nat} {x:α},bA R as bs→as[i]? =some x→ ∃y,bs[i]? =some y∧R x y
 |a::as,b::bs,0,x,⟨h1,_⟩,hx=>⟨b,rfl,by simp at hx;rw[←hx];exact h1⟩
 |a::as,b::bs,i+1,x,⟨_,h⟩,hx=>by
  obtain⟨y,hy,hr⟩:=bA.at (i:=i) h (by simpa using hx)
  exact⟨y,by simpa using hy,hr⟩
 | [],_,_,_,_,hx=>by simp at hx
 |_::_,[],_,_,h,_=>h.elim
def eT(w:World)(hp:Hp)(env:Env):S1→Value→Prop
 | .a v,u=>RA w hp env v u
 | .agg l,u=> ∃cs,u= .agg cs.toArray∧bA (RA w hp env) l cs
theorem eT.PX{w:World}{hp:Hp}{env:Env}{x:S1}{u:Value}(h:eT w hp env x u):eT w hp env x.PX u:=by
 cases x with
 |a v=>exact RA.PX h
 |agg l=>exact h
def holds(tmps:Array Value)(p:List (Nat×Bool)):Prop:= ∀e,e∈p→tmps[e.1]? =some (.bool e.2)
def nG(w:World)(hp:Hp)(env:Env)(tmps:Array Value):SV→Value→Prop
 | .one x,u=>eT w hp env x u
 | .uQ l,u=> ∃us,u= .tuple us.toArray∧bA (eT w hp env) l us
 | .cond p x,u=>(holds tmps p→eT w hp env x u)∧(¬holds tmps p→u=undef)
variable(ty:Tag→Nat)
structure cm where
 w:World
 L:List Nat
 pv:Nat→CO
def kZ(w:World)(n:Nat)(t:Tag)(l:List (T t))(co:CO):Prop:=
 match soft n with
 |true=>Sl (kk t) (rd t) w co.v l co.fp∧Own 0 w co.fp
 |false=>ig (kk t) (rd t) 0 (ty t) w co.v l co.fp
def H7(w:World)(t:Tag)(l:List (T t))(co:CO):Prop:= ∃r lx,gf .int t l=some lx∧co=⟨.map (some r),[r]⟩∧PW w r lx
def F9(w:World)(hp:Hp)(env:Env)(t:Tag)(l:List (T t))(u:Value)(co:CO):Prop:=co.v=u∧Own 0 w co.fp∧ ∃fp,Sl (kk t) (rd t) w u l fp∧((fp= []∧co.fp= [])∨ ∃b,fp=b::co.fp∧ ¬Ow hp env b)
def P2(w:World)(hp:Hp)(env:Env)(t:Tag)(l:List (T t))(s:pP)(co:CO):Prop:=kk t=1∧ ∃us,ig 1 P1 0 (ty t) w co.v us co.fp∧us.length=l.length∧ ∀(i:Nat) (x:T t) (u:Value),l[i]? =some x→us[i]? =some u→BE w hp env s t x u
def yP(w:World)(hp:Hp)(env:Env)(t:Tag)(l:List (T t))(p:Option (Nat×Nat×Nat))(co:CO):Prop:=Own 0 w co.fp∧(∃oa m cap,co.v= .slice oa m cap)∧ ∀n i off,p=some (n,i,off)→
 ∃(tA:Tag) (lA:List (T tA)) (b o1 len cap:Nat),look hp n=some (.arr tA lA)∧(env n).v= .slice (some ⟨b,o1,none⟩) len cap∧b∈(env n).fp∧
  ∀w2:World,(∀y,y∈(env n).fp→w2.heap[y]? =w.heap[y]?)→(∀y,y∈co.fp→w2.heap[y]? =w.heap[y]?)→ ∀d vc y',Es (dec tA (lA.getD i (aB tA))) off [.sl t l]=some d→enc tA d=some (vc,y')→(∀q,q∈vc→q)→
   w2.there b (o1+i*kk tA+off) 1∧ ∃H8,(∀y,y∈H8→y∈(env n).fp∨y∈co.fp)∧kZ ty (w2.setCells b (o1+i*kk tA+off) [co.v]) n tA (lA.set i y') ⟨(env n).v,H8⟩
def RO(w:World)(hp:Hp)(env:Env)(n:Nat):Obj→CO→Prop
 | .box c,co=> ∃b cs e,co=⟨.pointer (some ⟨b,0,none⟩),[b]⟩∧w.heap[b]? =some (.cells (Array.mk cs) e (0,0))∧bA (RA w hp env) c cs
 | .arr t l,co=>kZ ty w n t l co
 | .eZ t l s,co=>match s with
   | .mp=>H7 w t l co
   | .HJ u=>F9 w hp env t l u co
   | .uq p=>yP ty w hp env t l p co
   |s=>P2 ty w hp env t l s co
theorem RO.Cl{ty:Tag→Nat}{w:World}{hp:Hp}{env:Env}{n:Nat}{t:Tag}{l:List (T t)}{s:pP}{co:CO}(h:RO ty w hp env n (.eZ t l s) co):(s= .mp∧H7 w t l co)∨(∃u,s= .HJ u∧F9 w hp env t l u co)∨(∃p,s= .uq p∧yP ty w hp env t l p co)∨(s.br∧P2 ty w hp env t l s co):=by
 cases s with
 |mp=>exact Or.inl ⟨rfl,h⟩
 |HJ u=>exact Or.inr (Or.inl ⟨u,rfl,h⟩)
 |uq p=>exact Or.inr (Or.inr (Or.inl ⟨p,rfl,h⟩))
 |gone=>exact Or.inr (Or.inr (Or.inr ⟨trivial,h⟩))
 |mH=>exact Or.inr (Or.inr (Or.inr ⟨trivial,h⟩))
 |of n=>exact Or.inr (Or.inr (Or.inr ⟨trivial,h⟩))
theorem RO.N4{ty:Tag→Nat}{w:World}{hp:Hp}{env:Env}{n:Nat}{t:Tag}{l:List (T t)}{s:pP}{co:CO}(hs:s.br)(h:P2 ty w hp env t l s co):RO ty w hp env n (.eZ t l s) co:=by
 cases s with
 |mp=>exact hs.elim
 |HJ u=>exact hs.elim
 |uq p=>exact hs.elim
 |gone=>exact h
 |mH=>exact h
 |of n=>exact h
theorem H7.agree{w w':World}{t:Tag}{l:List (T t)}{co:CO}(h:H7 w t l co)(hk: ∀b,b∈co.fp→w'.heap[b]? =w.heap[b]?):H7 w' t l co:=by
 obtain⟨r,lx,h1,rfl,es,clock,h2,h3⟩:=h
 exact⟨r,lx,h1,rfl,es,clock,(hk r (by simp)).trans h2,h3⟩
structure Good(zb:cm)(st:St)(tmps:Array Value)(w:World)(env:Env):Prop where
 obj: ∀n o,look st.hp n=some o→RO ty w st.hp env n o (env n)
 iq: ∀n m o o',n≠m→look st.hp n=some o→look st.hp m=some o'→ ∀b,b∈(env n).fp→b∉(env m).fp
 slot: ∀s v,look st.sl s=some v→nG w st.hp env tmps v (tmps.getD s undef)
 dom: ∀n o,look st.hp n=some o→ ∀b,b∈(env n).fp→b∈zb.L∨zb.w.heap.size≤b
 pins: ∀n,jg n=true→(env n).v=(zb.pv n).v∧ ∀b,b∈(env n).fp→b∈(zb.pv n).fp
structure Kept(zb:cm)(w w':World):Prop where
 os:w'.os=w.os
 tape:w'.tape=w.tape
 output:w'.output=w.output
 size:w.heap.size≤w'.heap.size
 block: ∀b,b<zb.w.heap.size→b∉zb.L→w'.heap[b]? =w.heap[b]?
 shape: ∀(b:Nat) (c:Array Value) (e:TypeId),w.heap[b]? =some (Go.Obj.cells c e (0,0))→ ∃c':Array Value,w'.heap[b]? =some (Go.Obj.cells c' e (0,0))∧c'.size=c.size
theorem Kept.refl(zb:cm)(w:World):Kept zb w w:=⟨rfl,rfl,rfl,Nat.le_refl _,fun _ _ _=>rfl,fun _ c _ h=>⟨c,h,rfl⟩⟩
theorem Kept.trans{zb:cm}{a b c:World}(h:Kept zb a b)(k:Kept zb b c):Kept zb a c:=
 ⟨k.os.trans h.os,k.tape.trans h.tape,k.output.trans h.output,Nat.le_trans h.size k.size,fun i hi hn=>(k.block i hi hn).trans (h.block i hi hn),fun i x e hx=>by
   obtain⟨c1,h1,h2⟩:=h.shape i x e hx
   obtain⟨c2,h3,h4⟩:=k.shape i c1 e h1
   exact⟨c2,h3,h4.trans h2⟩⟩
theorem j9{zb:cm}{w w':World}(h:Below w.heap.size w w')(hz:zb.w.heap.size≤w.heap.size):Kept zb w w':=
 ⟨h.os,h.tape,h.output,h.size,fun b hb _=>h.block b (Nat.lt_of_lt_of_le hb hz),fun b c e hc=>⟨c,by rw[h.block b (Wk hc)];exact hc,rfl⟩⟩
def Ga(zb:cm):Prop:=F5 zb.w∧ ∀b,Ky b→b∉zb.L
theorem Ga.now{zb:cm}{w:World}(h:Ga zb)(k:Kept zb zb.w w):F5 w:=h.1.keep fun b hb hlt=>k.block b hlt (h.2 b hb)
theorem Ga.free{zb:cm}(h:Ga zb){b:Nat}(hb:b∈zb.L∨zb.w.heap.size≤b): ¬Ky b:=fun h0=>by
 rcases hb with hb|hb
 ·exact h.2 b h0 hb
 ·have:=h.1.lt h0;omega
structure Inv(zb:cm)(st:St)(a:Act)(w:World):Prop where
 size:a.tmps.size=st.n
 defers:a.defers= []
 kept:Kept zb zb.w w
 Ej:Ga zb
 good: ∃env,Good ty zb st a.tmps w env
variable{ty}
theorem RO.own{w:World}{hp:Hp}{env:Env}{n:Nat}{t:Tag}{l:List (T t)}{co:CO}(h:RO ty w hp env n (.arr t l) co):Own 0 w co.fp:=by
 replace h:kZ ty w n t l co:=h
 unfold kZ at h
 split at h
 ·exact h.2
 ·exact ig.own h
theorem RO.sl{w:World}{hp:Hp}{env:Env}{n:Nat}{t:Tag}{l:List (T t)}{co:CO}(h:RO ty w hp env n (.arr t l) co):Sl (kk t) (rd t) w co.v l co.fp:=by
 replace h:kZ ty w n t l co:=h
 unfold kZ at h
 split at h
 ·exact h.1
 ·exact ig.sl h
theorem RO.Ei{w:World}{hp:Hp}{env:Env}{n:Nat}{t:Tag}{l:List (T t)}{s:pP}{co:CO}(hs:s≠ .gone)(hm:s.br)(h:RO ty w hp env n (.eZ t l s) co): ∃fp,Sl (kk t) (rd t) w co.v l fp:=by
 obtain⟨h1,us,hB,h2,h3⟩:P2 ty w hp env t l s co:=by
  rcases RO.Cl h with⟨rfl,_⟩| ⟨u,rfl,_⟩| ⟨p,rfl,_⟩| ⟨_,h⟩
  ·exact hm.elim
  ·exact hm.elim
  ·exact hm.elim
  ·exact h
 obtain⟨fp,h4,_⟩:=N3 (E:=rd t) (Pb:=fun _=>True) hB.sl h2 (fun i x u hx hu=>by
  have:=h3 i x u hx hu
  cases s with
  |gone=>exact absurd rfl hs
  |mp=>exact hm.elim
  |HJ u=>exact hm.elim
  |uq p=>exact hm.elim
  |mH=>obtain⟨f,q,_⟩:=this;exact⟨f,q,fun _ _=>trivial⟩
  |of n=>obtain⟨_,f,q,_⟩:=this;exact⟨f,q,fun _ _=>trivial⟩)
 rw[h1]
 exact⟨fp,h4⟩
theorem RO.TJ{w:World}{hp:Hp}{env:Env}{n:Nat}{t:Tag}{l:List (T t)}{co:CO}(hn:soft n=false)(h:RO ty w hp env n (.arr t l) co):ig (kk t) (rd t) 0 (ty t) w co.v l co.fp:=by
 replace h:kZ ty w n t l co:=h
 unfold kZ at h
 rw[hn]at h
 exact h
theorem RO.EU{w:World}{hp:Hp}{env:Env}{n:Nat}{t:Tag}{l:List (T t)}{co:CO}(h:ig (kk t) (rd t) 0 (ty t) w co.v l co.fp):RO ty w hp env n (.arr t l) co:=by
 show kZ ty w n t l co
 unfold kZ
 split
 ·exact⟨ig.sl h,ig.own h⟩
 ·exact h
theorem RO.P3{w:World}{hp:Hp}{env:Env}{n:Nat}{t:Tag}{l:List (T t)}{co:CO}(hn:soft n=true)(h:Sl (kk t) (rd t) w co.v l co.fp)(ho:Own 0 w co.fp):RO ty w hp env n (.arr t l) co:=by
 show kZ ty w n t l co
 unfold kZ
 rw[hn]
 exact⟨h,ho⟩
theorem P4(m:Nat):soft (m+900)=true:=by
 unfold soft
 exact Nat.ble_eq_true_of_le (Nat.le_add_left 900 m)
theorem P5{n:Nat}(h:jg n=true):soft n=true:=by
 unfold jg at h;unfold soft
 exact Nat.ble_eq_true_of_le (Nat.le_trans (by decide) (Nat.le_of_ble_eq_true h))
theorem P6{n:Nat}(h:soft n=false):jg n=false:=by
 cases hp:jg n with
 |false=>rfl
 |true=>rw[P5 hp]at h;cases h
theorem RO.agree{w w':World}{hp gq:Hp}{env env':Env}{n:Nat}{t:Tag}{l:List (T t)}{co:CO}(h:RO ty w hp env n (.arr t l) co)(hk: ∀b,b∈co.fp→w'.heap[b]? =w.heap[b]?):RO ty w' gq env' n (.arr t l) co:=by
 replace h:kZ ty w n t l co:=h
 show kZ ty w' n t l co
 unfold kZ at h ⊢
 split at h
 ·exact⟨Sl.agree (cX t) h.1 hk,h.2.agree hk⟩
 ·exact ig.agree (cX t) h hk
theorem RO.va{w:World}{hp:Hp}{env:Env}{n:Nat}{o:Obj}{co:CO}(h:RO ty w hp env n o co): ∀b,b∈co.fp→b<w.heap.size:=by
 cases o with
 |box c=>
  obtain⟨b,cs,e,rfl,hh,_⟩:=h
  intro x hx
  simp at hx
  subst hx
  exact Wk hh
 |arr t l=>exact fun b hb=>(RO.own h).lt b hb
 |eZ t l s=>
  rcases RO.Cl h with⟨_,r,lx,_,rfl,es,clock,hh,_⟩| ⟨_,_,_,ho,_⟩| ⟨_,_,ho,_⟩| ⟨_,_,us,hB,_⟩
  ·intro b hb
   simp at hb
   subst hb
   exact(Array.getElem?_eq_some_iff.1 hh).1
  ·exact fun b hb=>ho.lt b hb
  ·exact fun b hb=>ho.lt b hb
  ·exact fun b hb=>hB.own.lt b hb
theorem Good.ow{zb:cm}{st:St}{tmps:Array Value}{w:World}{env:Env}(h:Good ty zb st tmps w env){b:Nat}(hb:Ow st.hp env b):(b∈zb.L∨zb.w.heap.size≤b)∧b<w.heap.size:=by
 obtain⟨n,o,h1,h2⟩:=hb
 exact⟨h.dom n o h1 b h2,(h.obj n o h1).va b h2⟩
def V.name:V→Option Nat
 | .own n| .ptr n _| .mG n _ _| .vw n _ _ _| .Eh n _ _ _ _| .Ei n _ _| .Bt _ n| .mix n _ _ _| .tG n=>some n
 |_=>none
def V.view:V→Option Nat
 | .vw n _ _ _| .Eh n _ _ _ _| .Ei n _ _| .mix n _ _ _=>some n
 |_=>none
def V.rR(K KV:Nat→Prop)(v:V):Prop:=(∀n,v.name=some n→K n)∧ ∀n,v.view=some n→KV n
theorem V.oO{v:V}{n:Nat}(h:v.view=some n):v.name=some n:=by
 cases v<;>simp_all [V.view,V.name]
theorem V.dH(v:V):v.rR (fun _=>True) (fun _=>True):=⟨fun _ _=>trivial,fun _ _=>trivial⟩
def Obj.like:Obj→Obj→Prop
 | .box _, .box _=>True
 | .arr t _, .arr t' _=>t=t'
 | .eZ t _ _, .eZ t' _ _=>t=t'
 |_,_=>False
structure Step(K KV:Nat→Prop)(w:World)(hp:Hp)(env:Env)(w':World)(gq:Hp)(env':Env):Prop where
 keep: ∀b,b<w.heap.size→ ¬Ow hp env b→w'.heap[b]? =w.heap[b]?
 own: ∀b,b<w.heap.size→Ow gq env' b→Ow hp env b
 name: ∀n o,K n→look hp n=some o→ ∃o',look gq n=some o'∧o.like o'∧(env' n).v=(env n).v
 view: ∀n t l,KV n→look hp n=some (.arr t l)→look gq n=some (.arr t l)∧env' n=env n∧ ∀b,b∈(env n).fp→w'.heap[b]? =w.heap[b]?
section
variable{K KV:Nat→Prop}{w w':World}{hp gq:Hp}{env env':Env}
theorem RA.step(s:Step K KV w hp env w' gq env'){v:V}{u:Value}(hv:v.rR K KV)(h:RA w hp env v u):RA w' gq env' v u:=by
 obtain⟨hv,hw⟩:=hv
 cases v with
 |any=>trivial
 |lit v=>exact h
 |sl t l=>
  obtain⟨fp,h1,h2⟩:=h
  have hlt:=Sl.lt (cX t) h1
  exact⟨fp,Sl.agree (cX t) h1 (fun b hb=>s.keep b (hlt b hb) (h2 b hb)),fun b hb hw=>h2 b hb (s.own b (hlt b hb) hw)⟩
 |qK v t l=>
  obtain⟨hu,fp,h1,h2⟩:=h
  have hlt:=Sl.lt (cX t) h1
  exact⟨hu,fp,Sl.agree (cX t) h1 (fun b hb=>s.keep b (hlt b hb) (h2 b hb)),fun b hb hw=>h2 b hb (s.own b (hlt b hb) hw)⟩
 |own n=>
  obtain⟨⟨t,l,hl⟩,hu⟩:=h
  obtain⟨o',h1,h2,h3⟩:=s.name n _ (hv n rfl) hl
  cases o' with
  |box c=>exact h2.elim
  |arr t' l'=>exact⟨⟨t',l',h1⟩,by rw[hu,h3]⟩
  |eZ t' l' s'=>exact h2.elim
 |ptr n off=>
  obtain⟨⟨c,hl⟩,b,hb,hu⟩:=h
  obtain⟨o',h1,h2,h3⟩:=s.name n _ (hv n rfl) hl
  cases o' with
  |box c'=>exact⟨⟨c',h1⟩,b,by rw[h3,hb],hu⟩
  |arr t' l'=>exact h2.elim
  |eZ t' l' s'=>exact h2.elim
 |uo k=>exact h
 |raw v=>exact h
 |Bt f n=>
  obtain⟨⟨c,hl⟩,b,hb,hu⟩:=h
  obtain⟨o',h1,h2,h3⟩:=s.name n _ (hv n rfl) hl
  cases o' with
  |box c'=>exact⟨⟨c',h1⟩,b,by rw[h3,hb],hu⟩
  |arr t' l'=>exact h2.elim
  |eZ t' l' s'=>exact h2.elim
 |mG n i off=>
  obtain⟨t,l,hl,b,o,len,cap,hb,hu⟩:=h
  obtain⟨o',h1,h2,h3⟩:=s.name n _ (hv n rfl) hl
  cases o' with
  |box c'=>exact h2.elim
  |arr t' l'=>
   have:t=t':=h2
   subst this
   exact⟨t,l',h1,b,o,len,cap,by rw[h3,hb],hu⟩
  |eZ t' l' s'=>exact h2.elim
 |ip t x off=>
  obtain⟨b,o,cs,fp,hu,hb,hr,hE,h1,h2⟩:=h
  have hlt:=(cX t).lt hE
  have hkb:=s.keep b hb h1
  refine⟨b,o,cs,fp,hu,?_,fun j v hv=> ?_,(cX t).agree hE (fun c hc=>s.keep c (hlt c hc) (h2 c hc)),fun hw=>h1 (s.own b hb hw),fun c hc hw=>h2 c hc (s.own c (hlt c hc) hw)⟩
  ·have h3:w.heap[b]? =some w.heap[b]:=by simp[hb]
   rw[h3]at hkb
   exact(Array.getElem?_eq_some_iff.1 hkb).1
  ·rw[World.cell?_of_block (w:=w) (a:=⟨b,_,none⟩) hkb];exact hr j v hv
 |vw n p t l=>
  have vwk: ∀{p:Option (Nat×Nat)} {l:List (T t)} {u:Value},RV w hp env n p t l u→RV w' gq env' n p t l u:=by
   rintro p l u ⟨⟨tA,lA,hl⟩,⟨fp,h1,hnd,h2⟩,h3⟩
   obtain⟨q1,q2,q3⟩:=s.view n _ _ (hw n rfl) hl
   refine⟨⟨tA,lA,q1⟩,⟨fp,Sl.agree (cX t) h1 (fun b hb=>q3 b (h2 b hb)),hnd,fun b hb=>by rw[q2];exact h2 b hb⟩,fun i off hp=> ?_⟩
   obtain⟨t0,l0,b,o,len,cap,k1,k2,k3,k4,k5,k6⟩:=h3 i off hp
   rw[hl]at k1
   refine⟨t0,l0,b,o,len,cap,by rw[q1];exact k1,k2,k3,by rw[q2];exact k4,by rw[q2];exact k5,?_⟩
   rw[World.cell?_of_block (w:=w) (a:=⟨b,_,none⟩) (q3 b k5)];exact k6
  exact vwk h
 |tG n=>
  obtain⟨⟨t,l,r,hl⟩,hu⟩:=h
  obtain⟨o',h1,h2,h3⟩:=s.name n _ (hv n rfl) hl
  cases o' with
  |box c=>exact h2.elim
  |arr t' l'=>exact h2.elim
  |eZ t' l' s'=>exact⟨⟨t',l',s',h1⟩,by rw[hu,h3]⟩
 |mix n c t l=>
  obtain⟨⟨tA,lA,hl⟩,⟨fp,h1,h2⟩,h3⟩:=h
  obtain⟨q1,q2,q3⟩:=s.view n _ _ (hw n rfl) hl
  have hlt:=Sl.lt (cX t) h1
  refine⟨⟨tA,lA,q1⟩,⟨fp,Sl.agree (cX t) h1 (fun b hb=> ?_),fun b hb=> ?_⟩,h3⟩
  ·rcases h2 b hb with h4|h4
   ·exact q3 b h4
   ·exact s.keep b (hlt b hb) h4
  ·rcases h2 b hb with h4|h4
   ·exact Or.inl (by rw[q2];exact h4)
   ·exact Or.inr fun hw=>h4 (s.own b (hlt b hb) hw)
 |Ei n t l=>
  obtain⟨⟨tA,lA,hl⟩,b,fp,h1,hb,hnd,h2⟩:=h
  obtain⟨q1,q2,q3⟩:=s.view n _ _ (hw n rfl) hl
  have hlt:=Sl.lt (cX t) h1
  have Cm:=hlt b (by simp)
  refine⟨⟨tA,lA,q1⟩,b,fp,Sl.agree (cX t) h1 (fun c hc=> ?_),fun hw=>hb (s.own b Cm hw),hnd,fun c hc=>by rw[q2];exact h2 c hc⟩
  rcases List.mem_cons.1 hc with rfl|hc
  ·exact s.keep _ Cm hb
  ·exact q3 c (h2 c hc)
 |Eh n p t x off=>
  have vwk: ∀{p:Option (Nat×Nat)} {l:List (T t)} {u:Value},RV w hp env n p t l u→RV w' gq env' n p t l u:=by
   rintro p l u ⟨⟨tA,lA,hl⟩,⟨fp,h1,hnd,h2⟩,h3⟩
   obtain⟨q1,q2,q3⟩:=s.view n _ _ (hw n rfl) hl
   refine⟨⟨tA,lA,q1⟩,⟨fp,Sl.agree (cX t) h1 (fun b hb=>q3 b (h2 b hb)),hnd,fun b hb=>by rw[q2];exact h2 b hb⟩,fun i off hp=> ?_⟩
   obtain⟨t0,l0,b,o,len,cap,k1,k2,k3,k4,k5,k6⟩:=h3 i off hp
   rw[hl]at k1
   refine⟨t0,l0,b,o,len,cap,by rw[q1];exact k1,k2,k3,by rw[q2];exact k4,by rw[q2];exact k5,?_⟩
   rw[World.cell?_of_block (w:=w) (a:=⟨b,_,none⟩) (q3 b k5)];exact k6
  obtain⟨⟨tA,lA,hl⟩,b,o,cs,fp,hu,hb,hr,hE,hnd,h2,h3⟩:=h
  obtain⟨q1,q2,q3⟩:=s.view n _ _ (hw n rfl) hl
  refine⟨⟨tA,lA,q1⟩,b,o,cs,fp,hu,by rw[q2];exact hb,fun j v hv=> ?_,(cX t).agree hE (fun c hc=>q3 c (h2 c hc)),hnd,fun c hc=>by rw[q2];exact h2 c hc,fun i o2 j hp=> ?_⟩
  ·rw[World.cell?_of_block (w:=w) (a:=⟨b,_,none⟩) (q3 b hb)];exact hr j v hv
  ·obtain⟨l,u0,b0,ox,len,cap,k1,k2⟩:=h3 i o2 j hp
   exact⟨l,u0,b0,ox,len,cap,vwk k1,k2⟩
end
def S1.vs:S1→List V
 | .a v=> [v]
 | .agg l=>l
def SV.vs:SV→List V
 | .one x=>x.vs
 | .uQ l=>l.flatMap S1.vs
 | .cond _ x=>x.vs
section
variable{K KV:Nat→Prop}{w w':World}{hp gq:Hp}{env env':Env}
theorem eT.step(s:Step K KV w hp env w' gq env'){x:S1}{u:Value}(hv: ∀v,v∈x.vs→v.rR K KV)(h:eT w hp env x u):eT w' gq env' x u:=by
 cases x with
 |a v=>exact RA.step s (hv v (by simp[S1.vs])) h
 |agg l=>
  obtain⟨cs,hu,hl⟩:=h
  exact⟨cs,hu,hl.mono fun a b ha hr=>RA.step s (hv a ha) hr⟩
theorem nG.step(s:Step K KV w hp env w' gq env'){tmps:Array Value}{x:SV}{u:Value}(hv: ∀v,v∈x.vs→v.rR K KV)(h:nG w hp env tmps x u):nG w' gq env' tmps x u:=by
 cases x with
 |one x=>exact eT.step s hv h
 |uQ l=>
  obtain⟨us,hu,hl⟩:=h
  exact⟨us,hu,hl.mono fun a b ha hr=>eT.step s (fun v hn=>hv v (by simp only[SV.vs,List.mem_flatMap];exact⟨a,ha,hn⟩)) hr⟩
 |cond p x=>exact⟨fun hh=>eT.step s hv (h.1 hh),h.2⟩
theorem BE.step(s:Step K KV w hp env w' gq env'){r:pP}{t:Tag}{x:T t}{u:Value}(hv: ∀n,r.name=some n→KV n)(h:BE w hp env r t x u):BE w' gq env' r t x u:=by
 cases r with
 |mp=>trivial
 |HJ u=>trivial
 |uq p=>trivial
 |gone=>trivial
 |mH=>
  obtain⟨f,h1,h2⟩:=h
  have hlt:=(cX t).lt h1
  exact⟨f,(cX t).agree h1 (fun b hb=>s.keep b (hlt b hb) (h2 b hb)),fun b hb hw=>h2 b hb (s.own b (hlt b hb) hw)⟩
 |of n=>
  obtain⟨⟨tA,lA,hl⟩,f,h1,h2⟩:=h
  obtain⟨q1,q2,q3⟩:=s.view n _ _ (hv n rfl) hl
  have hlt:=(cX t).lt h1
  refine⟨⟨tA,lA,q1⟩,f,(cX t).agree h1 (fun b hb=> ?_),fun b hb=> ?_⟩
  ·rcases h2 b hb with h4|h4
   ·exact q3 b h4
   ·exact s.keep b (hlt b hb) h4
  ·rcases h2 b hb with h4|h4
   ·exact Or.inl (by rw[q2];exact h4)
   ·exact Or.inr fun hw=>h4 (s.own b (hlt b hb) hw)
theorem F9.step(s:Step K KV w hp env w' gq env'){t:Tag}{l:List (T t)}{u:Value}{co:CO}(hk: ∀b,b∈co.fp→w'.heap[b]? =w.heap[b]?)(h:F9 w hp env t l u co):F9 w' gq env' t l u co:=by
 obtain⟨hv,ho,fp,h1,h2⟩:=h
 have hlt:=Sl.lt (cX t) h1
 refine⟨hv,ho.agree hk,fp,Sl.agree (cX t) h1 (fun b hb=> ?_),?_⟩
 ·rcases h2 with⟨rfl,_⟩| ⟨c,rfl,hc⟩
  ·cases hb
  ·rcases List.mem_cons.1 hb with rfl|hb
   ·exact s.keep _ (hlt _ (by simp)) hc
   ·exact hk b hb
 ·rcases h2 with h2| ⟨c,rfl,hc⟩
  ·exact Or.inl h2
  ·exact Or.inr ⟨c,rfl,fun hw=>hc (s.own c (hlt c (by simp)) hw)⟩
theorem yP.step(s:Step K KV w hp env w' gq env'){t:Tag}{l:List (T t)}{p:Option (Nat×Nat×Nat)}{co:CO}(hv: ∀n,(pP.uq p).name=some n→KV n)(hk: ∀b,b∈co.fp→w'.heap[b]? =w.heap[b]?)(h:yP ty w hp env t l p co):yP ty w' gq env' t l p co:=by
 obtain⟨ho,h1,h2⟩:=h
 refine⟨ho.agree hk,h1,fun n i off hp=> ?_⟩
 obtain⟨tA,lA,b,o1,len,cap,q1,q2,q3,q4⟩:=h2 n i off hp
 subst hp
 obtain⟨r1,r2,r3⟩:=s.view n _ _ (hv n rfl) q1
 refine⟨tA,lA,b,o1,len,cap,r1,by rw[r2];exact q2,by rw[r2];exact q3,fun w2 a1 a2=> ?_⟩
 rw[r2]at a1 ⊢
 exact q4 w2 (fun y hy=>(a1 y hy).trans (r3 y hy)) (fun y hy=>(a2 y hy).trans (hk y hy))
def Obj.rR(K KV:Nat→Prop):Obj→Prop
 | .box c=> ∀v,v∈c→v.rR K KV
 | .arr _ _=>True
 | .eZ _ _ s=> ∀n,s.name=some n→KV n
theorem Obj.dH(o:Obj):o.rR (fun _=>True) (fun _=>True):=by
 cases o with
 |box c=>exact fun v _=>v.dH
 |arr t l=>trivial
 |eZ t l s=>exact fun _ _=>trivial
theorem RO.step(s:Step K KV w hp env w' gq env'){n:Nat}{o:Obj}{co:CO}(hv:o.rR K KV)
  (hk: ∀b,b∈co.fp→w'.heap[b]? =w.heap[b]?)(h:RO ty w hp env n o co):RO ty w' gq env' n o co:=by
 cases o with
 |box c=>
  obtain⟨b,cs,e,rfl,hh,hc⟩:=h
  exact⟨b,cs,e,rfl,by rw[hk b (by simp)];exact hh,hc.mono fun a u ha hr=>RA.step s (hv a ha) hr⟩
 |arr t l=>exact RO.agree h hk
 |eZ t l r=>
  rcases RO.Cl h with⟨rfl,h⟩| ⟨u,rfl,h⟩| ⟨p,rfl,h⟩| ⟨hr,h1,us,hB,h2,h3⟩
  ·exact H7.agree h hk
  ·exact F9.step s hk h
  ·exact yP.step s hv hk h
  ·exact RO.N4 hr ⟨h1,us,ig.agree wE hB hk,h2,fun i x u hx hu=>BE.step s hv (h3 i x u hx hu)⟩
end
theorem bB{α:Type}: ∀{os:List (Nat×α)} {l:List (Nat×α)} {n:Nat},look os n=none→look (os++l) n=look l n
 | [],_,_,_=>rfl
 | (j,x)::r,l,n,h=>by
   simp only[look,List.cons_append]at h ⊢
   split at h
   ·cases h
   ·exact bB h
theorem cz{α:Type}: ∀{os:List (Nat×α)} {l:List (Nat×α)} {n:Nat} {x:α},look os n=some x→look (os++l) n=some x
 | (j,y)::r,l,n,x,h=>by
   simp only[look,List.cons_append]at h ⊢
   split at h
   ·exact h
   ·exact cz h
theorem dQ{α:Type}: ∀{os:List (Nat×α)} {n:Nat} {x:α},look os n=some x→(n,x)∈os
 | (j,y)::r,n,x,h=>by
   simp only[look]at h
   split at h
   ·rename_i hb
    have:n=j:=Nat.eq_of_beq_eq_true hb
    simp at h
    simp[h,this]
   ·exact List.mem_cons_of_mem _ (dQ h)
theorem mJ{hp:Hp}: ∀{os:Hp},fresh hp os=true→ ∀n o,look os n=some o→look hp n=none
 | (j,y)::r,h,n,o,hl=>by
   simp only[fresh,Bool.and_eq_true]at h
   simp only[look]at hl
   split at hl
   ·rename_i hb
    have:n=j:=Nat.eq_of_beq_eq_true hb
    subst this
    cases hq:look hp n with
    |none=>rfl
    |some z=>simp[hq]at h
   ·exact mJ h.2 n o hl
theorem yQ{hp:Hp}: ∀{os:Hp},fresh hp os=true→ ∀n o,look os n=some o→jg n=false
 | (j,y)::r,h,n,o,hl=>by
   simp only[fresh,Bool.and_eq_true]at h
   simp only[look]at hl
   split at hl
   ·rename_i hb
    have:n=j:=Nat.eq_of_beq_eq_true hb
    subst this
    simpa using h.1.2
   ·exact yQ h.2 n o hl
structure ke(w w':World)(hp:Hp)(os:Hp)(env env':Env):Prop where
 below:Below w.heap.size w w'
 old: ∀n,look os n=none→env' n=env n
 obj: ∀n o,look os n=some o→RO ty w' (os++hp) env' n o (env' n)∧ ∀b,b∈(env' n).fp→w.heap.size≤b
 iq: ∀n m o o',n≠m→look os n=some o→look os m=some o'→ ∀b,b∈(env' n).fp→b∉(env' m).fp
theorem ke.none{w w':World}{hp:Hp}{env:Env}(h:Below w.heap.size w w'):ke (ty:=ty) w w' hp [] env env:=
 ⟨h,fun _ _=>rfl,fun _ _ h=>by simp[look]at h,fun _ _ _ _ _ h=>by simp[look]at h⟩
theorem ke.step{zb:cm}{st:St}{tmps:Array Value}{w w':World}{os:Hp}{env env':Env}(g:Good ty zb st tmps w env)(hf:fresh st.hp os=true)(h:ke (ty:=ty) w w' st.hp os env env'):
  Step (fun _=>True) (fun _=>True) w st.hp env w' (os++st.hp) env' where
 keep:=fun b hb _=>h.below.block b hb
 own:=by
  rintro b hb ⟨n,o,h1,h2⟩
  cases hn:look os n with
  |none=>
   rw[bB hn]at h1
   rw[h.old n hn]at h2
   exact⟨n,o,h1,h2⟩
  |some o'=>
   have:=(h.obj n o' hn).2 b h2
   omega
 name:=by
  intro n o _ h1
  have hn:look os n= .none:=by
   cases hn:look os n with
   |none=>rfl
   |some o'=>rw[mJ hf n o' hn]at h1;cases h1
  refine⟨o,by rw[bB hn];exact h1,?_,by rw[h.old n hn]⟩
  cases o<;>simp[Obj.like]
 view:=by
  intro n t l _ h1
  have hn:look os n= .none:=by
   cases hn:look os n with
   |none=>rfl
   |some o'=>rw[mJ hf n o' hn]at h1;cases h1
  exact⟨by rw[bB hn];exact h1,h.old n hn,fun b hb=>h.below.block b ((g.obj n _ h1).va b hb)⟩
theorem Good.grow{zb:cm}{st:St}{tmps:Array Value}{w w':World}{os:Hp}{env env':Env}(hB:zb.w.heap.size≤w.heap.size)(g:Good ty zb st tmps w env)(hf:fresh st.hp os=true)(h:ke (ty:=ty) w w' st.hp os env env'):
  Good ty zb ⟨st.n,st.sl,os++st.hp⟩ tmps w' env':=by
 have s:=h.step g hf
 refine⟨fun n o hl=> ?_,fun n m o o' hne h1 h2 b hb hb'=> ?_,fun t v hl=>nG.step s (fun v _=>v.dH) (g.slot t v hl),fun n o hl b hb=> ?_,fun n hn=> ?_⟩
 ·cases hn:look os n with
  |some o'=>
   rw[cz hn]at hl
   simp only[oI]at hl
   subst hl
   exact(h.obj n _ hn).1
  |none=>
   rw[bB hn]at hl
   rw[h.old n hn]
   have hro:=g.obj n o hl
   exact hro.step s o.dH (fun b hb=>h.below.block b (hro.va b hb))
 ·cases hn:look os n with
  |some x=>
   cases hm:look os m with
   |some y=>exact h.iq n m x y hne hn hm b hb hb'
   |none=>
    rw[bB hm]at h2
    rw[h.old m hm]at hb'
    have h3:=(h.obj n x hn).2 b hb
    have h4:=(g.obj m o' h2).va b hb'
    omega
  |none=>
   rw[bB hn]at h1
   rw[h.old n hn]at hb
   cases hm:look os m with
   |some y=>
    have h3:=(h.obj m y hm).2 b hb'
    have h4:=(g.obj n o h1).va b hb
    omega
   |none=>
    rw[bB hm]at h2
    rw[h.old m hm]at hb'
    exact g.iq n m o o' hne h1 h2 b hb hb'
 ·cases hn:look os n with
  |some x=>exact Or.inr (Nat.le_trans hB ((h.obj n x hn).2 b hb))
  |none=>
   rw[bB hn]at hl
   rw[h.old n hn]at hb
   exact g.dom n o hl b hb
 ·cases hq:look os n with
  |none=>rw[h.old n hq];exact g.pins n hn
  |some x=>have:=yQ hf n x hq;rw[hn]at this;cases this
end
end Go.Proofs.YtkcegdacbddipaaGreat.G
