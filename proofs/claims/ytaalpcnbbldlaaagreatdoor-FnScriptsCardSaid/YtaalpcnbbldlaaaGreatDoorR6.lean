/- Steps. -/
import Derived.Test.YtaalpcnbbldlaaaGreatDoorR4
import Derived.Test.YtaalpcnbbldlaaaGreatDoorR5
open Array renaming getElem?_eq_some_iff→dZ
open BitVec renaming ofInt→aF
open Go.World renaming cell?_of_block→jG
open List renaming cons_append→fE,getElem?_eq_getElem→az,getElem?_eq_some_iff→aU,mem_cons→bh,mem_cons_of_mem→aE
open Nat renaming beq→bH,ble→kV,ble_eq_true_of_le→kr,eq_of_beq_eq_true→aG,le_trans→cB
open Or renaming inl→bP,inr→bw
namespace Go.Proofs.YtaalpcnbbldlaaaGreatDoor.G
set_option linter.all false
open Go.RowKit L D
section
variable(n:Nat)(op:BinOp)
inductive S1 where
 |a(v:V)
 |agg(l:List V)
abbrev eE(z:Int):V:= .lit (.int .i64 z)
abbrev aI(z:Int):S1:= .a (.lit (.int .i64 z))
abbrev aX(z:Bool):S1:= .a (.lit (.bool z))
inductive SV where
 |one(x:S1)
 |Gf(l:List S1)
 |cond(p:List (Nat×Bool))(x:S1)
inductive BV where
 |gone
 |xp
 |of(n:Nat)
 |mp
 |bag(u:Value)
 |Kx(p:Option (Nat×Nat×Nat))
def BV.br:BV→Prop
 | .mp| .bag _| .Kx _=>False
 |_=>True
def BV.name:BV→Option Nat
 | .of n=>some n
 | .Kx (some (n,_,_))=>some n
 |_=>none
inductive Obj where
 |box(c:List V)
 |arr(t:Tag)(l:List (T t))
 |pQ(t:Tag)(l:List (T t))(s:BV)
structure St where
 n:Nat
 sl:List (Nat×SV)
 hp:List (Nat×Obj)
inductive TK where
 |int(k:IntKind)
 |bool
 |str
 |sl(t:Tag)(e:Nat)
 |st(z:List Value)(tg:List (Option Tag))(fo:List Nat)
 |mp
 |other
abbrev O4:Value:= .slice none 0 0
def tG:Bool:=kV 1000 n
def soft:Bool:=kV 900 n
def V.Ky:V→V
 | .vw _ _ t l=> .sl t l
 |v=>v
def V.unl:V→V
 | .uS _ t l=> .sl t l
 |v=>v
def S1.unl:S1→S1
 | .a v=> .a v.unl
 |x=>x
def V.axH:V→Bool
 | .vw _ _ _ _=>true
 |_=>false
def look{α:Type}:List (Nat×α)→Nat→Option α
 | [],_=>none
 | (j,x)::r,i=>match bH i j with|true=>some x|false=>look r i
def axI(q p:List (Nat×Bool)):Bool:=q.all fun e=>p.any fun f=>bH e.1 f.1&&e.2==f.2
def SV.mentions(d:Nat):SV→Bool
 | .cond p _=>p.any fun e=>bH e.1 d
 |_=>false
def SV.akA(d:Nat)(v:SV):SV:=match v.mentions d with|true=> .one (.a .any)|false=>v
def St.put(st:St)(d:Option Nat)(v:SV):St:=
 match d with
 |some d=>match st.sl.any fun e=>e.2.mentions d with
  |false=>⟨st.n,(d,v)::st.sl,st.hp⟩
  |true=>⟨st.n,(d,v)::st.sl.map fun e=>(e.1,e.2.akA d),st.hp⟩
 |none=>st
def opr(st:St)(p:List (Nat×Bool)):Operand→Option S1
 | .tmp t=>match look st.sl t with
   |some (.one x)=>some x
   |some (.cond q x)=>match axI q p with|true=>some x|false=>none
   |_=>none
 | .const v=>match v.oneCell' with|true=>some (.a (.lit v))|false=>none
 | .func f=>some (.a (.lit (.func (.func f) #[] #[])))
 | .global _=>none
def oH(st:St)(p:List (Nat×Bool))(x:Operand):Option S1:=match opr st p x with|some v=>some v.unl|none=>none
def bop(k:IntKind)(x y:Int):Option (List Prop×Value):=
 match op with
 | .add=>some ([], .int k (k.wrap (x+y)))
 | .sub=>some ([], .int k (k.wrap (x-y)))
 | .mul=>some ([], .int k (k.wrap (x*y)))
 | .quo=>some ([y≠0], .int k (k.wrap (x.tdiv y)))
 | .rem=>some ([y≠0], .int k (x.tmod y))
 | .eql=>some ([], .bool (x==y))
 | .neq=>some ([], .bool (x !=y))
 | .lss=>some ([], .bool (decide (x<y)))
 | .leq=>some ([], .bool (decide (x≤y)))
 | .gtr=>some ([], .bool (decide (x>y)))
 | .geq=>some ([], .bool (decide (x≥y)))
 | .and=>some ([], .int k (k.wrap (aF k.bits x&&&aF k.bits y).toNat))
 | .or=>some ([], .int k (k.wrap (aF k.bits x|||aF k.bits y).toNat))
 | .xor=>some ([], .int k (k.wrap (aF k.bits x^^^aF k.bits y).toNat))
 |_=>none
def arw(k k':IntKind)(x y:Int):Option (List Prop×Value):=
 match op with
 | .shl=>some ([0≤y], .int k (k.wrap (x*2^(min y.toNat k.bits))))
 | .shr=>some ([0≤y], .int k (x.fdiv (2^(min y.toNat k.bits))))
 |op=>match decEq k k' with|isTrue _=>bop op k x y|isFalse _=>none
def aho(x y:ByteArray):Option (List Prop×Value):=
 match op with
 | .eql=>some ([], .bool (x.toList==y.toList))
 | .neq=>some ([], .bool !(x.toList==y.toList))
 | .add=>some ([((x.size+y.size:Nat):Int)≤IntKind.i64.max], .string (x++y))
 |_=>none
def bG(l:List UInt8):ByteArray:=⟨l.toArray⟩
def bytesOf(st:St):V→Option (List UInt8)
 | .sl .u8 l=>some l
 | .own n=>match look st.hp n with|some (.arr .u8 l)=>some l|_=>none
 | .vw _ _ .u8 l=>some l
 | .lit (.slice none 0 0)=>some []
 |_=>none
def lenOf(st:St)(k:TK):V→Option Int
 | .sl _ l=>match k with| .sl _ _=>some (l.length:Int)|_=>none
 | .own n=>match k with
   | .sl _ _=>match look st.hp n with|some (.arr _ l)=>some (l.length:Int)|_=>none
   |_=>none
 | .vw _ _ _ l=>match k with| .sl _ _=>some (l.length:Int)|_=>none
 | .lit (.slice none 0 0)=>match k with| .sl _ _=>some 0|_=>none
 | .lit (.string s)=>match k with| .str=>some (s.size:Int)|_=>none
 |_=>none
def xp(st:St)(tg:Option Tag):V→Option V
 | .sl t l=>some (.sl t l)
 | .own n=>match look st.hp n with|some (.arr t l)=>some (.sl t l)|_=>none
 | .vw _ _ t l=>some (.sl t l)
 | .mix _ _ t l=>some (.sl t l)
 | .RX n=>match look st.hp n with
   |some (.pQ t l .xp)=>some (.sl t l)
   |some (.pQ t l (.of _))=>some (.sl t l)
   |_=>none
 | .lit (.slice none 0 0)=>match tg with|some t=>some (.sl t [])|none=>none
 | .lit (.slice _ _ _)=>none
 | .lit v=>some (.lit v)
 |_=>none
def XP(st:St):List (Option Tag)→List V→Option (List V)
 |_,[]=>some []
 |tg,v::r=>match xp st (match tg with|t::_=>t| []=>none) v,XP st (match tg with|_::ts=>ts| []=> []) r with
  |some x,some y=>some (x::y)
  |_,_=>none
def arg1(st:St)(k:TK):S1→Option S1
 | .a v=>match xp st (match k with| .sl t _=>some t|_=>none) v with|some x=>some (.a x)|none=>none
 | .agg l=>match XP st (match k with| .st _ tg _=>tg|_=> []) l with|some x=>some (.agg x)|none=>none
def axJ:S1→Bool
 | .a (.lit (.slice none 0 0))=>true
 |_=>false
def ahp(b:Bool)(st:St)(k:TK)(v:S1):Option S1:=match b&&axJ v with|true=>some v|false=>arg1 st k v
def args(b:Bool)(Γ:Nat→TK)(st:St)(p:List (Nat×Bool)):List Operand→List Nat→Option (List S1)
 | [],_=>some []
 |x::r,t=>match oH st p x with
  |some v=>match ahp b st (match t with|t::_=>Γ t| []=> .other) v,args b Γ st p r (match t with|_::ts=>ts| []=> [])with
   |some y,some ys=>some (y::ys)
   |_,_=>none
  |none=>none
structure CR where
 own:Bool
 rs:List S1
def yC(m:Nat):List V→List V×List (Nat×Obj)
 | []=>([],[])
 | .sl t l::r=>match yC (m+1) r with| (vs,os)=>(.own m::vs,(m, .arr t l)::os)
 | .vw _ _ t l::r=>match yC (m+1) r with| (vs,os)=>(.own (m+900)::vs,(m+900, .arr t l)::os)
 |v::r=>match yC (m+1) r with| (vs,os)=>(v::vs,os)
def C9(m:Nat):S1→S1×List (Nat×Obj)
 | .a v=>match yC m [v]with| ([v'],os)=>(.a v',os)|_=>(.a .any,[])
 | .agg l=>match yC m l with| (l',os)=>(.agg l',os)
def AQ(m:Nat):List S1→List S1×List (Nat×Obj)
 | []=>([],[])
 |x::r=>match C9 m x,AQ (m+20) r with| (x',os),(r',os')=>(x'::r',os++os')
def tW:List (Nat×Obj)→Bool
 | []=>true
 | (n,_)::r=>(match look r n with|none=>true|some _=>false)&&tW r
def fresh(hp:List (Nat×Obj)):List (Nat×Obj)→Bool
 | []=>true
 | (n,_)::r=>((match look hp n with|none=>true|some _=>false)&& !tG n)&&fresh hp r
structure Out where
 vc:List Prop
 v:SV
 o:List (Nat×Obj)
def S1.XQ:S1→Bool
 | .a v=> !v.axH
 | .agg l=>l.all fun v=> !v.axH
def S1.Ky:S1→S1
 | .a v=> .a v.Ky
 | .agg l=> .agg (l.map V.Ky)
def outs(m:Nat)(c:CR)(vc:List Prop):Out:=
 match c.own with
 |true=>match AQ m c.rs with
  | ([x],os)=>⟨vc, .one x,os⟩
  | (l,os)=>⟨vc, .Gf l,os⟩
 |false=>match c.rs with
  | [x]=>match x.XQ with
    |true=>⟨vc, .one x,[]⟩
    |false=>⟨vc, .one x.Ky,[]⟩
  |l=>match l.all S1.XQ with
   |true=>⟨vc, .Gf l,[]⟩
   |false=>⟨vc, .Gf (l.map S1.Ky),[]⟩
def sub(c:List V)(off k:Nat):Option (List V):=match kV (off+k) c.length with|true=>some ((c.drop off).take k)|false=>none
def Ic:List V→Nat→Option V
 | [],_=>none
 |v::_,0=>some v
 |_::r,n+1=>Ic r n
def yw:List Nat→Nat→Option Nat
 | [],_=>none
 |v::_,0=>some v
 |_::r,n+1=>yw r n
def arx:S1→Option FuncId
 | .a (.lit (.func (.func f) ⟨[]⟩ ⟨[]⟩))=>some f
 |_=>none
def UN(st:St)(p:List (Nat×Bool))(z:Int):Option Operand→Option Int
 |none=>some z
 |some x=>match oH st p x with|some (.a (.lit (.int _ i)))=>some i|_=>none
def bor(p:Option (Nat×Nat)):V→V
 | .sl t l=> .vw n p t l
 | .lit v=> .lit v
 |_=> .any
def axK(n i:Nat):Nat→List V→List V
 |_,[]=> []
 |o,v::r=>bor n (some (i,o)) v::axK n i (o+1) r
def axL(n:Nat):List V→List V
 | []=> []
 |v::r=>bor n none v::axL n r
def ary(st:St)(p:List (Nat×Bool))(x:Operand):Option (IntKind×Int):=match oH st p x with|some (.a (.lit (.int k i)))=>some (k,i)|_=>none
def Ie(st:St)(p:List (Nat×Bool)):List Operand→Option (List (IntKind×Int))
 | []=>some []
 |x::r=>match ary st p x,Ie st p r with|some y,some ys=>some (y::ys)|_,_=>none
def RY(x y:Int):Int:=if y>x then y else x
def lW(x y:Int):Int:=if y<x then y else x
def S6(f:Int→Int→Int)(k:IntKind):Int→List (IntKind×Int)→Option Int
 |x,[]=>some x
 |x,(k',y)::r=>match decEq k k' with|isTrue _=>S6 f k (f x y) r|isFalse _=>none
def plain:List V→Bool
 | []=>true
 | .lit (.slice _ _ _)::_=>false
 | .lit _::r=>plain r
 |_=>false
def cellsOf:S1→List V
 | .a v=> [v]
 | .agg l=>l
def GI(hp:List (Nat×Obj)):List V→Option (List V×Nat)
 | .own n::r=>match look hp n,plain r with
   |some (.arr t l),true=>some (.sl t l::r,n)
   |_,_=>none
 | .vw n _ t l::r=>match look hp n,plain r with
   |some (.arr _ _),true=>some (.sl t l::r,n)
   |_,_=>none
 | .lit (.slice _ _ _)::_=>none
 | .lit v::r=>match GI hp r with|some (c,n)=>some (.lit v::c,n)|none=>none
 |_=>none
def zk(st:St)(p:List (Nat×Bool))(g:Tag):Nat→List (Nat×Operand)→Option (List Prop×List (T g))
 |_,[]=>some ([],[])
 |i,(j,x)::r=>match bH i j,oH st p x with
  |true,some s=>match plain (cellsOf s),enc g (cellsOf s),zk st p g (i+1) r with
   |true,some (vc,y),some (vcs,ys)=>some (vc++vcs,y::ys)
   |_,_,_=>none
  |_,_=>none
def fsz(fo:List Nat)(j:Nat):Option Nat:=match yw fo j,yw fo (j+1)with
 |some a,some b=>some (b-a)
 |some a,none=>some (n-a)
 |_,_=>none
def Da:List V→Bool
 | []=>true
 | .any::_=>false
 |_::r=>Da r
def spl(c:List V)(off:Nat)(vs:List V):Option (List V):=match kV (off+vs.length) c.length with
 |true=>some (c.take off++(vs++c.drop (off+vs.length)))
 |false=>none
def BW(st:St)(p:List (Nat×Bool))(n:Nat)(fo:List Nat):List (Nat×Operand)→List V→Option (List V)
 | [],c=>some c
 | (j,x)::r,c=>match yw fo j,fsz n fo j,opr st p x with
   |some o,some k,some s=>match Da (cellsOf s)&&bH (cellsOf s).length k,spl c o (cellsOf s)with
    |true,some c'=>BW st p n fo r c'
    |_,_=>none
   |_,_,_=>none
def axM:Option (Nat×Nat)→Nat→Option (Nat×Nat×Nat)
 |some (a,b),j=>some (a,b,j)
 |none,_=>none
def jU(x:S1):Option Out:=some ⟨[], .one x,[]⟩
def mvt(st:St):Operand→Option Out
 | .tmp t=>match look st.sl t with|some (.Gf l)=>some ⟨[], .Gf l,[]⟩|_=>none
 |_=>none
def pcv(oa:Option Addr)(cap k lo hi:Nat):Value:= .slice (if cap=lo then oa else oa.map (·.add (lo*k))) (hi-lo) (cap-lo)
def quiet(Γ:Nat→TK)(E:Tag→Nat→Prop)(S:FuncId→List S1→List S1→Prop)(cr:List (Nat×CR))(st:St)(p:List (Nat×Bool))(d m:Nat):Op→Option Out
 | .move x| .assign x=>match opr st p x with|some v=>jU v|none=>mvt st x
 | .pick (.tmp c) x y=>match oH st p (.tmp c),oH st ((c,true)::p) x,oH st ((c,false)::p) y with
   |some (.a (.lit (.bool t))),some (.a (.lit (.bool u))),some (.a (.lit (.bool v)))=>jU (.a (.lit (.bool (if t then u else v))))
   |_,_,_=>none
 | .box _ x=>match oH st p x with
   |some (.agg l)=>some ⟨[], .one (.a (.ptr m 0)),[(m, .box l)]⟩
   |some (.a .any)=>none
   |some (.a v)=>some ⟨[], .one (.a (.ptr m 0)),[(m, .box [v])]⟩
   |none=>none
 | .alloc t=>match Γ t with
   | .st z _ _=>some ⟨[], .one (.a (.ptr m 0)),[(m, .box (z.map .lit))]⟩
   |_=>none
 | .load t x=>match oH st p x with
   |some (.a (.ptr n off))=>match look st.hp n with
    |some (.box c)=>match Γ t with
     | .st z _ _=>match sub c off z.length with|some l=>jU (.agg l)|none=>none
     | .other=>none
     |_=>match Ic c off with|some v=>jU (.a v.unl)|none=>none
    |_=>none
   |some (.a (.ip g y off))=>match Γ t with
     | .st z _ _=>match sub (dec g y) off z.length with|some l=>jU (.agg l)|none=>none
     | .other=>none
     |_=>match Ic (dec g y) off with|some v=>jU (.a v)|none=>none
   |some (.a (.Xb n _ g y off))=>match Γ t with
     | .st z _ _=>match sub (dec g y) off z.length with|some l=>jU (.agg (axL n l))|none=>none
     | .other=>none
     |_=>match Ic (dec g y) off with|some v=>jU (.a (bor n none v))|none=>none
   |some (.a (.Cm n i off))=>match look st.hp n with
    |some (.arr g l)=>match Γ t with
     | .st z _ _=>match sub (dec g (l.getD i (aO g))) off z.length with|some c=>some ⟨[i<l.length], .one (.agg (axK n i off c)),[]⟩|none=>none
     | .other=>none
     |_=>match Ic (dec g (l.getD i (aO g))) off with|some v=>some ⟨[i<l.length], .one (.a (bor n (some (i,off)) v)),[]⟩|none=>none
    |_=>none
   |_=>none
 | .binOp op t x y _=>match oH st p x,oH st p y with
   |some (.a (.lit (.int k a))),some (.a (.lit (.int k' b)))=>match arw op k k' a b with|some (vc,v)=>some ⟨vc, .one (.a (.lit v)),[]⟩|none=>none
   |some (.a (.lit (.string a))),some (.a (.lit (.string b)))=>match aho op a b with|some (vc,v)=>some ⟨vc, .one (.a (.lit v)),[]⟩|none=>none
   |some (.a (.lit (.bool a))),some (.a (.lit (.bool b)))=>match Γ t,op with
    | .bool, .eql=>jU (.a (.lit (.bool (a==b))))
    | .bool, .neq=>jU (.a (.lit (.bool (a !=b))))
    |_,_=>none
   |_,_=>none
 | .unOp .not _ x=>match oH st p x with
   |some (.a (.lit (.bool t)))=>jU (.a (.lit (.bool (!t))))
   |_=>none
 | .unOp .neg _ x=>match oH st p x with
   |some (.a (.lit (.int k n)))=>jU (.a (.lit (.int k (k.wrap (0-n)))))
   |_=>none
 | .convert s t x=>match oH st p x,Γ s,Γ t with
   |some (.a (.lit (.int _ n))), .int _, .int k=>jU (.a (.lit (.int k (k.wrap n))))
   |some (.a v), .sl _ e, .str=>match Γ e,bytesOf st v with
    | .int .u8,some l=>jU (.a (.lit (.string (bG l))))
    |_,_=>none
   |_,_,_=>none
 | .makeFunc (.func f) first captured=>match first.toList,captured.toList with
   | [],[x]=>match oH st p x with
     |some (.a (.ptr n 0))=>jU (.a (.S3 f n))
     |_=>none
   |_,_=>none
 | .slice t x lo hi none=>match Γ t with
   | .sl g _=>match(look cr (d+600000)).isSome with
     |true=>match oH st p x,UN st p 0 lo,hi with
      |some (.a (.vw _ _ _ l)),some lo,none=>some ⟨[lo=(l.length:Int)], .one (.a (.Nb 0)),[]⟩
      |some (.a (.Nb k)),some lo,none=>some ⟨[lo=(k:Int)], .one (.a (.Nb 0)),[]⟩
      |_,_,_=>none
     |false=>match oH st p x,UN st p 0 lo with
      |some (.a (.sl t' l)),some lo=>match UN st p l.length hi with
       |some hi=>match bH (kk g) (kk t')with
        |true=>some ⟨[0≤lo∧lo≤hi∧hi≤(l.length:Int)], .one (.a (.sl t' ((l.take hi.toNat).drop lo.toNat))),[]⟩
        |false=>none
       |none=>none
      |some (.a (.vw n _ t' l)),some lo=>match UN st p l.length hi with
       |some hi=>match bH (kk g) (kk t')with
        |true=>some ⟨[0≤lo∧lo≤hi∧hi≤(l.length:Int)], .one (.a (.vw n none t' ((l.take hi.toNat).drop lo.toNat))),[]⟩
        |false=>none
       |none=>none
      |some (.a (.own n)),some lo=>match look st.hp n with
       |some (.arr t' l)=>match UN st p l.length hi with
        |some hi=>match bH (kk g) (kk t')with
         |true=>some ⟨[0≤lo∧lo≤hi∧hi≤(l.length:Int)], .one (.a (.vw n none t' ((l.take hi.toNat).drop lo.toNat))),[]⟩
         |false=>none
        |none=>none
       |_=>none
      |some (.a (.raw (.slice oa len cap))),some lo=>match UN st p len hi with
       |some hi=>some ⟨[0≤lo∧lo≤hi∧hi≤(len:Int)∧len≤cap], .one (.a (.raw (pcv oa cap (kk g) lo.toNat hi.toNat))),[]⟩
       |none=>none
      |_,_=>none
   | .str=>match oH st p x,UN st p 0 lo with
     |some (.a (.lit (.string s))),some lo=>match UN st p s.size hi with
      |some hi=>some ⟨[0≤lo∧lo≤hi∧hi≤(s.size:Int)], .one (.a (.lit (.string (s.extract lo.toNat hi.toNat)))),[]⟩
      |none=>none
     |_,_=>none
   |_=>none
 | .slice t x none (some hi) (some mx)=>match Γ t with
   | .sl g _=>match oH st p x,UN st p 0 (some hi),UN st p 0 (some mx)with
     |some (.a (.own n)),some hi,some mx=>match look st.hp n with
      |some (.arr t' l)=>match bH (kk g) (kk t')with
       |true=>some ⟨[0≤hi∧hi=mx∧hi≤(l.length:Int)], .one (.a (.mix n true t' (l.take hi.toNat))),[]⟩
       |false=>none
      |_=>none
     |_,_,_=>none
   |_=>none
 | .fieldAddr t x f=>match Γ t with
   | .st _ _ fo=>match yw fo f with
     |some k=>match oH st p x with
      |some (.a (.ptr n off))=>jU (.a (.ptr n (off+k)))
      |some (.a (.ip t x off))=>jU (.a (.ip t x (off+k)))
      |some (.a (.Cm n i off))=>jU (.a (.Cm n i (off+k)))
      |some (.a (.Xb n q t x off))=>jU (.a (.Xb n q t x (off+k)))
      |_=>none
     |none=>none
   |_=>none
 | .indexAddr ty x i=>match Γ ty with
   | .sl g _=>match oH st p x,oH st p i with
     |some (.a (.sl t l)),some (.a (.lit (.int _ i)))=>match bH (kk g) (kk t)with
      |true=>some ⟨[0≤i∧i<(l.length:Int)], .one (.a (.ip t (l.getD i.toNat (aO t)) 0)),[]⟩
      |false=>none
     |some (.a (.own n)),some (.a (.lit (.int _ i)))=>match look st.hp n with
      |some (.arr t l)=>match bH (kk g) (kk t)with
       |true=>some ⟨[0≤i∧i<(l.length:Int)], .one (.a (.Cm n i.toNat 0)),[]⟩
       |false=>none
      |_=>none
     |some (.a (.vw n q t l)),some (.a (.lit (.int _ i)))=>match bH (kk g) (kk t)with
      |true=>some ⟨[0≤i∧i<(l.length:Int)], .one (.a (.Xb n (axM q i.toNat) t (l.getD i.toNat (aO t)) 0)),[]⟩
      |false=>none
     |_,_=>none
   |_=>none
 | .index t x i=>match Γ t with
   | .str=>match oH st p x,oH st p i with
     |some (.a (.lit (.string s))),some (.a (.lit (.int _ n)))=>some ⟨[0≤n∧n<(s.size:Int)], .one (.a (.lit (.int .u8 ((s.data.toList.getD n.toNat 0).toNat:Int)))),[]⟩
     |_,_=>none
   |_=>none
 | .makeSlice ty x y=>match Γ ty with
   | .sl g e=>match oH st p x,oH st p y with
     |some (.a (.lit (.int _ a))),some (.a (.lit (.int _ b)))=>some ⟨[E g e,a=b,0≤a,a.toNat*vI g≤140737488355328∧a.toNat≤maxLen], .one (.a (.own m)),[(m, .arr g (List.replicate a.toNat (aO g)))]⟩
     |_,_=>none
   |_=>none
 | .buildSlice ty len parts=>match Γ ty with
   | .sl g e=>match(look cr (d+500000)).isSome with
     |true=>match bH len 1,parts.toList with
      |true,[(0,x)]=>match oH st p x with
       |some s=>match GI st.hp (cellsOf s)with
        |some (c,n)=>match enc g c,kV (kk g) 16777216 with
         |some (vc,y),true=>some ⟨E g e::vc, .one (.a (.Xc n g [y])),[]⟩
         |_,_=>none
        |none=>none
       |none=>none
      |_,_=>none
     |false=>match bH parts.toList.length len,kV (len*kk g) 16777216,zk st p g 0 parts.toList with
      |true,true,some (vc,xs)=>some ⟨E g e::vc, .one (.a (.own m)),[(m, .arr g xs)]⟩
      |_,_,_=>none
   |_=>none
 | .build ty parts=>match Γ ty with
   | .st z _ fo=>match BW st p z.length fo parts.toList (z.map .lit)with
     |some c=>jU (.agg c)
     |none=>none
   |_=>none
 | .nilCheck x=>match oH st p x with
   |some (.a (.ptr n off))=>jU (.a (.ptr n off))
   |some (.a (.Cm n i off))=>jU (.a (.Cm n i off))
   |_=>none
 | .call ⟨.builtin .max,xs,_⟩=>match Ie st p xs.toList with
   |some ((k,x)::r)=>match S6 RY k x r with|some y=>jU (.a (.lit (.int k y)))|none=>none
   |_=>none
 | .call ⟨.builtin .min,xs,_⟩=>match Ie st p xs.toList with
   |some ((k,x)::r)=>match S6 lW k x r with|some y=>jU (.a (.lit (.int k y)))|none=>none
   |_=>none
 | .extract (.tmp t) i=>match look st.sl t with
   |some (.Gf l)=>match l[i]? with|some x=>jU x|none=>none
   |_=>none
 | .call ⟨.builtin .append,xs,ts⟩=>match(look cr (d+650000)).isSome,xs.toList,ts.toList with
   |true,[x,y],[t1,t2]=>match bH t1 t2,Γ t1 with
    |true, .sl g e=>match oH st p x,oH st p y with
     |some (.a (.mix n true t l)),some (.a (.vw n2 _ t' l'))=>match bH n n2,rM g t l,rM g t' l' with
      |true,some a,some b=>some ⟨[E g e,(a.length+b.length)*vI g≤140737488355328∧a.length+b.length≤maxLen], .one (.a (.mix n false g (a++b))),[]⟩
      |_,_,_=>none
     |_,_=>none
    |_,_=>none
   |_,_,_=>none
 | .call ⟨.builtin .len,xs,ts⟩=>match xs.toList,ts.toList with
   | [x],[t]=>match oH st p x with
     |some (.a v)=>match lenOf st (Γ t) v with|some n=>jU (.a (.lit (.int .i64 n)))|none=>none
     |_=>none
   |_,_=>none
 | .call ⟨.value (.func f),xs,ts⟩=>match args (look cr (d+300000)).isSome Γ st p xs.toList ts.toList,look cr d with
   |some as,some c=>some (outs m c [S f as c.rs])
   |_,_=>none
 | .call ⟨.value (.tmp x),xs,ts⟩=>match oH st p (.tmp x)with
   |some v=>match arx v with
    |some f=>match args (look cr (d+300000)).isSome Γ st p xs.toList ts.toList,look cr d with
     |some as,some c=>some (outs m c [S f as c.rs])
     |_,_=>none
    |none=>none
   |none=>none
 |_=>none
def hyps(st:St):List (Nat×Bool)→List Prop
 | []=> []
 | (d,x)::r=>match look st.sl d with
   |some (.one (.a (.lit (.bool b))))=>(b=x)::hyps st r
   |some (.cond _ (.a (.lit (.bool b))))=>(b=x)::hyps st r
   |_=>hyps st r
def abu:List Prop→Prop→Prop
 | [],q=>q
 |h::r,q=>h→abu r q
def qh(st:St)(ops:List Oper)(o:Oper):Option (List (Nat×Bool)):=
 match o.guard with
 |none=>some []
 |some (j,x)=>match ops[j]? with
  |some q=>match q.dst with
   |some d=>match look st.sl d with
    |some (.one (.a (.lit (.bool _))))=>some [(d,x)]
    |some (.cond p (.a (.lit (.bool _))))=>some ((d,x)::p)
    |_=>none
   |none=>none
  |none=>none
def Ig(st:St):Option Nat→Bool
 |some d=>Nat.blt d st.n
 |none=>true
def aCA(iD:List (Nat×Nat)):Option Nat→Option Nat
 |some d=>match look iD d with|some m=>some m|none=>some d
 |none=>some 99999
def zJ(Γ:Nat→TK)(E:Tag→Nat→Prop)(S:FuncId→List S1→List S1→Prop)(iD:List (Nat×Nat))(cr:List (Nat×CR))(ops:List Oper)(st:St)(o:Oper):Option (List Prop×SV×List (Nat×Obj)):=
 match Ig st o.dst,aCA iD o.dst,qh st ops o with
 |true,some m,some []=>match quiet Γ E S cr st [] (o.dst.getD 0) m o.op with
  |some ⟨vc,v,os⟩=>match fresh st.hp os,tW os with
   |true,true=>some (vc,v,os)
   |_,_=>none
  |none=>none
 |true,some m,some (e::p)=>match(e::p).any (fun e=>o.dst==some e.1)with
  |false=>match quiet Γ E S cr st (e::p) (o.dst.getD 0) m o.op with
   |some ⟨vc, .one v,[]⟩=>some (vc.map (abu (hyps st (e::p))), .cond (e::p) v,[])
   |_=>none
  |true=>none
 |_,_,_=>none
def akC(Γ:Nat→TK)(E:Tag→Nat→Prop)(S:FuncId→List S1→List S1→Prop)(iD:List (Nat×Nat))(cr:List (Nat×CR))(ops:List Oper)(st:St)(o:Oper):Option (List Prop×St):=
 match zJ Γ E S iD cr ops st o with
 |some (vc,v,os)=>some (vc,St.put ⟨st.n,st.sl,os++st.hp⟩ o.dst v)
 |none=>none
end
section
variable{α β:Type}{v:V}{u:Value}{n:Nat}{t:Tag}{s:BV}{st:St}{tmps:Array Value}
structure CO where
 v:Value
 fp:List Nat
abbrev Env:=Nat→CO
abbrev Hp:=List (Nat×Obj)
def Ow(hp:Hp)(env:Env)(b:Nat):Prop:= ∃n o,look hp n=some o∧b∈(env n).fp
def RV(w:World)(hp:Hp)(env:Env)(n:Nat)(p:Option (Nat×Nat))(t:Tag)(l:List (T t))(u:Value):Prop:=
 (∃t l,look hp n=some (.arr t l))∧(∃fp,Sl (kk t) (rd t) w u l fp∧fp.Nodup∧ ∀b,b∈fp→b∈(env n).fp)∧
   ∀i off,p=some (i,off)→ ∃t0 l0 b o len cap,look hp n=some (.arr t0 l0)∧i<l0.length∧Ic (dec t0 (l0.getD i (aO t0))) off=some (.sl t l)∧(env n).v= .slice (some ⟨b,o,none⟩) len cap∧b∈(env n).fp∧w.cell? ⟨b,o+i*kk t0+off,none⟩=some u
def akD:ER Value:=fun _ cs x fp=>cs= [x]∧fp= []∧x.oneCell'=true
theorem Ih:mZ 1 akD where
 agree:=by rintro w w' cs x fp ⟨rfl,rfl,h⟩ _;exact⟨rfl,rfl,h⟩
 lt:=by rintro w cs x fp ⟨rfl,rfl,_⟩ b hb;cases hb
 len:=by rintro w cs x fp ⟨rfl,rfl,_⟩;rfl
 one:=by rintro w cs x fp ⟨rfl,rfl,h⟩ u hu;rw[List.mem_singleton.1 hu];exact h
theorem XR{α:Type}{E:ER α}{w:World}{Pb:Nat→Prop}: ∀(us:List Value) (l:List α),us.length=l.length→(∀(i:Nat) (x:α) (u:Value),l[i]? =some x→us[i]? =some u→ ∃f,E w [u] x f∧ ∀b,b∈f→Pb b)→
  ∃eS:List (List Nat),eS.length=l.length∧ ∀(i:Nat) (x:α) (u:Value) (f:List Nat),l[i]? =some x→us[i]? =some u→eS[i]? =some f→E w [u] x f∧ ∀b,b∈f→Pb b
 | [],[],_,_=>⟨[],rfl,fun i x u f h=>by simp at h⟩
 |u::us,x::l,hl,h=>by
  obtain⟨f,hf⟩:=h 0 x u rfl rfl;obtain⟨eS,h1,h2⟩:=XR us l ag8 (fun i y v hy hv=>h (i+1) y v (by simpa using hy) (by simpa using hv));refine⟨f::eS,by simp[h1],fun i y v g hy hv hg=> ?_⟩;cases i with
  |zero=>
   simp at hy hv hg;subst hy;subst hv;subst hg;exact hf
  |succ i=>exact h2 i y v g (by simpa using hy) (by simpa using hv) (by simpa using hg)
 | [],_::_,h,_=>by simp at h
 |_::_,[],h,_=>by simp at h
theorem ahq{E:ER α}{w:World}{v:Value}{us:List Value}{l:List α}{fp:List Nat}{Pb:Nat→Prop}(h:Sl 1 akD w v us fp)(hl:us.length=l.length)
  (hE: ∀(i:Nat) (x:α) (u:Value),l[i]? =some x→us[i]? =some u→ ∃f,E w [u] x f∧ ∀b,b∈f→Pb b): ∃oK,Sl 1 E w v l oK∧ ∀b,b∈oK→b∈fp∨Pb b:=by
 obtain⟨oa,cap,rfl,hc,hm,h3⟩:=h;rcases h3 with⟨rfl,_,hn⟩| ⟨b,off,fs,rfl,hb,rfl,hE2⟩
 ·have:l= []:=List.length_eq_zero_iff.1 (by rw[←hl];rfl);subst this;exact⟨[],⟨oa,cap,rfl,Nat.zero_le _,hm,bP ⟨rfl,rfl,hn⟩⟩,by simp⟩
 ·obtain⟨eS,q1,q2⟩:=XR us l hl hE;refine⟨b::eS.flatten,⟨_,cap,by rw[hl],aJ,hm,bw ⟨b,off,eS,rfl,hb,rfl,q1,fun i x f hx hf=> ?_⟩⟩,fun c hc=> ?_⟩
  ·have hi:=(aU.1 hx).1;obtain⟨u,hu⟩: ∃u,us[i]? =some u:=⟨_,az aJ⟩;obtain⟨g,hg⟩: ∃g,fs[i]? =some g:=⟨_,az (by rw[hE2.1];omega)⟩;obtain⟨cs,k1,k2,_,_⟩:=hE2.2 i u g hu hg;subst k2;exact⟨[u],k1,(q2 i x u f hx hu hf).1⟩
  ·rcases bh.1 hc with rfl|hc
   ·exact bP fI
   ·obtain⟨f,hf,hcf⟩:=List.mem_flatten.1 hc;obtain⟨i,hi⟩:=List.getElem?_of_mem hf;have hil:=(aU.1 hi).1;exact bw ((q2 i l[i] us[i] f (az aJ) (az aJ) hi).2 c hcf)
def BE(w:World)(hp:Hp)(env:Env)(s:BV)(t:Tag)(x:T t)(u:Value):Prop:=match s with
 | .gone| .mp| .bag _| .Kx _=>True
 | .xp=> ∃f,rd t w [u] x f∧ ∀b,b∈f→ ¬Ow hp env b
 | .of n=>(∃t l,look hp n=some (.arr t l))∧ ∃f,rd t w [u] x f∧ ∀b,b∈f→b∈(env n).fp∨ ¬Ow hp env b
def RA(w:World)(hp:Hp)(env:Env):V→Value→Prop
 | .any,_=>True
 | .lit v,u=>u=v∧v.oneCell'=true
 | .raw v,u=>u=v∧v.oneCell'=true
 | .sl t l,u=> ∃fp,Sl (kk t) (rd t) w u l fp∧ ∀b,b∈fp→ ¬Ow hp env b
 | .own n,u=>(∃t l,look hp n=some (.arr t l))∧u=(env n).v
 | .ptr n off,u=>(∃c,look hp n=some (.box c))∧ ∃b,(env n).v= .pointer (some ⟨b,0,none⟩)∧u= .pointer (some ⟨b,off,none⟩)
 | .Cm n i off,u=> ∃t l,look hp n=some (.arr t l)∧ ∃b o len cap,(env n).v= .slice (some ⟨b,o,none⟩) len cap∧u= .pointer (some ⟨b,o+i*kk t+off,none⟩)
 | .vw n p t l,u=>RV w hp env n p t l u
 | .Xc n t l,u=>(∃t l,look hp n=some (.arr t l))∧ ∃b fp,Sl (kk t) (rd t) w u l (b::fp)∧ ¬Ow hp env b∧fp.Nodup∧ ∀c,c∈fp→c∈(env n).fp
 | .RX n,u=>(∃t l s,look hp n=some (.pQ t l s))∧u=(env n).v
 | .mix n c t l,u=>(∃t l,look hp n=some (.arr t l))∧(∃fp,Sl (kk t) (rd t) w u l fp∧ ∀b,b∈fp→b∈(env n).fp∨ ¬Ow hp env b)∧(c=true→ ∃oa,u= .slice oa l.length l.length)
 | .Xb n p t x off,u=>(∃t l,look hp n=some (.arr t l))∧ ∃b o cs fp,u= .pointer (some ⟨b,o+off,none⟩)∧b∈(env n).fp∧w.rangeAt b o cs∧rd t w cs x fp∧fp.Nodup∧(∀c,c∈fp→c∈(env n).fp)∧
   ∀i o2 j,p=some (i,o2,j)→ ∃l u0 b0 zm len cap,RV w hp env n (some (i,o2)) t l u0∧j<l.length∧x=l.getD j (aO t)∧u0= .slice (some ⟨b0,zm,none⟩) len cap∧u= .pointer (some ⟨b0,zm+j*kk t+off,none⟩)
 | .S3 f n,u=>(∃c,look hp n=some (.box c))∧ ∃b,(env n).v= .pointer (some ⟨b,0,none⟩)∧u= .func (.func f) #[] #[.pointer (some ⟨b,0,none⟩)]
 | .Nb k,u=> ∃oa cap,u= .slice oa k cap∧k≤cap∧cap≤maxLen∧(oa=none→cap=0)
 | .uS v t l,u=>u=v∧ ∃fp,Sl (kk t) (rd t) w u l fp∧ ∀b,b∈fp→ ¬Ow hp env b
 | .ip t x off,u=> ∃b o cs fp,u= .pointer (some ⟨b,o+off,none⟩)∧b<w.heap.size∧w.rangeAt b o cs∧rd t w cs x fp∧ ¬Ow hp env b∧ ∀c,c∈fp→ ¬Ow hp env c
theorem RA.unl{w:World}{hp:Hp}{env:Env}(h:RA w hp env v u):RA w hp env v.unl u:=by
 cases v with
 |uS v t l=>exact h.2
 |_=>exact h
def dG{α β:Type}(R:α→β→Prop):List α→List β→Prop
 | [],[]=>True
 |a::as,b::bs=>R a b∧dG R as bs
 |_,_=>False
theorem dG.mono{R R':α→β→Prop}: ∀{as:List α} {bs:List β},(∀a b,a∈as→R a b→R' a b)→dG R as bs→dG R' as bs
 | [],[],_,_=>trivial
 |a::as,b::bs,h,⟨h1,h2⟩=>⟨h a b fI h1,dG.mono (fun a b ha=>h a b (aE _ ha)) h2⟩
 | [],_::_,_,h=>h.elim
 |_::_,[],_,h=>h.elim
theorem dG.len{R:α→β→Prop}: ∀{as:List α} {bs:List β},dG R as bs→bs.length=as.length
 | [],[],_=>rfl
 |_::_,_::_,⟨_,h⟩=>by simp[dG.len h]
 | [],_::_,h=>h.elim
 |_::_,[],h=>h.elim
theorem dG.app{R:α→β→Prop}: ∀{as as':List α} {bs bs':List β},dG R as bs→dG R as' bs'→dG R (as++as') (bs++bs')
 | [],_,[],_,_,h=>h
 |_::_,_,_::_,_,⟨h1,h2⟩,h=>⟨h1,dG.app h2 h⟩
 | [],_,_::_,_,h,_=>h.elim
 |_::_,_,[],_,h,_=>h.elim
theorem dG.drop{R:α→β→Prop}: ∀{as:List α} {bs:List β} (n:Nat),dG R as bs→dG R (as.drop n) (bs.drop n)
 |_,_,0,h=>h
 | [],[],_+1,_=>trivial
 |_::_,_::_,n+1,⟨_,h⟩=>dG.drop n h
 | [],_::_,_,h=>h.elim
 |_::_,[],_,h=>h.elim
theorem dG.take{R:α→β→Prop}: ∀{as:List α} {bs:List β} (n:Nat),dG R as bs→dG R (as.take n) (bs.take n)
 |_,_,0,_=>by simp[dG]
 | [],[],_+1,_=>trivial
 |_::_,_::_,n+1,⟨h1,h⟩=>⟨h1,dG.take n h⟩
 | [],_::_,_,h=>h.elim
 |_::_,[],_,h=>h.elim
theorem dG.at{α β:Type}{R:α→β→Prop}: ∀{as:List α} {bs:List β} {i:Nat} {x:α},dG R as bs→as[i]? =some x→ ∃y,bs[i]? =some y∧R x y
 |a::as,b::bs,0,x,⟨h1,_⟩,hx=>⟨b,rfl,by simp at hx;rw[←hx];exact h1⟩
 |a::as,b::bs,i+1,x,⟨_,h⟩,hx=>by
  obtain⟨y,hy,hr⟩:=dG.at (i:=i) h (by simpa using hx);exact⟨y,by simpa using hy,hr⟩
 | [],_,_,_,_,hx=>by simp at hx
 |_::_,[],_,_,h,_=>h.elim
def mG(w:World)(hp:Hp)(env:Env):S1→Value→Prop
 | .a v,u=>RA w hp env v u
 | .agg l,u=> ∃cs,u= .agg cs.toArray∧dG (RA w hp env) l cs
theorem mG.unl{w:World}{hp:Hp}{env:Env}{x:S1}(h:mG w hp env x u):mG w hp env x.unl u:=by
 cases x with
 |a v=>exact RA.unl h
 |agg l=>exact h
def holds(tmps:Array Value)(p:List (Nat×Bool)):Prop:= ∀e,e∈p→tmps[e.1]? =some (.bool e.2)
def AR(w:World)(hp:Hp)(env:Env)(tmps:Array Value):SV→Value→Prop
 | .one x,u=>mG w hp env x u
 | .Gf l,u=> ∃us,u= .tuple us.toArray∧dG (mG w hp env) l us
 | .cond p x,u=>(holds tmps p→mG w hp env x u)∧(¬holds tmps p→u=undef)
variable(ty:Tag→Nat)
structure fG where
 w:World
 L:List Nat
 pv:Nat→CO
def yx(w:World)(n:Nat)(t:Tag)(l:List (T t))(co:CO):Prop:=
 match soft n with
 |true=>Sl (kk t) (rd t) w co.v l co.fp∧Own 0 w co.fp
 |false=>qN (kk t) (rd t) 0 (ty t) w co.v l co.fp
def XS(w:World)(t:Tag)(l:List (T t))(co:CO):Prop:= ∃r lx,rM .int t l=some lx∧co=⟨.map (some r),[r]⟩∧aCy w r lx
def XT(w:World)(hp:Hp)(env:Env)(t:Tag)(l:List (T t))(u:Value)(co:CO):Prop:=co.v=u∧Own 0 w co.fp∧ ∃fp,Sl (kk t) (rd t) w u l fp∧((fp= []∧co.fp= [])∨ ∃b,fp=b::co.fp∧ ¬Ow hp env b)
def akE(w:World)(hp:Hp)(env:Env)(t:Tag)(l:List (T t))(s:BV)(co:CO):Prop:=kk t=1∧ ∃us,qN 1 akD 0 (ty t) w co.v us co.fp∧us.length=l.length∧ ∀(i:Nat) (x:T t) (u:Value),l[i]? =some x→us[i]? =some u→BE w hp env s t x u
def Nd(w:World)(hp:Hp)(env:Env)(t:Tag)(l:List (T t))(p:Option (Nat×Nat×Nat))(co:CO):Prop:=Own 0 w co.fp∧(∃oa m cap,co.v= .slice oa m cap)∧ ∀n i off,p=some (n,i,off)→
 ∃(tA:Tag) (lA:List (T tA)) (b o1 len cap:Nat),look hp n=some (.arr tA lA)∧(env n).v= .slice (some ⟨b,o1,none⟩) len cap∧b∈(env n).fp∧
  ∀w2:World,(∀y,y∈(env n).fp→w2.heap[y]? =w.heap[y]?)→(∀y,y∈co.fp→w2.heap[y]? =w.heap[y]?)→ ∀d vc y',spl (dec tA (lA.getD i (aO tA))) off [.sl t l]=some d→enc tA d=some (vc,y')→(∀q,q∈vc→q)→
   w2.there b (o1+i*kk tA+off) 1∧ ∃fp2,(∀y,y∈fp2→y∈(env n).fp∨y∈co.fp)∧yx ty (w2.setCells b (o1+i*kk tA+off) [co.v]) n tA (lA.set i y') ⟨(env n).v,fp2⟩
def RO(w:World)(hp:Hp)(env:Env)(n:Nat):Obj→CO→Prop
 | .box c,co=> ∃b cs e,co=⟨.pointer (some ⟨b,0,none⟩),[b]⟩∧w.heap[b]? =some (.cells (Array.mk cs) e (0,0))∧dG (RA w hp env) c cs
 | .arr t l,co=>yx ty w n t l co
 | .pQ t l s,co=>match s with
   | .mp=>XS w t l co
   | .bag u=>XT w hp env t l u co
   | .Kx p=>Nd ty w hp env t l p co
   |s=>akE ty w hp env t l s co
theorem RO.RZ{ty:Tag→Nat}{w:World}{hp:Hp}{env:Env}{l:List (T t)}{co:CO}(h:RO ty w hp env n (.pQ t l s) co):(s= .mp∧XS w t l co)∨(∃u,s= .bag u∧XT w hp env t l u co)∨(∃p,s= .Kx p∧Nd ty w hp env t l p co)∨(s.br∧akE ty w hp env t l s co):=by
 cases s with
 |mp=>exact bP ⟨rfl,h⟩
 |bag u=>exact bw (bP ⟨u,rfl,h⟩)
 |Kx p=>exact bw (bw (bP ⟨p,rfl,h⟩))
 |gone=>exact bw (bw (bw ⟨trivial,h⟩))
 |xp=>exact bw (bw (bw ⟨trivial,h⟩))
 |of n=>exact bw (bw (bw ⟨trivial,h⟩))
theorem RO.ahr{ty:Tag→Nat}{w:World}{hp:Hp}{env:Env}{l:List (T t)}{co:CO}(hs:s.br)(h:akE ty w hp env t l s co):RO ty w hp env n (.pQ t l s) co:=by
 cases s with
 |mp=>exact hs.elim
 |bag u=>exact hs.elim
 |Kx p=>exact hs.elim
 |gone=>exact h
 |xp=>exact h
 |of n=>exact h
theorem XS.agree{w w':World}{l:List (T t)}{co:CO}(h:XS w t l co)(hk: ∀b,b∈co.fp→w'.heap[b]? =w.heap[b]?):XS w' t l co:=by
 obtain⟨r,lx,h1,rfl,es,clock,h2,h3⟩:=h;exact⟨r,lx,h1,rfl,es,clock,(hk r fI).trans h2,h3⟩
structure Good(zb:fG)(st:St)(tmps:Array Value)(w:World)(env:Env):Prop where
 obj: ∀n o,look st.hp n=some o→RO ty w st.hp env n o (env n)
 tN: ∀n m o o',n≠m→look st.hp n=some o→look st.hp m=some o'→ ∀b,b∈(env n).fp→b∉(env m).fp
 slot: ∀s v,look st.sl s=some v→AR w st.hp env tmps v (tmps.getD s undef)
 dom: ∀n o,look st.hp n=some o→ ∀b,b∈(env n).fp→b∈zb.L∨zb.w.heap.size≤b
 pins: ∀n,tG n=true→(env n).v=(zb.pv n).v∧ ∀b,b∈(env n).fp→b∈(zb.pv n).fp
structure Kept(zb:fG)(w w':World):Prop where
 os:w'.os=w.os
 tape:w'.tape=w.tape
 output:w'.output=w.output
 size:w.heap.size≤w'.heap.size
 block: ∀b,b<zb.w.heap.size→b∉zb.L→w'.heap[b]? =w.heap[b]?
 shape: ∀(b:Nat) (c:Array Value) (e:TypeId),w.heap[b]? =some (Go.Obj.cells c e (0,0))→ ∃c':Array Value,w'.heap[b]? =some (Go.Obj.cells c' e (0,0))∧c'.size=c.size
theorem Kept.refl(zb:fG)(w:World):Kept zb w w:=⟨rfl,rfl,rfl,Nat.le_refl _,fun _ _ _=>rfl,fun _ c _ h=>⟨c,h,rfl⟩⟩
theorem Kept.trans{zb:fG}{a b c:World}(h:Kept zb a b)(k:Kept zb b c):Kept zb a c:=
 ⟨k.os.trans h.os,k.tape.trans h.tape,k.output.trans h.output,cB h.size k.size,fun i hi hn=>(k.block i hi hn).trans (h.block i hi hn),fun i x e hx=>by
   obtain⟨c1,h1,h2⟩:=h.shape i x e hx;obtain⟨c2,h3,h4⟩:=k.shape i c1 e h1;exact⟨c2,h3,h4.trans h2⟩⟩
theorem qZ{zb:fG}{w w':World}(h:Below w.heap.size w w')(hz:zb.w.heap.size≤w.heap.size):Kept zb w w':=
 ⟨h.os,h.tape,h.output,h.size,fun b hb _=>h.block b (Nat.lt_of_lt_of_le hb hz),fun b c e hc=>⟨c,by rw[h.block b (au6 hc)];exact hc,rfl⟩⟩
def abJ(zb:fG):Prop:=Nc zb.w∧ ∀b,ahn b→b∉zb.L
theorem abJ.now{zb:fG}{w:World}(h:abJ zb)(k:Kept zb zb.w w):Nc w:=h.1.keep fun b hb hlt=>k.block b hlt (h.2 b hb)
theorem abJ.free{zb:fG}(h:abJ zb){b:Nat}(hb:b∈zb.L∨zb.w.heap.size≤b): ¬ahn b:=fun h0=>by
 rcases hb with hb|hb
 ·exact h.2 b h0 hb
 ·have:=h.1.lt h0;omega
structure Inv(zb:fG)(st:St)(a:Act)(w:World):Prop where
 size:a.tmps.size=st.n
 defers:a.defers= []
 kept:Kept zb zb.w w
 Nf:abJ zb
 good: ∃env,Good ty zb st a.tmps w env
variable{ty}
theorem RO.own{w:World}{hp:Hp}{env:Env}{l:List (T t)}{co:CO}(h:RO ty w hp env n (.arr t l) co):Own 0 w co.fp:=by
 replace h:yx ty w n t l co:=h;unfold yx at h;split at h
 ·exact h.2
 ·exact qN.own h
theorem RO.sl{w:World}{hp:Hp}{env:Env}{l:List (T t)}{co:CO}(h:RO ty w hp env n (.arr t l) co):Sl (kk t) (rd t) w co.v l co.fp:=by
 replace h:yx ty w n t l co:=h;unfold yx at h;split at h
 ·exact h.1
 ·exact qN.sl h
theorem RO.Xc{w:World}{hp:Hp}{env:Env}{l:List (T t)}{co:CO}(hs:s≠ .gone)(hm:s.br)(h:RO ty w hp env n (.pQ t l s) co): ∃fp,Sl (kk t) (rd t) w co.v l fp:=by
 obtain⟨h1,us,hB,h2,h3⟩:akE ty w hp env t l s co:=by
  rcases RO.RZ h with⟨rfl,_⟩| ⟨u,rfl,_⟩| ⟨p,rfl,_⟩| ⟨_,h⟩
  ·exact hm.elim
  ·exact hm.elim
  ·exact hm.elim
  ·exact h
 obtain⟨fp,h4,_⟩:=ahq (E:=rd t) (Pb:=fun _=>True) hB.sl h2 (fun i x u hx hu=>by
  have:=h3 i x u hx hu;cases s with
  |gone=>exact absurd rfl hs
  |mp=>exact hm.elim
  |bag u=>exact hm.elim
  |Kx p=>exact hm.elim
  |xp=>obtain⟨f,q,_⟩:=this;exact⟨f,q,fun _ _=>trivial⟩
  |of n=>obtain⟨_,f,q,_⟩:=this;exact⟨f,q,fun _ _=>trivial⟩)
 rw[h1];exact⟨fp,h4⟩
theorem RO.bld{w:World}{hp:Hp}{env:Env}{l:List (T t)}{co:CO}(hn:soft n=false)(h:RO ty w hp env n (.arr t l) co):qN (kk t) (rd t) 0 (ty t) w co.v l co.fp:=by
 replace h:yx ty w n t l co:=h;unfold yx at h;rw[hn]at h;exact h
theorem RO.S7{w:World}{hp:Hp}{env:Env}{l:List (T t)}{co:CO}(h:qN (kk t) (rd t) 0 (ty t) w co.v l co.fp):RO ty w hp env n (.arr t l) co:=by
 show yx ty w n t l co
 unfold yx;split
 ·exact⟨qN.sl h,qN.own h⟩
 ·exact h
theorem RO.akG{w:World}{hp:Hp}{env:Env}{l:List (T t)}{co:CO}(hn:soft n=true)(h:Sl (kk t) (rd t) w co.v l co.fp)(ho:Own 0 w co.fp):RO ty w hp env n (.arr t l) co:=by
 show yx ty w n t l co
 unfold yx;rw[hn];exact⟨h,ho⟩
theorem akH(m:Nat):soft (m+900)=true:=by
 unfold soft;exact kr (Nat.le_add_left 900 m)
theorem akI(h:tG n=true):soft n=true:=by
 unfold tG at h;unfold soft;exact kr (cB cO (Nat.le_of_ble_eq_true h))
theorem akJ(h:soft n=false):tG n=false:=by
 cases hp:tG n with
 |false=>rfl
 |true=>rw[akI hp]at h;cases h
theorem RO.agree{w w':World}{hp hp':Hp}{env env':Env}{l:List (T t)}{co:CO}(h:RO ty w hp env n (.arr t l) co)(hk: ∀b,b∈co.fp→w'.heap[b]? =w.heap[b]?):RO ty w' hp' env' n (.arr t l) co:=by
 replace h:yx ty w n t l co:=h;show yx ty w' n t l co
 unfold yx at h ⊢;split at h
 ·exact⟨Sl.agree (ko t) h.1 hk,h.2.agree hk⟩
 ·exact qN.agree (ko t) h hk
theorem RO.blk{w:World}{hp:Hp}{env:Env}{o:Obj}{co:CO}(h:RO ty w hp env n o co): ∀b,b∈co.fp→b<w.heap.size:=by
 cases o with
 |box c=>
  obtain⟨b,cs,e,rfl,hh,_⟩:=h;intro x hx;simp at hx;subst hx;exact au6 hh
 |arr t l=>exact fun b hb=>(RO.own h).lt b hb
 |pQ t l s=>
  rcases RO.RZ h with⟨_,r,lx,_,rfl,es,clock,hh,_⟩| ⟨_,_,_,ho,_⟩| ⟨_,_,ho,_⟩| ⟨_,_,us,hB,_⟩
  ·intro b hb;simp at hb;subst hb;exact(dZ.1 hh).1
  ·exact fun b hb=>ho.lt b hb
  ·exact fun b hb=>ho.lt b hb
  ·exact fun b hb=>hB.own.lt b hb
theorem Good.ow{zb:fG}{w:World}{env:Env}(h:Good ty zb st tmps w env){b:Nat}(hb:Ow st.hp env b):(b∈zb.L∨zb.w.heap.size≤b)∧b<w.heap.size:=by
 obtain⟨n,o,h1,h2⟩:=hb;exact⟨h.dom n o h1 b h2,(h.obj n o h1).blk b h2⟩
def V.name:V→Option Nat
 | .own n| .ptr n _| .Cm n _ _| .vw n _ _ _| .Xb n _ _ _ _| .Xc n _ _| .S3 _ n| .mix n _ _ _| .RX n=>some n
 |_=>none
def V.view:V→Option Nat
 | .vw n _ _ _| .Xb n _ _ _ _| .Xc n _ _| .mix n _ _ _=>some n
 |_=>none
def V.Db(K KV:Nat→Prop)(v:V):Prop:=(∀n,v.name=some n→K n)∧ ∀n,v.view=some n→KV n
theorem V.zK(h:v.view=some n):v.name=some n:=by
 cases v<;>simp_all [V.view,V.name]
theorem V.lp(v:V):v.Db (fun _=>True) (fun _=>True):=⟨fun _ _=>trivial,fun _ _=>trivial⟩
def Obj.like:Obj→Obj→Prop
 | .box _, .box _=>True
 | .arr t _, .arr t' _=>t=t'
 | .pQ t _ _, .pQ t' _ _=>t=t'
 |_,_=>False
structure Step(K KV:Nat→Prop)(w:World)(hp:Hp)(env:Env)(w':World)(hp':Hp)(env':Env):Prop where
 keep: ∀b,b<w.heap.size→ ¬Ow hp env b→w'.heap[b]? =w.heap[b]?
 own: ∀b,b<w.heap.size→Ow hp' env' b→Ow hp env b
 name: ∀n o,K n→look hp n=some o→ ∃o',look hp' n=some o'∧o.like o'∧(env' n).v=(env n).v
 view: ∀n t l,KV n→look hp n=some (.arr t l)→look hp' n=some (.arr t l)∧env' n=env n∧ ∀b,b∈(env n).fp→w'.heap[b]? =w.heap[b]?
section
variable{K KV:Nat→Prop}{w w':World}{hp hp':Hp}{env env':Env}
theorem RA.step(s:Step K KV w hp env w' hp' env')(hv:v.Db K KV)(h:RA w hp env v u):RA w' hp' env' v u:=by
 obtain⟨hv,hw⟩:=hv;cases v with
 |any=>trivial
 |lit v=>exact h
 |sl t l=>
  obtain⟨fp,h1,h2⟩:=h;have hlt:=Sl.lt (ko t) h1;exact⟨fp,Sl.agree (ko t) h1 (fun b hb=>s.keep b (hlt b hb) (h2 b hb)),fun b hb hw=>h2 b hb (s.own b (hlt b hb) hw)⟩
 |uS v t l=>
  obtain⟨hu,fp,h1,h2⟩:=h;have hlt:=Sl.lt (ko t) h1;exact⟨hu,fp,Sl.agree (ko t) h1 (fun b hb=>s.keep b (hlt b hb) (h2 b hb)),fun b hb hw=>h2 b hb (s.own b (hlt b hb) hw)⟩
 |own n=>
  obtain⟨⟨t,l,hl⟩,hu⟩:=h;obtain⟨o',h1,h2,h3⟩:=s.name n _ (hv n rfl) hl;cases o' with
  |box c=>exact h2.elim
  |arr t' l'=>exact⟨⟨t',l',h1⟩,by rw[hu,h3]⟩
  |pQ t' l' s'=>exact h2.elim
 |ptr n off=>
  obtain⟨⟨c,hl⟩,b,hb,hu⟩:=h;obtain⟨o',h1,h2,h3⟩:=s.name n _ (hv n rfl) hl;cases o' with
  |box c'=>exact⟨⟨c',h1⟩,b,by rw[h3,hb],hu⟩
  |arr t' l'=>exact h2.elim
  |pQ t' l' s'=>exact h2.elim
 |Nb k=>exact h
 |raw v=>exact h
 |S3 f n=>
  obtain⟨⟨c,hl⟩,b,hb,hu⟩:=h;obtain⟨o',h1,h2,h3⟩:=s.name n _ (hv n rfl) hl;cases o' with
  |box c'=>exact⟨⟨c',h1⟩,b,by rw[h3,hb],hu⟩
  |arr t' l'=>exact h2.elim
  |pQ t' l' s'=>exact h2.elim
 |Cm n i off=>
  obtain⟨t,l,hl,b,o,len,cap,hb,hu⟩:=h;obtain⟨o',h1,h2,h3⟩:=s.name n _ (hv n rfl) hl;cases o' with
  |box c'=>exact h2.elim
  |arr t' l'=>
   have:t=t':=h2;subst this;exact⟨t,l',h1,b,o,len,cap,by rw[h3,hb],hu⟩
  |pQ t' l' s'=>exact h2.elim
 |ip t x off=>
  obtain⟨b,o,cs,fp,hu,hb,hr,hE,h1,h2⟩:=h;have hlt:=(ko t).lt hE;have hkb:=s.keep b hb h1;refine⟨b,o,cs,fp,hu,?_,fun j v hv=> ?_,(ko t).agree hE (fun c hc=>s.keep c (hlt c hc) (h2 c hc)),fun hw=>h1 (s.own b hb hw),fun c hc hw=>h2 c hc (s.own c (hlt c hc) hw)⟩
  ·have h3:w.heap[b]? =some w.heap[b]:=by simp[hb]
   rw[h3]at hkb;exact(dZ.1 hkb).1
  ·rw[jG (w:=w) (a:=⟨b,_,none⟩) hkb];exact hr j v hv
 |vw n p t l=>
  have vwk: ∀{p:Option (Nat×Nat)} {l:List (T t)} {u:Value},RV w hp env n p t l u→RV w' hp' env' n p t l u:=by
   rintro p l u ⟨⟨tA,lA,hl⟩,⟨fp,h1,hnd,h2⟩,h3⟩;obtain⟨q1,q2,q3⟩:=s.view n _ _ (hw n rfl) hl;refine⟨⟨tA,lA,q1⟩,⟨fp,Sl.agree (ko t) h1 (fun b hb=>q3 b (h2 b hb)),hnd,fun b hb=>by rw[q2];exact h2 b hb⟩,fun i off hp=> ?_⟩;obtain⟨t0,l0,b,o,len,cap,k1,k2,k3,k4,k5,k6⟩:=h3 i off hp;rw[hl]at k1;refine⟨t0,l0,b,o,len,cap,by rw[q1];exact k1,k2,k3,by rw[q2];exact k4,by rw[q2];exact k5,?_⟩;rw[jG (w:=w) (a:=⟨b,_,none⟩) (q3 b k5)];exact k6
  exact vwk h
 |RX n=>
  obtain⟨⟨t,l,r,hl⟩,hu⟩:=h;obtain⟨o',h1,h2,h3⟩:=s.name n _ (hv n rfl) hl;cases o' with
  |box c=>exact h2.elim
  |arr t' l'=>exact h2.elim
  |pQ t' l' s'=>exact⟨⟨t',l',s',h1⟩,by rw[hu,h3]⟩
 |mix n c t l=>
  obtain⟨⟨tA,lA,hl⟩,⟨fp,h1,h2⟩,h3⟩:=h;obtain⟨q1,q2,q3⟩:=s.view n _ _ (hw n rfl) hl;have hlt:=Sl.lt (ko t) h1;refine⟨⟨tA,lA,q1⟩,⟨fp,Sl.agree (ko t) h1 (fun b hb=> ?_),fun b hb=> ?_⟩,h3⟩
  ·rcases h2 b hb with h4|h4
   ·exact q3 b h4
   ·exact s.keep b (hlt b hb) h4
  ·rcases h2 b hb with h4|h4
   ·exact bP (by rw[q2];exact h4)
   ·exact bw fun hw=>h4 (s.own b (hlt b hb) hw)
 |Xc n t l=>
  obtain⟨⟨tA,lA,hl⟩,b,fp,h1,hb,hnd,h2⟩:=h;obtain⟨q1,q2,q3⟩:=s.view n _ _ (hw n rfl) hl;have hlt:=Sl.lt (ko t) h1;have Ng:=hlt b fI;refine⟨⟨tA,lA,q1⟩,b,fp,Sl.agree (ko t) h1 (fun c hc=> ?_),fun hw=>hb (s.own b Ng hw),hnd,fun c hc=>by rw[q2];exact h2 c hc⟩;rcases bh.1 hc with rfl|hc
  ·exact s.keep _ Ng hb
  ·exact q3 c (h2 c hc)
 |Xb n p t x off=>
  have vwk: ∀{p:Option (Nat×Nat)} {l:List (T t)} {u:Value},RV w hp env n p t l u→RV w' hp' env' n p t l u:=by
   rintro p l u ⟨⟨tA,lA,hl⟩,⟨fp,h1,hnd,h2⟩,h3⟩;obtain⟨q1,q2,q3⟩:=s.view n _ _ (hw n rfl) hl;refine⟨⟨tA,lA,q1⟩,⟨fp,Sl.agree (ko t) h1 (fun b hb=>q3 b (h2 b hb)),hnd,fun b hb=>by rw[q2];exact h2 b hb⟩,fun i off hp=> ?_⟩;obtain⟨t0,l0,b,o,len,cap,k1,k2,k3,k4,k5,k6⟩:=h3 i off hp;rw[hl]at k1;refine⟨t0,l0,b,o,len,cap,by rw[q1];exact k1,k2,k3,by rw[q2];exact k4,by rw[q2];exact k5,?_⟩;rw[jG (w:=w) (a:=⟨b,_,none⟩) (q3 b k5)];exact k6
  obtain⟨⟨tA,lA,hl⟩,b,o,cs,fp,hu,hb,hr,hE,hnd,h2,h3⟩:=h;obtain⟨q1,q2,q3⟩:=s.view n _ _ (hw n rfl) hl;refine⟨⟨tA,lA,q1⟩,b,o,cs,fp,hu,by rw[q2];exact hb,fun j v hv=> ?_,(ko t).agree hE (fun c hc=>q3 c (h2 c hc)),hnd,fun c hc=>by rw[q2];exact h2 c hc,fun i o2 j hp=> ?_⟩
  ·rw[jG (w:=w) (a:=⟨b,_,none⟩) (q3 b hb)];exact hr j v hv
  ·obtain⟨l,u0,b0,zm,len,cap,k1,k2⟩:=h3 i o2 j hp;exact⟨l,u0,b0,zm,len,cap,vwk k1,k2⟩
end
def S1.vs:S1→List V
 | .a v=> [v]
 | .agg l=>l
def SV.vs:SV→List V
 | .one x=>x.vs
 | .Gf l=>l.flatMap S1.vs
 | .cond _ x=>x.vs
section
variable{K KV:Nat→Prop}{w w':World}{hp hp':Hp}{env env':Env}
theorem mG.step(s:Step K KV w hp env w' hp' env'){x:S1}(hv: ∀v,v∈x.vs→v.Db K KV)(h:mG w hp env x u):mG w' hp' env' x u:=by
 cases x with
 |a v=>exact RA.step s (hv v (by simp[S1.vs])) h
 |agg l=>
  obtain⟨cs,hu,hl⟩:=h;exact⟨cs,hu,hl.mono fun a b ha hr=>RA.step s (hv a ha) hr⟩
theorem AR.step(s:Step K KV w hp env w' hp' env'){x:SV}(hv: ∀v,v∈x.vs→v.Db K KV)(h:AR w hp env tmps x u):AR w' hp' env' tmps x u:=by
 cases x with
 |one x=>exact mG.step s hv h
 |Gf l=>
  obtain⟨us,hu,hl⟩:=h;exact⟨us,hu,hl.mono fun a b ha hr=>mG.step s (fun v hn=>hv v (by simp only[SV.vs,List.mem_flatMap];exact⟨a,ha,hn⟩)) hr⟩
 |cond p x=>exact⟨fun hh=>mG.step s hv (h.1 hh),h.2⟩
theorem BE.step(s:Step K KV w hp env w' hp' env'){r:BV}{x:T t}(hv: ∀n,r.name=some n→KV n)(h:BE w hp env r t x u):BE w' hp' env' r t x u:=by
 cases r with
 |mp=>trivial
 |bag u=>trivial
 |Kx p=>trivial
 |gone=>trivial
 |xp=>
  obtain⟨f,h1,h2⟩:=h;have hlt:=(ko t).lt h1;exact⟨f,(ko t).agree h1 (fun b hb=>s.keep b (hlt b hb) (h2 b hb)),fun b hb hw=>h2 b hb (s.own b (hlt b hb) hw)⟩
 |of n=>
  obtain⟨⟨tA,lA,hl⟩,f,h1,h2⟩:=h;obtain⟨q1,q2,q3⟩:=s.view n _ _ (hv n rfl) hl;have hlt:=(ko t).lt h1;refine⟨⟨tA,lA,q1⟩,f,(ko t).agree h1 (fun b hb=> ?_),fun b hb=> ?_⟩
  ·rcases h2 b hb with h4|h4
   ·exact q3 b h4
   ·exact s.keep b (hlt b hb) h4
  ·rcases h2 b hb with h4|h4
   ·exact bP (by rw[q2];exact h4)
   ·exact bw fun hw=>h4 (s.own b (hlt b hb) hw)
theorem XT.step(s:Step K KV w hp env w' hp' env'){l:List (T t)}{co:CO}(hk: ∀b,b∈co.fp→w'.heap[b]? =w.heap[b]?)(h:XT w hp env t l u co):XT w' hp' env' t l u co:=by
 obtain⟨hv,ho,fp,h1,h2⟩:=h;have hlt:=Sl.lt (ko t) h1;refine⟨hv,ho.agree hk,fp,Sl.agree (ko t) h1 (fun b hb=> ?_),?_⟩
 ·rcases h2 with⟨rfl,_⟩| ⟨c,rfl,hc⟩
  ·cases hb
  ·rcases bh.1 hb with rfl|hb
   ·exact s.keep _ (hlt _ fI) hc
   ·exact hk b hb
 ·rcases h2 with h2| ⟨c,rfl,hc⟩
  ·exact bP h2
  ·exact bw ⟨c,rfl,fun hw=>hc (s.own c (hlt c fI) hw)⟩
theorem Nd.step(s:Step K KV w hp env w' hp' env'){l:List (T t)}{p:Option (Nat×Nat×Nat)}{co:CO}(hv: ∀n,(BV.Kx p).name=some n→KV n)(hk: ∀b,b∈co.fp→w'.heap[b]? =w.heap[b]?)(h:Nd ty w hp env t l p co):Nd ty w' hp' env' t l p co:=by
 obtain⟨ho,h1,h2⟩:=h;refine⟨ho.agree hk,h1,fun n i off hp=> ?_⟩;obtain⟨tA,lA,b,o1,len,cap,q1,q2,q3,q4⟩:=h2 n i off hp;subst hp;obtain⟨r1,r2,r3⟩:=s.view n _ _ (hv n rfl) q1;refine⟨tA,lA,b,o1,len,cap,r1,by rw[r2];exact q2,by rw[r2];exact q3,fun w2 a1 a2=> ?_⟩;rw[r2]at a1 ⊢;exact q4 w2 (fun y hy=>(a1 y hy).trans (r3 y hy)) (fun y hy=>(a2 y hy).trans (hk y hy))
def Obj.Db(K KV:Nat→Prop):Obj→Prop
 | .box c=> ∀v,v∈c→v.Db K KV
 | .arr _ _=>True
 | .pQ _ _ s=> ∀n,s.name=some n→KV n
theorem Obj.lp(o:Obj):o.Db (fun _=>True) (fun _=>True):=by
 cases o with
 |box c=>exact fun v _=>v.lp
 |arr t l=>trivial
 |pQ t l s=>exact fun _ _=>trivial
theorem RO.step(s:Step K KV w hp env w' hp' env'){o:Obj}{co:CO}(hv:o.Db K KV)
  (hk: ∀b,b∈co.fp→w'.heap[b]? =w.heap[b]?)(h:RO ty w hp env n o co):RO ty w' hp' env' n o co:=by
 cases o with
 |box c=>
  obtain⟨b,cs,e,rfl,hh,hc⟩:=h;exact⟨b,cs,e,rfl,by rw[hk b fI];exact hh,hc.mono fun a u ha hr=>RA.step s (hv a ha) hr⟩
 |arr t l=>exact RO.agree h hk
 |pQ t l r=>
  rcases RO.RZ h with⟨rfl,h⟩| ⟨u,rfl,h⟩| ⟨p,rfl,h⟩| ⟨hr,h1,us,hB,h2,h3⟩
  ·exact XS.agree h hk
  ·exact XT.step s hk h
  ·exact Nd.step s hv hk h
  ·exact RO.ahr hr ⟨h1,us,qN.agree Ih hB hk,h2,fun i x u hx hu=>BE.step s hv (h3 i x u hx hu)⟩
end
theorem dD{α:Type}: ∀{os:List (Nat×α)} {l:List (Nat×α)} {n:Nat},look os n=none→look (os++l) n=look l n
 | [],_,_,_=>rfl
 | (j,x)::r,l,n,h=>by
   simp only[look,fE]at h ⊢;split at h
   ·cases h
   ·exact dD h
theorem gm{α:Type}: ∀{os:List (Nat×α)} {l:List (Nat×α)} {n:Nat} {x:α},look os n=some x→look (os++l) n=some x
 | (j,y)::r,l,n,x,h=>by
   simp only[look,fE]at h ⊢;split at h
   ·exact h
   ·exact gm h
theorem jx{α:Type}: ∀{os:List (Nat×α)} {n:Nat} {x:α},look os n=some x→(n,x)∈os
 | (j,y)::r,n,x,h=>by
   simp only[look]at h;split at h
   ·rename_i hb;have:n=j:=aG hb;simp at h;simp[h,this]
   ·exact aE _ (jx h)
theorem xq{hp:Hp}: ∀{os:Hp},fresh hp os=true→ ∀n o,look os n=some o→look hp n=none
 | (j,y)::r,h,n,o,hl=>by
   simp only[fresh,Bool.and_eq_true]at h;simp only[look]at hl;split at hl
   ·rename_i hb;have:n=j:=aG hb;subst this;cases hq:look hp n with
    |none=>rfl
    |some z=>simp[hq]at h
   ·exact xq h.2 n o hl
theorem Kz{hp:Hp}: ∀{os:Hp},fresh hp os=true→ ∀n o,look os n=some o→tG n=false
 | (j,y)::r,h,n,o,hl=>by
   simp only[fresh,Bool.and_eq_true]at h;simp only[look]at hl;split at hl
   ·rename_i hb;have:n=j:=aG hb;subst this;simpa using h.1.2
   ·exact Kz h.2 n o hl
structure tX(w w':World)(hp:Hp)(os:Hp)(env env':Env):Prop where
 below:Below w.heap.size w w'
 old: ∀n,look os n=none→env' n=env n
 obj: ∀n o,look os n=some o→RO ty w' (os++hp) env' n o (env' n)∧ ∀b,b∈(env' n).fp→w.heap.size≤b
 tN: ∀n m o o',n≠m→look os n=some o→look os m=some o'→ ∀b,b∈(env' n).fp→b∉(env' m).fp
theorem tX.none{w w':World}{hp:Hp}{env:Env}(h:Below w.heap.size w w'):tX (ty:=ty) w w' hp [] env env:=
 ⟨h,fun _ _=>rfl,fun _ _ h=>by simp[look]at h,fun _ _ _ _ _ h=>by simp[look]at h⟩
theorem tX.step{zb:fG}{w w':World}{os:Hp}{env env':Env}(g:Good ty zb st tmps w env)(hf:fresh st.hp os=true)(h:tX (ty:=ty) w w' st.hp os env env'):
  Step (fun _=>True) (fun _=>True) w st.hp env w' (os++st.hp) env' where
 keep:=fun b hb _=>h.below.block b hb
 own:=by
  rintro b hb ⟨n,o,h1,h2⟩;cases hn:look os n with
  |none=>
   rw[dD hn]at h1;rw[h.old n hn]at h2;exact⟨n,o,h1,h2⟩
  |some o'=>
   have:=(h.obj n o' hn).2 b h2;omega
 name:=by
  intro n o _ h1;have hn:look os n= .none:=by
   cases hn:look os n with
   |none=>rfl
   |some o'=>rw[xq hf n o' hn]at h1;cases h1
  refine⟨o,by rw[dD hn];exact h1,?_,by rw[h.old n hn]⟩;cases o<;>simp[Obj.like]
 view:=by
  intro n t l _ h1;have hn:look os n= .none:=by
   cases hn:look os n with
   |none=>rfl
   |some o'=>rw[xq hf n o' hn]at h1;cases h1
  exact⟨by rw[dD hn];exact h1,h.old n hn,fun b hb=>h.below.block b ((g.obj n _ h1).blk b hb)⟩
theorem Good.grow{zb:fG}{w w':World}{os:Hp}{env env':Env}(hB:zb.w.heap.size≤w.heap.size)(g:Good ty zb st tmps w env)(hf:fresh st.hp os=true)(h:tX (ty:=ty) w w' st.hp os env env'):
  Good ty zb ⟨st.n,st.sl,os++st.hp⟩ tmps w' env':=by
 have s:=h.step g hf;refine⟨fun n o hl=> ?_,fun n m o o' hne h1 h2 b hb hb'=> ?_,fun t v hl=>AR.step s (fun v _=>v.lp) (g.slot t v hl),fun n o hl b hb=> ?_,fun n hn=> ?_⟩
 ·cases hn:look os n with
  |some o'=>
   rw[gm hn]at hl;simp only[oI]at hl;subst hl;exact(h.obj n _ hn).1
  |none=>
   rw[dD hn]at hl;rw[h.old n hn];have hro:=g.obj n o hl;exact hro.step s o.lp (fun b hb=>h.below.block b (hro.blk b hb))
 ·cases hn:look os n with
  |some x=>
   cases hm:look os m with
   |some y=>exact h.tN n m x y hne hn hm b hb hb'
   |none=>
    rw[dD hm]at h2;rw[h.old m hm]at hb';have h3:=(h.obj n x hn).2 b hb;have h4:=(g.obj m o' h2).blk b hb';omega
  |none=>
   rw[dD hn]at h1;rw[h.old n hn]at hb;cases hm:look os m with
   |some y=>
    have h3:=(h.obj m y hm).2 b hb';have h4:=(g.obj n o h1).blk b hb;omega
   |none=>
    rw[dD hm]at h2;rw[h.old m hm]at hb';exact g.tN n m o o' hne h1 h2 b hb hb'
 ·cases hn:look os n with
  |some x=>exact bw (cB hB ((h.obj n x hn).2 b hb))
  |none=>
   rw[dD hn]at hl;rw[h.old n hn]at hb;exact g.dom n o hl b hb
 ·cases hq:look os n with
  |none=>rw[h.old n hq];exact g.pins n hn
  |some x=>have:=Kz hf n x hq;rw[hn]at this;cases this
end
end Go.Proofs.YtaalpcnbbldlaaaGreatDoor.G
