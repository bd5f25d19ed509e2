/-
  What the law on delays asks: a new world with one message, its delay. No program in sight.
-/
import Derived.KernelRfl
import Derived.Test.YtkcegdacbddipaaGreatProg
import Derived.Test.YtkcegdacbddipaaGreatV9
namespace Go.Proofs.YtkcegdacbddipaaGreat.G
set_option linter.all false
open Go.RowKit L D
section
theorem WH:(Tryz.prog.info? 3).map (fun i=>(i.zero,i.size,i.bytes))=some (some (.int .i64 0),1,8):=by kernel_rfl
theorem WI:(Tryz.prog.info? 5).map (fun i=>(i.zero,i.size,i.bytes))=some (some (.int .u8 0),1,1):=by kernel_rfl
theorem WJ:(Tryz.prog.info? 9).map (fun i=>(i.zero,i.size,i.bytes))=some (some (.string ⟨#[]⟩),1,16):=by kernel_rfl
theorem Q7:(Tryz.prog.info? 22).map (fun i=>(i.zero,i.size,i.bytes))=some (some (.slice none 0 0),1,24):=by kernel_rfl
theorem Q8:(Tryz.prog.info? 29).map (fun i=>(i.zero,i.size,i.bytes))=some (some (.slice none 0 0),1,24):=by kernel_rfl
theorem X2:(Tryz.prog.info? 54).map (fun i=>(i.zero,i.size,i.bytes))=some (some (.slice none 0 0),1,24):=by kernel_rfl
theorem K2:(Tryz.prog.info? 86).map (fun i=>(i.zero,i.size,i.bytes))=some (some (.agg #[.slice none 0 0]),1,24):=by kernel_rfl
theorem GD:(Tryz.prog.info? 110).map (fun i=>(i.zero,i.size,i.bytes))=some (some (.agg #[.int .i64 0, .slice none 0 0]),2,32):=by kernel_rfl
theorem K3:(Tryz.prog.info? 52).map (fun i=>(i.zero,i.size,i.bytes))=some (some (.agg #[.int .i64 0, .int .i64 0, .int .i64 0, .slice none 0 0, .int .i64 0]),5,56):=by kernel_rfl
theorem GF:(Tryz.prog.info? 113).map (fun i=>(i.zero,i.size,i.bytes))=some (some (.agg #[.int .i64 0, .slice none 0 0]),2,32):=by kernel_rfl
theorem Q9:(Tryz.prog.info? 28).map (fun i=>(i.zero,i.size,i.bytes))=some (some (.agg #[.int .i64 0, .slice none 0 0]),2,32):=by kernel_rfl
theorem Ra:(Tryz.prog.info? 56).map (fun i=>(i.zero,i.size,i.bytes))=some (some (.agg #[.int .i64 0, .int .i64 0, .int .i64 0, .int .i64 0, .slice none 0 0, .int .i64 0, .slice none 0 0, .int .i64 0]),8,96):=by kernel_rfl
theorem K4:(Tryz.prog.info? 58).map (fun i=>(i.zero,i.size,i.bytes))=some (some (.agg #[.int .i64 0, .int .i64 0, .int .i64 0, .int .i64 0, .slice none 0 0, .int .i64 0, .slice none 0 0, .int .i64 0, .int .i64 0, .int .i64 0, .int .i64 0, .int .i64 0, .slice none 0 0, .int .i64 0, .slice none 0 0, .int .i64 0]),16,192):=by kernel_rfl
theorem Rb:(Tryz.prog.info? 31).map (fun i=>(i.zero,i.size,i.bytes))=some (some (.agg #[.int .i64 0, .slice none 0 0, .slice none 0 0, .int .i64 0, .slice none 0 0, .int .i64 0, .int .i64 0, .int .i64 0, .slice none 0 0, .int .i64 0]),10,144):=by kernel_rfl
theorem GG:(Tryz.prog.info? 120).map (fun i=>(i.zero,i.size,i.bytes))=some (some (.agg #[.int .i64 0, .int .i64 0, .int .i64 0, .int .i64 0, .int .i64 0]),5,40):=by kernel_rfl
theorem Mv:(Tryz.prog.info? 143).map (fun i=>(i.zero,i.size,i.bytes))=some (some (.agg #[.int .i64 0, .slice none 0 0]),2,32):=by kernel_rfl
theorem GH:(Tryz.prog.info? 131).map (fun i=>(i.zero,i.size,i.bytes))=some (some (.agg #[.int .i64 0, .int .i64 0, .slice none 0 0, .slice none 0 0, .int .i64 0]),5,72):=by kernel_rfl
theorem qO{P:Program}{i:Nat}{z:Option Value}{k b:Nat}(h:(P.info? i).map (fun i=>(i.zero,i.size,i.bytes))=some (z,k,b)):(P.info? i).map (·.size)=some k:=by
 cases hq:P.info? i with
 |none=>simp[hq]at h
 |some x=>simp[hq]at h;simp[h]
theorem UQ{P:Program}{i:Nat}{z:Option Value}{k b:Nat}(h:(P.info? i).map (fun i=>(i.zero,i.size,i.bytes))=some (z,k,b)):(P.info? i).map (fun i=>(i.size,i.zero))=some (k,z):=by
 cases hq:P.info? i with
 |none=>simp[hq]at h
 |some x=>simp[hq]at h;simp[h]
theorem sj{P:Program}{t:Nat}{z:List Value}{tg:List (Option Tag)}{fo:List Nat}{fs:Array Field}{b:Nat}(hu:P.underlying t=some (.struct fs))(hi:(P.info? t).map (fun i=>(i.zero,i.size,i.bytes))=some (some (.agg z.toArray),z.length,b))(hz:z.all (·.oneCell')=true)(hf:wF P z.length fs.toList fo=true):cG P t (.st z tg fo):=
 ⟨fs,hu,UQ hi,fun v hv=>List.all_eq_true.1 hz v hv,fun f k h=>by obtain⟨fd,h1,h2⟩:=(rS hf).1 f k h;exact⟨fd,by simpa using h1,h2⟩,(rS hf).2⟩
theorem fC{P:Program}{i:Nat}(h:(P.info? i).map (fun i=>Nat.beq i.size 1)=some true):(P.info? i).map (·.size)=some 1:=by
 cases hq:P.info? i with
 |none=>simp[hq]at h
 |some x=>simp[hq]at h;simp[h]
def tys:List (Nat×TK):= [(3, .int .i64),
 (2, .int .i64),
 (21, .int .i32),
 (5, .int .u8),
 (214, .int .u32),
 (170, .int .u64),
 (12, .int .u64),
 (4, .bool),
 (9, .str),
 (86, .st [.slice none 0 0] [some (.sl .u8)] [0]),
 (110, .st [.int .i64 0, .slice none 0 0] [none,some (.sl .u8)] [0,1]),
 (52, .st [.int .i64 0, .int .i64 0, .int .i64 0, .slice none 0 0, .int .i64 0] [none,none,none,some .aM,none] [0,1,2,3,4]),
 (113, .st [.int .i64 0, .slice none 0 0] [none,some (.sl .u8)] [0,1]),
 (28, .st [.int .i64 0, .slice none 0 0] [none,some .aJ] [0,1]),
 (56, .st [.int .i64 0, .int .i64 0, .int .i64 0, .int .i64 0, .slice none 0 0, .int .i64 0, .slice none 0 0, .int .i64 0] [none,none,none,none,some (.sl .u8),none,some (.sl .u8),none] [0,1,2,3,4,5,6,7]),
 (58, .st [.int .i64 0, .int .i64 0, .int .i64 0, .int .i64 0, .slice none 0 0, .int .i64 0, .slice none 0 0, .int .i64 0, .int .i64 0, .int .i64 0, .int .i64 0, .int .i64 0, .slice none 0 0, .int .i64 0, .slice none 0 0, .int .i64 0] [none,none,none,none,some (.sl .u8),none,some (.sl .u8),none,none,none,none,none,some (.sl .u8),none,some (.sl .u8),none] [0,8]),
 (31, .st [.int .i64 0, .slice none 0 0, .slice none 0 0, .int .i64 0, .slice none 0 0, .int .i64 0, .int .i64 0, .int .i64 0, .slice none 0 0, .int .i64 0] [none,some .aX,some .bg,none,some .aJ,none,none,none,some .int,none] [0,1,2,3,5,6,7,8,9]),
 (120, .st [.int .i64 0, .int .i64 0, .int .i64 0, .int .i64 0, .int .i64 0] [none,none,none,none,none] [0,1,2,3,4]),
 (143, .st [.int .i64 0, .slice none 0 0] [none,some .u8] [0,1]),
 (131, .st [.int .i64 0, .int .i64 0, .slice none 0 0, .slice none 0 0, .int .i64 0] [none,none,some .int,some .u8,none] [0,1,2,3,4]),
 (29, .sl .int 3),
 (22, .sl .u8 5),
 (68, .sl .str 9),
 (54, .sl (.sl .u8) 22),
 (163, .sl (.sl .int) 29),
 (83, .sl .DB 86),
 (50, .sl .aM 110),
 (24, .sl .aX 52),
 (26, .sl .aJ 113),
 (25, .sl .bg 58),
 (80, .sl .dG 120),
 (162, .sl .cA 131)]
def Γ(t:Nat):TK:=match look tys t with|some k=>k|none=> .other
def ty:Tag→Nat
 | .int=>3
 | .u8=>5
 | .str=>9
 | (.sl .u8)=>22
 | (.sl .int)=>29
 | (.sl (.sl .u8))=>54
 | .DB=>86
 | .aM=>110
 | .aX=>52
 | .aJ=>113
 | .iC=>28
 | .dK=>56
 | .bg=>58
 | .aV=>31
 | .dG=>120
 | .Plain=>143
 | .cA=>131
 |_=>1000000000
theorem X4:cG Tryz.prog 3 (.int .i64):=Tryz.underlying3
theorem X5:cG Tryz.prog 2 (.int .i64):=Tryz.underlying2
theorem UR:cG Tryz.prog 21 (.int .i32):=Tryz.underlying21
theorem X6:cG Tryz.prog 5 (.int .u8):=Tryz.underlying5
theorem Rc:cG Tryz.prog 214 (.int .u32):=Tryz.underlying214
theorem Rd:cG Tryz.prog 170 (.int .u64):=Tryz.underlying170
theorem US:cG Tryz.prog 12 (.int .u64):=Tryz.underlying12
theorem X7:cG Tryz.prog 4 (.bool):=Tryz.underlying4
theorem X8:cG Tryz.prog 9 (.str):=Tryz.underlying9
theorem UT:cG Tryz.prog 86 (.st [.slice none 0 0] [some (.sl .u8)] [0]):=sj Tryz.underlying86 K2 rfl (by kernel_rfl)
theorem Re:cG Tryz.prog 110 (.st [.int .i64 0, .slice none 0 0] [none,some (.sl .u8)] [0,1]):=sj Tryz.underlying110 GD rfl (by kernel_rfl)
theorem UU:cG Tryz.prog 52 (.st [.int .i64 0, .int .i64 0, .int .i64 0, .slice none 0 0, .int .i64 0] [none,none,none,some .aM,none] [0,1,2,3,4]):=sj Tryz.underlying52 K3 rfl (by kernel_rfl)
theorem Rf:cG Tryz.prog 113 (.st [.int .i64 0, .slice none 0 0] [none,some (.sl .u8)] [0,1]):=sj Tryz.underlying113 GF rfl (by kernel_rfl)
theorem UW:cG Tryz.prog 28 (.st [.int .i64 0, .slice none 0 0] [none,some .aJ] [0,1]):=sj Tryz.underlying28 Q9 rfl (by kernel_rfl)
theorem UX:cG Tryz.prog 56 (.st [.int .i64 0, .int .i64 0, .int .i64 0, .int .i64 0, .slice none 0 0, .int .i64 0, .slice none 0 0, .int .i64 0] [none,none,none,none,some (.sl .u8),none,some (.sl .u8),none] [0,1,2,3,4,5,6,7]):=sj Tryz.underlying56 Ra rfl (by kernel_rfl)
theorem UY:cG Tryz.prog 58 (.st [.int .i64 0, .int .i64 0, .int .i64 0, .int .i64 0, .slice none 0 0, .int .i64 0, .slice none 0 0, .int .i64 0, .int .i64 0, .int .i64 0, .int .i64 0, .int .i64 0, .slice none 0 0, .int .i64 0, .slice none 0 0, .int .i64 0] [none,none,none,none,some (.sl .u8),none,some (.sl .u8),none,none,none,none,none,some (.sl .u8),none,some (.sl .u8),none] [0,8]):=sj Tryz.underlying58 K4 rfl (by kernel_rfl)
theorem UZ:cG Tryz.prog 31 (.st [.int .i64 0, .slice none 0 0, .slice none 0 0, .int .i64 0, .slice none 0 0, .int .i64 0, .int .i64 0, .int .i64 0, .slice none 0 0, .int .i64 0] [none,some .aX,some .bg,none,some .aJ,none,none,none,some .int,none] [0,1,2,3,5,6,7,8,9]):=sj Tryz.underlying31 Rb rfl (by kernel_rfl)
theorem Rg:cG Tryz.prog 120 (.st [.int .i64 0, .int .i64 0, .int .i64 0, .int .i64 0, .int .i64 0] [none,none,none,none,none] [0,1,2,3,4]):=sj Tryz.underlying120 GG rfl (by kernel_rfl)
theorem Rh:cG Tryz.prog 143 (.st [.int .i64 0, .slice none 0 0] [none,some .u8] [0,1]):=sj Tryz.underlying143 Mv rfl (by kernel_rfl)
theorem Ri:cG Tryz.prog 131 (.st [.int .i64 0, .int .i64 0, .slice none 0 0, .slice none 0 0, .int .i64 0] [none,none,some .int,some .u8,none] [0,1,2,3,4]):=sj Tryz.underlying131 GH rfl (by kernel_rfl)
theorem U0:cG Tryz.prog 29 (.sl .int 3):=⟨Tryz.underlying29,qO WH⟩
theorem U1:cG Tryz.prog 22 (.sl .u8 5):=⟨Tryz.underlying22,qO WI⟩
theorem U2:cG Tryz.prog 68 (.sl .str 9):=⟨Tryz.underlying68,qO WJ⟩
theorem U3:cG Tryz.prog 54 (.sl (.sl .u8) 22):=⟨Tryz.underlying54,qO Q7⟩
theorem Rj:cG Tryz.prog 163 (.sl (.sl .int) 29):=⟨Tryz.underlying163,qO Q8⟩
theorem U4:cG Tryz.prog 83 (.sl .DB 86):=⟨Tryz.underlying83,qO K2⟩
theorem U5:cG Tryz.prog 50 (.sl .aM 110):=⟨Tryz.underlying50,qO GD⟩
theorem U6:cG Tryz.prog 24 (.sl .aX 52):=⟨Tryz.underlying24,qO K3⟩
theorem U7:cG Tryz.prog 26 (.sl .aJ 113):=⟨Tryz.underlying26,qO GF⟩
theorem U8:cG Tryz.prog 25 (.sl .bg 58):=⟨Tryz.underlying25,qO K4⟩
theorem U9:cG Tryz.prog 80 (.sl .dG 120):=⟨Tryz.underlying80,qO GG⟩
theorem Rk:cG Tryz.prog 162 (.sl .cA 131):=⟨Tryz.underlying162,qO GH⟩
set_option maxRecDepth 100000 in
theorem kinds: ∀e,e∈tys→cG Tryz.prog e.1 e.2:=by
 simp only[tys,List.forall_mem_cons]
 exact⟨X4,X5,UR,X6,Rc,Rd,US,X7,X8,UT,Re,UU,Rf,UW,UX,UY,UZ,Rg,Rh,Ri,U0,U1,U2,U3,Rj,U4,U5,U6,U7,U8,U9,Rk,by simp⟩
set_option maxRecDepth 100000 in
theorem aax: ∀e,e∈tys→(∀z tg fo,e.2≠ .st z tg fo)→(Tryz.prog.info? e.1).map (·.size)=some 1:=by
 simp only[tys,List.forall_mem_cons]
 refine⟨fun _=>fC (by kernel_rfl),fun _=>fC (by kernel_rfl),fun _=>fC (by kernel_rfl),fun _=>fC (by kernel_rfl),fun _=>fC (by kernel_rfl),fun _=>fC (by kernel_rfl),fun _=>fC (by kernel_rfl),fun _=>fC (by kernel_rfl),fun _=>fC (by kernel_rfl),fun h=>absurd rfl (h _ _ _),fun h=>absurd rfl (h _ _ _),fun h=>absurd rfl (h _ _ _),fun h=>absurd rfl (h _ _ _),fun h=>absurd rfl (h _ _ _),fun h=>absurd rfl (h _ _ _),fun h=>absurd rfl (h _ _ _),fun h=>absurd rfl (h _ _ _),fun h=>absurd rfl (h _ _ _),fun h=>absurd rfl (h _ _ _),fun h=>absurd rfl (h _ _ _),fun _=>fC (by kernel_rfl),fun _=>fC (by kernel_rfl),fun _=>fC (by kernel_rfl),fun _=>fC (by kernel_rfl),fun _=>fC (by kernel_rfl),fun _=>fC (by kernel_rfl),fun _=>fC (by kernel_rfl),fun _=>fC (by kernel_rfl),fun _=>fC (by kernel_rfl),fun _=>fC (by kernel_rfl),fun _=>fC (by kernel_rfl),fun _=>fC (by kernel_rfl),by simp⟩
theorem X:Ctx Tryz.prog ty Γ where
 kind:=fun t=>by
  unfold Γ
  split
  ·rename_i k hk;exact kinds (t,k) (dQ hk)
  ·trivial
 one:=fun t h1 h2=>by
  unfold Γ at h1 h2
  split at h1
  ·rename_i k hk;exact aax (t,k) (dQ hk) h1
  ·rename_i hk;rw[hk]at h2;exact absurd rfl h2
theorem aP(t:Tag)(h:ty t<1000000000):El Tryz.prog ty t:=by
 unfold ty at h
 split at h
 ·exact WH
 ·exact WI
 ·exact WJ
 ·exact Q7
 ·exact Q8
 ·exact X2
 ·exact K2
 ·exact GD
 ·exact K3
 ·exact GF
 ·exact Q9
 ·exact Ra
 ·exact K4
 ·exact Rb
 ·exact GG
 ·exact Mv
 ·exact GH
 ·exact absurd h (by decide)
abbrev So:=Sound ty Tryz.prog
end
section
theorem MO:Tryz.prog.follows .mixedOrders=true:=by kernel_rfl
theorem nb:(∀(p:Prop) [Decidable p],(decide p=true)=p)∧(∀(p:Prop) [Decidable p],(decide p=false)= ¬p)∧(∀b:Bool,((!b)=true)=(b=false))∧(∀b:Bool,((!b)=false)=(b=true))∧
  (∀(α:Type) [BEq α] [LawfulBEq α] (a b:α),((a==b)=true)=(a=b))∧(∀(α:Type) [BEq α] [LawfulBEq α] (a b:α),((a !=b)=true)=(¬a=b))∧(∀(α:Type) [BEq α] [LawfulBEq α] (a b:α),((a==b)=false)=(¬a=b))∧(∀(α:Type) [BEq α] [LawfulBEq α] (a b:α),((a !=b)=false)=(a=b))∧
  (∀(α:Type) (a b:α),(a≠b)= ¬a=b)∧(∀a b:Int,(a>b)=(b<a))∧(∀a b:Int,(a≥b)=(b≤a))∧(∀a b:Nat,(a>b)=(b<a))∧(∀a b:Nat,(a≥b)=(b≤a))∧(∀a b:Int,(¬a<b)=(b≤a))∧(∀a b:Int,(¬a≤b)=(b<a))∧
  (∀(p:Prop) [Decidable p],(¬ ¬p)=p)∧(∀n:Nat,(n:Int).toNat=n)∧(∀m n:Nat,((m:Int)<n)=(m<n))∧(∀m n:Nat,((m:Int)≤n)=(m≤n))∧(∀a b:Nat,(¬a<b)=(b≤a))∧(∀a b:Nat,(¬a≤b)=(b<a))∧
  (∀(p:Prop) [Decidable p] (b:Bool),(if p then b else false)=(decide p&&b))∧(∀(p:Prop) [Decidable p] (b:Bool),(if p then true else b)=(decide p||b))∧(∀(p:Prop) [Decidable p] (b:Bool),(if p then false else b)=(!decide p&&b))∧(∀(p:Prop) [Decidable p] (b:Bool),(if p then b else true)=(!decide p||b))∧
  (∀a b:Bool,((a&&b)=true)=(a=true∧b=true))∧(∀a b:Bool,((a||b)=true)=(a=true∨b=true))∧(∀a b:Bool,((a&&b)=false)=(a=false∨b=false))∧(∀a b:Bool,((a||b)=false)=(a=false∧b=false))∧(∀(b:Bool),decide (b=true)=b):=by
 refine⟨by simp,by simp,by simp,by simp,fun _ _ _ a b=>propext beq_iff_eq,fun _ _ _ a b=>propext bne_iff_ne,fun _ _ _ a b=>propext beq_eq_false_iff_ne,fun _ _ _ a b=>propext bne_eq_false_iff_eq,by simp,by simp,by simp,by simp,by simp,by simp,by simp,by simp,by simp,by simp,by simp,by simp,by simp,by simp,by simp,by simp,by simp,by simp,by simp,by simp,by simp,by simp⟩
theorem lens:(∀n:Nat,(n:Int).toNat=n)∧(∀(α:Type) (a b:List α),(a++b).length=a.length+b.length)∧(∀(α:Type) (a:α),[a].length=1)∧(∀(α:Type) (a:α) (l:List α),(a::l).length=l.length+1)∧(∀(α:Type),([]:List α).length=0)∧(∀(α:Type) (n:Nat) (a:α),(List.replicate n a).length=n)∧
  (∀(α:Type) (l:List α) (n:Nat) (a:α),(l.set n a).length=l.length)∧(∀(α β:Type) (f:α→β) (l:List α),(l.map f).length=l.length)∧(∀(α:Type) (l:List α) (n:Nat),(l.take n).length=min n l.length)∧(∀(α:Type) (l:List α) (n:Nat),(l.drop n).length=l.length-n)∧(∀n:Nat,(List.range n).length=n):=by
 refine⟨by simp,by simp,by simp,by simp,by simp,by simp,by simp,by simp,by simp,by simp,by simp⟩
theorem aQ{p:Prop}{l:List Prop}(h:p)(k:jX l):jX (p::l):=⟨h,k⟩
theorem aK:jX []:=True.intro
theorem bq{α:Type}(l:List α)(k:Nat)(d:α)(h:k<l.length):l.take (k+1)=l.take k++ [l.getD k d]:=by
 rw[List.take_add_one,List.getD_eq_getElem?_getD,List.getElem?_eq_getElem h];rfl
theorem bC(a:Int)(n:Nat)(h:a=n)(h2:n<9223372036854775807):IntKind.i64.wrap (a+1)=((n+1:Nat):Int):=by
 subst h;rw[IntWalk.i64_in _ (by omega)];omega
theorem IN{P:Program}{ty:Tag→Nat}{f:FuncId}{xs:List S1}{v:Value}(h:Sound ty P f xs [.a (.lit v)]){w:World}{us:List Value}(ha:bA (Gc w) xs us)(hA:F5 w:=by first|assumption|exact trivial):Calls P f us.toArray w (PT w v):=by
 refine(h.2 w us hA ha).mono ?_
 rintro e w' ⟨u,fp,rfl,hb,_,f1,f2,⟨rfl,_⟩,_⟩
 exact⟨rfl,hb⟩
theorem cB{P:Program}{ty:Tag→Nat}{w0:cm}{c:Code}{Q:Post}{st:St}(d:Nat){t:Tag}{l:List (T t)}(h:look st.sl d=some (.one (.a (.sl t l))))(k:l.length≤9223372036854775807→W P ty w0 c Q st):W P ty w0 c Q st:=by
 intro a w iv
 obtain⟨env,g⟩:=iv.good
 obtain⟨fp,⟨oa,cap,_,h1,h2,_⟩,_⟩:=g.slot d _ h
 have e:maxLen=9223372036854775807:=by decide
 exact k (by omega) a w iv
theorem bH{P:Program}{ty:Tag→Nat}{w0:cm}{c:Code}{Q:Post}{st:St}(d i:Nat){cs:List V}{t:Tag}{l:List (T t)}(h:look st.sl d=some (.one (.agg cs)))(hc:cs[i]? =some (.sl t l))(k:l.length≤9223372036854775807→W P ty w0 c Q st):W P ty w0 c Q st:=by
 intro a w iv
 obtain⟨env,g⟩:=iv.good
 obtain⟨us,_,hr⟩:=g.slot d _ h
 obtain⟨u,_,fp,⟨oa,cap,_,h1,h2,_⟩,_⟩:=hr.at hc
 have e:maxLen=9223372036854775807:=by decide
 exact k (by omega) a w iv
theorem l9{α:Type} [DecidableEq α](a b:List α)(d:α)(k:Nat)(ha:k<a.length)(hb:k<b.length)(h:a.take k=b.take k)(he:a.getD k d=b.getD k d):a.take (k+1)=b.take (k+1):=by
 rw[bq a k d ha,bq b k d hb,h,he]
theorem vp{α:Type} [BEq α] [LawfulBEq α](a b:List α)(d:α)(k:Nat)(he:a.getD k d≠b.getD k d):(a==b)=false:=by
 rw[beq_eq_false_iff_ne];rintro rfl;exact he rfl
theorem qg{α:Type} [BEq α] [LawfulBEq α](a b:List α)(k:Nat)(hk:k=a.length)(hl:a.length=b.length)(h:a.take k=b.take k):(a==b)=true:=by
 rw[List.take_of_length_le (by omega),List.take_of_length_le (by omega)]at h
 rw[h];simp
theorem zf{α:Type} [BEq α] [LawfulBEq α](a b:List α)(hl:(a.length:Int)≠b.length):(a==b)=false:=by
 rw[beq_eq_false_iff_ne];rintro rfl;exact hl rfl
theorem Rl{x y:UInt8}(h:(x.toNat:Int)=y.toNat):x=y:=by
 have:x.toNat=y.toNat:=by omega
 exact UInt8.toNat_inj.1 this
end
section
theorem Rm{α:Type}(f:α→Nat)(l:List α)(d:α)(k:Nat)(h:k<l.length):((l.take (k+1)).map f).sum=((l.take k).map f).sum+f (l.getD k d):=
 HT l f k _ (by rw[List.getD_eq_getElem?_getD,List.getElem?_eq_getElem h];rfl)
theorem Va(x:UInt8):UInt8.ofNat (Int.toNat ((x.toNat:Nat):Int))=x:=by simp
theorem eP(n:Int):0≤IntKind.u8.wrap n∧IntKind.u8.wrap n<256:=by
 unfold IntKind.wrap
 simp only[IntKind.signed,IntKind.bits]
 simp
 omega
theorem jY(x:UInt8):0≤((x.toNat:Nat):Int)∧((x.toNat:Nat):Int)<256:=by
 have:=x.toNat_lt
 omega
theorem aay(n:Int):(((UInt8.ofNat (IntKind.u8.wrap n).toNat).toNat:Nat):Int)=IntKind.u8.wrap n:=by
 have h:=eP n
 generalize IntKind.u8.wrap n=m at h
 simp
 omega
section
variable{α:Type}{mk:Int→α→α}{mn:α→Nat}
end
end
section
theorem bh{a:Int}(h: -9223372036854775808≤a∧a≤9223372036854775807):IntKind.i64.wrap a=a:=IntWalk.i64_in _ (by omega)
theorem vr(n:Int):IntKind.u8.wrap n=n % 256:=by
 unfold IntKind.wrap
 simp only[IntKind.signed,IntKind.bits]
 simp
def b8(n:Int):UInt8:=UInt8.ofNat (IntKind.u8.wrap n).toNat
theorem lg(n:Int):((b8 n).toNat:Int)=n % 256:=by unfold b8;rw[aay,vr]
theorem GI{x y:UInt8}(h:(x.toNat:Int)=y.toNat):x=y:=Rl h
theorem ofNat_toNat(n:Int)(h0:0≤n)(h1:n<256):((UInt8.ofNat n.toNat).toNat:Int)=n:=by
 simp;omega
theorem ofNat_eq{n:Int}{x:UInt8}(h0:0≤n)(h1:n<256)(h:n=x.toNat):UInt8.ofNat n.toNat=x:=by
 apply GI;rw[ofNat_toNat n h0 h1,h]
theorem sk{a b:Int}(h:a % 256=b % 256):b8 a=b8 b:=by
 apply GI;rw[lg,lg,h]
theorem Vb(x:UInt8):b8 x.toNat=x:=by
 apply GI;rw[lg];have:=x.toNat_lt;omega
theorem dn{a b:Int}(h:0≤a):a.tmod b=a % b:=Int.tmod_eq_emod_of_nonneg h
theorem xg{a b:Int}(h:0≤a):a.tdiv b=a/b:=Int.tdiv_eq_ediv_of_nonneg h
theorem md_eq(p q:Int)(h1:1≤q)(h2:q≤1000000000000):(IntKind.i64.wrap (p.tmod q+q)).tmod q=p % q:=by
 have hb: -q<p.tmod q∧p.tmod q<q:=⟨Int.lt_tmod_of_pos p (by omega),Int.tmod_lt_of_pos p (by omega)⟩
 rw[bh (by omega),dn (by omega),Int.add_emod_right]
 rcases Int.le_total 0 p with h|h
 ·rw[dn h,Int.emod_emod_of_dvd _ (Int.dvd_refl q)]
 ·have e:p.tmod q=p-q*p.tdiv q:=by have:=Int.tmod_add_mul_tdiv p q;omega
  rw[e,Int.sub_mul_emod_self_left]
def hs1(h v:Int):Int:=(h*1000003+v % 2147483647+13)% 2147483647
def hsh(l:List Int):Int:=l.foldl hs1 11
def kh(k:Int)(l:List Int):Int:=hsh (k::(l++ [k]))
theorem Oy(h v:Int):0≤hs1 h v∧hs1 h v<2147483647:=⟨Int.emod_nonneg _ (by decide),Int.emod_lt_of_pos _ (by decide)⟩
theorem qh{α β:Type}(f:β→α→β)(b:β)(l:List α)(k:Nat)(d:α)(h:k<l.length):(l.take (k+1)).foldl f b=f ((l.take k).foldl f b) (l.getD k d):=by
 rw[bq l k d h,List.foldl_append];rfl
theorem zh: ∀l:List Int,0≤hsh l∧hsh l<2147483647:=by
 have g: ∀(l:List Int) (a:Int),(0≤a∧a<2147483647)→0≤l.foldl hs1 a∧l.foldl hs1 a<2147483647:=by
  intro l
  induction l with
  |nil=>intro a h;exact h
  |cons x r ih=>intro a _;exact ih _ (Oy a x)
 exact fun l=>g l 11 (by decide)
theorem c8(k:Int)(l:List Int):0≤kh k l∧kh k l<2147483647:=zh _
theorem X9{h v:Int}(h0:0≤h)(h1:h<2147483647):(IntKind.i64.wrap (IntKind.i64.wrap (IntKind.i64.wrap (h*1000003)+v % 2147483647)+13)).tmod 2147483647=hs1 h v:=by
 have hv:0≤v % 2147483647∧v % 2147483647<2147483647:=⟨Int.emod_nonneg _ (by decide),Int.emod_lt_of_pos _ (by decide)⟩
 rw[bh (a:=h*1000003) (by omega),bh (a:=h*1000003+v % 2147483647) (by omega),bh (by omega),dn (by omega)]
 rfl
def AM(n:Int):Int:=if n=0 then 1 else n
theorem BD{n:Int}(h:0≤n):(if n>1 then n else 1)=AM n:=by
 unfold AM;split<;>split<;>omega
theorem tV{n:Int}(h:0≤n∧n<2147483647):1≤AM n∧AM n<2147483647:=by unfold AM;split<;>omega
theorem aaz{h:Int}(h0:0≤h)(h1:h<2147483647):0≤h*h∧h*h≤4611686009837453316:=by
 have:=Int.mul_le_mul (show h≤2147483646 by omega) (show h≤2147483646 by omega) h0 (by decide)
 exact⟨Int.mul_nonneg h0 h0,by omega⟩
def cs(s k:Int):Int:=(kh s [47,k]*kh s [47,k]+5)% 2147483647
theorem so(s k:Int):0≤cs s k∧cs s k<2147483647:=⟨Int.emod_nonneg _ (by decide),Int.emod_lt_of_pos _ (by decide)⟩
theorem cs_eq{h:Int}(h0:0≤h)(h1:h<2147483647):(IntKind.i64.wrap (IntKind.i64.wrap (h*h)+5)).tmod 2147483647=(h*h+5)% 2147483647:=by
 have:=aaz h0 h1
 rw[bh (a:=h*h) (by omega),bh (by omega),dn (by omega)]
theorem ac6{x:Int}(h:0≤x):IntKind.i64.wrap (BitVec.ofInt IntKind.i64.bits x&&&BitVec.ofInt IntKind.i64.bits 1).toNat=x % 2:=by
 obtain⟨n,rfl⟩:=Int.eq_ofNat_of_zero_le h
 have e:(BitVec.ofInt IntKind.i64.bits (n:Int)&&&BitVec.ofInt IntKind.i64.bits 1).toNat=n % 2:=by
  rw[BitVec.toNat_and]
  have h1:(BitVec.ofInt IntKind.i64.bits 1).toNat=1:=by decide
  have h2:(BitVec.ofInt IntKind.i64.bits (n:Int)).toNat=n % 2^64:=by
   rw[BitVec.ofInt_natCast,BitVec.toNat_ofNat];rfl
  rw[h1,h2,Nat.and_one_is_mod]
  omega
 rw[e,bh (by omega)]
 omega
def rsb(h:Int):Int:=h*h % 2147483647/512 % 2
theorem Ya{h:Int}(h0:0≤h)(h1:h<2147483647):IntKind.i64.wrap (BitVec.ofInt IntKind.i64.bits (((IntKind.i64.wrap (h*h)).tmod 2147483647).fdiv (2^(min (Int.toNat 9) IntKind.i64.bits)))&&&BitVec.ofInt IntKind.i64.bits 1).toNat=rsb h:=by
 have:=aaz h0 h1
 have e:(2:Int)^(min (Int.toNat 9) IntKind.i64.bits)=512:=by decide
 rw[bh (a:=h*h) (by omega),dn (by omega),e,Int.fdiv_eq_ediv_of_nonneg _ (by decide)]
 have hm:0≤h*h % 2147483647:=Int.emod_nonneg _ (by decide)
 rw[ac6 (by omega)]
 rfl
theorem Oz(h:Int):rsb h=0∨rsb h=1:=by unfold rsb;omega
def cH:List UInt8→List UInt8→List UInt8
 | [],b=>b
 |a,[]=>a
 |x::a,y::b=>(x^^^y)::cH a b
theorem gF(a:List UInt8):cH a []=a:=by cases a<;>rfl
theorem kS(a:List UInt8):cH [] a=a:=by cases a<;>rfl
theorem ck: ∀a b:List UInt8,(cH a b).length=max a.length b.length
 | [],b=>by simp[cH]
 |x::a,[]=>by simp[cH]
 |x::a,y::b=>by simp[cH,ck a b]
theorem Fe: ∀a b:List UInt8,cH a b=cH b a
 | [],b=>by rw[kS,gF]
 |x::a,[]=>by rw[kS,gF]
 |x::a,y::b=>by rw[cH,cH,Fe a b,UInt8.xor_comm]
theorem Rn(x y:UInt8):UInt8.ofNat (IntKind.u8.wrap ((BitVec.ofInt IntKind.u8.bits (x.toNat:Int)^^^BitVec.ofInt IntKind.u8.bits (y.toNat:Int)).toNat:Int)).toNat=x^^^y:=by
 have h:(BitVec.ofInt IntKind.u8.bits (x.toNat:Int)^^^BitVec.ofInt IntKind.u8.bits (y.toNat:Int)).toNat=(x^^^y).toNat:=by
  rw[BitVec.ofInt_natCast,BitVec.ofInt_natCast,BitVec.toNat_xor,BitVec.toNat_ofNat,BitVec.toNat_ofNat,UInt8.toNat_xor]
  have hx:=x.toNat_lt
  have hy:=y.toNat_lt
  show x.toNat % 2^8^^^y.toNat % 2^8=_
  rw[Nat.mod_eq_of_lt (by omega),Nat.mod_eq_of_lt (by omega)]
 rw[h,vr]
 apply ofNat_eq<;>have:=(x^^^y).toNat_lt<;>omega
def oT(l:List UInt8)(i:Nat):UInt8:=l.getD i 0
theorem oU: ∀(a b:List UInt8) (k:Nat),k<max a.length b.length→(cH a b).take (k+1)=(cH a b).take k++ [oT a k^^^oT b k]
 | [],b,k,h=>by
   rw[kS,bq b k 0 (by simpa using h)]
   simp[oT]
 |x::a,[],k,h=>by
  rw[gF,bq (x::a) k 0 (by simpa using h)]
  simp[oT]
 |x::a,y::b,0,h=>by simp[cH,oT]
 |x::a,y::b,k+1,h=>by
  rw[cH,List.take_succ_cons,List.take_succ_cons,oU a b k (by simp at h;omega)]
  simp[oT]
theorem iW{α:Type}(l:List α)(k:Nat)(d:α)(h:k<l.length):l.drop k=l.getD k d::l.drop (k+1):=by
 rw[List.drop_eq_getElem_cons h,List.getD_eq_getElem?_getD,List.getElem?_eq_getElem h];rfl
theorem sq{α:Type}(f l:List α)(k:Nat)(d y:α)(h:k<l.length)(hf:k<f.length)(hy:f.getD k d=y):(f.take k++l.drop k).set k y=f.take (k+1)++l.drop (k+1):=by
 have hk:(f.take k).length=k:=by rw[List.length_take];omega
 rw[List.set_append_right _ _ (by omega),hk,Nat.sub_self,iW l k d h,List.set_cons_zero,bq f k d hf,List.append_assoc,hy]
 rfl
theorem jr{α:Type}(f l:List α)(k:Nat)(d:α)(hf:k≤f.length):(f.take k++l.drop k).getD k d=l.getD k d:=by
 have hk:(f.take k).length=k:=by rw[List.length_take];omega
 rw[List.getD_eq_getElem?_getD,List.getElem?_append_right (by omega),hk,Nat.sub_self,List.getElem?_drop,List.getD_eq_getElem?_getD,Nat.add_zero]
theorem jt{α:Type}(f l:List α)(k:Nat)(hf:f.length=l.length)(h:k≤l.length):(f.take k++l.drop k).length=l.length:=by
 rw[List.length_append,List.length_take,List.length_drop];omega
theorem lp{α β:Type}(f:α→β)(l:List α)(k:Nat)(d:α)(h:k<l.length):(l.take (k+1)).map f=(l.take k).map f++ [f (l.getD k d)]:=by
 rw[bq l k d h,List.map_append];rfl
theorem vu{β:Type}(f:Nat→β)(k:Nat):(List.range (k+1)).map f=(List.range k).map f++ [f k]:=by
 rw[List.range_succ,List.map_append];rfl
theorem CZ{α:Type}(p:α→Bool)(l:List α)(k:Nat)(d:α)(h:k<l.length):(l.take (k+1)).all p=((l.take k).all p&&p (l.getD k d)):=by
 rw[bq l k d h,List.all_append];simp
theorem Ro{α:Type}(p:α→Bool)(l:List α)(k:Nat)(d:α)(h:k<l.length):(l.take (k+1)).any p=((l.take k).any p||p (l.getD k d)):=by
 rw[bq l k d h,List.any_append];simp
theorem BF{α:Type}(l:List α)(p:α→Bool)(d:α)(k:Nat)(h:k<l.length)(h2:p (l.getD k d)=true):l.any p=true:=by
 rw[List.any_eq_true]
 refine⟨l.getD k d,?_,h2⟩
 rw[List.getD_eq_getElem?_getD,List.getElem?_eq_getElem h];simp
theorem K5{α:Type}(l:List α)(p:α→Bool)(d:α)(k:Nat)(h:k<l.length)(h2:p (l.getD k d)=false):l.all p=false:=by
 rw[List.all_eq_false]
 refine⟨l.getD k d,?_,by rw[h2];decide⟩
 rw[List.getD_eq_getElem?_getD,List.getElem?_eq_getElem h];simp
theorem K6{α:Type}(l:List α)(k:Nat)(d:α)(h:k<l.length):l[k]? =some (l.getD k d):=by
 rw[List.getD_eq_getElem?_getD,List.getElem?_eq_getElem h];rfl
theorem bl{α:Type}(l:List α)(k:Nat):(l.take k).length≤k:=by rw[List.length_take];omega
def inr(x lo hi:Int):Bool:=if decide (x≥lo)then decide (x≤hi)else false
theorem bN{x lo hi:Int}:(inr x lo hi=true)=(lo≤x∧x≤hi):=by simp[inr]
theorem WK{x lo hi:Int}:(inr x lo hi=false)= ¬(lo≤x∧x≤hi):=by rw[←bN];simp
theorem OA{α:Type}{l:List α}:(l.isEmpty=true)=(l= []):=by simp
theorem aR:((∀(p:Prop) [Decidable p],(decide p=true)=p)∧(∀(p:Prop) [Decidable p],(decide p=false)= ¬p)∧(∀b:Bool,((!b)=true)=(b=false))∧(∀b:Bool,((!b)=false)=(b=true))∧(∀(α:Type) [BEq α] [LawfulBEq α] (a b:α),((a==b)=true)=(a=b))∧(∀(α:Type) [BEq α] [LawfulBEq α] (a b:α),((a !=b)=true)=(¬a=b))∧(∀(α:Type) [BEq α] [LawfulBEq α] (a b:α),((a==b)=false)=(¬a=b))∧(∀(α:Type) [BEq α] [LawfulBEq α] (a b:α),((a !=b)=false)=(a=b))∧(∀(α:Type) (a b:α),(a≠b)= ¬a=b)∧(∀a b:Int,(a>b)=(b<a))∧(∀a b:Int,(a≥b)=(b≤a))∧(∀a b:Nat,(a>b)=(b<a))∧(∀a b:Nat,(a≥b)=(b≤a))∧(∀a b:Int,(¬a<b)=(b≤a))∧(∀a b:Int,(¬a≤b)=(b<a))∧(∀(p:Prop) [Decidable p],(¬ ¬p)=p)∧(∀n:Nat,(n:Int).toNat=n)∧(∀m n:Nat,((m:Int)<n)=(m<n))∧(∀m n:Nat,((m:Int)≤n)=(m≤n))∧(∀a b:Nat,(¬a<b)=(b≤a))∧(∀a b:Nat,(¬a≤b)=(b<a))∧(∀(p:Prop) [Decidable p] (b:Bool),(if p then b else false)=(decide p&&b))∧(∀(p:Prop) [Decidable p] (b:Bool),(if p then true else b)=(decide p||b))∧(∀(p:Prop) [Decidable p] (b:Bool),(if p then false else b)=(!decide p&&b))∧(∀(p:Prop) [Decidable p] (b:Bool),(if p then b else true)=(!decide p||b))∧(∀a b:Bool,((a&&b)=true)=(a=true∧b=true))∧(∀a b:Bool,((a||b)=true)=(a=true∨b=true))∧(∀a b:Bool,((a&&b)=false)=(a=false∨b=false))∧(∀a b:Bool,((a||b)=false)=(a=false∧b=false))∧(∀(b:Bool),decide (b=true)=b))∧(∀x lo hi:Int,(inr x lo hi=true)=(lo≤x∧x≤hi))∧(∀x lo hi:Int,(inr x lo hi=false)= ¬(lo≤x∧x≤hi))∧(∀(α:Type) (l:List α),(l.isEmpty=true)=(l= [])):=⟨nb,fun _ _ _=>bN,fun _ _ _=>WK,fun _ _=>OA⟩
theorem IQ(l:List Int)(k:Nat)(h:k<l.length):hsh (l.take (k+1))=(IntKind.i64.wrap (IntKind.i64.wrap (IntKind.i64.wrap (hsh (l.take k)*1000003)+(l.getD k (aB .int))% 2147483647)+13)).tmod 2147483647:=by
 rw[X9 (zh _).1 (zh _).2]
 exact qh hs1 11 l k _ h
def Ek(l:List UInt8):List Int:=(l.length:Int)::l.map fun c=>(c.toNat:Int)
theorem IS(l:List UInt8)(k:Nat)(h:k<l.length):(l.length:Int)::(l.take (k+1)).map (fun c=>(c.toNat:Int))=((l.length:Int)::(l.take k).map (fun c=>(c.toNat:Int)))++ [IntKind.i64.wrap ((l.getD k (aB .u8)).toNat:Int)]:=by
 have:=(l.getD k (aB .u8)).toNat_lt
 rw[bh (by omega),lp (fun c:UInt8=>(c.toNat:Int)) l k (aB .u8) h]
 rfl
def stream(s:Int)(n:Nat):List UInt8:=(List.range n).map fun i:Nat=>b8 (cs s (100+(i:Int))/256)
theorem dI(s:Int)(n:Nat):(stream s n).length=n:=by simp[stream]
theorem AN(s:Int)(k:Nat)(h:k≤1000):stream s (k+1)=stream s k++ [UInt8.ofNat (IntKind.u8.wrap (IntKind.i64.wrap ((cs s (IntKind.i64.wrap (100+(k:Int)))).tdiv 256))).toNat]:=by
 have h1:=so s (100+(k:Int))
 rw[bh (a:=100+(k:Int)) (by omega),xg h1.1,bh (by omega)]
 exact vu (fun i:Nat=>b8 (cs s (100+(i:Int))/256)) k
theorem IT{α:Type}(l:List (List α))(d:List α)(k:Nat)(h:k<l.length):((l.take (k+1)).map List.length).sum=((l.take k).map List.length).sum+(l.getD k d).length:=Rm List.length l d k h
theorem GJ{α:Type}(l:List (List α))(d:List α)(k:Nat)(h:k<l.length):(l.take (k+1)).flatten=(l.take k).flatten++l.getD k d:=by
 rw[bq l k d h,List.flatten_append];simp
theorem AO{α:Type}(l:List (List α))(k:Nat):(l.take k).flatten.length≤(l.map List.length).sum:=by
 rw[List.length_flatten];exact kY l List.length k
end
section
theorem ql{α:Type}(f l:List α)(k:Nat)(d y:α)(h:k<l.length)(hf:f.length=l.length)(hy:f.getD k d=y):f.take (k+1)++l.drop (k+1)=(f.take k++l.drop k).set k y:=(sq f l k d y h (by omega) hy).symm
theorem AP{α:Type}(f:List α)(k:Nat)(d y:α)(h:k<f.length)(hy:f.getD k d=y):f.take (k+1)=f.take k++ [y]:=by rw[bq f k d h,hy]
theorem mg{α:Type}(f l:List α)(k:Nat)(hf:f.length=l.length)(h:l.length≤k):f.take k++l.drop k=f:=by
 rw[List.take_of_length_le (by omega),List.drop_eq_nil_of_le h,List.append_nil]
theorem cL{β:Type}(n:Nat)(g:Nat→β)(k:Nat)(d:β)(h:k<n):((List.range n).map g).getD k d=g k:=by
 rw[List.getD_eq_getElem?_getD,List.getElem?_map,List.getElem?_range h];rfl
def gG(s:Int)(l:List UInt8):List UInt8:=(List.range l.length).map fun i:Nat=>b8 ((l.getD i (aB .u8)).toNat+kh s [(i:Int)]% 256)
theorem dF(s:Int)(l:List UInt8):(gG s l).length=l.length:=by simp[gG]
theorem xh(s:Int)(l:List UInt8)(k:Nat)(h:k<l.length):(gG s l).getD k (aB .u8)=b8 ((l.getD k (aB .u8)).toNat+kh s [(k:Int)]% 256):=cL _ _ k _ h
theorem OB(s:Int)(l:List UInt8)(k:Nat)(h:k<l.length):(gG s l).take (k+1)++l.drop (k+1)=((gG s l).take k++l.drop k).set k (UInt8.ofNat (IntKind.u8.wrap ((((gG s l).take k++l.drop k).getD k (aB .u8)).toNat+IntKind.u8.wrap ((kh s [(k:Int)]).tmod 256))).toNat):=by
 refine ql _ _ k (aB .u8) _ h (dF s l) ?_
 rw[xh s l k h,jr _ _ _ _ (by rw[dF];omega)]
 refine sk ?_
 have:=c8 s [(k:Int)]
 rw[vr ((kh s [(k:Int)]).tmod 256),dn this.1]
 omega
theorem OC(s:Int)(l:List UInt8)(k:Nat)(h:k<l.length):(gG s l).take (k+1)=(gG s l).take k++ [UInt8.ofNat (IntKind.u8.wrap ((IntKind.i64.wrap (IntKind.i64.wrap ((l.getD k (aB .u8)).toNat:Int)+(kh s [(k:Int)]).tmod 256)).tmod 256)).toNat]:=by
 refine AP _ k (aB .u8) _ (by rw[dF];exact h) ?_
 rw[xh s l k h]
 refine sk ?_
 have:=c8 s [(k:Int)]
 have hx:=(l.getD k (aB .u8)).toNat_lt
 rw[dn this.1,bh (a:=((l.getD k (aB .u8)).toNat:Int)) (by omega),bh (by omega),dn (by omega)]
 omega
def decr(s:Int)(l:List UInt8):List UInt8:=(List.range l.length).map fun i:Nat=>b8 ((l.getD i (aB .u8)).toNat-kh s [(i:Int)]% 256)
theorem lq(s:Int)(l:List UInt8):(decr s l).length=l.length:=by simp[decr]
theorem C1(s:Int)(l:List UInt8)(k:Nat)(h:k<l.length):(decr s l).getD k (aB .u8)=b8 ((l.getD k (aB .u8)).toNat-kh s [(k:Int)]% 256):=cL _ _ k _ h
theorem OD(s:Int)(l:List UInt8)(k:Nat)(h:k<l.length):(decr s l).take (k+1)++l.drop (k+1)=((decr s l).take k++l.drop k).set k (UInt8.ofNat (IntKind.u8.wrap ((((decr s l).take k++l.drop k).getD k (aB .u8)).toNat-IntKind.u8.wrap ((kh s [(k:Int)]).tmod 256))).toNat):=by
 refine ql _ _ k (aB .u8) _ h (lq s l) ?_
 rw[C1 s l k h,jr _ _ _ _ (by rw[lq];omega)]
 refine sk ?_
 have:=c8 s [(k:Int)]
 rw[vr ((kh s [(k:Int)]).tmod 256),dn this.1]
 omega
theorem OE(s:Int)(l:List UInt8)(k:Nat)(h:k<l.length):(decr s l).take (k+1)=(decr s l).take k++ [UInt8.ofNat (IntKind.u8.wrap ((IntKind.i64.wrap (IntKind.i64.wrap ((l.getD k (aB .u8)).toNat:Int)-(kh s [(k:Int)]).tmod 256))% 256)).toNat]:=by
 refine AP _ k (aB .u8) _ (by rw[lq];exact h) ?_
 rw[C1 s l k h]
 refine sk ?_
 have:=c8 s [(k:Int)]
 have hx:=(l.getD k (aB .u8)).toNat_lt
 rw[dn this.1,bh (a:=((l.getD k (aB .u8)).toNat:Int)) (by omega),bh (by omega)]
 omega
theorem Rs(a b:List UInt8)(k:Nat)(h:k<max a.length b.length):(cH a b).getD k (aB .u8)=a.getD k 0^^^b.getD k 0:=by
 have h1:=oU a b k h
 have h2:=bq (cH a b) k (aB .u8) (by rw[ck];exact h)
 rw[h1]at h2
 have:=List.append_inj_right h2 rfl
 simp only[List.cons.injEq,and_true]at this
 rw[←this];rfl
theorem IX(p q:List UInt8)(k:Nat)(h:k<q.length)(hl:q.length≤p.length):(cH p q).take (k+1)++p.drop (k+1)=((cH p q).take k++p.drop k).set k (UInt8.ofNat (IntKind.u8.wrap ((BitVec.ofInt IntKind.u8.bits ((((cH p q).take k++p.drop k).getD k (aB .u8)).toNat:Int)^^^BitVec.ofInt IntKind.u8.bits ((q.getD k (aB .u8)).toNat:Int)).toNat:Int)).toNat):=by
 refine ql _ _ k (aB .u8) _ (by omega) (by rw[ck];omega) ?_
 rw[Rs p q k (by omega),jr _ _ _ _ (by rw[ck];omega),Rn]
 rfl
theorem IY(p q:List UInt8)(k:Nat)(h:q.length≤k)(hl:q.length≤p.length)(hk:k≤q.length):(cH p q).take k++p.drop k=cH p q:=by
 have hk:k=q.length:=by omega
 subst hk
 have key: ∀p q:List UInt8,q.length≤p.length→(cH p q).take q.length++p.drop q.length=cH p q:=by
  intro p
  induction p with
  |nil=>intro q h;cases q with|nil=>rfl|cons _ _=>simp at h
  |cons x p ih=>intro q h;cases q with
   |nil=>rw[gF];rfl
   |cons y q=>simp only[cH,List.length_cons,List.take_succ_cons,List.drop_succ_cons,List.cons_append];rw[ih q (by simpa using h)]
 exact key p q hl
theorem Yd(a b:List UInt8)(k:Nat)(ha:k<a.length)(hb:k<b.length):(cH a b).take (k+1)=(cH a b).take k++ [UInt8.ofNat (IntKind.u8.wrap ((BitVec.ofInt IntKind.u8.bits ((a.getD k (aB .u8)).toNat:Int)^^^BitVec.ofInt IntKind.u8.bits ((b.getD k (aB .u8)).toNat:Int)).toNat:Int)).toNat]:=by
 rw[oU a b k (by omega),Rn];rfl
theorem C2{α:Type}(l:List α)(k:Nat)(d:α)(h:l.length≤k):l.getD k d=d:=by
 rw[List.getD_eq_getElem?_getD,List.getElem?_eq_none h];rfl
theorem aaB(a b:List UInt8)(k:Nat)(ha:k<a.length)(hb:b.length≤k):(cH a b).take (k+1)=(cH a b).take k++ [UInt8.ofNat (((a.getD k (aB .u8)).toNat:Int)).toNat]:=by
 rw[oU a b k (by omega),Va]
 have:oT b k=0:=C2 b k 0 hb
 rw[this];simp;rfl
theorem aaC(a b:List UInt8)(k:Nat)(ha:a.length≤k)(hb:k<b.length):(cH a b).take (k+1)=(cH a b).take k++ [UInt8.ofNat (IntKind.u8.wrap ((BitVec.ofInt IntKind.u8.bits (0:Int)^^^BitVec.ofInt IntKind.u8.bits ((b.getD k (aB .u8)).toNat:Int)).toNat:Int)).toNat]:=by
 rw[oU a b k (by omega)]
 have:oT a k=0:=C2 a k 0 ha
 rw[this]
 have:=Rn 0 (b.getD k (aB .u8))
 rw[show((0:UInt8).toNat:Int)=0 from rfl]at this
 rw[this];rfl
theorem Rt{l:List (List UInt8)}(h:cQ List.length l≤1048576)(k:Nat)(hk:k<l.length):(l.getD k (aB (.sl .u8))).length≤1048576:=jl h (K6 l k _ hk)
def eA(key round dir rows:Int):Int:=if(1≤rows∧rows≤64)∧0≤round∧round≤1000000000000 then cs (kh key [79,round,dir]) 0 % rows else-1
def vv(seed round rows:Int):Int:=if 1≤rows∧rows≤64 then cs (kh seed [157,round]) 0 % rows else-1
def gH(key counter:Int)(data:List UInt8):Int:=kh key ([71,counter]++data.map fun c=>(c.toNat:Int))
theorem Mz(l:List UInt8)(counter:Int)(k:Nat)(h:k<l.length): [71,counter]++(l.take (k+1)).map (fun c=>(c.toNat:Int))=([71,counter]++(l.take k).map (fun c=>(c.toNat:Int)))++ [IntKind.i64.wrap ((l.getD k (aB .u8)).toNat:Int)]:=by
 have:=(l.getD k (aB .u8)).toNat_lt
 rw[bh (by omega),lp (fun c:UInt8=>(c.toNat:Int)) l k (aB .u8) h,List.append_assoc]
def four(n:Int):List UInt8:= [b8 n,b8 (n/256),b8 (n/65536),b8 (n/16777216)]
theorem MA(n:Int): [UInt8.ofNat (IntKind.u8.wrap n).toNat,UInt8.ofNat (IntKind.u8.wrap (n.fdiv (2^(min (Int.toNat 8) IntKind.i64.bits)))).toNat,UInt8.ofNat (IntKind.u8.wrap (n.fdiv (2^(min (Int.toNat 16) IntKind.i64.bits)))).toNat,UInt8.ofNat (IntKind.u8.wrap (n.fdiv (2^(min (Int.toNat 24) IntKind.i64.bits)))).toNat]=four n:=by
 have e1:(2:Int)^(min (Int.toNat 8) IntKind.i64.bits)=256:=by decide
 have e2:(2:Int)^(min (Int.toNat 16) IntKind.i64.bits)=65536:=by decide
 have e3:(2:Int)^(min (Int.toNat 24) IntKind.i64.bits)=16777216:=by decide
 rw[e1,e2,e3,Int.fdiv_eq_ediv_of_nonneg _ (by decide),Int.fdiv_eq_ediv_of_nonneg _ (by decide),Int.fdiv_eq_ediv_of_nonneg _ (by decide)]
 rfl
def fH(p:Plain):Bool:=(inr p.kind 0 3)&&decide ((p.body.length:Int)≤14)
def eC(k:Int):Bool:=inr k 1 2147483646
def eU(key counter:Int)(p:Plain):Bool:=eC key&&(inr counter 0 1000000000000)&&fH p
def cY(key counter:Int)(p:Plain):List UInt8:= [b8 p.kind,b8 p.body.length]++p.body++(stream (kh key [61,counter]) 18).drop p.body.length
def jh(key counter:Int):Int:=AM (kh key [67,counter])
def fT(key counter:Int)(p:Plain):List UInt8:=if eU key counter p then gG (jh key counter) (cY key counter p)++four (gH key counter (gG (jh key counter) (cY key counter p)))else []
def iD(key dir:Int):Int:=AM (kh key [83,dir])
def cover(seed:Int):List UInt8:=stream (kh seed [73]) 24
end
section
theorem Ye(b c:Bool):(if b=true then true else c)=(b||c):=by cases b<;>rfl
theorem Rv(b c:Bool):(if b=true then c else false)=(b&&c):=by cases b<;>rfl
theorem Ve(a b:Int):(!decide (a<b))=decide (b≤a):=by rw[←decide_not];congr 1;exact propext Int.not_lt
theorem Vf(a b:Int):(!decide (a≤b))=decide (b<a):=by rw[←decide_not];congr 1;exact propext Int.not_le
theorem bne_not(a b:Int):(a !=b)= !(a==b):=rfl
theorem deq(a b:Int):decide (a=b)=(a==b):=rfl
theorem aO:(∀b c:Bool,(if b=true then true else c)=(b||c))∧(∀b c:Bool,(if b=true then c else false)=(b&&c))∧(∀a b:Int,a>b↔b<a)∧(∀a b:Nat,a>b↔b<a)∧(∀a b:Int,a≥b↔b≤a)∧(∀a b:Nat,a≥b↔b≤a)∧(∀a b:Int,(!decide (a<b))=decide (b≤a))∧(∀a b:Int,(!decide (a≤b))=decide (b<a))∧(∀a b:Int,(a !=b)= !(a==b))∧(∀a b:Int,decide (a=b)=(a==b))∧(∀(p:Prop) [Decidable p] [Decidable (¬p)],decide (¬p)= !decide p)∧(∀(α:Type) (a b:α),(a≠b)= ¬a=b)∧(∀a b:Bool,(!(a&&b))=(!a|| !b))∧(∀a b:Bool,(!(a||b))=(!a&& !b))∧(∀b:Bool,(!!b)=b)∧(∀b:Bool,(b&&true)=b)∧(∀b:Bool,(true&&b)=b)∧(∀b:Bool,(b||false)=b)∧(∀b:Bool,(false||b)=b)∧(∀n:Nat,(n:Int).toNat=n):=⟨Ye,Rv,fun _ _=>Iff.rfl,fun _ _=>Iff.rfl,fun _ _=>Iff.rfl,fun _ _=>Iff.rfl,Ve,Vf,bne_not,deq,fun _=>decide_not,fun _ _ _=>rfl,Bool.not_and,Bool.not_or,Bool.not_not,Bool.and_true,Bool.true_and,Bool.or_false,Bool.false_or,Int.toNat_natCast⟩
theorem aaD{E R S:Bool}(h:E=true)(he:E= !R):(R&&S)=false:=by
 rw[h]at he
 cases R with
 |false=>rfl
 |true=>exact absurd he (by decide)
theorem bP{E R:Bool}(h:E=true)(he:E= !R):R=false:=by
 rw[h]at he
 cases R with
 |false=>rfl
 |true=>exact absurd he (by decide)
theorem bO{E R:Bool}(h:E=false)(he:E= !R):R=true:=by
 rw[h]at he
 cases R with
 |true=>rfl
 |false=>exact absurd he (by decide)
def cg(d:DB):Bool:=decide ((d.rows.length:Int)≤64)&&d.rows.all fun r=>decide ((r.length:Int)=24)
def mT(rows:Int)(l:List aM)(i:Nat):Bool:=inr (l.getD i (aB .aM)).client 0 7&& !(decide ((0:Int)<i)&&decide ((l.getD i (aB .aM)).client≤(l.getD (i-1) (aB .aM)).client))&&cg (l.getD i (aB .aM)).share&&(((l.getD i (aB .aM)).share.rows.length:Int)==rows)
def uU(s:aX):Bool:=inr s.id 0 3&&inr s.rows 1 64&&inr s.behavior 0 3&&inr s.round 0 100000&&decide ((s.received.length:Int)≤8)
def bS(s:aX):Bool:=uU s&&(List.range s.received.length).all (mT s.rows s.received)
def qm(rows:Int)(l:List aJ)(i:Nat):Bool:=inr (l.getD i (aB .aJ)).round 0 100000&& !(decide ((0:Int)<i)&&decide ((l.getD i (aB .aJ)).round≤(l.getD (i-1) (aB .aJ)).round))&&cg (l.getD i (aB .aJ)).db&&(((l.getD i (aB .aJ)).db.rows.length:Int)==rows)
def C7(a:iC):Bool:=inr a.rows 1 64&&decide ((a.rounds.length:Int)≤8)
def eD(a:iC):Bool:=C7 a&&(List.range a.rounds.length).all (qm a.rows a.rounds)
def bR(a:iC):Int:=if a.rounds.length=0 then-1 else(a.rounds.getD (a.rounds.length-1) (aB .aJ)).round
def long(b:List UInt8):Bool:=decide ((14:Int)<b.length)
def cN(c:dK):Bool:=inr c.id 0 7&&inr c.dz 0 7&& !(c.id==c.dz)&&eC c.key&&decide ((c.aI.length:Int)≤16)&&decide ((c.inbox.length:Int)≤16)&& !c.aI.any long&& !c.inbox.any long&&inr c.sent 0 c.aI.length&&inr c.next 0 100000
def jx(a b:dK):Bool:=(a.id==b.id)&&(a.dz==b.dz)&&(a.key==b.key)&&(a.seed==b.seed)&&(a.aI==b.aI)
def zm(a b:List (List UInt8)):Bool:=decide ((a.length:Int)≤b.length)&&(a==b.take a.length)
def cR(d:bg):Bool:=cN d.live&&cN d.saved&&jx d.live d.saved&&decide (d.saved.sent≤d.live.sent)&&decide (d.saved.next≤d.live.next)&&zm d.saved.inbox d.live.inbox
def b7(n:Int):Bool:=inr n 2 4
def Ff(x:aV)(i:Nat):Bool:=bS (x.aj.getD i (aB .aX))&&((x.aj.getD i (aB .aX)).id==(i:Int))&&((x.aj.getD i (aB .aX)).rows==x.rows)&&((x.aj.getD i (aB .aX)).round==x.round)&&decide (((x.aj.getD i (aB .aX)).received.length:Int)≤0)
def okD(x:aV)(i:Nat):Bool:=cR (x.aa.getD i (aB .bg))&&((x.aa.getD i (aB .bg)).live.id==(i:Int))&&((x.aa.getD i (aB .bg)).live.dz==((i^^^1:Nat):Int))&&((x.aa.getD i (aB .bg)).live.key==(x.aa.getD (i^^^1) (aB .bg)).live.key)&&decide ((x.aa.getD i (aB .bg)).live.next≤x.round)
def HL(x:aV):Bool:=inr x.rows 1 64&&b7 x.aj.length&&inr x.aa.length 2 8&&((x.aa.length:Int).tmod 2==0)&&eD x.az&&(x.az.rows==x.rows)&&decide (bR x.az<x.round)&&eC x.aT&&inr x.round 0 100000&&decide (0≤x.cancelled)
def okW(x:aV):Bool:=HL x&&(List.range x.aj.length).all (Ff x)&&(List.range x.aa.length).all (okD x)
theorem iY{p:Nat→Bool}{k:Nat}(h:(List.range k).all p=true)(hk:p k=true):(List.range (k+1)).all p=true:=by
 rw[List.range_succ,List.all_append,h];simp[hk]
theorem lu{p:Nat→Bool}{k n:Nat}(h:k<n)(hk:p k=false):(List.range n).all p=false:=by
 rw[List.all_eq_false]
 exact⟨k,List.mem_range.2 h,by rw[hk];decide⟩
def fidx{α:Type}(p:α→Bool)(l:List α):Int:=if l.any p then(l.findIdx p:Int)else-1
theorem xj{α:Type}{p:α→Bool}{l:List α}{k:Nat}(d:α)(h:k<l.length)(h1:(l.take k).any p=false)(h2:p (l.getD k d)=true):fidx p l=k:=by
 have ha:l.any p=true:=BF l p d k h h2
 have e:l=l.take k++l.getD k d::l.drop (k+1):=by rw[←iW l k d h,List.take_append_drop]
 unfold fidx
 rw[if_pos ha]
 have hf:l.findIdx p=k:=by
  rw[List.findIdx_eq h]
  refine⟨?_,fun j hj=> ?_⟩
  ·rw[List.getD_eq_getElem?_getD,List.getElem?_eq_getElem h]at h2;exact h2
  ·rw[List.any_eq_false]at h1
   have:=h1 l[j] (by rw[List.mem_take_iff_getElem];exact⟨j,by omega,rfl⟩)
   simpa using this
 rw[hf]
theorem Fg{α:Type}{p:α→Bool}{l:List α}(h:l.any p=false):fidx p l= -1:=by unfold fidx;rw[if_neg (by rw[h];decide)]
theorem MB{α:Type}(p:α→Bool)(l:List α):decide (fidx p l≥0)=l.any p:=by
 unfold fidx
 cases h:l.any p
 ·rw[if_neg (by decide)];rfl
 ·rw[if_pos rfl];simp
theorem vA{α:Type}{p:α→Bool}{l:List α}{k:Nat}(d:α)(h:k<l.length)(h1:(l.take k).any p=false)(h2:p (l.getD k d)=false):(l.take (k+1)).any p=false:=by
 rw[Ro p l k d h,h1,h2];rfl
theorem sA{α:Type}(l:List α)(p:α→Bool):l.all p= !(l.any fun b=> !p b):=by
 induction l with
 |nil=>rfl
 |cons a r ih=>simp[ih]
end
section
theorem sB(k n:Nat)(h:k<n)(he:n % 2=0):k^^^1<n:=by
 have h1:(k^^^1)/2=k/2:=by
  have:=Nat.xor_div_two (a:=k) (b:=1)
  simpa using this
 have h2:k^^^1<2*(k/2)+2:=by
  have:=Nat.div_add_mod (k^^^1) 2
  have:=Nat.mod_lt (k^^^1) (show 0<2 by decide)
  omega
 omega
theorem Rw(k:Nat)(h:k<2^62):IntKind.i64.wrap (BitVec.ofInt IntKind.i64.bits (k:Int)^^^BitVec.ofInt IntKind.i64.bits 1).toNat=((k^^^1:Nat):Int):=by
 have h2:(BitVec.ofInt IntKind.i64.bits (k:Int)^^^BitVec.ofInt IntKind.i64.bits 1).toNat=k^^^1:=by
  rw[BitVec.toNat_xor]
  have h1:(BitVec.ofInt IntKind.i64.bits 1).toNat=1:=by decide
  have h2:(BitVec.ofInt IntKind.i64.bits (k:Int)).toNat=k % 2^64:=by rw[BitVec.ofInt_natCast,BitVec.toNat_ofNat];rfl
  rw[h1,h2,Nat.mod_eq_of_lt (by omega)]
 have hx:=Nat.xor_lt_two_pow (n:=62) h (show 1<2^62 by decide)
 rw[h2,bh (by omega)]
theorem nR{x:aV}(h:HL x=true):x.aa.length % 2=0∧x.aa.length≤8∧2≤x.aa.length:=by
 simp only[HL,bN,Bool.and_eq_true,beq_iff_eq]at h
 have h1:=h.1.1.1.1.1.1.2
 have h2:=h.1.1.1.1.1.1.1.2
 rw[dn (by omega)]at h1
 omega
theorem jC{x:aV}(h:okW x=true):HL x=true:=by simp only[okW,Bool.and_eq_true]at h;exact h.1.1
theorem dj{x:aV}(h:okW x=true):x.aj.length≤4∧2≤x.aj.length:=by
 have:=jC h
 simp only[HL,b7,bN,Bool.and_eq_true,beq_iff_eq]at this
 have h1:=this.1.1.1.1.1.1.1.1.2
 omega
def ZB(x:aV):Bool:=(List.range x.aj.length).all (Ff x)&&b7 x.aj.length
def WL(x:aV):Bool:=((x.aa.length:Int).tmod 2==0)&&inr x.aa.length 2 8&&(List.range x.aa.length).all (okD x)
def mh(x:aV)(c:Int):Bool:=inr c 0 (x.aa.length-1)
def vB(x:aV)(c:Int):Bool:=mh x c&&decide (((c.toNat^^^1:Nat):Int)<x.aa.length)
def cx(c:dK):Int:=if c.id<c.dz then 0 else 1
def mV(c:dK)(at':Int):List UInt8:=fT (iD c.key (cx c)) at' ⟨1,c.aI.getD at'.toNat (aB (.sl .u8))⟩
def mW(c:dK)(r n:Int):Bool:=cN c&&inr r 0 100000&&inr n 1 64
def eu(c:dK)(r n:Int):Int:=if mW c r n=true then(if c.sent<c.aI.length then eA c.key r (cx c) n else vv c.seed r n)else 0
def cZ(c:dK)(r n:Int):List UInt8:=if mW c r n=true then(if c.sent<c.aI.length then mV c c.sent else cover (kh c.seed [r]))else []
theorem zo{c:dK}{r n:Int}(h:mW c r n=true):0≤c.sent∧c.sent≤c.aI.length:=by
 simp only[mW,cN,bN,Bool.and_eq_true]at h
 exact h.1.1.1.2
theorem nS{k c:Int}{p:Plain}(h:eU k c p=true):p.body.length≤14:=by
 simp only[eU,fH,Bool.and_eq_true,decide_eq_true_eq]at h
 omega
theorem OF{x:aV}{c:Int}(hd:x.aa.length≤1048576):(mh x c&&mh x (IntKind.i64.wrap (BitVec.ofInt IntKind.i64.bits c^^^BitVec.ofInt IntKind.i64.bits 1).toNat))=vB x c:=by
 by_cases hc:mh x c=true
 ·have Gk:0≤c∧c<x.aa.length:=by simp only[mh,bN]at hc;omega
  obtain⟨n,rfl⟩:=Int.eq_ofNat_of_zero_le Gk.1
  rw[Rw n (by omega),vB,hc]
  simp only[Bool.true_and,mh,Int.toNat_natCast]
  rw[Bool.eq_iff_iff,bN,decide_eq_true_eq]
  omega
 ·rw[Bool.not_eq_true]at hc
  rw[vB,hc];rfl
end
section
def Yf(s:Int)(i:Nat):Int:=rsb (kh s [(i:Int),41])
def bw(s rows:Int):List Int:=if 0≤rows∧rows≤64 then(List.range rows.toNat).map (Yf s)else []
theorem gJ(s rows:Int):(bw s rows).length≤64:=by
 unfold bw
 split
 ·simp;omega
 ·simp
theorem C9(s rows:Int)(k:Nat)(h0:(k:Int)<rows)(h1:rows≤64):k<(bw s rows).length:=by
 rw[bw,if_pos (by omega)];simp;omega
theorem xq(s rows:Int)(k:Nat)(h0:(k:Int)<rows)(h1:rows≤64):(bw s rows).take (k+1)=(bw s rows).take k++ [IntKind.i64.wrap (BitVec.ofInt IntKind.i64.bits (((IntKind.i64.wrap (kh s [(k:Int),41]*kh s [(k:Int),41])).tmod 2147483647).fdiv (2^(min (Int.toNat 9) IntKind.i64.bits)))&&&BitVec.ofInt IntKind.i64.bits 1).toNat]:=by
 rw[Ya (c8 _ _).1 (c8 _ _).2,bq _ _ 0 (C9 s rows k h0 h1)]
 congr 2
 rw[bw,if_pos (by omega),cL _ _ _ _ (by omega)]
 rfl
theorem AR(s rows:Int)(k:Nat)(h:rows≤64→rows≤k):(bw s rows).take k=bw s rows:=by
 refine List.take_of_length_le ?_
 unfold bw
 split
 ·simp;omega
 ·simp
def cF(v:List Int)(rows:Int):Bool:=(decide ((v.length:Int)=rows)&&decide (rows≤64))&&v.all fun x=>inr x 0 1
theorem K8(v:List Int)(rows:Int):cF v rows=((inr rows 0 64&&decide ((v.length:Int)=rows))&& !(v.any fun x=> !inr x 0 1)):=by
 have e:(v.all fun x=>inr x 0 1)= !(v.any fun x=> !inr x 0 1):=by rw[List.not_any_eq_all_not];simp
 rw[cF,e]
 by_cases h:(v.length:Int)=rows
 ·subst h;simp[inr]
 ·simp[h]
theorem iZ{v:List Int}{r:Int}(h:cF v r=true):(v.length:Int)=r∧r≤64:=by
 simp only[cF,Bool.and_eq_true,decide_eq_true_eq]at h
 exact h.1
theorem tW{v:List Int}{r:Int}(h:cF v r=true)(k:Nat)(hk:k<v.length):v.getD k (aB .int)=0∨v.getD k (aB .int)=1:=by
 simp only[cF,Bool.and_eq_true,List.all_eq_true,bN]at h
 have:=h.2 (v.getD k (aB .int)) (by rw[List.getD_eq_getElem?_getD,List.getElem?_eq_getElem hk];exact List.getElem_mem _)
 omega
def xb(x y:Int):Int:=if x=y then 0 else 1
theorem aaE{x y:Int}(hx:x=0∨x=1)(hy:y=0∨y=1):IntKind.i64.wrap (BitVec.ofInt IntKind.i64.bits x^^^BitVec.ofInt IntKind.i64.bits y).toNat=xb x y:=by
 rcases hx with rfl|rfl<;>rcases hy with rfl|rfl<;>decide
def jD(a b:List Int):Bool:=cF a a.length&&cF b a.length
def kD(a b:List Int):List Int:=if jD a b then List.zipWith xb a b else []
theorem mq{a b:List Int}(h:jD a b=true):b.length=a.length∧a.length≤64:=by
 simp only[jD,Bool.and_eq_true]at h
 have h1:=iZ h.1
 have h2:=iZ h.2
 omega
theorem qo{a b:List Int}(h:jD a b=true):kD a b=List.zipWith xb a b:=by rw[kD,if_pos h]
theorem xu{a b:List Int}(h:jD a b=true):(List.zipWith xb a b).length=a.length:=by
 have:=mq h
 rw[List.length_zipWith];omega
theorem K9(a b:List Int):(kD a b).length≤64:=by
 cases h:jD a b with
 |true=>rw[qo h,xu h];exact(mq h).2
 |false=>rw[kD,if_neg (by rw[h];decide)];simp
theorem MC{a b:List Int}(h:jD a b=true)(k:Nat)(hk:k<a.length):(List.zipWith xb a b).getD k (aB .int)=IntKind.i64.wrap (BitVec.ofInt IntKind.i64.bits (a.getD k (aB .int))^^^BitVec.ofInt IntKind.i64.bits (b.getD k (aB .int))).toNat:=by
 have hl:=mq h
 have h':=h
 simp only[jD,Bool.and_eq_true]at h'
 rw[aaE (tW h'.1 k hk) (tW h'.2 k (by omega))]
 rw[List.getD_eq_getElem?_getD,List.getD_eq_getElem?_getD,List.getD_eq_getElem?_getD,List.getElem?_zipWith,List.getElem?_eq_getElem hk,List.getElem?_eq_getElem (show k<b.length by omega)]
 rfl
theorem IZ{a b:List Int}(h:jD a b=true)(k:Nat)(hk:k<b.length):(List.zipWith xb a b).take (k+1)++a.drop (k+1)=((List.zipWith xb a b).take k++a.drop k).set k (IntKind.i64.wrap (BitVec.ofInt IntKind.i64.bits (((List.zipWith xb a b).take k++a.drop k).getD k (aB .int))^^^BitVec.ofInt IntKind.i64.bits (b.getD k (aB .int))).toNat):=by
 have hl:=mq h
 have hz:=xu h
 rw[sq _ _ k (aB .int) _ (by omega) (by omega)]
 rw[jr _ _ _ _ (by omega),MC h k (by omega)]
theorem I0{a b:List Int}(h:jD a b=true)(k:Nat)(hk:k<a.length):(List.zipWith xb a b).take (k+1)=(List.zipWith xb a b).take k++ [IntKind.i64.wrap (BitVec.ofInt IntKind.i64.bits (a.getD k (aB .int))^^^BitVec.ofInt IntKind.i64.bits (b.getD k (aB .int))).toNat]:=by
 rw[bq _ k (aB .int) (by rw[xu h];exact hk),MC h k hk]
def fW(rows i:Int):Bool:=inr rows 1 64&&inr i 0 (IntKind.i64.wrap (rows-1))
def lR(rows i:Int):List Int:=if fW rows i then(List.replicate rows.toNat (aB .int)).set i.toNat 1 else []
theorem oZ{rows i:Int}(h:fW rows i=true):1≤rows∧rows≤64∧0≤i∧i<rows:=by
 simp only[fW,Bool.and_eq_true,bN]at h
 rw[bh (by omega)]at h
 omega
theorem mu{rows i:Int}(h:fW rows i=true):lR rows i=(List.replicate rows.toNat (aB .int)).set i.toNat 1:=by rw[lR,if_pos h]
theorem zq{rows i:Int}(h:fW rows i=false):lR rows i= []:=by rw[lR,if_neg (by rw[h];decide)]
theorem zu(rows i:Int):(lR rows i).length≤64:=by
 cases h:fW rows i with
 |true=>rw[mu h];have:=oZ h;simp;omega
 |false=>rw[zq h];simp
def xw(rows i:Int)(sd:List Int):Bool:= !decide (((lR rows i).length:Int)=0)&&b7 (IntKind.i64.wrap ((sd.length:Int)+1))
def sD(rows i:Int)(sd:List Int):List Int:=sd.foldl (fun l s=>kD l (bw s rows)) (lR rows i)
def ia(rows i:Int)(sd:List Int):List (List Int):=if xw rows i sd then sd.map (fun s=>bw s rows)++ [sD rows i sd]else []
theorem Da(rows i:Int)(sd:List Int)(k:Nat)(h:k<sd.length):sD rows i (sd.take (k+1))=kD (sD rows i (sd.take k)) (bw (sd.getD k (aB .int)) rows):=qh _ _ sd k _ h
theorem zv(rows i:Int)(sd:List Int):(sD rows i sd).length≤64:=by
 rcases List.eq_nil_or_concat sd with rfl| ⟨l,x,rfl⟩
 ·exact zu _ _
 ·rw[List.concat_eq_append,sD,List.foldl_append];exact K9 _ _
theorem I1{rows i:Int}{sd:List Int}(h:xw rows i sd=true)(hl:sd.length≤1048576):sd.length≤3:=by
 simp only[xw,b7,Bool.and_eq_true,bN]at h
 rw[bh (by omega)]at h
 omega
def fD(n:Nat)(r row s:Int):List Int:=(List.range (n-1)).map fun i:Nat=>kh s [229,r,row,(i:Int)]
theorem kE(n:Nat)(r row s:Int):(fD n r row s).length=n-1:=by simp[fD]
theorem AS(n:Nat)(r row s:Int)(k:Nat)(h:k<n-1):(fD n r row s).take (k+1)=(fD n r row s).take k++ [kh s [229,r,row,(k:Int)]]:=by
 rw[bq _ k (aB .int) (by rw[kE];exact h),fD,cL _ _ _ _ h]
theorem MD(n:Nat)(h:n≤1048576):N2 0 (IntKind.i64.wrap ((n:Int)-1))=((n-1:Nat):Int):=by
 rw[bh (by omega)];unfold N2;split<;>omega
theorem Db{x:aV}(h:okW x=true):1≤x.rows∧x.rows≤64:=by
 have:=jC h
 simp only[HL,bN,Bool.and_eq_true]at this
 have h1:=this.1.1.1.1.1.1.1.1.1
 omega
end
section
set_option maxRecDepth 100000
theorem getD_some{α:Type}(l:List α)(d:α)(k:Nat)(h:k<l.length):l[k]? =some (l.getD k d):=by
 rw[List.getD_eq_getElem?_getD,List.getElem?_eq_getElem h];rfl
def MF(x:DB):Nat:=(cQ List.length) x.rows
def AT(x:aM):Nat:=MF x.share
def dr(x:aX):Nat:=(cQ AT) x.received
def cu(x:dK):Nat:=(cQ List.length) x.aI+(cQ List.length) x.inbox
def bD(x:bg):Nat:=cu x.live+cu x.saved
def dU(x:aJ):Nat:=MF x.db
def ey(x:iC):Nat:=(cQ dU) x.rounds
end
section
def HM:List UInt8:=List.replicate 24 (aB .u8)
def cE(rows:Int):DB:=⟨if 0≤rows∧rows≤64 then List.replicate rows.toNat HM else []⟩
theorem RC{α:Type}(n k:Nat)(x:α)(h:k<n):(List.replicate n x).take (k+1)=(List.replicate n x).take k++ [x]:=by
 rw[List.take_replicate,List.take_replicate,Nat.min_eq_left (by omega),Nat.min_eq_left (by omega),List.replicate_succ']
theorem mz(rows:Int):(cE rows).rows.length≤64:=by
 unfold cE;dsimp only;split
 ·simp;omega
 ·simp
theorem mA{rows:Int}(h:0≤rows∧rows≤64):(cE rows).rows=List.replicate rows.toNat HM:=by unfold cE;dsimp only;rw[if_pos h]
theorem De(rows:Int)(k:Nat)(h0:(k:Int)<rows)(h1:rows≤64):(cE rows).rows.take (k+1)=(cE rows).rows.take k++ [HM]:=by
 rw[mA (by omega)];exact RC _ _ _ (by omega)
theorem RD(rows:Int)(k:Nat)(h0:(k:Int)<rows)(h1:rows≤64):k<(cE rows).rows.length:=by
 rw[mA (by omega)];simp;omega
theorem Fi(rows:Int)(k:Nat)(h:rows≤64→rows≤k):(cE rows).rows.take k=(cE rows).rows:=by
 refine List.take_of_length_le ?_
 unfold cE;dsimp only;split
 ·simp;omega
 ·simp
def jG(d:DB)(i:Int)(c:List UInt8):Bool:=inr i 0 (IntKind.i64.wrap ((d.rows.length:Int)-1))&&decide ((c.length:Int)=24)
def AU(d:DB)(i:Int)(c:List UInt8):DB:=if jG d i c then⟨d.rows.set i.toNat c⟩else d
theorem BG{d:DB}{i:Int}{c:List UInt8}(hl:d.rows.length≤1048576)(h:jG d i c=true):0≤i∧i<d.rows.length∧c.length=24:=by
 simp only[jG,Bool.and_eq_true,bN,decide_eq_true_eq]at h
 rw[bh (by omega)]at h
 omega
theorem o7{d:DB}{i:Int}{c:List UInt8}(h:jG d i c=true):AU d i c=⟨d.rows.set i.toNat c⟩:=by rw[AU,if_pos h]
theorem Fj{d:DB}{i:Int}{c:List UInt8}(h:jG d i c=false):AU d i c=d:=by rw[AU,if_neg (by rw[h];decide)]
def gu(a b:DB):Bool:=(cg a&&cg b)&&decide ((a.rows.length:Int)=b.rows.length)
def eV(a b:DB):List (List UInt8):=List.zipWith cH a.rows b.rows
def eL(a b:DB):DB:=if gu a b then⟨eV a b⟩else a
theorem Df{d:DB}(h:cg d=true):d.rows.length≤64:=by
 simp only[cg,Bool.and_eq_true,decide_eq_true_eq]at h;omega
theorem kU{d:DB}(h:cg d=true)(k:Nat)(hk:k<d.rows.length):(d.rows.getD k (aB (.sl .u8))).length=24:=by
 simp only[cg,Bool.and_eq_true,List.all_eq_true,decide_eq_true_eq]at h
 have:=h.2 (d.rows.getD k (aB (.sl .u8))) (by rw[List.getD_eq_getElem?_getD,List.getElem?_eq_getElem hk];exact List.getElem_mem _)
 omega
theorem qp{a b:DB}(h:gu a b=true):cg a=true∧cg b=true∧a.rows.length=b.rows.length∧a.rows.length≤64:=by
 simp only[gu,Bool.and_eq_true,decide_eq_true_eq]at h
 have:=Df h.1.1
 exact⟨h.1.1,h.1.2,by omega,this⟩
theorem gK{a b:DB}(h:gu a b=true):(eV a b).length=a.rows.length:=by
 have:=qp h
 rw[eV,List.length_zipWith];omega
theorem qt{a b:DB}(h:gu a b=true)(k:Nat)(hk:k<a.rows.length):(eV a b).getD k (aB (.sl .u8))=cH (a.rows.getD k (aB (.sl .u8))) (b.rows.getD k (aB (.sl .u8))):=by
 have hb:=qp h
 rw[eV,List.getD_eq_getElem?_getD,List.getD_eq_getElem?_getD,List.getD_eq_getElem?_getD,List.getElem?_zipWith,List.getElem?_eq_getElem hk,List.getElem?_eq_getElem (show k<b.rows.length by omega)]
 rfl
theorem I3{a b:DB}(h:gu a b=true)(k:Nat)(hk:k<a.rows.length):(eV a b).take (k+1)=(eV a b).take k++ [cH (a.rows.getD k (aB (.sl .u8))) (b.rows.getD k (aB (.sl .u8)))]:=by
 rw[bq _ k (aB (.sl .u8)) (by rw[gK h];exact hk),qt h k hk]
theorem I4{a b:DB}(h:gu a b=true)(k:Nat)(hk:k<b.rows.length):(eV a b).take (k+1)++a.rows.drop (k+1)=((eV a b).take k++a.rows.drop k).set k (cH (((eV a b).take k++a.rows.drop k).getD k (aB (.sl .u8))) (b.rows.getD k (aB (.sl .u8)))):=by
 have hb:=qp h
 have hl:=gK h
 rw[sq _ _ k (aB (.sl .u8)) _ (by omega) (by omega)]
 rw[jr _ _ _ _ (by omega),qt h k (by omega)]
theorem Vi{a b:DB}(h:gu a b=true)(k:Nat)(hk:k<b.rows.length):((eV a b).take k++a.rows.drop k).getD k (aB (.sl .u8))=a.rows.getD k (aB (.sl .u8)):=by
 have hb:=qp h
 have hl:=gK h
 rw[jr _ _ _ _ (by omega)]
theorem mC{a b:DB}(h:gu a b=true):eL a b=⟨eV a b⟩:=by rw[eL,if_pos h]
theorem o8{a b:DB}(h:gu a b=false):eL a b=a:=by rw[eL,if_neg (by rw[h];decide)]
def eW(x:aV)(c:Int):List Int:=(List.range (x.aj.length-1)).map fun i:Nat=>kh x.seed [223,x.round,c,(i:Int)]
theorem iR(x:aV)(c:Int):(eW x c).length=x.aj.length-1:=by simp[eW]
theorem AV(x:aV)(c:Int)(k:Nat)(h:k<x.aj.length-1):(eW x c).take (k+1)=(eW x c).take k++ [kh x.seed [223,x.round,c,(k:Int)]]:=by
 rw[bq _ k (aB .int) (by rw[iR];exact h),eW,cL _ _ _ _ h]
def lB(rows i:Int)(c:List UInt8):Bool:=inr rows 1 64&&jG (cE rows) i c
def HN(rows i:Int)(c:List UInt8):DB:=if inr rows 1 64 then AU (cE rows) i c else⟨[]⟩
theorem jH:HM.length=24:=by simp[HM]
theorem Fk(rows:Int):cQ List.length (cE rows).rows≤1048576:=by
 have h:=mz rows
 have h2:((cE rows).rows.map List.length).sum≤24*(cE rows).rows.length:=by
  unfold cE;dsimp only;split
  ·simp[jH];omega
  ·simp
 unfold cQ;omega
end
section
theorem jI{d:DB}:cg d=true↔d.rows.length≤64∧ ∀r,r∈d.rows→r.length=24:=by
 simp only[cg,Bool.and_eq_true,decide_eq_true_eq,List.all_eq_true]
 constructor
 ·rintro⟨h1,h2⟩;exact⟨by omega,fun r hr=>by have:=h2 r hr;omega⟩
 ·rintro⟨h1,h2⟩;exact⟨by omega,fun r hr=>by have:=h2 r hr;omega⟩
theorem dw{d:DB}(h:cg d=true):cQ List.length d.rows≤1048576:=by
 obtain⟨h1,h2⟩:=jI.1 h
 have h3: ∀l:List (List UInt8),(∀r,r∈l→r.length=24)→(l.map List.length).sum=24*l.length:=by
  intro l
  induction l with
  |nil=>intro _;rfl
  |cons x r ih=>intro hl;rw[List.map_cons,List.sum_cons,ih fun y hy=>hl y (by simp[hy]),hl x (by simp),List.length_cons];omega
 have:=h3 _ h2
 unfold cQ;omega
theorem Dk{a b:DB}(ha:cg a=true)(hb:cg b=true):cg (eL a b)=true:=by
 cases h:gu a b with
 |false=>rw[o8 h];exact ha
 |true=>
  rw[mC h,jI]
  have hl:=gK h
  refine⟨by have:=Df ha;show(eV a b).length≤64;omega,fun r hr=> ?_⟩
  obtain⟨k,hk⟩:=List.getElem?_of_mem hr
  have hk2:k<(eV a b).length:=(List.getElem?_eq_some_iff.1 hk).1
  have hg:=qt h k (by omega)
  rw[List.getD_eq_getElem?_getD,hk]at hg
  have hx:=qp h
  rw[show r=_ from hg,ck,kU ha k (by omega),kU hb k (by omega)];rfl
def fI(s rows:Int):List (List UInt8):=(List.range rows.toNat).map fun r:Nat=>stream (IntKind.i64.wrap (s+IntKind.i64.wrap (1000*(r:Int)))) (24:Int).toNat
def EA(s rows:Int):DB:=⟨fI s rows⟩
theorem jd(s rows:Int):(fI s rows).length=rows.toNat:=by simp[fI]
theorem xF(s rows:Int)(k:Nat)(h:k<rows.toNat):(fI s rows).take (k+1)=(fI s rows).take k++ [stream (IntKind.i64.wrap (s+IntKind.i64.wrap (1000*(k:Int)))) (24:Int).toNat]:=by
 rw[bq _ k (aB (.sl .u8)) (by rw[jd];exact h),fI,cL _ _ _ _ h]
theorem Dl(s rows:Int)(h:rows≤64):cg (EA s rows)=true:=by
 rw[jI]
 refine⟨by show(fI s rows).length≤64;rw[jd];omega,fun r hr=> ?_⟩
 obtain⟨k,_,rfl⟩:=List.mem_map.1 (show r∈fI s rows from hr)
 exact dI _ _
def nI(rows i:Int)(c:List UInt8)(sd:List Int):Bool:=lB rows i c&&b7 (IntKind.i64.wrap ((sd.length:Int)+1))
def lS(rows i:Int)(c:List UInt8)(sd:List Int):DB:=sd.foldl (fun d s=>eL d (EA s rows)) (HN rows i c)
def lT(rows i:Int)(c:List UInt8)(sd:List Int):List DB:=if nI rows i c sd then sd.map (fun s=>EA s rows)++ [lS rows i c sd]else []
theorem vE{rows i:Int}{c:List UInt8}(h:lB rows i c=true):cg (HN rows i c)=true∧1≤rows∧rows≤64:=by
 simp only[lB,Bool.and_eq_true]at h
 obtain⟨h1,h2⟩:=h
 have hr:1≤rows∧rows≤64:=by rw[bN]at h1;exact h1
 have hb:=BG (Nat.le_trans (mz rows) (by decide)) h2
 refine⟨?_,hr⟩
 rw[HN,if_pos h1,o7 h2,jI,mA (by omega)]
 refine⟨by simp;omega,fun r hr=> ?_⟩
 rcases List.mem_or_eq_of_mem_set hr with h|rfl
 ·rw[(List.mem_replicate.1 h).2,jH]
 ·exact hb.2.2
theorem Dm(rows i:Int)(c:List UInt8)(sd:List Int)(k:Nat)(h:k<sd.length):lS rows i c (sd.take (k+1))=eL (lS rows i c (sd.take k)) (EA (sd.getD k (aB .int)) rows):=qh _ _ sd k _ h
theorem Dn{rows i:Int}{c:List UInt8}(h:lB rows i c=true)(sd:List Int):cg (lS rows i c sd)=true:=by
 have hu:=vE h
 have g: ∀(l:List Int) (d:DB),cg d=true→cg (l.foldl (fun d s=>eL d (EA s rows)) d)=true:=by
  intro l
  induction l with
  |nil=>intro d hd;exact hd
  |cons x r ih=>intro d hd;exact ih _ (Dk hd (Dl x rows hu.2.2))
 exact g sd _ hu.1
theorem Jd{rows i:Int}{c:List UInt8}{sd:List Int}(h:nI rows i c sd=true)(hl:sd.length≤1048576):lB rows i c=true∧sd.length≤3:=by
 simp only[nI,b7,Bool.and_eq_true,bN]at h
 rw[bh (by omega)]at h
 exact⟨h.1,by omega⟩
theorem Dp(rows i:Int)(c:List UInt8):lB rows i c=(inr rows 1 64&&inr i 0 (IntKind.i64.wrap (rows-1))&&decide ((c.length:Int)=24)):=by
 unfold lB
 cases h:inr rows 1 64 with
 |false=>rfl
 |true=>
  rw[bN]at h
  have:((cE rows).rows.length:Int)=rows:=by rw[mA (by omega)];simp;omega
  rw[jG,this]
  simp
theorem Vn{rows i:Int}{c:List UInt8}{sd:List Int}(h:nI rows i c sd=true):AU (cE rows) i c=HN rows i c:=by
 simp only[nI,lB,Bool.and_eq_true]at h
 rw[HN,if_pos h.1.1]
end
section
theorem OI(k c:Int)(p:Plain):(fT k c p).length≤100:=by
 unfold fT
 split
 ·rename_i h
  have hb:=nS h
  have hp:(cY k c p).length≤40:=by
   unfold cY
   simp only[List.length_append,List.length_drop,List.length_cons,List.length_nil,dI];omega
  rw[List.length_append,dF]
  simp only[four,List.length_cons,List.length_nil];omega
 ·exact Nat.zero_le _
theorem Dq(c:dK)(r n:Int):(cZ c r n).length≤1048576:=by
 unfold cZ
 split
 ·split
  ·exact Nat.le_trans (OI _ _ _) (by decide)
  ·unfold cover;rw[dI];decide
 ·exact Nat.zero_le _
def fF(x:aV)(c:Int):dK:=(x.aa.getD c.toNat (aB .bg)).live
def cD(x:aV)(c:Int):List DB:=lT x.rows (eu (fF x c) x.round x.rows) (cZ (fF x c) x.round x.rows) (eW x c)
theorem Je{x:aV}{c:Int}(h:mW (fF x c) x.round x.rows=false):cD x c= []:=by
 have hc:cZ (fF x c) x.round x.rows= []:=by rw[cZ,if_neg (by rw[h];decide)]
 unfold cD lT
 rw[hc]
 rw[if_neg]
 simp[nI,lB,jG]
def Jf(x:aV)(c:Int):Bool:=okW x&&mh x c
def jJ(x:aV)(c:Int):List DB:=if Jf x c then cD x c else []
theorem Ys{x:aV}{c:Int}(h:Jf x c=true):0≤c∧c<x.aa.length:=by
 simp only[Jf,mh,bN,Bool.and_eq_true]at h
 omega
end
section
theorem gV{E R:Bool}(h:E=true)(he:E=R):R=true:=by rw[←he];exact h
theorem kH{E R:Bool}(h:E=false)(he:E=R):R=false:=by rw[←he];exact h
theorem mm{x:aV}(h:okW x=true){i:Nat}(hi:i<x.aa.length):okD x i=true:=by
 simp only[okW,Bool.and_eq_true,List.all_eq_true]at h
 exact h.2 i (List.mem_range.2 hi)
theorem GQ{x:aV}(h:okW x=true){i:Nat}(hi:i<x.aj.length):Ff x i=true:=by
 simp only[okW,Bool.and_eq_true,List.all_eq_true]at h
 exact h.1.2 i (List.mem_range.2 hi)
theorem RJ{x:aV}{i:Nat}(h:okD x i=true):cN (x.aa.getD i (aB .bg)).live=true:=by
 simp only[okD,cR,Bool.and_eq_true]at h
 exact h.1.1.1.1.1.1.1.1.1
theorem lM{x:aV}(h:okW x=true):(1≤x.rows∧x.rows≤64)∧0≤x.round∧x.round≤100000:=by
 have h:=jC h
 simp only[HL,Bool.and_eq_true,bN]at h
 omega
theorem RK{x:aV}{c:Int}(h:okW x=true)(hc:0≤c∧c<x.aa.length):cN (fF x c)=true:=RJ (mm h (by omega))
theorem Lj{x:aV}{c:Int}(h:okW x=true)(hc:0≤c∧c<x.aa.length):mW (fF x c) x.round x.rows=true:=by
 have:=lM h
 simp only[mW,RK h hc,Bool.and_eq_true,bN]
 exact⟨⟨trivial,this.2⟩,this.1⟩
theorem vF{key r d n:Int}(h:(1≤n∧n≤64)∧0≤r∧r≤1000000000000):0≤eA key r d n∧eA key r d n<n:=by
 unfold eA
 rw[if_pos h]
 exact⟨Int.emod_nonneg _ (by omega),Int.emod_lt_of_pos _ (by omega)⟩
theorem Dr{s r n:Int}(h:1≤n∧n≤64):0≤vv s r n∧vv s r n<n:=by
 unfold vv
 rw[if_pos h]
 exact⟨Int.emod_nonneg _ (by omega),Int.emod_lt_of_pos _ (by omega)⟩
theorem Jg{c:dK}{r n:Int}(h:mW c r n=true):0≤eu c r n∧eu c r n<n:=by
 have hb:(0≤r∧r≤100000)∧1≤n∧n≤64:=by
  simp only[mW,Bool.and_eq_true,bN]at h;exact⟨h.1.2,h.2⟩
 rw[eu,if_pos h]
 split
 ·exact vF (by omega)
 ·exact Dr (by omega)
theorem xG(k d:Int):eC (iD k d)=true:=by
 have:=tV (c8 k [83,d])
 simp only[eC,bN];unfold iD;omega
theorem pg{c:dK}(h:cN c=true):c.aI.length≤16∧c.inbox.length≤16∧(∀b,b∈c.aI→b.length≤14)∧(∀b,b∈c.inbox→b.length≤14)∧0≤c.sent∧c.sent≤c.aI.length∧0≤c.next∧c.next≤100000:=by
 simp only[cN,Bool.and_eq_true,Bool.not_eq_true',List.any_eq_false,bN,decide_eq_true_eq]at h
 obtain⟨⟨⟨⟨⟨⟨_,h1⟩,h2⟩,h3⟩,h4⟩,h5⟩,h6⟩:=h
 refine⟨by omega,by omega,fun b hb=> ?_,fun b hb=> ?_,h5.1,h5.2,h6.1,h6.2⟩
 ·have:=h3 b hb;simp only[long,decide_eq_true_eq]at this;omega
 ·have:=h4 b hb;simp only[long,decide_eq_true_eq]at this;omega
theorem getD_in{α:Type}{l:List α}{k:Nat}(d:α)(h:k<l.length):l.getD k d∈l:=by
 rw[List.getD_eq_getElem?_getD,List.getElem?_eq_getElem h];exact List.getElem_mem h
theorem nV{k c:Int}{p:Plain}(h:eU k c p=true):(fT k c p).length=24:=by
 have hb:=nS h
 rw[fT,if_pos h,List.length_append,dF]
 simp only[cY,four,List.length_append,List.length_drop,List.length_cons,List.length_nil,dI];omega
theorem OJ{c:dK}(h:cN c=true){a:Int}(h0:0≤a)(h1:a<c.aI.length):(mV c a).length=24:=by
 obtain⟨q1,_,q2,_⟩:=pg h
 apply nV
 simp only[eU,xG,fH,Bool.and_eq_true,bN,decide_eq_true_eq]
 have:=q2 _ (getD_in (aB (.sl .u8)) (show a.toNat<c.aI.length by omega))
 refine⟨⟨trivial,by omega⟩,by omega,by omega⟩
theorem xH{c:dK}{r n:Int}(h:mW c r n=true):(cZ c r n).length=24:=by
 rw[cZ,if_pos h]
 split
 ·rename_i hs
  have hc:cN c=true:=by simp only[mW,Bool.and_eq_true]at h;exact h.1.1
  exact OJ hc (zo h).1 hs
 ·rw[cover,dI]
theorem zH{x:aV}{c:Int}(h:okW x=true)(hc:0≤c∧c<x.aa.length):nI x.rows (eu (fF x c) x.round x.rows) (cZ (fF x c) x.round x.rows) (eW x c)=true:=by
 have hw:=Lj h hc
 have hr:=lM h
 have hs:=dj h
 have hrow:=Jg hw
 have hcell:=xH hw
 simp only[nI,Dp,b7,Bool.and_eq_true,bN,decide_eq_true_eq,iR]
 rw[bh (by omega),bh (by omega)]
 omega
theorem gL{x:aV}{c:Int}(h:okW x=true)(hc:0≤c∧c<x.aa.length):(cD x c).length=x.aj.length:=by
 have hs:=dj h
 rw[cD,lT,if_pos (zH h hc),List.length_append,List.length_map,iR]
 simp;omega
theorem Ds{x:aV}{c:Int}(h:okW x=true)(hc:0≤c∧c<x.aa.length):jJ x c=cD x c:=by
 rw[jJ,if_pos]
 simp only[Jf,h,mh,Bool.true_and,bN]
 omega
end
section
theorem RL{rows i:Int}{c:List UInt8}{sd:List Int}(hr:rows≤64): ∀d,d∈lT rows i c sd→cg d=true:=by
 intro d hd
 unfold lT at hd
 split at hd
 ·rename_i hm
  have hu:lB rows i c=true:=by simp only[nI,Bool.and_eq_true]at hm;exact hm.1
  rcases List.mem_append.1 hd with h|h
  ·obtain⟨s,_,rfl⟩:=List.mem_map.1 h
   exact Dl s rows hr
  ·rw[List.mem_singleton.1 h];exact Dn hu _
 ·cases hd
def Yt(d:DB):Nat:=(d.rows.map List.length).sum
theorem Vo{d:DB}(h:cg d=true):Yt d≤1536:=by
 obtain⟨h1,h2⟩:=jI.1 h
 have h3: ∀l:List (List UInt8),(∀r,r∈l→r.length=24)→(l.map List.length).sum=24*l.length:=by
  intro l
  induction l with
  |nil=>intro _;rfl
  |cons x r ih=>intro hl;rw[List.map_cons,List.sum_cons,ih fun y hy=>hl y (by simp[hy]),hl x (by simp),List.length_cons];omega
 have:=h3 _ h2
 unfold Yt;omega
theorem WR{α:Type}(f:α→Nat)(C:Nat): ∀(l:List α),(∀x,x∈l→f x≤C)→(l.map f).sum≤C*l.length
 | [],_=>by simp
 |x::r,h=>by
  have:=WR f C r fun y hy=>h y (by simp[hy])
  have:=h x (by simp)
  rw[List.map_cons,List.sum_cons,List.length_cons,Nat.mul_add]
  omega
end
section
def m7(s:aX):Prop:=s.received.length≤1048576∧ ∀r,r∈s.received→cQ List.length r.share.rows≤1048576
theorem Fp{l:List aX}(h:cQ dr l≤1048576){i:Nat}{s:aX}(hs:l[i]? =some s):m7 s:=by
 have h1:cQ AT s.received≤1048576:=jl h hs
 refine⟨dc h1,fun r hr=> ?_⟩
 obtain⟨j,hj⟩:=List.mem_iff_getElem?.1 hr
 exact jl h1 hj
def wB(x:aV):Prop:=cQ dr x.aj≤1048576∧cQ bD x.aa≤1048576∧ey x.az≤1048576∧x.replaced.length≤4194304
theorem AX{x:aV}(h:wB x):x.aj.length≤1048576:=dc h.1
theorem Jh{x:aV}(h:wB x):x.aa.length≤1048576:=dc h.2.1
def jK(s:aX)(c:Int)(d:DB):aX:=⟨s.id,s.rows,s.round,s.received++ [⟨c,d⟩],s.behavior⟩
def jL(s:aX)(c:Int)(d:DB):Bool:=bS s&&bS (jK s c d)
def Ll(s:aX)(c:Int)(d:DB):aX:=if jL s c d then jK s c d else s
def below(s:aX)(c:Int):Prop:= ∀r,r∈s.received→r.client<c
theorem OK{s:aX}{c e:Int}{d:DB}(h:below s c)(hc:c<e):below (Ll s c d) e:=by
 intro r hr
 unfold Ll at hr
 split at hr
 ·rcases List.mem_append.1 hr with h1|h1
  ·have:=h r h1;omega
  ·rw[List.mem_singleton.1 h1];exact hc
 ·have:=h r hr;omega
theorem OL{s:aX}{c:Int}{d:DB}(h:m7 s)(hd:cg d=true):m7 (Ll s c d):=by
 unfold Ll
 split
 ·rename_i hk
  have h1:(jK s c d).received.length≤8:=by
   simp only[jL,bS,uU,Bool.and_eq_true,decide_eq_true_eq]at hk;omega
  refine⟨by omega,fun r hr=> ?_⟩
  rcases List.mem_append.1 hr with h2|h2
  ·exact h.2 r h2
  ·rw[List.mem_singleton.1 h2];exact dw hd
 ·exact h
def Pu(c:Int)(r:aM):Bool:=r.client==c
def j7(l:List aM)(c:Int):Bool:=l.any (Pu c)
def vH(l:List aM)(c:Int):DB:=if j7 l c then(l.getD (fidx (Pu c) l).toNat (aB .aM)).share else⟨[]⟩
theorem Lm{l:List aM}{c:Int}{k:Nat}(h:k<l.length)(h1:(l.take k).any (Pu c)=false)(h2:Pu c (l.getD k (aB .aM))=true):j7 l c=true∧vH l c=(l.getD k (aB .aM)).share:=by
 have ha:j7 l c=true:=BF l (Pu c) (aB .aM) k h h2
 exact⟨ha,by rw[vH,if_pos ha,xj (aB .aM) h h1 h2];rfl⟩
theorem BI{l:List aM}{c:Int}(h:l.any (Pu c)=false):j7 l c=false∧vH l c=⟨[]⟩:=⟨h,by rw[vH,j7,h];rfl⟩
theorem RM{s:aX}{c:Int}(h:below s c):j7 s.received c=false:=by
 unfold j7
 rw[List.any_eq_false]
 intro r hr
 have:=h r hr
 simp only[Pu,beq_iff_eq];omega
theorem Dt{l:List aM}{c:Int}(h: ∀r,r∈l→cQ List.length r.share.rows≤1048576):cQ List.length (vH l c).rows≤1048576:=by
 unfold vH
 split
 ·rw[List.getD_eq_getElem?_getD]
  cases hq:l[(fidx (Pu c) l).toNat]? with
  |none=>exact by decide
  |some r=>exact h r (List.mem_of_getElem? hq)
 ·exact by decide
theorem Ln{s:aX}{c:Int}{d:DB}(h:jL s c d=false):Ll s c d=s:=by rw[Ll,h];rfl
theorem GR{s:aX}{c:Int}{d:DB}(h:jL s c d=true):Ll s c d=jK s c d:=by rw[Ll,h];rfl
theorem Vp{s:aX}{c:Int}{k:Nat}(hb: ∀r,r∈s.received→r.client<c)(hk:k≤s.received.length)(h:(if decide ((k:Int)<(s.received.length:Int))=true then decide ((s.received.getD k (aB .aM)).client<c)else false)=false):k=s.received.length:=by
 by_cases h1:k<s.received.length
 ·rw[if_pos (by simpa using h1)]at h
  have:=hb _ (getD_in (aB .aM) h1)
  simp only[decide_eq_false_iff_not]at h
  omega
 ·omega
theorem ins_eq(l:List aM)(y:aM): []++List.drop (Int.toNat 0) (List.take ((l.length:Int)).toNat l)++ [y]++ []=l++ [y]:=by simp
theorem aaU{s:aX}{c:Int}{d:DB}(h:(if !bS s then true else !bS (jK s c d))=true):jL s c d=false:=by
 unfold jL
 cases h1:bS s<;>cases h2:bS (jK s c d)<;>simp_all
theorem aaV{s:aX}{c:Int}{d:DB}(h:(if !bS s then true else !bS (jK s c d))=false):jL s c d=true:=by
 unfold jL
 cases h1:bS s<;>cases h2:bS (jK s c d)<;>simp_all
def GS(d:DB):Int:=hsh ((d.rows.length:Int)::d.rows.flatMap Ek)
theorem qv(l:List UInt8):(Ek l).length=l.length+1:=by simp[Ek]
theorem RN(l:List (List UInt8)): ∀k,((l.take k).flatMap Ek).length≤cQ List.length l:=by
 have key: ∀m:List (List UInt8),(m.flatMap Ek).length=cQ List.length m:=by
  intro m
  induction m with
  |nil=>rfl
  |cons x r ih=>rw[List.flatMap_cons,List.length_append,ih,qv];unfold cQ;simp only[List.length_cons,List.map_cons,List.sum_cons];omega
 intro k
 rw[key]
 have h1:=kY l List.length k
 unfold cQ
 have:(l.take k).length≤l.length:=List.length_take_le' _ _
 omega
theorem MM(l:List (List UInt8))(k:Nat)(h:k<l.length):(l.take (k+1)).flatMap Ek=(l.take k).flatMap Ek++Ek (l.getD k (aB (.sl .u8))):=by
 rw[bq l k (aB (.sl .u8)) h,List.flatMap_append];simp
def fY(m s:Int):Int:=AM (kh m [173,s])
theorem RP{m s:Int}:(if kh m [173,s]>1 then kh m [173,s]else 1)=fY m s:=by
 have:=c8 m [173,s]
 unfold fY AM
 split<;>split<;>omega
def Du(c r:Int)(d:DB):Int:=hsh [179,c,r,GS d]
def OM(key s c r g:Int):Int:=kh key [181,s,c,r,g]
def Vq(key s c r:Int)(d:DB):dG:=⟨s,c,r,Du c r d,OM key s c r (Du c r d)⟩
def MN(l:List aX)(c:Int)(ds:List DB):List aX:=List.zipWith (fun s d=>Ll s c d) l ds
def uz(x:aV):Nat→List aX
 |0=>x.aj
 |k+1=>MN (uz x k) (k:Int) (cD x (k:Int))
def Yu(x:aV)(c:Nat)(i:Nat):List dG:= [Vq (fY x.aT (i:Int)) (i:Int) (c:Int) x.round ((cD x (c:Int)).getD i (aB .DB))]
def Dv(x:aV)(c:Nat)(n:Nat):List dG:=(List.range n).flatMap (Yu x c)
def Dw(x:aV)(n:Nat):List dG:=(List.range n).flatMap fun c=>Dv x c x.aj.length
theorem zJ(x:aV)(c n:Nat):Dv x c (n+1)=Dv x c n++ [Vq (fY x.aT (n:Int)) (n:Int) (c:Int) x.round ((cD x (c:Int)).getD n (aB .DB))]:=by
 unfold Dv
 rw[List.range_succ,List.flatMap_append];simp[Yu]
theorem zK(x:aV)(n:Nat):Dw x (n+1)=Dw x n++Dv x n x.aj.length:=by
 unfold Dw
 rw[List.range_succ,List.flatMap_append];simp
theorem xI(x:aV)(c:Nat): ∀n,(Dv x c n).length=n
 |0=>rfl
 |n+1=>by rw[zJ,List.length_append,xI x c n];rfl
theorem Dx(x:aV): ∀n,(Dw x n).length=n*x.aj.length
 |0=>by simp[Dw]
 |n+1=>by rw[zK,List.length_append,Dx x n,xI,Nat.add_mul];omega
structure Col(x:aV)(k:Nat):Prop where
 len:(uz x k).length=x.aj.length
 WS: ∀s,s∈uz x k→below s (k:Int)
 sml: ∀s,s∈uz x k→m7 s
theorem uc{x:aV}(h:okW x=true): ∀s,s∈x.aj→s.received= []:=by
 intro s hs
 obtain⟨i,hi,rfl⟩:=List.mem_iff_getElem.1 hs
 have h1:=GQ h hi
 have e:x.aj.getD i (aB .aX)=x.aj[i]:=by rw[List.getD_eq_getElem?_getD,List.getElem?_eq_getElem hi];rfl
 simp only[Ff,e,Bool.and_eq_true,decide_eq_true_eq]at h1
 have h2:x.aj[i].received.length=0:=by omega
 exact List.length_eq_zero_iff.1 h2
theorem vI{x:aV}{c:Int}(h:okW x=true): ∀d,d∈cD x c→cg d=true:=by
 have:=lM h
 exact RL (by omega)
theorem Ji{l:List aX}{c:Int}{ds:List DB}{s:aX}(h:s∈MN l c ds): ∃t d,t∈l∧d∈ds∧s=Ll t c d:=by
 induction l generalizing ds with
 |nil=>cases h
 |cons t l ih=>
  cases ds with
  |nil=>cases h
  |cons d ds=>
   rcases List.mem_cons.1 h with h1|h1
   ·exact⟨t,d,List.mem_cons_self ..,List.mem_cons_self ..,h1⟩
   ·obtain⟨t',d',q1,q2,q3⟩:=ih h1
    exact⟨t',d',List.mem_cons_of_mem _ q1,List.mem_cons_of_mem _ q2,q3⟩
theorem col{x:aV}(h:okW x=true): ∀k,k≤x.aa.length→Col x k
 |0,_=>by
  have he:=uc h
  refine⟨rfl,fun s hs=> ?_,fun s hs=> ?_⟩
  ·intro r hr;rw[he s hs]at hr;cases hr
  ·refine⟨by rw[he s hs];decide,fun r hr=> ?_⟩
   rw[he s hs]at hr;cases hr
 |k+1,hk=>by
  have ih:=col h k (by omega)
  have hl:(cD x (k:Int)).length=x.aj.length:=gL h (by omega)
  refine⟨?_,fun s hs=> ?_,fun s hs=> ?_⟩
  ·show(List.zipWith _ _ _).length=_
   rw[List.length_zipWith,ih.len,hl];omega
  ·obtain⟨t,d,h1,h2,rfl⟩:=Ji hs
   exact OK (ih.WS t h1) (by omega)
  ·obtain⟨t,d,h1,h2,rfl⟩:=Ji hs
   exact OL (ih.sml t h1) (vI h d h2)
theorem jM{x:aV}(h:okW x=true){k:Nat}(hk:k≤x.aa.length):(uz x k).length=x.aj.length:=(col h k hk).len
theorem Jj{x:aV}(h:okW x=true){k i:Nat}(hk:k<x.aa.length)(hi:i<x.aj.length):(uz x (k+1)).getD i (aB .aX)=Ll ((uz x k).getD i (aB .aX)) (k:Int) ((cD x (k:Int)).getD i (aB .DB)):=by
 have hl:(cD x (k:Int)).length=x.aj.length:=gL h (by omega)
 have h2:=jM h (k:=k) (by omega)
 show(List.zipWith _ _ _).getD i _=_
 rw[List.getD_eq_getElem?_getD,List.getD_eq_getElem?_getD,List.getD_eq_getElem?_getD,List.getElem?_zipWith,List.getElem?_eq_getElem (show i<(uz x k).length by omega),List.getElem?_eq_getElem (show i<(cD x (k:Int)).length by omega)]
 rfl
def uA(x:aV)(k i:Nat):List aX:=(uz x (k+1)).take i++(uz x k).drop i
theorem Jk{x:aV}(h:okW x=true){k i:Nat}(hk:k<x.aa.length)(hi:i≤x.aj.length):(uA x k i).length=x.aj.length:=by
 have h1:=jM h (k:=k) (by omega)
 have h2:=jM h (k:=k+1) (by omega)
 unfold uA
 rw[jt _ _ _ (by omega) (by omega),h1]
theorem Jl{x:aV}(h:okW x=true){k i:Nat}(hk:k<x.aa.length)(hi:i<x.aj.length):(uA x k i).getD i (aB .aX)=(uz x k).getD i (aB .aX):=by
 have h2:=jM h (k:=k+1) (by omega)
 exact jr _ _ _ _ (by omega)
theorem Fq{x:aV}(h:okW x=true){k i:Nat}(hk:k<x.aa.length)(hi:i<x.aj.length):(uA x k i).set i (Ll ((uA x k i).getD i (aB .aX)) (k:Int) ((cD x (k:Int)).getD i (aB .DB)))=uA x k (i+1):=by
 have h1:=jM h (k:=k) (by omega)
 have h2:=jM h (k:=k+1) (by omega)
 rw[Jl h hk hi]
 exact sq _ _ _ (aB .aX) _ (by omega) (by omega) (Jj h hk hi)
theorem Jm{x:aV}(h:okW x=true){k i:Nat}(hk:k<x.aa.length)(hi:x.aj.length≤i):uA x k i=uz x (k+1):=by
 have h1:=jM h (k:=k) (by omega)
 have h2:=jM h (k:=k+1) (by omega)
 unfold uA
 rw[List.take_of_length_le (by omega),List.drop_of_length_le (by omega),List.append_nil]
theorem Jn{x:aV}(h:okW x=true){k i:Nat}(hk:k<x.aa.length)(hi:i<x.aj.length):below ((uA x k i).getD i (aB .aX)) (k:Int)∧m7 ((uA x k i).getD i (aB .aX))∧cQ List.length ((cD x (k:Int)).getD i (aB .DB)).rows≤1048576:=by
 rw[Jl h hk hi]
 have c:=col h k (by omega)
 have hl:(cD x (k:Int)).length=x.aj.length:=gL h (by omega)
 exact⟨c.WS _ (getD_in _ (by rw[c.len];exact hi)),c.sml _ (getD_in _ (by rw[c.len];exact hi)),dw (vI h _ (getD_in _ (by omega)))⟩
def aY(x:aV):List aX:=if okW x then uz x x.aa.length else []
def eX(x:aV):List dG:=if okW x then Dw x x.aa.length else []
end
section
def eY(l:List aJ)(f:Int):List Int:=(l.filter fun r=>decide (f≤r.round)).map aJ.round
theorem DA(l:List aJ)(f:Int)(k:Nat)(h:k<l.length)(h2:f≤(l.getD k (aB .aJ)).round):eY (l.take (k+1)) f=eY (l.take k) f++ [(l.getD k (aB .aJ)).round]:=by
 unfold eY
 rw[bq l k (aB .aJ) h,List.filter_append,List.map_append]
 generalize l.getD k (aB .aJ)=r at h2 ⊢
 simp[List.filter_cons,h2]
theorem AY(l:List aJ)(f:Int)(k:Nat)(h:k<l.length)(h2: ¬f≤(l.getD k (aB .aJ)).round):eY (l.take (k+1)) f=eY (l.take k) f:=by
 unfold eY
 rw[bq l k (aB .aJ) h,List.filter_append,List.map_append]
 generalize l.getD k (aB .aJ)=r at h2 ⊢
 simp[List.filter_cons,h2]
theorem vL(l:List aJ)(f:Int):(eY l f).length≤l.length:=by
 unfold eY
 rw[List.length_map];exact List.length_filter_le _ _
theorem AZ(l:List aJ)(f:Int)(k:Nat):(eY (l.take k) f).length≤k:=by
 have h1:=vL (l.take k) f
 rw[List.length_take]at h1
 omega
end
section
def En(key c:Int)(cell:List UInt8):List UInt8:=decr (jh key c) (cell.take 20)
def Eo(key c:Int)(cell:List UInt8):Bool:=eC key&&inr c 0 1000000000000&&decide ((cell.length:Int)=24)&&(cell.drop 20==four (gH key c (cell.take 20)))
def WT(key c:Int)(cell:List UInt8):Bool:=inr ((En key c cell).getD 0 (aB .u8)).toNat 0 3&&decide ((((En key c cell).getD 1 (aB .u8)).toNat:Int)≤14)
def kJ(key c:Int)(cell:List UInt8):Bool:=Eo key c cell&&WT key c cell
def Jp(key c:Int)(cell:List UInt8):Plain:=if kJ key c cell then⟨((En key c cell).getD 0 (aB .u8)).toNat,((En key c cell).take (2+((En key c cell).getD 1 (aB .u8)).toNat)).drop 2⟩else⟨0,[]⟩
theorem GW{key c:Int}{cell:List UInt8}(h:Eo key c cell=true):(En key c cell).length=20∧cell.length=24:=by
 simp only[Eo,Bool.and_eq_true,decide_eq_true_eq]at h
 have:cell.length=24:=by omega
 refine⟨?_,this⟩
 unfold En
 rw[lq,List.length_take];omega
theorem lN{key c:Int}{cell:List UInt8}(h:kJ key c cell=false):Jp key c cell=⟨0,[]⟩:=by rw[Jp,h];rfl
theorem RT(key c:Int)(cell:List UInt8):(Jp key c cell).body.length≤14:=by
 unfold Jp
 split
 ·rename_i h
  simp only[kJ,WT,Bool.and_eq_true,decide_eq_true_eq]at h
  simp only[List.length_drop,List.length_take];omega
 ·exact Nat.zero_le _
theorem RU(a b c d:UInt8)(n:Int)(h0:0≤n)(h1:n<4294967296):([a,b,c,d]==four n)=decide ((a.toNat:Int)+256*b.toNat+65536*c.toNat+16777216*d.toNat=n):=by
 have ha:=a.toNat_lt;have hb:=b.toNat_lt;have hc:=c.toNat_lt;have hd:=d.toNat_lt
 rw[Bool.eq_iff_iff,beq_iff_eq,decide_eq_true_eq]
 have key: ∀(x:UInt8) (m:Int),x=b8 m↔(x.toNat:Int)=m % 256:=by
  intro x m
  constructor
  ·rintro rfl;exact lg m
  ·intro h;apply GI;rw[lg];exact h
 unfold four
 simp only[List.cons.injEq,and_true,key]
 constructor
 ·rintro⟨q1,q2,q3,q4⟩;omega
 ·intro h;omega
def MQ(r:Int)(a:aJ):Bool:=a.round==r
def gh(l:List aJ)(r:Int):Bool:=l.any (MQ r)
def fG(l:List aJ)(r:Int):DB:=if gh l r then(l.getD (fidx (MQ r) l).toNat (aB .aJ)).db else⟨[]⟩
theorem Lo{l:List aJ}{r:Int}{k:Nat}(h:k<l.length)(h1:(l.take k).any (MQ r)=false)(h2:MQ r (l.getD k (aB .aJ))=true):gh l r=true∧fG l r=(l.getD k (aB .aJ)).db:=by
 have ha:gh l r=true:=BF l (MQ r) (aB .aJ) k h h2
 exact⟨ha,by rw[fG,if_pos ha,xj (aB .aJ) h h1 h2];rfl⟩
theorem BJ{l:List aJ}{r:Int}(h:l.any (MQ r)=false):gh l r=false∧fG l r=⟨[]⟩:=⟨h,by rw[fG,gh,h];rfl⟩
def Vr(rows:List (List UInt8))(v:List Int)(o:List UInt8)(k:Nat):List UInt8:=if decide ((k:Int)<v.length)&&(v.getD k (aB .int)==1)then cH o (rows.getD k (aB (.sl .u8)))else o
def pE(rows:List (List UInt8))(v:List Int)(k:Nat):List UInt8:=(List.range k).foldl (Vr rows v) []
def vO(rows:List (List UInt8))(v:List Int):List UInt8:=pE rows v rows.length
theorem Fu(rows:List (List UInt8))(v:List Int)(k:Nat):pE rows v (k+1)=Vr rows v (pE rows v k) k:=by
 unfold pE
 rw[List.range_succ,List.foldl_append];rfl
theorem sQ{rows:List (List UInt8)}{v:List Int}{k:Nat}(h:k<v.length)(h1:v.getD k (aB .int)=1):pE rows v (k+1)=cH (pE rows v k) (rows.getD k (aB (.sl .u8))):=by
 rw[Fu,Vr,if_pos]
 simp only[Bool.and_eq_true,decide_eq_true_eq,beq_iff_eq]
 exact⟨by omega,h1⟩
theorem mD{rows:List (List UInt8)}{v:List Int}{k:Nat}(h: ¬(k<v.length∧v.getD k (aB .int)=1)):pE rows v (k+1)=pE rows v k:=by
 rw[Fu,Vr,if_neg]
 simp only[Bool.and_eq_true,decide_eq_true_eq,beq_iff_eq]
 intro h2
 exact h ⟨by omega,h2.2⟩
theorem Fv(rows:List (List UInt8))(v:List Int)(k:Nat)(h:v.length≤k): ∀n,pE rows v (k+n)=pE rows v k
 |0=>rfl
 |n+1=>by rw[←Nat.add_assoc,mD (by omega)];exact Fv rows v k h n
theorem Jq{rows:List (List UInt8)}{v:List Int}{k:Nat}(hk:k≤rows.length)(h:rows.length≤k∨v.length≤k):pE rows v k=vO rows v:=by
 unfold vO
 rcases h with h|h
 ·rw[show k=rows.length by omega]
 ·have:=Fv rows v k h (rows.length-k)
  rw[show k+(rows.length-k)=rows.length by omega]at this
  exact this.symm
theorem sR{rows:List (List UInt8)}(v:List Int)(h: ∀r,r∈rows→r.length≤1048576): ∀k,k≤rows.length→(pE rows v k).length≤1048576
 |0,_=>Nat.zero_le _
 |k+1,hk=>by
  have ih:=sR v h k (by omega)
  by_cases hh:k<v.length∧v.getD k (aB .int)=1
  ·rw[sQ hh.1 hh.2,ck]
   have:=h _ (getD_in (aB (.sl .u8)) (show k<rows.length by omega))
   omega
  ·rw[mD hh];exact ih
def eg(d:DB)(v:List Int):List UInt8:=if cg d&&cF v d.rows.length then cH HM (vO d.rows v)else []
theorem sS(d:DB)(v:List Int):(eg d v).length=24∨eg d v= []:=by
 unfold eg
 split
 ·left
  rename_i h
  simp only[Bool.and_eq_true]at h
  have key: ∀k,k≤d.rows.length→(pE d.rows v k).length≤24:=by
   intro k
   induction k with
   |zero=>intro _;exact Nat.zero_le _
   |succ k ih=>
    intro hk
    by_cases hh:k<v.length∧v.getD k (aB .int)=1
    ·rw[sQ hh.1 hh.2,ck,kU h.1 k (by omega)]
     have:=ih (by omega);omega
    ·rw[mD hh];exact ih (by omega)
  have:=key d.rows.length (Nat.le_refl _)
  unfold vO
  rw[ck,jH];omega
 ·right;rfl
def DC(key sv r:Int)(v:List Int)(b:List UInt8):Int:=kh key ([191,sv,r,(v.length:Int)]++v++Ek b)
def Vt(key sv r:Int)(v:List Int)(b:List UInt8):cA:=⟨sv,r,v,b,DC key sv r v b⟩
def ji(d:DB)(v:List Int):Bool:= !((eg d v).length==0)
def noA:cA:=⟨0,0,[],[],0⟩
def nD(key sv r:Int)(d:DB)(v:List Int):cA:=if ji d v then Vt key sv r v (eg d v)else noA
def Fw(b:List UInt8):List UInt8:=b.set 0 (b.getD 0 (aB .u8)^^^128)
def GX(s:aX)(key r:Int)(d:DB)(v:List Int):cA:=if ji d v then(if s.behavior=3 then Vt key s.id r v (Fw (eg d v))else Vt key s.id r v (eg d v))else noA
theorem RW(s:aX)(key r:Int)(d:DB)(v:List Int):(GX s key r d v).data.length=24∨(ji d v=false∧(GX s key r d v).data= []):=by
 unfold GX
 cases h:ji d v with
 |false=>right;exact⟨rfl,rfl⟩
 |true=>
  left
  have h1:=sS d v
  have h2:(eg d v).length=24:=by
   rcases h1 with h1|h1
   ·exact h1
   ·rw[ji,h1]at h;cases h
  simp only[if_true]
  split
  ·show(Fw (eg d v)).length=24
   unfold Fw;rw[List.length_set];exact h2
  ·exact h2
def gj(l:List (List UInt8)):Bool:=b7 l.length&&l.all fun a=>decide ((a.length:Int)=24)
def sU(l:List (List UInt8)):List UInt8:=l.foldl cH []
def TX(l:List (List UInt8)):List UInt8:=if gj l then sU l else []
theorem zM(l:List (List UInt8))(k:Nat)(h:k<l.length):sU (l.take (k+1))=cH (sU (l.take k)) (l.getD k (aB (.sl .u8))):=by
 unfold sU
 rw[bq l k (aB (.sl .u8)) h,List.foldl_append];rfl
theorem Jr{l:List (List UInt8)}(h: ∀a,a∈l→a.length≤1048576): ∀k,(sU (l.take k)).length≤1048576:=by
 intro k
 induction k with
 |zero=>exact Nat.zero_le _
 |succ k ih=>
  by_cases hk:k<l.length
  ·rw[zM l k hk,ck]
   have:=h _ (getD_in (aB (.sl .u8)) hk)
   omega
  ·rw[List.take_of_length_le (by omega)]at ih ⊢
   exact ih
def RX(x:aV)(r:Int)(d:DB)(q:List (List Int))(i:Nat):cA:=GX (x.aj.getD i (aB .aX)) (fY x.aT (i:Int)) r d (q.getD i (aB (.sl .int)))
def qP(x:aV)(r:Int)(d:DB)(q:List (List Int))(n:Nat):List cA:=(List.range n).map (RX x r d q)
theorem DD(x:aV)(r:Int)(d:DB)(q:List (List Int))(n:Nat):qP x r d q (n+1)=qP x r d q n++ [RX x r d q n]:=by
 unfold qP
 rw[List.range_succ,List.map_append];rfl
theorem Fx(x:aV)(r:Int)(d:DB)(q:List (List Int))(n:Nat):(qP x r d q n).length=n:=by simp[qP]
def query'(x:aV)(r row s:Int):List (List Int):=ia x.rows row (fD x.aj.length r row s)
def qQ(x:aV)(r row s:Int):List (List UInt8):=(qP x r (fG x.az.rounds r) (query' x r row s) (query' x r row s).length).map cA.data
def A3(x:aV)(r row s:Int):Bool:=gh x.az.rounds r&&gj (qQ x r row s)
def GY(x:aV)(r row s:Int):List UInt8:=if gh x.az.rounds r then TX (qQ x r row s)else []
theorem RY{x:aV}{r row s:Int}{k:Nat}(hk:k<(query' x r row s).length)(h:ji (fG x.az.rounds r) ((query' x r row s).getD k (aB (.sl .int)))=false):gj (qQ x r row s)=false:=by
 unfold gj
 have h1:(RX x r (fG x.az.rounds r) (query' x r row s) k).data∈qQ x r row s:=by
  unfold qQ qP
  rw[List.map_map]
  exact List.mem_map.2 ⟨k,List.mem_range.2 hk,rfl⟩
 have h2:(RX x r (fG x.az.rounds r) (query' x r row s) k).data= []:=by
  rcases RW (x.aj.getD k (aB .aX)) (fY x.aT (k:Int)) r (fG x.az.rounds r) ((query' x r row s).getD k (aB (.sl .int)))with h3|h3
  ·unfold RX;unfold GX;rw[h];rfl
  ·exact h3.2
 have h3:((qQ x r row s).all fun a=>decide ((a.length:Int)=24))=false:=by
  rw[List.all_eq_false]
  exact⟨_,h1,by rw[h2];decide⟩
 rw[h3,Bool.and_false]
def kK(c:dK)(r:Int):Bool:=cN c&&inr r c.next 99999
def gA(c:dK)(own:List UInt8):Bool:=decide (c.sent<(c.aI.length:Int))&&(own==mV c c.sent)
def qR(c:dK):Int:=iD c.key (1-cx c)
def fu(c:dK)(other:List UInt8):Bool:=(kJ (qR c) (c.inbox.length:Int) other&&((Jp (qR c) (c.inbox.length:Int) other).kind==1))&&decide ((c.inbox.length:Int)<16)
def dL(c:dK)(r:Int)(own other:List UInt8):dK:=if kK c r then⟨c.id,c.dz,c.key,c.seed,c.aI,if gA c own then c.sent+1 else c.sent,if fu c other then c.inbox++ [(Jp (qR c) (c.inbox.length:Int) other).body]else c.inbox,r+1⟩else c
def uW(d:bg):Bool:=cR d&&decide (4≤IntKind.i64.wrap (d.live.next-d.saved.next))
def qx(d:bg)(r:Int):Bool:=kK d.live r&&cR d
def lC(d:bg)(r:Int)(own other:List UInt8):bg:=⟨dL d.live r own other,d.saved⟩
def rdev(d:bg)(r:Int)(own other:List UInt8):bg:=if qx d r then(if uW (lC d r own other)then⟨dL d.live r own other,dL d.live r own other⟩else lC d r own other)else d
def qS(a b:dK):Prop:=a.id=b.id∧a.dz=b.dz∧a.key=b.key∧a.seed=b.seed
theorem vP(c:dK)(r:Int)(own other:List UInt8):qS (dL c r own other) c:=by
 unfold dL
 split
 ·exact⟨rfl,rfl,rfl,rfl⟩
 ·exact⟨rfl,rfl,rfl,rfl⟩
theorem OO(d:bg)(r:Int)(own other:List UInt8):qS (rdev d r own other).live d.live:=by
 unfold rdev
 split
 ·split
  ·exact vP _ _ _ _
  ·exact vP _ _ _ _
 ·exact⟨rfl,rfl,rfl,rfl⟩
theorem Lp{a b:dK}(h:qS a b):cx a=cx b:=by unfold cx;rw[h.1,h.2.1]
def GZ(x:aV)(d0 d:bg)(r:Int):bg:=rdev d r (GY x r (eA d0.live.key r (cx d0.live) x.rows) d0.live.seed) (GY x r (eA d0.live.key r (1-cx d0.live) x.rows) d0.live.seed)
def G0(x:aV)(d0:bg)(l:List Int):bg:=l.foldl (GZ x d0) d0
theorem OP(x:aV)(d0:bg)(l:List Int)(k:Nat)(h:k<l.length):G0 x d0 (l.take (k+1))=GZ x d0 (G0 x d0 (l.take k)) (l.getD k (aB .int)):=by
 unfold G0
 rw[bq l k (aB .int) h,List.foldl_append];rfl
theorem zN(x:aV)(d0:bg): ∀(l:List Int) (d:bg),qS d.live d0.live→qS (l.foldl (GZ x d0) d).live d0.live
 | [],_,h=>h
 |r::l,d,h=>by
  refine zN x d0 l _ ?_
  have:=OO d r (GY x r (eA d0.live.key r (cx d0.live) x.rows) d0.live.seed) (GY x r (eA d0.live.key r (1-cx d0.live) x.rows) d0.live.seed)
  exact⟨this.1.trans h.1,this.2.1.trans h.2.1,this.2.2.1.trans h.2.2.1,this.2.2.2.trans h.2.2.2⟩
def nY(x:aV)(d:bg):List Int:=eY x.az.rounds d.live.next
def jP(x:aV)(d:bg):bg:=G0 x d (nY x d)
def pQ(x:aV)(k i:Nat):List bg:=(x.aa.map (jP x)).take k++(G0 x (x.aa.getD k (aB .bg)) ((nY x (x.aa.getD k (aB .bg))).take i)::x.aa.drop (k+1))
def Pv(x:aV)(k:Nat):List bg:=(x.aa.map (jP x)).take k++x.aa.drop k
theorem RZ(x:aV)(k:Nat)(h:k<x.aa.length):pQ x k 0=Pv x k:=by
 unfold pQ Pv
 rw[List.take_zero,List.drop_eq_getElem_cons h,show x.aa[k]=x.aa.getD k (aB .bg)by rw[List.getD_eq_getElem?_getD,List.getElem?_eq_getElem h];rfl];rfl
theorem xJ(x:aV)(k:Nat)(h:k<x.aa.length):((x.aa.map (jP x)).take k).length=k:=by
 rw[List.length_take,List.length_map];omega
theorem MR(x:aV)(k i:Nat)(h:k<x.aa.length):(pQ x k i).length=x.aa.length:=by
 unfold pQ
 rw[List.length_append,xJ x k h,List.length_cons,List.length_drop];omega
theorem BK(x:aV)(k i:Nat)(h:k<x.aa.length):(pQ x k i).getD k (aB .bg)=G0 x (x.aa.getD k (aB .bg)) ((nY x (x.aa.getD k (aB .bg))).take i):=by
 unfold pQ
 rw[List.getD_eq_getElem?_getD,List.getElem?_append_right (by rw[xJ x k h];omega),xJ x k h,Nat.sub_self];rfl
theorem Js(x:aV)(k i:Nat)(h:k<x.aa.length)(hi:i<(nY x (x.aa.getD k (aB .bg))).length):(pQ x k i).set k (GZ x (x.aa.getD k (aB .bg)) ((pQ x k i).getD k (aB .bg)) ((nY x (x.aa.getD k (aB .bg))).getD i (aB .int)))=pQ x k (i+1):=by
 rw[BK x k i h, ←OP x _ _ i hi]
 unfold pQ
 rw[List.set_append_right _ _ (by rw[xJ x k h];omega),xJ x k h,Nat.sub_self];rfl
theorem MS(x:aV)(k i:Nat)(h:k<x.aa.length)(hi:(nY x (x.aa.getD k (aB .bg))).length≤i):pQ x k i=Pv x (k+1):=by
 unfold pQ Pv
 rw[List.take_of_length_le hi,bq (x.aa.map (jP x)) k (aB .bg) (by rw[List.length_map];exact h),List.append_assoc]
 congr 1
 rw[show(x.aa.map (jP x)).getD k (aB .bg)=jP x (x.aa.getD k (aB .bg))by
  rw[List.getD_eq_getElem?_getD,List.getD_eq_getElem?_getD,List.getElem?_map,List.getElem?_eq_getElem h];rfl]
 rfl
theorem MT(x:aV)(k:Nat)(h:k<x.aa.length):(Pv x k).getD k (aB .bg)=x.aa.getD k (aB .bg):=by rw[←RZ x k h,BK x k 0 h];rfl
theorem MU(x:aV)(k:Nat)(h:k≤x.aa.length):(Pv x k).length=x.aa.length:=by
 unfold Pv
 rw[jt _ _ _ (by rw[List.length_map]) h]
def yI(x:aV):aV:=if okW x then⟨x.rows,x.aj,x.aa.map (jP x),x.az,x.aT,x.seed,x.round,x.replaced,x.cancelled⟩else x
theorem MV(x:aV)(k:Nat)(hk:k≤x.aa.length)(h:x.aa.length≤k):Pv x k=x.aa.map (jP x):=by
 unfold Pv
 rw[List.take_of_length_le (by rw[List.length_map];exact h),List.drop_of_length_le h,List.append_nil]
end
section
theorem OQ(x:UInt8):IntKind.i64.wrap (x.toNat:Int)=x.toNat:=bh (by have:=x.toNat_lt;omega)
def Pw(key c:Int)(cell:List UInt8):Int:=((En key c cell).getD 0 (aB .u8)).toNat
def BL(key c:Int)(cell:List UInt8):Nat:=((En key c cell).getD 1 (aB .u8)).toNat
def TY(key c:Int)(cell:List UInt8):List UInt8:=((En key c cell).take (2+BL key c cell)).drop 2
theorem Yx(key c:Int)(cell:List UInt8):BL key c cell<256:=((En key c cell).getD 1 (aB .u8)).toNat_lt
theorem R1(key c:Int)(cell:List UInt8):decr (jh key c) ((cell.take (20:Int).toNat).drop (0:Int).toNat)=En key c cell:=by unfold En;simp
theorem Lr(key c:Int)(cell:List UInt8):((En key c cell).take (IntKind.i64.wrap (2+IntKind.i64.wrap (((En key c cell).getD (Int.toNat 1) (aB .u8)).toNat:Int))).toNat).drop (Int.toNat 2)=TY key c cell:=by
 have h:=Yx key c cell
 rw[OQ,bh (by show _∧2+(BL key c cell:Int)≤_;show _≤2+(BL key c cell:Int)∧_;omega)]
 show((En key c cell).take (2+(BL key c cell:Int)).toNat).drop 2=_
 rw[show(2+(BL key c cell:Int)).toNat=2+BL key c cell by omega];rfl
theorem WU{key c:Int}{cell:List UInt8}(h:14<BL key c cell):kJ key c cell=false:=by
 have:WT key c cell=false:=by
  simp only[WT,Bool.and_eq_false_iff,decide_eq_false_iff_not]
  right
  show¬((BL key c cell:Int)≤14)
  omega
 rw[kJ,this,Bool.and_false]
theorem DE{key c:Int}{cell:List UInt8}(h:Eo key c cell=false):kJ key c cell=false:=by rw[kJ,h];rfl
theorem G1{key c:Int}{cell:List UInt8}(hA:Eo key c cell=true)(h:BL key c cell≤14):(TY key c cell).length=BL key c cell:=by
 have:=(GW hA).1
 unfold TY
 rw[List.length_drop,List.length_take];omega
theorem aaX{key c:Int}{cell:List UInt8}(hA:Eo key c cell=true)(h:BL key c cell≤14):fH ⟨Pw key c cell,TY key c cell⟩=kJ key c cell:=by
 have hl:=G1 hA h
 rw[kJ,hA,Bool.true_and,fH,WT]
 show(inr (Pw key c cell) 0 3&&decide (((TY key c cell).length:Int)≤14))=(inr (Pw key c cell) 0 3&&decide ((BL key c cell:Int)≤14))
 rw[hl]
theorem xK{key c:Int}{cell:List UInt8}(h:kJ key c cell=true):Jp key c cell=⟨Pw key c cell,TY key c cell⟩:=by rw[Jp,if_pos h];rfl
theorem WV{key c:Int}{cell:List UInt8}(hA:Eo key c cell=true)(h:BL key c cell≤14)(hk:Pw key c cell≤3):kJ key c cell=true:=by
 rw[kJ,hA,Bool.true_and,WT]
 simp only[Bool.and_eq_true,bN,decide_eq_true_eq]
 exact⟨⟨by omega,hk⟩,by show(BL key c cell:Int)≤14;omega⟩
theorem Yy{key c:Int}{cell:List UInt8}(h:3<Pw key c cell):kJ key c cell=false:=by
 have:WT key c cell=false:=by
  simp only[WT,Bool.and_eq_false_iff]
  left
  rw[WK]
  show¬(0≤Pw key c cell∧Pw key c cell≤3)
  omega
 rw[kJ,this,Bool.and_false]
theorem Yz(a b k:Nat)(h:a<2^k):a||| (b*2^k)=a+b*2^k:=by
 have:=Nat.two_pow_add_eq_or_of_lt h b
 rw[Nat.mul_comm b,Nat.or_comm, ←this,Nat.add_comm]
theorem YA{a:Nat}{b k:Nat}(ha:a<2^k)(hb:b<256)(hk:k=8∨k=16∨k=24):IntKind.i64.wrap (BitVec.ofInt IntKind.i64.bits (a:Int)|||BitVec.ofInt IntKind.i64.bits (IntKind.i64.wrap ((b:Int)*2^k))).toNat=((a+b*2^k:Nat):Int):=by
 have hp:b*2^k<2^32:=by
  rcases hk with rfl|rfl|rfl<;>omega
 have ha2:a<2^24:=by
  rcases hk with rfl|rfl|rfl<;>omega
 have e:((b:Int)*2^k)=((b*2^k:Nat):Int):=by push_cast;rfl
 rw[e,bh (a:=((b*2^k:Nat):Int)) (by omega),BitVec.ofInt_natCast,BitVec.ofInt_natCast,BitVec.toNat_or,BitVec.toNat_ofNat,BitVec.toNat_ofNat]
 show IntKind.i64.wrap (((a % 2^64|||b*2^k % 2^64:Nat)):Int)=_
 rw[Nat.mod_eq_of_lt (by omega),Nat.mod_eq_of_lt (by omega),Yz a b k ha,bh (by omega)]
def OR(cell:List UInt8):Int:=((cell.getD 20 (aB .u8)).toNat:Int)+256*(cell.getD 21 (aB .u8)).toNat+65536*(cell.getD 22 (aB .u8)).toNat+16777216*(cell.getD 23 (aB .u8)).toNat
theorem Vu(cell:List UInt8):IntKind.i64.wrap (BitVec.ofInt IntKind.i64.bits (IntKind.i64.wrap (BitVec.ofInt IntKind.i64.bits (IntKind.i64.wrap (BitVec.ofInt IntKind.i64.bits (IntKind.i64.wrap ((cell.getD (Int.toNat 20) (aB .u8)).toNat:Int))|||BitVec.ofInt IntKind.i64.bits (IntKind.i64.wrap (IntKind.i64.wrap ((cell.getD (Int.toNat 21) (aB .u8)).toNat:Int)*2^(min (Int.toNat 8) IntKind.i64.bits)))).toNat)|||BitVec.ofInt IntKind.i64.bits (IntKind.i64.wrap (IntKind.i64.wrap ((cell.getD (Int.toNat 22) (aB .u8)).toNat:Int)*2^(min (Int.toNat 16) IntKind.i64.bits)))).toNat)|||BitVec.ofInt IntKind.i64.bits (IntKind.i64.wrap (IntKind.i64.wrap ((cell.getD (Int.toNat 23) (aB .u8)).toNat:Int)*2^(min (Int.toNat 24) IntKind.i64.bits)))).toNat=OR cell:=by
 have h0:=(cell.getD 20 (aB .u8)).toNat_lt
 have h1:=(cell.getD 21 (aB .u8)).toNat_lt
 have h2:=(cell.getD 22 (aB .u8)).toNat_lt
 have h3:=(cell.getD 23 (aB .u8)).toNat_lt
 rw[OQ,OQ,OQ,OQ]
 show IntKind.i64.wrap (BitVec.ofInt IntKind.i64.bits (IntKind.i64.wrap (BitVec.ofInt IntKind.i64.bits (IntKind.i64.wrap (BitVec.ofInt IntKind.i64.bits (((cell.getD 20 (aB .u8)).toNat:Nat):Int)|||BitVec.ofInt IntKind.i64.bits (IntKind.i64.wrap ((((cell.getD 21 (aB .u8)).toNat:Nat):Int)*2^8))).toNat)|||BitVec.ofInt IntKind.i64.bits (IntKind.i64.wrap ((((cell.getD 22 (aB .u8)).toNat:Nat):Int)*2^16))).toNat)|||BitVec.ofInt IntKind.i64.bits (IntKind.i64.wrap ((((cell.getD 23 (aB .u8)).toNat:Nat):Int)*2^24))).toNat=_
 rw[YA (k:=8) h0 h1 (by omega),YA (k:=16) (by omega) h2 (by omega),YA (k:=24) (by omega) h3 (by omega)]
 unfold OR
 omega
theorem R2{cell:List UInt8}(h:cell.length=24):cell.drop 20= [cell.getD 20 (aB .u8),cell.getD 21 (aB .u8),cell.getD 22 (aB .u8),cell.getD 23 (aB .u8)]:=by
 rw[iW cell 20 (aB .u8) (by omega),iW cell 21 (aB .u8) (by omega),iW cell 22 (aB .u8) (by omega),iW cell 23 (aB .u8) (by omega),List.drop_of_length_le (by omega)]
theorem MW{key c:Int}{cell:List UInt8}(h1:eC key=true)(h2:inr c 0 1000000000000=true)(h3:cell.length=24):Eo key c cell=decide (OR cell=gH key c (cell.take 20)):=by
 have hr:=c8 key (71::c::(cell.take 20).map (fun x=>(x.toNat:Int)))
 have yL:0≤gH key c (cell.take 20)∧gH key c (cell.take 20)<2147483647:=hr
 rw[Eo,h1,h2,show decide ((cell.length:Int)=24)=true by rw[decide_eq_true_eq];omega,Bool.true_and,Bool.true_and,Bool.true_and,R2 h3,RU _ _ _ _ _ yL.1 (by omega)]
 rfl
def WW(key c:Int)(cell:List UInt8):Bool:=eC key&&inr c 0 1000000000000&&decide ((cell.length:Int)=24)
theorem YB{key c:Int}{cell:List UInt8}(h:WW key c cell=false):kJ key c cell=false:=by
 apply DE
 unfold WW at h
 rw[Eo,h];rfl
theorem aaY{key c:Int}{cell:List UInt8}(h:WW key c cell=true):eC key=true∧inr c 0 1000000000000=true∧cell.length=24:=by
 simp only[WW,Bool.and_eq_true,decide_eq_true_eq]at h
 exact⟨h.1.1,h.1.2,by omega⟩
theorem R3(l:List UInt8):l.set (Int.toNat 0) (UInt8.ofNat (IntKind.u8.wrap ((BitVec.ofInt IntKind.u8.bits (((l.getD (Int.toNat 0) (aB .u8)).toNat:Nat):Int)^^^BitVec.ofInt IntKind.u8.bits 128).toNat:Int)).toNat)=Fw l:=by
 have:=Rn (l.getD (Int.toNat 0) (aB .u8)) 128
 rw[show(((128:UInt8).toNat:Nat):Int)=128 from rfl]at this
 rw[this];rfl
theorem MX{d:DB}{v:List Int}(h:(eg d v).length=0):ji d v=false:=by rw[ji,h];rfl
theorem xL{d:DB}{v:List Int}(h: ¬(eg d v).length=0):ji d v=true:=by
 rw[ji,Bool.not_eq_true']
 exact beq_eq_false_iff_ne.2 h
theorem R4{key sv r:Int}{d:DB}{v:List Int}(h:ji d v=false):nD key sv r d v=noA:=by rw[nD,h];rfl
theorem BM{key sv r:Int}{d:DB}{v:List Int}(h:ji d v=true):nD key sv r d v=Vt key sv r v (eg d v):=by rw[nD,if_pos h]
theorem ue{d:DB}{v:List Int}(h:ji d v=true):(eg d v).length=24:=by
 rcases sS d v with h1|h1
 ·exact h1
 ·rw[ji,h1]at h;cases h
theorem R5{s:aX}{key r:Int}{d:DB}{v:List Int}(h:(ji d v&&(s.behavior==3))=false):GX s key r d v=nD key s.id r d v:=by
 unfold GX nD
 cases hk:ji d v with
 |false=>rfl
 |true=>
  rw[hk,Bool.true_and,beq_eq_false_iff_ne]at h
  rw[if_pos rfl,if_pos rfl,if_neg h]
theorem MY{s:aX}{key r:Int}{d:DB}{v:List Int}(h:(ji d v&&(s.behavior==3))=true):ji d v=true∧GX s key r d v=Vt key s.id r v (Fw (eg d v)):=by
 rw[Bool.and_eq_true,beq_iff_eq]at h
 exact⟨h.1,by rw[GX,if_pos h.1,if_pos h.2]⟩
theorem G2(b:List UInt8):(Fw b).length=b.length:=by unfold Fw;rw[List.length_set]
theorem WX(s:aX)(key r:Int)(d:DB){v:List Int}(hv:v.length≤262144):(GX s key r d v).selection.length≤262144∧(GX s key r d v).data.length≤262144:=by
 have h:=sS d v
 have h2:(eg d v).length≤262144:=by
  rcases h with h|h
  ·omega
  ·rw[h];exact Nat.zero_le _
 unfold GX
 split
 ·split
  ·exact⟨hv,by show(Fw (eg d v)).length≤_;rw[G2];exact h2⟩
  ·exact⟨hv,h2⟩
 ·exact⟨Nat.zero_le _,Nat.zero_le _⟩
theorem G3{l:List (List UInt8)}(h:gj l=true):TX l=sU l:=by rw[TX,if_pos h]
theorem BN{l:List (List UInt8)}(h:gj l=false):TX l= []:=by rw[TX,h];rfl
theorem Jt{l:List (List UInt8)}(h:gj l=true): ∀a,a∈l→a.length≤1048576:=by
 intro a ha
 simp only[gj,Bool.and_eq_true,List.all_eq_true,decide_eq_true_eq]at h
 have:=h.2 a ha
 omega
theorem Vv{l:List (List UInt8)}{k:Nat}(hk:k<l.length)(h: ¬(l.getD k (aB (.sl .u8))).length=24):gj l=false:=by
 have h2:(l.all fun a=>decide ((a.length:Int)=24))=false:=K5 _ _ (aB (.sl .u8)) k hk (by rw[decide_eq_false_iff_not];omega)
 rw[gj,h2,Bool.and_false]
theorem R6(rows i:Int)(sd:List Int): ∀v,v∈ia rows i sd→v.length≤64:=by
 intro v hv
 unfold ia at hv
 split at hv
 ·rcases List.mem_append.1 hv with h|h
  ·obtain⟨s,_,rfl⟩:=List.mem_map.1 h
   exact gJ _ _
  ·rw[List.mem_singleton.1 h]
   exact zv rows i sd
 ·cases hv
theorem R7(rows i:Int)(sd:List Int):(ia rows i sd).length≤sd.length+1:=by
 unfold ia
 split
 ·rw[List.length_append,List.length_map];simp
 ·exact Nat.zero_le _
theorem MZ{x:aV}(r row s:Int)(h:okW x=true):(query' x r row s).length≤x.aj.length:=by
 have h1:=R7 x.rows row (fD x.aj.length r row s)
 have h2:=kE x.aj.length r row s
 have h3:=(dj h).2
 unfold query'
 omega
theorem R8(x:aV)(r row s:Int)(k:Nat):((query' x r row s).getD k (aB (.sl .int))).length≤64:=by
 rw[List.getD_eq_getElem?_getD]
 cases hq:(query' x r row s)[k]? with
 |none=>exact Nat.zero_le _
 |some v=>exact R6 _ _ _ v (List.mem_of_getElem? hq)
theorem G4{x:aV}{r row s:Int}(h:gh x.az.rounds r=false):GY x r row s= []∧A3 x r row s=false:=⟨by rw[GY,h];rfl,by rw[A3,h];rfl⟩
theorem M0{x:aV}{r row s:Int}(h:gh x.az.rounds r=true):GY x r row s=TX (qQ x r row s)∧A3 x r row s=gj (qQ x r row s):=⟨by rw[GY,if_pos h],by rw[A3,h,Bool.true_and]⟩
theorem G5{x:aV}(h:okW x=true):x.az.rounds.length≤8∧ ∀y,y∈x.az.rounds→cQ List.length y.db.rows≤1048576:=by
 have ha:=jC h
 simp only[HL,Bool.and_eq_true]at ha
 have ha:eD x.az=true:=ha.1.1.1.1.1.2
 simp only[eD,C7,Bool.and_eq_true,List.all_eq_true,List.mem_range,decide_eq_true_eq]at ha
 refine⟨by omega,fun y hy=> ?_⟩
 obtain⟨i,hi,rfl⟩:=List.mem_iff_getElem.1 hy
 have h2:=ha.2 i hi
 have e:x.az.rounds.getD i (aB .aJ)=x.az.rounds[i]:=by rw[List.getD_eq_getElem?_getD,List.getElem?_eq_getElem hi];rfl
 simp only[qm,e,Bool.and_eq_true]at h2
 exact dw h2.1.2
end
section
def dV(rows:Int)(l:List aM):DB:=l.foldl (fun d r=>eL d r.share) (cE rows)
theorem Fy(rows:Int)(l:List aM)(k:Nat)(h:k<l.length):dV rows (l.take (k+1))=eL (dV rows (l.take k)) (l.getD k (aB .aM)).share:=by
 unfold dV
 rw[bq l k (aB .aM) h,List.foldl_append];rfl
theorem Jv(rows:Int):cg (cE rows)=true:=by
 rw[jI]
 refine⟨mz rows,fun r hr=> ?_⟩
 unfold cE at hr
 dsimp only at hr
 split at hr
 ·rw[(List.mem_replicate.1 hr).2];exact jH
 ·cases hr
theorem qz(a b:DB):(eL a b).rows.length=a.rows.length:=by
 cases h:gu a b with
 |true=>rw[mC h];exact gK h
 |false=>rw[o8 h]
theorem uf{a b:DB}(ha:cg a=true):cg (eL a b)=true:=by
 cases h:gu a b with
 |true=>exact Dk ha (qp h).2.1
 |false=>rw[o8 h];exact ha
theorem M3(rows:Int): ∀(l:List aM) (d:DB),cg d=true→cg (l.foldl (fun d r=>eL d r.share) d)=true∧(l.foldl (fun d r=>eL d r.share) d).rows.length=d.rows.length
 | [],d,h=>⟨h,rfl⟩
 |r::l,d,h=>by
  have ih:=M3 rows l (eL d r.share) (uf h)
  rw[qz]at ih
  exact ih
theorem zQ(rows:Int)(l:List aM):cg (dV rows l)=true∧(dV rows l).rows.length=(cE rows).rows.length:=M3 rows l _ (Jv rows)
theorem M4(rows:Int)(l:List aM):cQ List.length (dV rows l).rows≤1048576:=dw (zQ rows l).1
theorem M5{s:aX}(h:bS s=true):(1≤s.rows∧s.rows≤64)∧s.received.length≤8:=by
 simp only[bS,uU,Bool.and_eq_true,bN,decide_eq_true_eq]at h
 omega
theorem xO{s:aX}(h:bS s=true): ∀r,r∈s.received→cQ List.length r.share.rows≤1048576:=by
 intro r hr
 obtain⟨i,hi,rfl⟩:=List.mem_iff_getElem.1 hr
 simp only[bS,Bool.and_eq_true,List.all_eq_true,List.mem_range]at h
 have h2:=h.2 i hi
 have e:s.received.getD i (aB .aM)=s.received[i]:=by rw[List.getD_eq_getElem?_getD,List.getElem?_eq_getElem hi];rfl
 simp only[mT,e,Bool.and_eq_true]at h2
 exact dw h2.1.2
theorem OU(rows:Int)(l:List aM)(f k:Nat)(h:k<l.length)(hf:f≤k):dV rows ((l.drop f).take (k+1-f))=eL (dV rows ((l.drop f).take (k-f))) (l.getD k (aB .aM)).share:=by
 rw[show k+1-f=(k-f)+1 by omega,Fy _ _ _ (by rw[List.length_drop];omega)]
 congr 2
 rw[List.getD_eq_getElem?_getD,List.getElem?_drop,show f+(k-f)=k by omega];rfl
theorem Sd(rows:Int)(l:List aM)(f k:Nat)(h:l.length≤k):dV rows ((l.drop f).take (k-f))=dV rows (l.drop f):=by
 rw[List.take_of_length_le (by rw[List.length_drop];omega)]
def jZ(s:aX):DB:=if bS s then dV s.rows s.received else⟨[]⟩
def alt(d:DB):DB:=⟨d.rows.set 0 ((d.rows.getD 0 (aB (.sl .u8))).set 0 ((d.rows.getD 0 (aB (.sl .u8))).getD 0 (aB .u8)^^^1))⟩
def rcvd(s:aX):List aM:=if s.behavior=1 then s.received.drop 1 else s.received
def fQ(s:aX):DB:=if bS s then(if s.behavior=2 then alt (dV s.rows (rcvd s))else dV s.rows (rcvd s))else⟨[]⟩
theorem alt_eq(d:DB):d.rows.set (Int.toNat 0) ((d.rows.getD (Int.toNat 0) (aB (.sl .u8))).set (Int.toNat 0) (UInt8.ofNat (IntKind.u8.wrap ((BitVec.ofInt IntKind.u8.bits ((((d.rows.getD (Int.toNat 0) (aB (.sl .u8))).getD (Int.toNat 0) (aB .u8)).toNat:Nat):Int)^^^BitVec.ofInt IntKind.u8.bits 1).toNat:Int)).toNat))=(alt d).rows:=by
 have:=Rn ((d.rows.getD (Int.toNat 0) (aB (.sl .u8))).getD (Int.toNat 0) (aB .u8)) 1
 rw[show(((1:UInt8).toNat:Nat):Int)=1 from rfl]at this
 rw[this];rfl
theorem Se(a b:Int):wA a b≤a∧wA a b≤b∧(wA a b=a∨wA a b=b):=by unfold wA;split<;>omega
theorem Sf(l:List aM):l.drop (wA 1 (l.length:Int)).toNat=l.drop 1:=by
 have:=Se 1 (l.length:Int)
 cases l with
 |nil=>simp
 |cons x r=>
  have h1:wA 1 (((x::r).length:Nat):Int)=1:=by rw[List.length_cons]at this ⊢;omega
  rw[h1];rfl
theorem Lt{s:aX}(h:bS s=true):0<(dV s.rows (rcvd s)).rows.length∧0<((dV s.rows (rcvd s)).rows.getD 0 (aB (.sl .u8))).length:=by
 have h1:=M5 h
 have h2:=zQ s.rows (rcvd s)
 have h3:(cE s.rows).rows.length=s.rows.toNat:=by rw[mA (by omega)];simp
 have h4:0<(dV s.rows (rcvd s)).rows.length:=by omega
 exact⟨h4,by rw[kU h2.1 0 h4];decide⟩
theorem zR(s:aX):s.behavior=1→rcvd s=s.received.drop 1:=fun h=>if_pos h
theorem DF(s:aX): ¬s.behavior=1→rcvd s=s.received:=fun h=>if_neg h
theorem Sg{d:DB}(h:cg d=true):cg (alt d)=true:=by
 rw[jI]at h ⊢
 refine⟨by unfold alt;dsimp only;rw[List.length_set];exact h.1,fun r hr=> ?_⟩
 unfold alt at hr
 dsimp only at hr
 rcases List.mem_or_eq_of_mem_set hr with h1|h1
 ·exact h.2 r h1
 ·subst h1
  rw[List.length_set]
  cases hd:d.rows with
  |nil=>rw[hd]at hr;cases hr
  |cons b l=>exact h.2 b (by rw[hd];exact List.mem_cons_self ..)
theorem Vz(s:aX):cQ List.length (fQ s).rows≤1048576:=by
 unfold fQ
 split
 ·split
  ·exact dw (Sg (zQ _ _).1)
  ·exact dw (zQ _ _).1
 ·exact by decide
theorem Sh(s:aX): ∀r,r∈rcvd s→r∈s.received:=by
 intro r hr
 unfold rcvd at hr
 split at hr
 ·exact List.mem_of_mem_drop hr
 ·exact hr
def Lu(key:Int)(r:dG):Bool:=r.Kl==OM key r.server r.client r.round r.mF
def nr(key:Int)(s:aX)(r:dG):Bool:=(r.server !=s.id||r.round !=s.round)|| !Lu key r
def G6(r:dG)(d:DB):Bool:=r.mF==Du r.client r.round d
def gM(key:Int)(s:aX)(r:dG):Int:=if nr key s r then 0 else if j7 s.received r.client then(if G6 r (vH s.received r.client)then 0 else 2)else 1
def xP(key:Int)(s:aX)(p:DB):List dG→Int
 | []=>if bS s&&(p.rows==(jZ s).rows)then 0 else 3
 |r::l=>if gM key s r=0 then xP key s p l else gM key s r
theorem zS(key:Int)(s:aX)(p:DB): ∀(l:List dG) (k:Nat),(∀j,j<k→gM key s (l.getD j (aB .dG))=0)→xP key s p (l.drop k)=xP key s p l
 |l,0,_=>by rw[List.drop_zero]
 | [],k+1,_=>by simp
 |r::l,k+1,h=>by
  have h0:=h 0 (by omega)
  rw[List.drop_succ_cons,zS key s p l k fun j hj=>by simpa using h (j+1) (by omega)]
  show xP key s p l=if gM key s r=0 then xP key s p l else gM key s r
  rw[if_pos (by simpa using h0)]
theorem xQ{key:Int}{s:aX}{p:DB}{l:List dG}{k:Nat}(h: ∀j,j<k→gM key s (l.getD j (aB .dG))=0)(hk:k<l.length)(hn:gM key s (l.getD k (aB .dG))≠0):xP key s p l=gM key s (l.getD k (aB .dG)):=by
 rw[←zS key s p l k h,List.drop_eq_getElem_cons hk,show l[k]=l.getD k (aB .dG)by rw[List.getD_eq_getElem?_getD,List.getElem?_eq_getElem hk];rfl]
 exact if_neg hn
theorem pJ{key:Int}{s:aX}{p:DB}{l:List dG}{k:Nat}(h: ∀j,j<k→gM key s (l.getD j (aB .dG))=0)(hk:l.length≤k):xP key s p l=if bS s&&(p.rows==(jZ s).rows)then 0 else 3:=by
 rw[←zS key s p l k h,List.drop_of_length_le hk];rfl
theorem qA{key:Int}{s:aX}{l:List dG}{k:Nat}(h: ∀j,j<k→gM key s (l.getD j (aB .dG))=0)(hk:gM key s (l.getD k (aB .dG))=0): ∀j,j<k+1→gM key s (l.getD j (aB .dG))=0:=by
 intro j hj
 by_cases hjk:j=k
 ·subst hjk;exact hk
 ·exact h j (by omega)
def uB(m:Int)(sv:List aX)(pb:List DB)(rc:List dG)(i:Nat):Bool:=decide ((pb.length:Int)≤(i:Int))|| !(xP (fY m (sv.getD i (aB .aX)).id) (sv.getD i (aB .aX)) (pb.getD i (aB .DB)) rc==0)
def OV(m:Int)(sv:List aX)(pb:List DB)(rc:List dG)(i:Nat):List Int:=if uB m sv pb rc i then [(sv.getD i (aB .aX)).id]else []
def gY(m:Int)(sv:List aX)(pb:List DB)(rc:List dG)(n:Nat):List Int:=(List.range n).flatMap (OV m sv pb rc)
theorem DG{m:Int}{sv:List aX}{pb:List DB}{rc:List dG}{n:Nat}(h:uB m sv pb rc n=true):gY m sv pb rc (n+1)=gY m sv pb rc n++ [(sv.getD n (aB .aX)).id]:=by
 unfold gY
 rw[List.range_succ,List.flatMap_append];simp[OV,h]
theorem zT{m:Int}{sv:List aX}{pb:List DB}{rc:List dG}{n:Nat}(h:uB m sv pb rc n=false):gY m sv pb rc (n+1)=gY m sv pb rc n:=by
 unfold gY
 rw[List.range_succ,List.flatMap_append];simp[OV,h]
theorem nu(m:Int)(sv:List aX)(pb:List DB)(rc:List dG): ∀n,(gY m sv pb rc n).length≤n
 |0=>Nat.le_refl _
 |n+1=>by
  have ih:=nu m sv pb rc n
  cases h:uB m sv pb rc n with
  |true=>rw[DG h,List.length_append];simp;omega
  |false=>rw[zT h];omega
def bK(sv:List aX):List DB:=sv.map fQ
theorem Fz(sv:List aX)(k:Nat)(h:k<sv.length):(bK sv).take (k+1)=(bK sv).take k++ [fQ (sv.getD k (aB .aX))]:=by
 rw[bq (bK sv) k (aB .DB) (by unfold bK;rw[List.length_map];exact h)]
 congr 2
 unfold bK
 rw[List.getD_eq_getElem?_getD,List.getD_eq_getElem?_getD,List.getElem?_map,List.getElem?_eq_getElem h];rfl
theorem M6(sv:List aX): ∀d,d∈bK sv→cQ List.length d.rows≤1048576:=by
 intro d hd
 obtain⟨s,_,rfl⟩:=List.mem_map.1 hd
 exact Vz s
theorem Jw{pb:List DB}(h: ∀d,d∈pb→cQ List.length d.rows≤1048576)(k:Nat):cQ List.length (pb.getD k (aB .DB)).rows≤1048576:=by
 rw[List.getD_eq_getElem?_getD]
 cases hq:pb[k]? with
 |none=>exact by decide
 |some d=>exact h d (List.mem_of_getElem? hq)
theorem DH{x:aV}(h:okW x=true): ∀s,s∈aY x→m7 s:=by
 rw[aY,if_pos h];exact(col h _ (Nat.le_refl _)).sml
theorem dX{x:aV}(h:okW x=true):(aY x).length=x.aj.length:=by
 rw[aY,if_pos h];exact jM h (Nat.le_refl _)
theorem aa0{key:Int}{s:aX}{r:dG}(h:nr key s r=false)(h1:j7 s.received r.client=false):gM key s r=1:=by rw[gM,h,h1];rfl
theorem aa1{key:Int}{s:aX}{r:dG}(h:nr key s r=false)(h1:j7 s.received r.client=true)(h2:G6 r (vH s.received r.client)=false):gM key s r=2:=by rw[gM,h,h1,h2];rfl
theorem YD{key:Int}{s:aX}{r:dG}(h:nr key s r=false)(h1:j7 s.received r.client=true)(h2:G6 r (vH s.received r.client)=true):gM key s r=0:=by rw[gM,h,h1,h2];rfl
theorem YE{key:Int}{s:aX}{r:dG}(h:nr key s r=true):gM key s r=0:=by rw[gM,h];rfl
end
section
def HP:DB→List DB→Option DB
 |a,[]=>some a
 |a,s::r=>if gu a s then HP (eL a s) r else none
def Lv(l:List DB):Option DB:=if b7 l.length then HP (l.getD 0 (aB .DB)) (l.drop 1)else none
def Bi(l:List DB):Bool:=(Lv l).isSome
def jw(l:List DB):DB:=(Lv l).getD ⟨[]⟩
def Bj(l:List DB)(k:Nat):DB:=((l.drop 1).take k).foldl eL (l.getD 0 (aB .DB))
theorem xR(l:List DB)(k:Nat)(h:k<(l.drop 1).length):Bj l (k+1)=eL (Bj l k) ((l.drop 1).getD k (aB .DB)):=by
 unfold Bj
 rw[bq (l.drop 1) k (aB .DB) h,List.foldl_append];rfl
theorem Jx{α:Type}(l:List α)(k:Nat)(d:α)(h:k<l.length):l.drop k=l.getD k d::l.drop (k+1):=by
 rw[List.drop_eq_getElem_cons h,show l[k]=l.getD k d by rw[List.getD_eq_getElem?_getD,List.getElem?_eq_getElem h];rfl]
theorem Jy(l:List DB)(k:Nat)(h:k<(l.drop 1).length)(hx:gu (Bj l k) ((l.drop 1).getD k (aB .DB))=true):HP (Bj l k) ((l.drop 1).drop k)=HP (Bj l (k+1)) ((l.drop 1).drop (k+1)):=by
 rw[Jx _ k (aB .DB) h,HP,if_pos hx,xR l k h]
theorem Si(l:List DB)(k:Nat)(h:k<(l.drop 1).length)(hx:gu (Bj l k) ((l.drop 1).getD k (aB .DB))=false):HP (Bj l k) ((l.drop 1).drop k)=none:=by
 rw[Jx _ k (aB .DB) h,HP,hx];rfl
theorem M7(l:List DB)(k:Nat)(h:(l.drop 1).length≤k):HP (Bj l k) ((l.drop 1).drop k)=some (Bj l k):=by
 rw[List.drop_of_length_le h];rfl
def sY(l:List DB):Prop:= ∀d,d∈l→cg d=true
theorem kO{l:List DB}(h:sY l)(k:Nat):cg (l.getD k (aB .DB))=true:=by
 rw[List.getD_eq_getElem?_getD]
 cases hq:l[k]? with
 |none=>exact by decide
 |some d=>exact h d (List.mem_of_getElem? hq)
theorem Sj{l:List DB}(h:sY l): ∀k,cg (Bj l k)=true:=by
 intro k
 induction k with
 |zero=>exact kO h 0
 |succ k ih=>
  by_cases hk:k<(l.drop 1).length
  ·rw[xR l k hk];exact uf ih
  ·have e:Bj l (k+1)=Bj l k:=by unfold Bj;rw[List.take_of_length_le (by omega),List.take_of_length_le (by omega)]
   rw[e];exact ih
theorem Lw{l:List DB}(h:sY l):sY (l.drop 1):=fun d hd=>h d (List.mem_of_mem_drop hd)
theorem DI{l:List DB}(h:Lv l=none):jw l=⟨[]⟩∧Bi l=false:=by unfold jw Bi;rw[h];exact⟨rfl,rfl⟩
theorem G7{l:List DB}{d:DB}(h:Lv l=some d):jw l=d∧Bi l=true:=by unfold jw Bi;rw[h];exact⟨rfl,rfl⟩
theorem M8{l:List DB}(h:b7 l.length=false):Lv l=none:=by rw[Lv,h];rfl
theorem M9{l:List DB}(h:b7 l.length=true):Lv l=HP (Bj l 0) ((l.drop 1).drop 0):=by rw[Lv,if_pos h];rfl
theorem DJ{l:List DB}(h:b7 l.length=true):2≤l.length∧l.length≤4:=by simp only[b7,bN]at h;omega
theorem VA(s:aX):cg (fQ s)=true:=by
 unfold fQ
 split
 ·split
  ·exact Sg (zQ _ _).1
  ·exact(zQ _ _).1
 ·exact by decide
theorem n9(sv:List aX):sY (bK sv):=by
 intro d hd
 obtain⟨s,_,rfl⟩:=List.mem_map.1 hd
 exact VA s
theorem FA(l:List DB)(h:sY l):cg (jw l)=true:=by
 cases hq:Lv l with
 |none=>rw[(DI hq).1];decide
 |some d=>
  rw[(G7 hq).1]
  have key: ∀(r:List DB) (a:DB),cg a=true→HP a r=some d→cg d=true:=by
   intro r
   induction r with
   |nil=>intro a ha hj;simp only[HP,oI]at hj;exact hj▸ha
   |cons s r ih=>
    intro a ha hj
    simp only[HP]at hj
    split at hj
    ·exact ih _ (uf ha) hj
    ·cases hj
  unfold Lv at hq
  split at hq
  ·exact key _ _ (kO h 0) hq
  ·cases hq
def pK(a:iC)(r:Int)(d:DB):Bool:=(((eD a&&inr r 0 100000)&& !decide (r≤bR a))&&cg d)&&decide ((d.rows.length:Int)=a.rows)
def rJ(a:iC)(r:Int)(d:DB):List aJ:=a.rounds++ [⟨r,d⟩]
def zU(a:iC)(r:Int)(d:DB):List aJ:=if pK a r d then(if(8:Int)<(rJ a r d).length then(rJ a r d).drop 1 else rJ a r d)else a.rounds
def DK(id rows b:Int):Bool:=inr id 0 3&&inr rows 1 64&&inr b 0 3
def newS(id rows b:Int):aX:=if DK id rows b then⟨id,rows,0,[],b⟩else⟨0,0,0,[],0⟩
def DL(s:aX):Bool:=bS s&& !(s.round==100000)
def fN(s:aX):aX:=if DL s then⟨s.id,s.rows,IntKind.i64.wrap (s.round+1),[],s.behavior⟩else s
def uC(l:List aX)(id:Int):Bool:=inr id 0 (IntKind.i64.wrap ((l.length:Int)-1))
def xS(rows rd:Int)(p:List aX×List Int)(id:Int):List aX×List Int:=if uC p.1 id then(p.1.set id.toNat ⟨id,rows,rd,[],0⟩,p.2++ [id])else p
def DM(rows rd:Int)(p:List aX×List Int)(g:List Int):List aX×List Int:=g.foldl (xS rows rd) p
theorem DN(rows rd:Int)(p:List aX×List Int)(g:List Int)(k:Nat)(h:k<g.length):DM rows rd p (g.take (k+1))=xS rows rd (DM rows rd p (g.take k)) (g.getD k (aB .int)):=by
 unfold DM
 rw[bq g k (aB .int) h,List.foldl_append];rfl
theorem G8(rows rd:Int)(p:List aX×List Int)(id:Int):(xS rows rd p id).1.length=p.1.length∧(xS rows rd p id).2.length≤p.2.length+1:=by
 unfold xS
 split
 ·simp
 ·exact⟨rfl,Nat.le_succ _⟩
theorem G9(rows rd:Int)(p:List aX×List Int)(g:List Int): ∀k,k≤g.length→(DM rows rd p (g.take k)).1.length=p.1.length∧(DM rows rd p (g.take k)).2.length≤p.2.length+k
 |0,_=>⟨rfl,Nat.le_refl _⟩
 |k+1,hk=>by
  have ih:=G9 rows rd p g k (by omega)
  rw[DN _ _ _ _ k (by omega)]
  have:=G8 rows rd (DM rows rd p (g.take k)) (g.getD k (aB .int))
  omega
def DO(rd:Int)(l:List aX):Prop:= ∀s,s∈l→s.round=rd∧m7 s
theorem aa2{rows rd:Int}{p:List aX×List Int}{id:Int}(h:DO rd p.1):DO rd (xS rows rd p id).1:=by
 unfold xS
 split
 ·intro s hs
  rcases List.mem_or_eq_of_mem_set hs with h1|h1
  ·exact h s h1
  ·subst h1
   exact⟨rfl,Nat.zero_le _,fun r hr=>by cases hr⟩
 ·exact h
theorem Sk{rows rd:Int}{p:List aX×List Int}(g:List Int)(h:DO rd p.1): ∀k,k≤g.length→DO rd (DM rows rd p (g.take k)).1
 |0,_=>h
 |k+1,hk=>by
  rw[DN _ _ _ _ k (by omega)]
  exact aa2 (Sk g h k (by omega))
theorem Sm(l:List aX)(k:Nat)(h:k<l.length):((l.map fN).take k++l.drop k).set k (fN (((l.map fN).take k++l.drop k).getD k (aB .aX)))=(l.map fN).take (k+1)++l.drop (k+1):=by
 rw[jr _ _ _ _ (by rw[List.length_map];omega)]
 refine sq _ _ _ (aB .aX) _ h (by rw[List.length_map];exact h) ?_
 rw[List.getD_eq_getElem?_getD,List.getD_eq_getElem?_getD,List.getElem?_map,List.getElem?_eq_getElem h];rfl
def jj(x:aV):Bool:=okW x&& !decide (x.round≥99999)
def qB(x:aV)(g:List Int):List aX×List Int:=DM x.rows x.round (x.aj,x.replaced) g
def bQ(x:aV)(g:List Int)(d:DB):aV:=if jj x then⟨x.rows,(qB x g).1.map fN,x.aa,⟨x.az.rows,if g.length=0 then zU x.az x.round d else x.az.rounds⟩,x.aT,x.seed,IntKind.i64.wrap (x.round+1),(qB x g).2,if g.length=0 then x.cancelled else IntKind.i64.wrap (x.cancelled+1)⟩else x
theorem WY{x:aV}(h:okW x=true):DO x.round x.aj:=by
 intro s hs
 obtain⟨i,hi,rfl⟩:=List.mem_iff_getElem.1 hs
 have h1:=GQ h hi
 have e:x.aj.getD i (aB .aX)=x.aj[i]:=by rw[List.getD_eq_getElem?_getD,List.getElem?_eq_getElem hi];rfl
 have he:=uc h _ hs
 simp only[Ff,e,Bool.and_eq_true,beq_iff_eq]at h1
 exact⟨h1.1.2,by rw[he];decide,fun r hr=>by rw[he]at hr;cases hr⟩
def OW(key:Int)(a:cA):Bool:=a.Kl==DC key a.server a.round a.selection a.data
def YF(key:Int)(d:DB)(a:cA):Bool:=OW key a&& !(a.data==eg d a.selection)
def tsK(x:aV)(i:Nat):Int:=fY x.aT (i:Int)
def YG(x:aV)(i:Nat):cA:=GX (x.aj.getD i (aB .aX)) (tsK x i) (bR x.az) (fG x.az.rounds (bR x.az)) (bw (kh x.seed [227,x.round,(i:Int)]) x.rows)
def Px(x:aV)(i:Nat):Bool:=YF (tsK x i) (fG x.az.rounds (bR x.az)) (YG x i)
def Ep(x:aV)(n:Nat):List Int:=(List.range n).flatMap fun i=>if Px x i then [(i:Int)]else []
theorem Na{x:aV}{n:Nat}(h:Px x n=true):Ep x (n+1)=Ep x n++ [(n:Int)]:=by
 unfold Ep
 rw[List.range_succ,List.flatMap_append];simp[h]
theorem DP{x:aV}{n:Nat}(h:Px x n=false):Ep x (n+1)=Ep x n:=by
 unfold Ep
 rw[List.range_succ,List.flatMap_append];simp[h]
def yJ(x:aV)(n:Nat):List aX×List Int:=DM x.rows x.round (x.aj,x.replaced) (Ep x n)
theorem Nb{x:aV}{n:Nat}(h:Px x n=true):yJ x (n+1)=xS x.rows x.round (yJ x n) (n:Int):=by
 unfold yJ DM
 rw[Na h,List.foldl_append];rfl
theorem Jz{x:aV}{n:Nat}(h:Px x n=false):yJ x (n+1)=yJ x n:=by unfold yJ;rw[DP h]
def ry(x:aV):Bool:=okW x&&gh x.az.rounds (bR x.az)
def testW(x:aV):aV:=if ry x then⟨x.rows,(yJ x x.aj.length).1,x.aa,x.az,x.aT,x.seed,x.round,(yJ x x.aj.length).2,x.cancelled⟩else x
def bE(x:aV):aV:=if jj x then yI (testW (bQ x (gY x.aT (aY x) (bK (aY x)) (eX x) (aY x).length) (jw (bK (aY x)))))else x
def b9(x:aV):Nat→aV
 |0=>x
 |k+1=>bE (b9 x k)
end
section
theorem Bk{α:Type}(f:α→Nat)(C n:Nat)(l:List α)(h: ∀y,y∈l→f y≤C)(hl:l.length≤n):cQ f l≤(C+1)*n:=by
 have h1:=WR f C l h
 have h2:(C+1)*l.length≤(C+1)*n:=Nat.mul_le_mul_left _ hl
 unfold cQ
 rw[Nat.add_mul,Nat.one_mul]at h2
 omega
theorem He{d:DB}(h:cg d=true):cQ List.length d.rows≤1600:=by
 have h1:=Vo h
 have h2:=Df h
 unfold Yt at h1;unfold cQ;omega
def Hf(c:dK):Prop:=c.aI.length≤16∧c.inbox.length≤16∧(∀b,b∈c.aI→b.length≤14)∧ ∀b,b∈c.inbox→b.length≤14
theorem xT{c:dK}(h:cN c=true):Hf c:=by
 obtain⟨h1,h2,h3,h4,_⟩:=pg h
 exact⟨h1,h2,h3,h4⟩
theorem FB{c:dK}(h:Hf c):cu c≤480:=by
 have h1:=Bk List.length 14 16 c.aI h.2.2.1 h.1
 have h2:=Bk List.length 14 16 c.inbox h.2.2.2 h.2.1
 unfold cu;omega
theorem xU{c:dK}(h:Hf c)(r:Int)(own other:List UInt8):Hf (dL c r own other):=by
 unfold dL
 split
 ·refine⟨h.1,?_,h.2.2.1,?_⟩
  ·dsimp only
   split
   ·rename_i hg
    simp only[fu,Bool.and_eq_true,decide_eq_true_eq]at hg
    rw[List.length_append,List.length_singleton];omega
   ·exact h.2.1
  ·dsimp only
   split
   ·intro b hb
    rcases List.mem_append.1 hb with h1|h1
    ·exact h.2.2.2 b h1
    ·rw[List.mem_singleton.1 h1];exact RT _ _ _
   ·exact h.2.2.2
 ·exact h
def Hg(d:bg):Prop:=Hf d.live∧Hf d.saved
theorem YH{d:bg}(h:Hg d)(r:Int)(own other:List UInt8):Hg (rdev d r own other):=by
 unfold rdev
 split
 ·split
  ·exact⟨xU h.1 _ _ _,xU h.1 _ _ _⟩
  ·exact⟨xU h.1 _ _ _,h.2⟩
 ·exact h
theorem Lx(x:aV)(d0:bg): ∀(l:List Int) (d:bg),Hg d→Hg (l.foldl (GZ x d0) d)
 | [],_,h=>h
 |r::l,_,h=>Lx x d0 l _ (YH h _ _ _)
theorem mE{d:bg}(h:Hg d):bD d≤960:=by
 have h1:=FB h.1
 have h2:=FB h.2
 unfold bD;omega
theorem aa3{x:aV}{i:Nat}(h:okD x i=true):Hg (x.aa.getD i (aB .bg)):=by
 simp only[okD,cR,Bool.and_eq_true]at h
 exact⟨xT h.1.1.1.1.1.1.1.1.1,xT h.1.1.1.1.1.1.1.1.2⟩
theorem JA{x:aV}(h:okW x=true): ∀d,d∈x.aa→Hg d:=by
 intro d hd
 obtain⟨i,hi,rfl⟩:=List.mem_iff_getElem.1 hd
 have h1:=aa3 (mm h hi)
 rwa [List.getD_eq_getElem?_getD,List.getElem?_eq_getElem hi]at h1
def wC(x:aV)(n:Nat):Prop:=cQ dr x.aj≤1048576∧cQ bD x.aa≤1048576∧ey x.az≤1048576∧x.replaced.length≤n
theorem Hh{x:aV}{n:Nat}(h:wC x n)(hn:n≤4194304):wB x:=⟨h.1,h.2.1,h.2.2.1,Nat.le_trans h.2.2.2 hn⟩
theorem kV{x:aV}{n m:Nat}(h:wC x n)(hn:n≤m):wC x m:=⟨h.1,h.2.1,h.2.2.1,Nat.le_trans h.2.2.2 hn⟩
theorem aa4{x:aV}{n:Nat}(h:wC x n):wC (yI x) n:=by
 unfold yI
 split
 ·rename_i hk
  refine⟨h.1,?_,h.2.2.1,h.2.2.2⟩
  have h1:cQ bD (x.aa.map (jP x))≤(960+1)*8:=by
   refine Bk bD 960 8 _ (fun d hd=> ?_) (by rw[List.length_map];exact(nR (jC hk)).2.1)
   obtain⟨e,he,rfl⟩:=List.mem_map.1 hd
   exact mE (Lx x e _ _ (JA hk e he))
  exact Nat.le_trans h1 (by decide)
 ·exact h
theorem adw{s:aX}(h:s.received= []):dr s=0:=by unfold dr;rw[h];rfl
def A4(l:List aX):Prop:=l.length≤4∧ ∀s,s∈l→s.received= []
theorem vQ{l:List aX}(h:A4 l):cQ dr l≤1048576:=
 Nat.le_trans (Bk dr 0 4 l (fun s hs=>by rw[adw (h.2 s hs)];exact Nat.le_refl 0) h.1) (by decide)
theorem aa5{rows rd:Int}{p:List aX×List Int}{id:Int}(h:A4 p.1):A4 (xS rows rd p id).1:=by
 unfold xS
 split
 ·refine⟨by rw[List.length_set];exact h.1,fun s hs=> ?_⟩
  rcases List.mem_or_eq_of_mem_set hs with h1|h1
  ·exact h.2 s h1
  ·subst h1;rfl
 ·exact h
theorem Sn{rows rd:Int}: ∀(g:List Int) {p:List aX×List Int},A4 p.1→A4 (DM rows rd p g).1∧(DM rows rd p g).2.length≤p.2.length+g.length
 | [],_,h=>⟨h,Nat.le_refl _⟩
 |i::g,p,h=>by
  have h1:=Sn (rows:=rows) (rd:=rd) g (aa5 (rows:=rows) (rd:=rd) (id:=i) h)
  have h2:=(G8 rows rd p i).2
  refine⟨h1.1,?_⟩
  have h3:(DM rows rd p (i::g)).2.length≤(xS rows rd p i).2.length+g.length:=h1.2
  rw[List.length_cons];omega
theorem Sp{x:aV}(h:okW x=true):A4 x.aj:=⟨(dj h).1,uc h⟩
theorem YI{l:List aX}(h:A4 l):A4 (l.map fN):=by
 refine⟨by rw[List.length_map];exact h.1,fun s hs=> ?_⟩
 obtain⟨t,ht,rfl⟩:=List.mem_map.1 hs
 unfold fN
 split
 ·rfl
 ·exact h.2 t ht
theorem aa6{a:iC}{r:Int}{d:DB}(ha:eD a=true)(hd:cg d=true):cQ dU (zU a r d)≤1048576:=by
 have h8:a.rounds.length≤8:=by simp only[eD,C7,Bool.and_eq_true,decide_eq_true_eq]at ha;omega
 have hm: ∀y,y∈a.rounds→dU y≤1600:=by
  intro y hy
  obtain⟨i,hi,rfl⟩:=List.mem_iff_getElem.1 hy
  simp only[eD,Bool.and_eq_true,List.all_eq_true,List.mem_range]at ha
  have h2:=ha.2 i hi
  have e:a.rounds.getD i (aB .aJ)=a.rounds[i]:=by rw[List.getD_eq_getElem?_getD,List.getElem?_eq_getElem hi];rfl
  simp only[qm,e,Bool.and_eq_true]at h2
  exact He h2.1.2
 have hL: ∀y,y∈rJ a r d→dU y≤1600:=by
  intro y hy
  rcases List.mem_append.1 hy with h1|h1
  ·exact hm y h1
  ·rw[List.mem_singleton.1 h1];exact He hd
 have hl:(rJ a r d).length≤9:=by unfold rJ;rw[List.length_append,List.length_singleton];omega
 have key:cQ dU (zU a r d)≤(1600+1)*9:=by
  unfold zU
  split
  ·split
   ·exact Bk _ _ _ _ (fun y hy=>hL y (List.mem_of_mem_drop hy)) (by rw[List.length_drop];omega)
   ·exact Bk _ _ _ _ hL hl
  ·exact Bk _ _ _ _ hm (by omega)
 exact Nat.le_trans key (by decide)
theorem VB{x:aV}(h:okW x=true):eD x.az=true:=by
 have h:=jC h
 simp only[HL,Bool.and_eq_true]at h
 exact h.1.1.1.1.1.2
theorem JB{x:aV}{g:List Int}{d:DB}{n:Nat}(h:wC x n)(hd:cg d=true):wC (bQ x g d) (n+g.length):=by
 unfold bQ
 split
 ·rename_i hk
  simp only[jj,Bool.and_eq_true]at hk
  have h0:=Sn (rows:=x.rows) (rd:=x.round) g (p:=(x.aj,x.replaced)) (Sp hk.1)
  refine⟨vQ (YI h0.1),h.2.1,?_,?_⟩
  ·show cQ dU _≤_
   dsimp only
   split
   ·exact aa6 (VB hk.1) hd
   ·exact h.2.2.1
  ·have h1:=h0.2
   have h2:=h.2.2.2
   show(DM x.rows x.round (x.aj,x.replaced) g).2.length≤_
   dsimp only at h1
   omega
 ·exact kV h (Nat.le_add_right _ _)
theorem Hi(x:aV): ∀n,(Ep x n).length≤n
 |0=>Nat.le_refl _
 |n+1=>by
  have ih:=Hi x n
  cases h:Px x n with
  |true=>rw[Na h,List.length_append];simp;omega
  |false=>rw[DP h];omega
theorem Nc{x:aV}{n:Nat}(h:wC x n):wC (testW x) (n+4):=by
 unfold testW
 split
 ·rename_i hk
  simp only[ry,Bool.and_eq_true]at hk
  have h0:=Sn (rows:=x.rows) (rd:=x.round) (Ep x x.aj.length) (p:=(x.aj,x.replaced)) (Sp hk.1)
  have h4:=(dj hk.1).1
  have h5:=Hi x x.aj.length
  refine⟨vQ h0.1,h.2.1,h.2.2.1,?_⟩
  have h1:=h0.2
  have h2:=h.2.2.2
  show(DM x.rows x.round (x.aj,x.replaced) (Ep x x.aj.length)).2.length≤_
  dsimp only at h1
  omega
 ·exact kV h (Nat.le_add_right _ _)
theorem JC{x:aV}{n:Nat}(h:wC x n):wC (bE x) (n+8):=by
 unfold bE
 split
 ·rename_i hk
  simp only[jj,Bool.and_eq_true]at hk
  have h1:=nu x.aT (aY x) (bK (aY x)) (eX x) (aY x).length
  rw[dX hk.1]at h1
  have h4:=(dj hk.1).1
  have h2:=Nc (JB (g:=gY x.aT (aY x) (bK (aY x)) (eX x) (aY x).length) (d:=jw (bK (aY x))) h (FA _ (n9 _)))
  rw[dX hk.1]at h2 ⊢
  exact kV (aa4 h2) (by omega)
 ·exact kV h (Nat.le_add_right _ _)
theorem Hj{x:aV}{n:Nat}(h:wC x n): ∀k,wC (b9 x k) (n+8*k)
 |0=>h
 |k+1=>kV (JC (Hj h k)) (by omega)
end
section
def zV(c:dK)(b:List UInt8):dK:=⟨c.id,c.dz,c.key,c.seed,c.aI++ [b],c.sent,c.inbox,c.next⟩
def sZ(c:dK)(b:List UInt8):Bool:=cN c&&cN (zV c b)
def jQ(c:dK)(b:List UInt8):dK:=if sZ c b then zV c b else c
def zW(d:bg)(b:List UInt8):Bool:=(cR d&&sZ d.live b)&&sZ d.saved b
def zX(d:bg)(b:List UInt8):bg:=if zW d b then⟨jQ d.live b,jQ d.saved b⟩else d
def Kq(d:bg):bg:=if cR d then⟨d.live,d.live⟩else d
def Sq(x:aV)(i:Nat)(d:bg):aV:=⟨x.rows,x.aj,x.aa.set i d,x.az,x.aT,x.seed,x.round,x.replaced,x.cancelled⟩
def lU(x:aV)(c:Int):Bool:=okW x&&mh x c
def EE(x:aV)(c:Int):bg:=x.aa.getD c.toNat (aB .bg)
def Hl(x:aV)(c:Int)(b:List UInt8):Bool:=lU x c&&zW (EE x c) b
def qC(x:aV)(c:Int)(b:List UInt8):aV:=if lU x c then Sq x c.toNat (zX (EE x c) b)else x
def VC(x:aV)(c:Int):aV:=if lU x c then Sq x c.toNat (Kq (EE x c))else x
theorem Ho{x:aV}{c:Int}(h:lU x c=true):okW x=true∧0≤c∧c<x.aa.length:=by
 simp only[lU,mh,Bool.and_eq_true,bN]at h
 exact⟨h.1,by omega⟩
theorem YJ{x:aV}{c:Int}(h:lU x c=true):Hg (EE x c):=by
 obtain⟨h1,h2⟩:=Ho h
 exact JA h1 _ (getD_in _ (by omega))
end
section
theorem xW(c:dK):iD c.key (IntKind.i64.wrap (1-cx c))=qR c:=by
 unfold qR
 rw[bh (by unfold cx;split<;>omega)]
theorem JD{c:dK}{r:Int}{own other:List UInt8}(h:kK c r=false):dL c r own other=c:=by rw[dL,h];rfl
theorem Ss{c:dK}{r:Int}(h:kK c r=true):cN c=true∧c.next≤r∧r≤99999∧0≤c.next:=by
 simp only[kK,Bool.and_eq_true,bN]at h
 have:=(pg h.1).2.2.2.2.2.2.1
 exact⟨h.1,h.2.1,h.2.2,this⟩
theorem Nd{d:bg}{r:Int}{own other:List UInt8}(h:qx d r=false):rdev d r own other=d:=by rw[rdev,h];rfl
theorem Nf{d:bg}{r:Int}{own other:List UInt8}(h:qx d r=true)(hn:uW (lC d r own other)=true):rdev d r own other=Kq (lC d r own other):=by
 have hk:cR (lC d r own other)=true:=by
  simp only[uW,Bool.and_eq_true]at hn;exact hn.1
 rw[rdev,if_pos h,if_pos hn,Kq,if_pos hk];rfl
theorem Ng{d:bg}{r:Int}{own other:List UInt8}(h:qx d r=true)(hn:uW (lC d r own other)=false):rdev d r own other=lC d r own other:=by
 rw[rdev,if_pos h,hn];rfl
theorem JE{d:bg}{r:Int}{own other:List UInt8}(h:qx d r=true):bD (lC d r own other)≤1048576:=by
 simp only[qx,Bool.and_eq_true]at h
 have hd:=h.2
 simp only[cR,Bool.and_eq_true]at hd
 have hb:Hg (lC d r own other):=⟨xU (xT hd.1.1.1.1.1) _ _ _,xT hd.1.1.1.1.2⟩
 have:=mE hb
 omega
theorem YK{x:aV}(h:okW x=true){k:Nat}(hk:k<x.aa.length)(l:List Int):bD (G0 x (x.aa.getD k (aB .bg)) l)≤1048576:=by
 have:=mE (Lx x (x.aa.getD k (aB .bg)) l _ (JA h _ (getD_in (aB .bg) hk)))
 unfold G0;omega
theorem Su{x:aV}(h:okW x=true){k:Nat}(hk:k<x.aa.length)(i:Nat):bD ((pQ x k i).getD k (aB .bg))≤1048576:=by
 rw[BK x k i hk];exact YK h hk _
theorem Sv(x:aV)(k i:Nat)(hk:k<x.aa.length):qS ((pQ x k i).getD k (aB .bg)).live (x.aa.getD k (aB .bg)).live:=by
 rw[BK x k i hk]
 exact zN x _ _ _ ⟨rfl,rfl,rfl,rfl⟩
theorem Sw(x:aV)(k i:Nat)(h:k<x.aa.length)(hi:i<(nY x (x.aa.getD k (aB .bg))).length):
  (pQ x k i).set k (rdev ((pQ x k i).getD k (aB .bg)) ((nY x (x.aa.getD k (aB .bg))).getD i (aB .int))
   (GY x ((nY x (x.aa.getD k (aB .bg))).getD i (aB .int)) (eA ((pQ x k i).getD k (aB .bg)).live.key ((nY x (x.aa.getD k (aB .bg))).getD i (aB .int)) (cx ((pQ x k i).getD k (aB .bg)).live) x.rows) ((pQ x k i).getD k (aB .bg)).live.seed)
   (GY x ((nY x (x.aa.getD k (aB .bg))).getD i (aB .int)) (eA ((pQ x k i).getD k (aB .bg)).live.key ((nY x (x.aa.getD k (aB .bg))).getD i (aB .int)) (1-cx ((pQ x k i).getD k (aB .bg)).live) x.rows) ((pQ x k i).getD k (aB .bg)).live.seed))=pQ x k (i+1):=by
 have hs:=Sv x k i h
 rw[Lp hs,hs.2.2.1,hs.2.2.2]
 exact Js x k i h hi
theorem Sx{x:aV}(h:okW x=false):yI x=x:=by rw[yI,h];rfl
theorem ug{x:aV}(h:okW x=true):yI x=⟨x.rows,x.aj,x.aa.map (jP x),x.az,x.aT,x.seed,x.round,x.replaced,x.cancelled⟩:=by rw[yI,if_pos h]
theorem Sy(c:dK):IntKind.i64.wrap (1-cx c)=1-cx c:=bh (by unfold cx;split<;>omega)
end
section
theorem aa8(l:List DB):(l.take ((l.length:Int)).toNat).drop (Int.toNat 1)=l.drop 1:=by simp
theorem JF{α:Type}(l:List α)(k:Nat)(d:α):(l.drop 1).getD k d=l.getD (k+1) d:=by
 rw[List.getD_eq_getElem?_getD,List.getD_eq_getElem?_getD,List.getElem?_drop,Nat.add_comm]
theorem adB{l:List DB}(ha:sY l)(h:(if(!b7 l.length)=true then true else !cg (l.getD (Int.toNat 0) (aB .DB)))=true):b7 l.length=false:=by
 cases hs:b7 l.length with
 |false=>rfl
 |true=>
  rw[hs]at h
  have:=kO ha 0
  have h2:cg (l.getD (Int.toNat 0) (aB .DB))=true:=this
  rw[h2]at h
  cases h
theorem aa9{l:List DB}(h:(if(!b7 l.length)=true then true else !cg (l.getD (Int.toNat 0) (aB .DB)))=false):b7 l.length=true:=by
 cases hs:b7 l.length with
 |true=>rfl
 |false=>rw[hs]at h;cases h
theorem adE{l:List DB}(h:(!b7 (l.length:Int))=false):(0:Int)≤0∧(0:Int)<(l.length:Int):=by
 have h2:b7 (l.length:Int)=true:=by simpa using h
 have:=DJ h2
 omega
theorem Nh{rows rd:Int}{p:List aX×List Int}{id:Int}(h:uC p.1 id=true):xS rows rd p id=(p.1.set id.toNat ⟨id,rows,rd,[],0⟩,p.2++ [id]):=by rw[xS,if_pos h]
theorem Ni{rows rd:Int}{p:List aX×List Int}{id:Int}(h:uC p.1 id=false):xS rows rd p id=p:=by rw[xS,h];rfl
theorem SA{l:List aX}{id:Int}(hl:l.length≤4)(h:uC l id=true):0≤id∧id<l.length:=by
 simp only[uC,bN]at h
 rw[bh (by omega)]at h
 omega
theorem DS{id rows:Int}(h:0≤id∧id≤3)(hr:1≤rows∧rows≤64):newS id rows 0=⟨id,rows,0,[],0⟩:=by
 have:DK id rows 0=true:=by simp only[DK,Bool.and_eq_true,bN];omega
 rw[newS,if_pos this]
def DT(x:aV)(g:List Int)(k:Nat):List aX×List Int:=DM x.rows x.round (x.aj,x.replaced) (g.take k)
theorem JG{x:aV}{g:List Int}{k:Nat}(h:k<g.length):xS x.rows x.round (DT x g k) (g.getD k (aB .int))=DT x g (k+1):=(DN _ _ _ _ k h).symm
theorem uh{x:aV}{g:List Int}{k:Nat}(h:g.length≤k):DT x g k=qB x g:=by unfold DT qB;rw[List.take_of_length_le h]
theorem yl{x:aV}{g:List Int}{k:Nat}(h:k≤g.length):(DT x g k).1.length=x.aj.length∧(DT x g k).2.length≤x.replaced.length+k:=G9 _ _ _ g k h
theorem JH{x:aV}{g:List Int}{k:Nat}(hk:okW x=true)(h:k≤g.length):DO x.round (DT x g k).1:=Sk g (WY hk) k h
theorem WZ{x:aV}(g:List Int)(hk:okW x=true):DO x.round (qB x g).1:=by
 have:=JH (g:=g) hk (Nat.le_refl _)
 rwa [uh (Nat.le_refl _)]at this
theorem Nj(x:aV)(g:List Int):(qB x g).1.length=x.aj.length∧(qB x g).2.length≤x.replaced.length+g.length:=by
 have:=yl (x:=x) (g:=g) (Nat.le_refl _)
 rwa [uh (Nat.le_refl _)]at this
theorem pM{rd:Int}{l:List aX}(h:DO rd l){k:Nat}(hk:k<l.length):(l.getD k (aB .aX)).round=rd∧m7 (l.getD k (aB .aX)):=h _ (getD_in (aB .aX) hk)
def Bl(l:List aX)(k:Nat):List aX:=(l.map fN).take k++l.drop k
theorem Nk(l:List aX):Bl l 0=l:=by unfold Bl;simp
theorem ym{l:List aX}{k:Nat}(h:k<l.length):(Bl l k).set k (fN ((Bl l k).getD k (aB .aX)))=Bl l (k+1):=Sm l k h
theorem BO{l:List aX}{k:Nat}(h:k<l.length):(Bl l k).getD k (aB .aX)=l.getD k (aB .aX):=jr _ _ _ _ (by rw[List.length_map];omega)
theorem BP{l:List aX}{k:Nat}(h:k≤l.length):(Bl l k).length=l.length:=jt _ _ _ (by rw[List.length_map]) h
theorem BQ{l:List aX}{k:Nat}(h:l.length≤k):Bl l k=l.map fN:=by
 unfold Bl
 rw[List.take_of_length_le (by rw[List.length_map];exact h),List.drop_of_length_le h,List.append_nil]
theorem FC{x:aV}{g:List Int}{d:DB}(h:jj x=false):bQ x g d=x:=by rw[bQ,h];rfl
theorem yp{x:aV}{g:List Int}{d:DB}(h:jj x=true)(hg:g.length=0):bQ x g d=⟨x.rows,(qB x g).1.map fN,x.aa,⟨x.az.rows,zU x.az x.round d⟩,x.aT,x.seed,IntKind.i64.wrap (x.round+1),(qB x g).2,x.cancelled⟩:=by
 rw[bQ,if_pos h,if_pos hg,if_pos hg]
theorem DU{x:aV}{g:List Int}{d:DB}(h:jj x=true)(hg: ¬g.length=0):bQ x g d=⟨x.rows,(qB x g).1.map fN,x.aa,x.az,x.aT,x.seed,IntKind.i64.wrap (x.round+1),(qB x g).2,IntKind.i64.wrap (x.cancelled+1)⟩:=by
 rw[bQ,if_pos h,if_neg hg,if_neg hg]
theorem Hq{x:aV}(h:jj x=true):okW x=true∧x.round<99999:=by
 simp only[jj,Bool.and_eq_true,Bool.not_eq_true',decide_eq_false_iff_not]at h
 exact⟨h.1,by omega⟩
theorem SB{a:iC}{r:Int}{d:DB}(h:pK a r d=false):zU a r d=a.rounds:=by rw[zU,h];rfl
theorem Hr{a:iC}{r:Int}{d:DB}(h:pK a r d=true):zU a r d=if(8:Int)<(rJ a r d).length then(rJ a r d).drop 1 else rJ a r d:=by rw[zU,if_pos h]
theorem SC{a:iC}{r:Int}{d:DB}(h:pK a r d=true):a.rounds.length≤8∧cg d=true:=by
 simp only[pK,eD,C7,Bool.and_eq_true,decide_eq_true_eq]at h
 exact⟨by omega,h.1.2⟩
theorem th{s rows:Int}(h:1≤rows∧rows≤64):cF (bw s rows) rows=true:=by
 have e:bw s rows=(List.range rows.toNat).map (Yf s):=by rw[bw,if_pos (by omega)]
 simp only[cF,Bool.and_eq_true,decide_eq_true_eq,List.all_eq_true,bN]
 refine⟨⟨by rw[e];simp;omega,h.2⟩,fun v hv=> ?_⟩
 rw[e]at hv
 obtain⟨i,_,rfl⟩:=List.mem_map.1 hv
 have:=Oz (kh s [(i:Int),41])
 unfold Yf
 omega
theorem JI{x:aV}(h:okW x=true){r:Int}(hh:gh x.az.rounds r=true):cg (fG x.az.rounds r)=true∧((fG x.az.rounds r).rows.length:Int)=x.rows:=by
 have ha:=jC h
 simp only[HL,Bool.and_eq_true,beq_iff_eq]at ha
 have har:x.az.rows=x.rows:=ha.1.1.1.1.2
 have hok:eD x.az=true:=ha.1.1.1.1.1.2
 simp only[eD,Bool.and_eq_true,List.all_eq_true,List.mem_range]at hok
 have hi:(x.az.rounds.findIdx (MQ r))<x.az.rounds.length:=by
  rw[List.findIdx_lt_length]
  obtain⟨y,h1,h2⟩:=List.any_eq_true.1 hh
  exact⟨y,h1,h2⟩
 have hd:=hok.2 _ hi
 simp only[qm,Bool.and_eq_true,beq_iff_eq]at hd
 have e:fG x.az.rounds r=(x.az.rounds.getD (x.az.rounds.findIdx (MQ r)) (aB .aJ)).db:=by
  rw[fG,if_pos hh]
  have hh2:x.az.rounds.any (MQ r)=true:=hh
  rw[fidx,if_pos hh2];rfl
 rw[e]
 exact⟨hd.1.2,by rw[←har];exact hd.2⟩
theorem Nl{x:aV}(h:okW x=true){r:Int}(hh:gh x.az.rounds r=true)(s:Int):ji (fG x.az.rounds r) (bw s x.rows)=true:=by
 obtain⟨h1,h2⟩:=JI h hh
 apply xL
 have hs:cF (bw s x.rows) ((fG x.az.rounds r).rows.length:Int)=true:=by rw[h2];exact th (lM h).1
 rw[eg,h1,hs]
 simp only[Bool.and_self,if_true]
 rw[ck,jH]
 omega
theorem W0{x:aV}(h:okW x=true)(k:Nat)(hk:k≤x.aj.length):DO x.round (yJ x k).1∧(yJ x k).1.length=x.aj.length∧(yJ x k).2.length≤x.replaced.length+k:=by
 have h1:=Sk (rows:=x.rows) (rd:=x.round) (p:=(x.aj,x.replaced)) (Ep x k) (WY h) (Ep x k).length (Nat.le_refl _)
 have h2:=G9 x.rows x.round (x.aj,x.replaced) (Ep x k) (Ep x k).length (Nat.le_refl _)
 rw[List.take_length]at h1 h2
 have h3:=Hi x k
 exact⟨h1,h2.1,by have h4:=h2.2;show(DM x.rows x.round (x.aj,x.replaced) (Ep x k)).2.length≤_;dsimp only at h4;omega⟩
theorem DV{x:aV}(h:ry x=false):testW x=x:=by rw[testW,h];rfl
theorem uj{x:aV}(h:ry x=true):testW x=⟨x.rows,(yJ x x.aj.length).1,x.aa,x.az,x.aT,x.seed,x.round,(yJ x x.aj.length).2,x.cancelled⟩:=by rw[testW,if_pos h]
theorem FD{x:aV}(h:jj x=false):bE x=x:=by rw[bE,h];rfl
theorem ny{x:aV}(h:jj x=true):bE x=yI (testW (bQ x (gY x.aT (aY x) (bK (aY x)) (eX x) (aY x).length) (jw (bK (aY x))))):=by rw[bE,if_pos h]
theorem W1{x:aV}(h:wB x):x.az.rounds.length≤1048576∧ ∀y,y∈x.az.rounds→cQ List.length y.db.rows≤1048576:=by
 have h2:cQ dU x.az.rounds≤1048576:=h.2.2.1
 refine⟨dc h2,fun y hy=> ?_⟩
 obtain⟨i,hi⟩:=List.mem_iff_getElem?.1 hy
 exact jl h2 hi
end
section
theorem Nn{x:aV}(h:wB x)(hok:okW x=true)(hr:x.replaced.length≤4194000):wB (bQ x (gY x.aT (aY x) (bK (aY x)) (eX x) (aY x).length) (jw (bK (aY x))))∧wB (testW (bQ x (gY x.aT (aY x) (bK (aY x)) (eX x) (aY x).length) (jw (bK (aY x))))):=by
 have h1:=nu x.aT (aY x) (bK (aY x)) (eX x) (aY x).length
 have h4:=(dj hok).1
 rw[dX hok]at h1
 have hc:wC x 4194000:=⟨h.1,h.2.1,h.2.2.1,hr⟩
 have h2:=JB (g:=gY x.aT (aY x) (bK (aY x)) (eX x) (aY x).length) (d:=jw (bK (aY x))) hc (FA _ (n9 _))
 rw[dX hok]at h2 ⊢
 exact⟨Hh h2 (by omega),Hh (Nc h2) (by omega)⟩
def wR(x:aV):Prop:=wB x∧x.replaced.length≤4194000
theorem W2{x:aV}{n:Nat}(h:wC x n)(hn:n≤4194000):wR x:=⟨Hh h (by omega),Nat.le_trans h.2.2.2 hn⟩
theorem YN{x:aV}{n k:Nat}(h:wC x n)(hn:n+8*k≤4194000):wR (b9 x k):=W2 (Hj h k) hn
end
section
theorem SD(a b c:Int):IntKind.i64.wrap (a+IntKind.i64.wrap (b-c))=IntKind.i64.wrap (IntKind.i64.wrap (a+b)-c):=by
 simp only[IntKind.wrap_i64];omega
def waiting(c:dK):Int:=IntKind.i64.wrap ((c.aI.length:Int)-c.sent)
def tB(l:List bg):Nat→Int
 |0=>0
 |k+1=>IntKind.i64.wrap (tB l k+waiting (l.getD k (aB .bg)).live)
def HQ(l:List bg):Nat→Int
 |0=>0
 |k+1=>if(k^^^1)<l.length then IntKind.i64.wrap (IntKind.i64.wrap (HQ l k+((l.getD k (aB .bg)).live.aI.length:Int))-((l.getD (k^^^1) (aB .bg)).live.inbox.length:Int))else HQ l k
theorem Hs{l:List bg}{k:Nat}(h:(k^^^1)<l.length):HQ l (k+1)=IntKind.i64.wrap (IntKind.i64.wrap (HQ l k+((l.getD k (aB .bg)).live.aI.length:Int))-((l.getD (k^^^1) (aB .bg)).live.inbox.length:Int)):=if_pos h
theorem JJ{l:List bg}{k:Nat}(h: ¬(k^^^1)<l.length):HQ l (k+1)=HQ l k:=if_neg h
theorem DW{x:aV}{k:Nat}(h:k<x.aa.length):vB x (k:Int)=decide ((k^^^1)<x.aa.length):=by
 have:mh x (k:Int)=true:=by rw[mh,bN];omega
 rw[vB,this,Bool.true_and]
 simp only[Int.toNat_natCast,Int.ofNat_lt]
end
section
def qE(c:Int):Nat:=if 0≤c∧c≤400 then c.toNat else 0
theorem LA(c:Int):qE c≤400:=by unfold qE;split<;>omega
theorem DX{c:Int}(h:0≤c∧c≤400):(qE c:Int)=c:=by unfold qE;rw[if_pos h];omega
theorem No{c:Int}(h: ¬(0≤c∧c≤400)):qE c=0:=by unfold qE;rw[if_neg h]
def ep(x:aV):Bool:=(tB x.aa x.aa.length==0)&&(HQ x.aa x.aa.length==0)
def mx(a b:Int):Int:=if b>a then b else a
theorem DY{x:aV}(h:wC x 4100000){k:Nat}(hk:k≤401):wR (b9 x k)∧(b9 x k).aa.length≤1048576:=by
 have h1:=YN h (k:=k) (by omega)
 exact⟨h1,Jh h1.1⟩
end
section
theorem VF{c:dK}{b:List UInt8}(h:sZ c b=false):jQ c b=c:=by rw[jQ,h];rfl
theorem DZ{c:dK}{b:List UInt8}(h:sZ c b=true):jQ c b=zV c b:=by rw[jQ,if_pos h]
theorem VG{d:bg}{b:List UInt8}(h:zW d b=false):zX d b=d:=by rw[zX,h];rfl
theorem SG{d:bg}{b:List UInt8}(h:zW d b=true):zX d b=⟨jQ d.live b,jQ d.saved b⟩:=by rw[zX,if_pos h]
theorem YP{x:aV}{c:Int}(h:lU x c=true):bD (x.aa.getD c.toNat (aB .bg))≤1048576:=by
 have:=mE (YJ h)
 unfold EE at this
 omega
theorem YQ{x:aV}{c:Int}{b:List UInt8}(h:lU x c=false):qC x c b=x∧Hl x c b=false:=⟨by rw[qC,h];rfl,by rw[Hl,h];rfl⟩
theorem VH{x:aV}{c:Int}{b:List UInt8}(h:lU x c=true):qC x c b=Sq x c.toNat (zX (EE x c) b)∧Hl x c b=zW (EE x c) b:=⟨by rw[qC,if_pos h],by rw[Hl,h,Bool.true_and]⟩
end
section
theorem Ae{α:Type}{l m:List α}{k:Nat}(d:α)(h:k<l.length):(l++m).getD k d=l.getD k d:=by
 rw[List.getD_eq_getElem?_getD,List.getD_eq_getElem?_getD,List.getElem?_append_left h]
theorem FE{α:Type}{l:List α}{y:α}(d:α):(l++ [y]).getD l.length d=y:=by
 rw[List.getD_eq_getElem?_getD,List.getElem?_append_right (Nat.le_refl _)];simp
theorem vX{α:Type}(l:List α)(k:Nat)(d:α):(l.drop 1).getD k d=l.getD (k+1) d:=by
 rw[List.getD_eq_getElem?_getD,List.getD_eq_getElem?_getD,List.getElem?_drop,Nat.add_comm]
theorem fP{α:Type}{l:List α}{i k:Nat}(d y:α)(h:k<l.length):(l.set i y).getD k d=if i=k then y else l.getD k d:=by
 rw[List.getD_eq_getElem?_getD,List.getD_eq_getElem?_getD,List.getElem?_set]
 split
 ·rename_i e;subst e;simp[h]
 ·rfl
theorem getD_map{α β:Type}(f:α→β){l:List α}{k:Nat}(d:β)(e:α)(h:k<l.length):(l.map f).getD k d=f (l.getD k e):=by
 rw[List.getD_eq_getElem?_getD,List.getD_eq_getElem?_getD,List.getElem?_map,List.getElem?_eq_getElem h];rfl
def W4(rows rd:Int)(i:Nat)(s:aX):Prop:=s.id=(i:Int)∧s.rows=rows∧s.round=rd∧s.received= []∧0≤s.behavior∧s.behavior≤3
def ZG(rows rd:Int)(l:List aX):Prop:= ∀i,i<l.length→W4 rows rd i (l.getD i (aB .aX))
theorem SH{rows rd:Int}{i:Nat}{s:aX}(h:W4 rows rd i s)(hr:1≤rows∧rows≤64)(hd:0≤rd∧rd≤100000)(hi:i≤3):bS s=true:=by
 obtain⟨h1,h2,h3,h4,h5⟩:=h
 simp only[bS,uU,Bool.and_eq_true,bN,decide_eq_true_eq,h4,List.length_nil]
 refine⟨⟨⟨⟨⟨by omega,by omega⟩,by omega⟩,by omega⟩,by omega⟩,by simp⟩
theorem Ht{x:aV}{i:Nat}(hr:1≤x.rows∧x.rows≤64)(hd:0≤x.round∧x.round≤100000)(hi:i≤3):Ff x i=true↔W4 x.rows x.round i (x.aj.getD i (aB .aX)):=by
 constructor
 ·intro h
  simp only[Ff,Bool.and_eq_true,beq_iff_eq,decide_eq_true_eq]at h
  obtain⟨⟨⟨⟨h1,h2⟩,h3⟩,h4⟩,h5⟩:=h
  simp only[bS,uU,Bool.and_eq_true,bN]at h1
  exact⟨h2,h3,h4,List.length_eq_zero_iff.1 (by omega),h1.1.1.1.2⟩
 ·intro h
  have h1:=SH h hr hd hi
  obtain⟨h2,h3,h4,h5,_⟩:=h
  simp only[Ff,Bool.and_eq_true,beq_iff_eq,decide_eq_true_eq]
  exact⟨⟨⟨⟨h1,h2⟩,h3⟩,h4⟩,by rw[h5];decide⟩
def inc(rows:Int)(l:List aJ):Prop:= ∀i,i<l.length→qm rows l i=true
theorem kP{a:iC}:eD a=true↔((1≤a.rows∧a.rows≤64)∧a.rounds.length≤8)∧inc a.rows a.rounds:=by
 simp only[eD,C7,Bool.and_eq_true,bN,decide_eq_true_eq,List.all_eq_true,List.mem_range]
 constructor
 ·rintro⟨⟨h1,h2⟩,h3⟩;exact⟨⟨h1,by omega⟩,h3⟩
 ·rintro⟨⟨h1,h2⟩,h3⟩;exact⟨⟨h1,by omega⟩,h3⟩
theorem jU{rows:Int}{l:List aJ}{i:Nat}:qm rows l i=true↔(0≤(l.getD i (aB .aJ)).round∧(l.getD i (aB .aJ)).round≤100000)∧(0<i→(l.getD (i-1) (aB .aJ)).round<(l.getD i (aB .aJ)).round)∧cg (l.getD i (aB .aJ)).db=true∧((l.getD i (aB .aJ)).db.rows.length:Int)=rows:=by
 simp only[qm,Bool.and_eq_true,bN,beq_iff_eq,Bool.not_eq_true',Bool.and_eq_false_iff,decide_eq_false_iff_not]
 constructor
 ·rintro⟨⟨⟨h1,h2⟩,h3⟩,h4⟩
  refine⟨h1,fun hi=> ?_,h3,h4⟩
  rcases h2 with h2|h2
  ·omega
  ·omega
 ·rintro⟨h1,h2,h3,h4⟩
  refine⟨⟨⟨h1,?_⟩,h3⟩,h4⟩
  by_cases hi:0<i
  ·right;have:=h2 hi;omega
  ·left;omega
theorem SI{rows:Int}{l:List aJ}(h:inc rows l):inc rows (l.drop 1):=by
 intro i hi
 have hi:i+1<l.length:=by rw[List.length_drop]at hi;omega
 have h1:=jU.1 (h (i+1) hi)
 rw[jU,vX]
 refine⟨h1.1,fun hp=> ?_,h1.2.2⟩
 rw[vX,show i-1+1=i by omega]
 exact h1.2.1 (by omega)
theorem SJ{rows:Int}{l:List aJ}{r:Int}{d:DB}(h:inc rows l)(h0:0≤r∧r≤100000)(hl:0<l.length→(l.getD (l.length-1) (aB .aJ)).round<r)(hd:cg d=true)(hr:(d.rows.length:Int)=rows):inc rows (l++ [⟨r,d⟩]):=by
 intro i hi
 rw[List.length_append,List.length_singleton]at hi
 by_cases hil:i<l.length
 ·have h1:=jU.1 (h i hil)
  rw[jU,Ae _ hil]
  refine⟨h1.1,fun hp=> ?_,h1.2.2⟩
  rw[Ae _ (by omega)]
  exact h1.2.1 hp
 ·obtain rfl:i=l.length:=by omega
  rw[jU,FE]
  refine⟨h0,fun hp=> ?_,hd,hr⟩
  rw[Ae _ (by omega)]
  exact hl hp
theorem SK{rows:Int}{l:List aJ}(h:inc rows l): ∀(j i:Nat),i<j→j<l.length→(l.getD i (aB .aJ)).round<(l.getD j (aB .aJ)).round
 |0,i,h1,_=>by omega
 |j+1,i,h1,h2=>by
  have h3:=(jU.1 (h (j+1) h2)).2.1 (by omega)
  rw[show j+1-1=j by omega]at h3
  by_cases e:i=j
  ·subst e;exact h3
  ·have:=SK h j i (by omega) (by omega);omega
theorem pO{a:iC}(h:0<a.rounds.length):bR a=(a.rounds.getD (a.rounds.length-1) (aB .aJ)).round:=by rw[bR,if_neg (by omega)]
theorem vY{a:iC}(h:a.rounds= []):bR a= -1:=by rw[bR,h];rfl
theorem Hu{a:iC}(h:eD a=true): ∀y,y∈a.rounds→0≤y.round∧y.round≤bR a:=by
 intro y hy
 have h2:=(kP.1 h).2
 obtain⟨i,hi,rfl⟩:=List.mem_iff_getElem.1 hy
 have e:a.rounds[i]=a.rounds.getD i (aB .aJ):=by rw[List.getD_eq_getElem?_getD,List.getElem?_eq_getElem hi];rfl
 rw[pO (by omega),e]
 refine⟨(jU.1 (h2 i hi)).1.1,?_⟩
 by_cases hl:i=a.rounds.length-1
 ·rw[hl];exact Int.le_refl _
 ·exact Int.le_of_lt (SK h2 _ _ (by omega) (by omega))
theorem VJ{a:iC}{r:Int}{d:DB}(h:eD a=true)(h0:0≤r∧r≤100000)(hl:bR a<r)(hd:cg d=true)(hr:(d.rows.length:Int)=a.rows):pK a r d=true:=by
 simp only[pK,Bool.and_eq_true,h,hd,bN,h0,hr,Bool.not_eq_true',decide_eq_false_iff_not,decide_true]
 exact⟨⟨⟨⟨trivial,⟨trivial,trivial⟩⟩,by omega⟩,trivial⟩,trivial⟩
theorem VK{a:iC}{r:Int}{d:DB}(h:pK a r d=true):zU a r d=if(8:Int)<(rJ a r d).length then(rJ a r d).drop 1 else rJ a r d:=by rw[zU,if_pos h]
theorem SL{a:iC}{r:Int}{d:DB}:(rJ a r d).length=a.rounds.length+1∧ ∀e,(rJ a r d).getD a.rounds.length e=⟨r,d⟩:=by
 unfold rJ
 exact⟨by rw[List.length_append];rfl,fun e=>FE e⟩
theorem LB{a:iC}{r:Int}{d:DB}(h:eD a=true)(h0:0≤r∧r≤100000)(hl:bR a<r)(hd:cg d=true)(hr:(d.rows.length:Int)=a.rows):
  eD ⟨a.rows,zU a r d⟩=true∧bR ⟨a.rows,zU a r d⟩=r∧0<(zU a r d).length∧(zU a r d).getD ((zU a r d).length-1) (aB .aJ)=⟨r,d⟩:=by
 have ha:=kP.1 h
 have hi:inc a.rows (rJ a r d):=SJ ha.2 h0 (fun hp=>by rw[pO hp]at hl;exact hl) hd hr
 obtain⟨hL,hG⟩:=SL (a:=a) (r:=r) (d:=d)
 rw[VK (VJ h h0 hl hd hr)]
 split
 ·rename_i h8
  have hlen:((rJ a r d).drop 1).length=a.rounds.length:=by rw[List.length_drop];omega
  have hg:((rJ a r d).drop 1).getD (((rJ a r d).drop 1).length-1) (aB .aJ)=⟨r,d⟩:=by
   rw[hlen,vX,show a.rounds.length-1+1=a.rounds.length by omega];exact hG _
  refine⟨kP.2 ⟨⟨ha.1.1,by show((rJ a r d).drop 1).length≤8;omega⟩,SI hi⟩,?_,by omega,hg⟩
  rw[pO (by show 0<((rJ a r d).drop 1).length;omega)]
  exact congrArg aJ.round hg
 ·rename_i h8
  have hg:(rJ a r d).getD ((rJ a r d).length-1) (aB .aJ)=⟨r,d⟩:=by
   rw[hL,show a.rounds.length+1-1=a.rounds.length by omega];exact hG _
  refine⟨kP.2 ⟨⟨ha.1.1,by show(rJ a r d).length≤8;omega⟩,hi⟩,?_,by omega,hg⟩
  rw[pO (by show 0<(rJ a r d).length;omega)]
  exact congrArg aJ.round hg
structure yx(x:aV):Prop where
 rows:1≤x.rows∧x.rows≤64
 VL:2≤x.aj.length∧x.aj.length≤4
 T1:2≤x.aa.length∧x.aa.length≤8
 even:x.aa.length % 2=0
 FF:eD x.az=true
 yy:x.az.rows=x.rows
 last:bR x.az<x.round
 key:eC x.aT=true
 round:0≤x.round∧x.round≤100000
 lF:0≤x.cancelled
 sv:ZG x.rows x.round x.aj
 dv: ∀i,i<x.aa.length→okD x i=true
theorem yx.of{x:aV}(h:okW x=true):yx x:=by
 have hh:=jC h
 have he:=nR hh
 have hs:=dj h
 have hh2:=hh
 simp only[HL,Bool.and_eq_true,bN,beq_iff_eq,decide_eq_true_eq]at hh
 obtain⟨⟨⟨⟨⟨⟨⟨⟨⟨h1,h2⟩,h3⟩,h4⟩,h5⟩,h6⟩,h7⟩,h8⟩,h9⟩,VM⟩:=hh
 exact⟨h1,⟨hs.2,hs.1⟩,⟨he.2.2,he.2.1⟩,he.1,h5,h6,h7,h8,h9,VM,fun i hi=>(Ht h1 h9 (by omega)).1 (GQ h hi),fun i hi=>mm h hi⟩
theorem yx.ok{x:aV}(h:yx x):okW x=true:=by
 obtain⟨h1,h2,h3,h4,h5,h6,h7,h8,h9,VM,h11,h12⟩:=h
 have ht:(x.aa.length:Int).tmod 2=0:=by rw[dn (by omega)];omega
 simp only[okW,HL,b7,Bool.and_eq_true,bN,beq_iff_eq,decide_eq_true_eq,List.all_eq_true,List.mem_range]
 exact⟨⟨⟨⟨⟨⟨⟨⟨⟨⟨⟨h1,by omega⟩,by omega⟩,ht⟩,h5⟩,h6⟩,h7⟩,h8⟩,h9⟩,VM⟩,fun i hi=>(Ht h1 h9 (by omega)).2 (h11 i hi)⟩,h12⟩
theorem VN{rows rd:Int}{p:List aX×List Int}{id:Int}(hl:p.1.length≤4)(h:ZG rows rd p.1):ZG rows rd (xS rows rd p id).1:=by
 unfold xS
 split
 ·rename_i hk
  simp only[uC,bN]at hk
  rw[bh (by omega)]at hk
  intro i hi
  rw[List.length_set]at hi
  show W4 rows rd i ((p.1.set id.toNat ⟨id,rows,rd,[],0⟩).getD i (aB .aX))
  rw[fP _ _ hi]
  split
  ·rename_i e
   exact⟨by show id=(i:Int);omega,rfl,rfl,rfl,Int.le_refl _,by show(0:Int)≤3;decide⟩
  ·exact h i hi
 ·exact h
theorem Hv{rows rd:Int}: ∀(g:List Int) {p:List aX×List Int},p.1.length≤4→ZG rows rd p.1→ZG rows rd (DM rows rd p g).1∧(DM rows rd p g).1.length=p.1.length
 | [],_,_,h=>⟨h,rfl⟩
 |i::g,p,hl,h=>by
  have lO:=(G8 rows rd p i).1
  have:=Hv g (p:=xS rows rd p i) (by omega) (VN (id:=i) hl h)
  exact⟨this.1,this.2.trans lO⟩
theorem VO{rows rd:Int}{i:Nat}{s:aX}(h:W4 rows rd i s)(hr:1≤rows∧rows≤64)(hd:0≤rd∧rd<100000)(hi:i≤3):W4 rows (rd+1) i (fN s):=by
 have hk:=SH h hr (by omega) hi
 obtain⟨h1,h2,h3,h4,h5⟩:=h
 have hb:DL s=true:=by
  simp only[DL,hk,Bool.true_and,Bool.not_eq_true',beq_eq_false_iff_ne];omega
 rw[fN,if_pos hb]
 refine⟨h1,h2,?_,rfl,h5⟩
 show IntKind.i64.wrap (s.round+1)=rd+1
 rw[bh (by omega),h3]
theorem FG{x y:aV}{i:Nat}(hd:y.aa=x.aa)(hr:x.round≤y.round)(h:okD x i=true):okD y i=true:=by
 simp only[okD,Bool.and_eq_true,decide_eq_true_eq]at h ⊢
 rw[hd]
 exact⟨h.1,by omega⟩
theorem kQ{x:aV}(h:okW x=true)(hr:x.round<99999):jj x=true:=by
 simp only[jj,h,Bool.true_and,Bool.not_eq_true',decide_eq_false_iff_not];omega
theorem Af{x:aV}{g:List Int}{d:DB}(h:okW x=true)(hr:x.round<99999)(hc:x.cancelled<9223372036854775807)(hd:g= []→cg d=true∧(d.rows.length:Int)=x.rows):okW (bQ x g d)=true:=by
 have w:=yx.of h
 have hp:=Hv (rows:=x.rows) (rd:=x.round) g (p:=(x.aj,x.replaced)) w.VL.2 w.sv
 have w1:=w.rows;have w2:=w.VL;have w3:=w.round;have w4:=w.lF
 have hrd:IntKind.i64.wrap (x.round+1)=x.round+1:=bh (by omega)
 rw[bQ,if_pos (kQ h hr)]
 have lP:ZG x.rows (x.round+1) ((qB x g).1.map fN):=by
  intro i hi
  rw[List.length_map]at hi
  have hi4:i≤3:=by have:=hp.2;unfold qB at hi;dsimp only at this;omega
  rw[getD_map fN _ (aB .aX) hi]
  exact VO (hp.1 i hi) w1 (by omega) hi4
 have hlen:((qB x g).1.map fN).length=x.aj.length:=by rw[List.length_map];exact hp.2
 have abe:eD ⟨x.az.rows,if g.length=0 then zU x.az x.round d else x.az.rounds⟩=true∧bR ⟨x.az.rows,if g.length=0 then zU x.az x.round d else x.az.rounds⟩<x.round+1:=by
  by_cases hg:g.length=0
  ·obtain⟨q1,q2⟩:=hd (List.length_eq_zero_iff.1 hg)
   rw[if_pos hg]
   have:=LB w.FF (by omega:0≤x.round∧x.round≤100000) w.last q1 (by rw[w.yy];exact q2)
   exact⟨this.1,by rw[this.2.1];omega⟩
  ·rw[if_neg hg]
   have:=w.last
   exact⟨w.FF,by show bR x.az<_;omega⟩
 refine yx.ok ⟨w1,by dsimp only;rw[hlen];exact w2,w.T1,w.even,abe.1,w.yy,?_,w.key,?_,?_,?_,fun i hi=> ?_⟩
 ·dsimp only;rw[hrd];exact abe.2
 ·dsimp only;rw[hrd];omega
 ·dsimp only
  split
  ·exact w4
  ·rw[bh (by omega)];omega
 ·dsimp only;rw[hrd];exact lP
 ·exact FG (x:=x) rfl (by dsimp only;rw[hrd];omega) (w.dv i hi)
theorem D0{a b:List (List UInt8)}:zm a b=true↔a.length≤b.length∧a=b.take a.length:=by
 simp only[zm,Bool.and_eq_true,decide_eq_true_eq,beq_iff_eq]
 constructor
 ·rintro⟨h1,h2⟩;exact⟨by omega,h2⟩
 ·rintro⟨h1,h2⟩;exact⟨by omega,h2⟩
theorem Ag(a:List (List UInt8)):zm a a=true:=D0.2 ⟨Nat.le_refl _,(List.take_length).symm⟩
theorem SM{a b c:List (List UInt8)}(h:zm a b=true):zm a (b++c)=true:=by
 obtain⟨h1,h2⟩:=D0.1 h
 refine D0.2 ⟨by rw[List.length_append];omega,?_⟩
 rw[List.take_append_of_le_length h1];exact h2
theorem Ah{c:dK}:cN c=true↔(((0≤c.id∧c.id≤7)∧(0≤c.dz∧c.dz≤7))∧c.id≠c.dz∧eC c.key=true)∧Hf c∧(0≤c.sent∧c.sent≤c.aI.length)∧0≤c.next∧c.next≤100000:=by
 simp only[cN,Hf,Bool.and_eq_true,Bool.not_eq_true',List.any_eq_false,bN,decide_eq_true_eq,beq_eq_false_iff_ne]
 have hl: ∀b:List UInt8, ¬long b=true↔b.length≤14:=by
  intro b;simp only[long,decide_eq_true_eq];omega
 constructor
 ·rintro⟨⟨⟨⟨⟨⟨⟨⟨⟨h1,h2⟩,h3⟩,h4⟩,h5⟩,h6⟩,h7⟩,h8⟩,h9⟩,VM⟩
  exact⟨⟨⟨h1,h2⟩,h3,h4⟩,⟨by omega,by omega,fun b hb=>(hl b).1 (h7 b hb),fun b hb=>(hl b).1 (h8 b hb)⟩,h9,VM⟩
 ·rintro⟨⟨⟨h1,h2⟩,h3,h4⟩,⟨h5,h6,h7,h8⟩,h9,VM⟩
  exact⟨⟨⟨⟨⟨⟨⟨⟨⟨h1,h2⟩,h3⟩,h4⟩,by omega⟩,by omega⟩,fun b hb=>(hl b).2 (h7 b hb)⟩,fun b hb=>(hl b).2 (h8 b hb)⟩,h9⟩,VM⟩
theorem SN{c:dK}{r:Int}{own other:List UInt8}(h:cN c=true):cN (dL c r own other)=true:=by
 by_cases hk:kK c r=true
 ·have hB:=xU (xT h) r own other
  rw[dL,if_pos hk]at hB ⊢
  obtain⟨h1,_,h3,h4⟩:=Ah.1 h
  simp only[kK,Bool.and_eq_true,bN]at hk
  refine Ah.2 ⟨h1,hB,?_,?_⟩
  ·dsimp only
   split
   ·rename_i hh
    simp only[gA,Bool.and_eq_true,decide_eq_true_eq]at hh
    omega
   ·exact h3
  ·dsimp only;omega
 ·rw[dL,if_neg hk];exact h
structure SO(d:bg):Prop where
 live:cN d.live=true
 saved:cN d.saved=true
 same:jx d.live d.saved=true
 sent:d.saved.sent≤d.live.sent
 next:d.saved.next≤d.live.next
 pre:zm d.saved.inbox d.live.inbox=true
theorem SO.iff{d:bg}:cR d=true↔SO d:=by
 simp only[cR,Bool.and_eq_true,decide_eq_true_eq]
 constructor
 ·rintro⟨⟨⟨⟨⟨h1,h2⟩,h3⟩,h4⟩,h5⟩,h6⟩;exact⟨h1,h2,h3,h4,h5,h6⟩
 ·rintro⟨h1,h2,h3,h4,h5,h6⟩;exact⟨⟨⟨⟨⟨h1,h2⟩,h3⟩,h4⟩,h5⟩,h6⟩
theorem gN{a b:dK}:jx a b=true↔qS a b∧a.aI=b.aI:=by
 simp only[jx,qS,Bool.and_eq_true,beq_iff_eq]
 constructor
 ·rintro⟨⟨⟨⟨h1,h2⟩,h3⟩,h4⟩,h5⟩;exact⟨⟨h1,h2,h3,h4⟩,h5⟩
 ·rintro⟨⟨h1,h2,h3,h4⟩,h5⟩;exact⟨⟨⟨⟨h1,h2⟩,h3⟩,h4⟩,h5⟩
theorem OZ(c:dK)(r:Int)(own other:List UInt8):(dL c r own other).aI=c.aI∧c.sent≤(dL c r own other).sent∧(dL c r own other).sent≤c.sent+1∧c.next≤(dL c r own other).next∧ ∃m,(dL c r own other).inbox=c.inbox++m:=by
 unfold dL
 split
 ·rename_i hk
  simp only[kK,Bool.and_eq_true,bN]at hk
  refine⟨rfl,?_,?_,?_,?_⟩
  ·dsimp only;split<;>omega
  ·dsimp only;split<;>omega
  ·dsimp only;omega
  ·dsimp only
   split
   ·exact⟨_,rfl⟩
   ·exact⟨[],(List.append_nil _).symm⟩
 ·exact⟨rfl,Int.le_refl _,by omega,Int.le_refl _,[],(List.append_nil _).symm⟩
theorem VP{d:bg}{r:Int}{own other:List UInt8}(h:cR d=true):cR (rdev d r own other)=true:=by
 have hd:=SO.iff.1 h
 unfold rdev
 split
 ·have hc:=SN (r:=r) (own:=own) (other:=other) hd.live
  split
  ·exact SO.iff.2 ⟨hc,hc,gN.2 ⟨⟨rfl,rfl,rfl,rfl⟩,rfl⟩,Int.le_refl _,Int.le_refl _,Ag _⟩
  ·obtain⟨q1,q2,_,q3,m,q4⟩:=OZ d.live r own other
   obtain⟨p1,p2⟩:=gN.1 hd.same
   have p3:=vP d.live r own other
   refine SO.iff.2 ⟨hc,hd.saved,gN.2 ⟨⟨p3.1.trans p1.1,p3.2.1.trans p1.2.1,p3.2.2.1.trans p1.2.2.1,p3.2.2.2.trans p1.2.2.2⟩,q1.trans p2⟩,Int.le_trans hd.sent q2,Int.le_trans hd.next q3,?_⟩
   show zm d.saved.inbox (dL d.live r own other).inbox=true
   rw[q4]
   exact SM hd.pre
 ·exact h
theorem O0{d:bg}{r:Int}{own other:List UInt8}{R:Int}(h:d.live.next≤R)(hr:r+1≤R):(rdev d r own other).live.next≤R:=by
 have key:(dL d.live r own other).next≤R:=by
  unfold dL
  split
  ·exact hr
  ·exact h
 unfold rdev
 split
 ·split
  ·exact key
  ·exact key
 ·exact h
theorem Nr(x:aV)(d0:bg){R:Int}: ∀(l:List Int) (d:bg),(∀r,r∈l→r+1≤R)→cR d=true→d.live.next≤R→cR (l.foldl (GZ x d0) d)=true∧(l.foldl (GZ x d0) d).live.next≤R
 | [],_,_,h1,h2=>⟨h1,h2⟩
 |r::l,d,hl,h1,h2=>Nr x d0 l _ (fun q hq=>hl q (List.mem_cons_of_mem _ hq)) (VP h1) (O0 h2 (hl r (List.mem_cons_self ..)))
theorem LC{l:List aJ}{f r:Int}(h:r∈eY l f):f≤r∧ ∃y,y∈l∧y.round=r:=by
 unfold eY at h
 obtain⟨y,hy,rfl⟩:=List.mem_map.1 h
 rw[List.mem_filter]at hy
 exact⟨by simpa using hy.2,y,hy.1,rfl⟩
theorem JK{x:aV}{i:Nat}(h:okW x=true)(hi:i<x.aa.length):cR (jP x (x.aa.getD i (aB .bg)))=true∧(jP x (x.aa.getD i (aB .bg))).live.next≤x.round∧qS (jP x (x.aa.getD i (aB .bg))).live (x.aa.getD i (aB .bg)).live:=by
 have w:=yx.of h
 have hd:=mm h hi
 simp only[okD,Bool.and_eq_true,decide_eq_true_eq]at hd
 have h1:=Nr x (x.aa.getD i (aB .bg)) (R:=x.round) (nY x (x.aa.getD i (aB .bg))) _ (fun r hr=>by
  obtain⟨_,y,hy,rfl⟩:=LC hr
  have:=(Hu w.FF y hy).2
  have:=w.last
  omega) hd.1.1.1.1 hd.2
 exact⟨h1.1,h1.2,zN x _ _ _ ⟨rfl,rfl,rfl,rfl⟩⟩
theorem Hw{x:aV}(h:okW x=true):okW (yI x)=true:=by
 have w:=yx.of h
 rw[yI,if_pos h]
 have hg: ∀i,i<x.aa.length→(x.aa.map (jP x)).getD i (aB .bg)=jP x (x.aa.getD i (aB .bg)):=fun i hi=>getD_map _ _ _ hi
 refine yx.ok ⟨w.rows,w.VL,by dsimp only;rw[List.length_map];exact w.T1,by dsimp only;rw[List.length_map];exact w.even,w.FF,w.yy,w.last,w.key,w.round,w.lF,w.sv,fun i hi=> ?_⟩
 have hi:i<x.aa.length:=by dsimp only at hi;rwa [List.length_map]at hi
 obtain⟨q1,q2,q3⟩:=JK h hi
 have hd:=mm h hi
 have hx:=sB i x.aa.length hi w.even
 obtain⟨_,_,p3⟩:=JK h hx
 simp only[okD,Bool.and_eq_true,decide_eq_true_eq,beq_iff_eq]at hd ⊢
 rw[hg i hi,hg _ hx]
 exact⟨⟨⟨⟨q1,q3.1.trans hd.1.1.1.2⟩,q3.2.1.trans hd.1.1.2⟩,by rw[q3.2.2.1,p3.2.2.1];exact hd.1.2⟩,q2⟩
end
section
theorem qG{rows:Int}(h:0≤rows∧rows≤64):((cE rows).rows.length:Int)=rows:=by
 rw[mA h,List.length_replicate];omega
theorem JM{rows i:Int}{c:List UInt8}(h:lB rows i c=true):((HN rows i c).rows.length:Int)=rows:=by
 have h':=h
 simp only[lB,Bool.and_eq_true]at h'
 have hr:1≤rows∧rows≤64:=by have:=h'.1;rw[bN]at this;exact this
 rw[HN,if_pos h'.1,o7 h'.2]
 show(((cE rows).rows.set i.toNat c).length:Int)=rows
 rw[List.length_set];exact qG (by omega)
theorem FH{α:Type}(f:α→DB): ∀(l:List α) (d:DB),(l.foldl (fun d s=>eL d (f s)) d).rows.length=d.rows.length:=by
 intro l
 induction l with
 |nil=>intro d;rfl
 |cons x r ih=>intro d;rw[List.foldl_cons,ih,qz]
theorem LD{rows i:Int}{c:List UInt8}(h:lB rows i c=true)(sd:List Int):((lS rows i c sd).rows.length:Int)=rows:=by
 unfold lS;rw[FH (fun s=>EA s rows)];exact JM h
theorem LF{rows i:Int}{c:List UInt8}{sd:List Int}: ∀d,d∈lT rows i c sd→(d.rows.length:Int)=rows:=by
 intro d hd
 unfold lT at hd
 split at hd
 ·rename_i h
  have hu:lB rows i c=true:=by simp only[nI,Bool.and_eq_true]at h;exact h.1
  rcases List.mem_append.1 hd with h1|h1
  ·obtain⟨s,_,rfl⟩:=List.mem_map.1 h1
   have:=(vE hu).2
   show((fI s rows).length:Int)=rows
   rw[jd];omega
  ·rw[List.mem_singleton.1 h1];exact LD hu sd
 ·cases hd
def Ai(x:aV)(i:Nat)(c:Nat):DB:=(cD x (c:Int)).getD i (aB .DB)
def rcs(x:aV)(i n:Nat):List aM:=(List.range n).map fun c:Nat=>⟨(c:Int),Ai x i c⟩
theorem SP(x:aV)(i n:Nat):rcs x i (n+1)=rcs x i n++ [⟨(n:Int),Ai x i n⟩]:=by
 unfold rcs;rw[List.range_succ,List.map_append];rfl
theorem Hx(x:aV)(i n:Nat):(rcs x i n).length=n:=by simp[rcs]
theorem yz(x:aV)(i n:Nat){k:Nat}(h:k<n):(rcs x i n).getD k (aB .aM)=⟨(k:Int),Ai x i k⟩:=cL _ _ _ _ h
def ef(x:aV)(k i:Nat):aX:=⟨(x.aj.getD i (aB .aX)).id,(x.aj.getD i (aB .aX)).rows,(x.aj.getD i (aB .aX)).round,rcs x i k,(x.aj.getD i (aB .aX)).behavior⟩
theorem SQ{x:aV}(h:okW x=true):2≤x.aa.length∧x.aa.length≤8:=by
 have:=jC h
 simp only[HL,Bool.and_eq_true,bN]at this
 omega
theorem LG{x:aV}(h:okW x=true){i c:Nat}(hi:i<x.aj.length)(hc:c<x.aa.length):cg (Ai x i c)=true∧((Ai x i c).rows.length:Int)=x.rows:=by
 have hl:(cD x (c:Int)).length=x.aj.length:=gL h (by omega)
 have hm:Ai x i c∈cD x (c:Int):=getD_in _ (by omega)
 exact⟨vI h _ hm,LF _ hm⟩
theorem A5{x:aV}(h:okW x=true){i:Nat}(hi:i<x.aj.length):(x.aj.getD i (aB .aX)).id=(i:Int)∧(x.aj.getD i (aB .aX)).rows=x.rows∧(x.aj.getD i (aB .aX)).round=x.round∧(x.aj.getD i (aB .aX)).received= []∧0≤(x.aj.getD i (aB .aX)).behavior∧(x.aj.getD i (aB .aX)).behavior≤3:=by
 have hs:=dj h
 have hr:=lM h
 exact(Ht hr.1 hr.2 (by omega)).1 (GQ h hi)
theorem oq{x:aV}(h:okW x=true){k i:Nat}(hi:i<x.aj.length)(hk:k≤x.aa.length):bS (ef x k i)=true:=by
 have hs:=dj h
 have hr:=lM h
 have hn:=SQ h
 obtain⟨h1,h2,h3,h4,h5⟩:=A5 h hi
 have hl:(ef x k i).received.length=k:=Hx x i k
 simp only[bS,uU,Bool.and_eq_true,bN,decide_eq_true_eq,List.all_eq_true,hl]
 refine⟨⟨⟨⟨⟨?_,?_⟩,?_⟩,?_⟩,?_⟩,fun j hj=> ?_⟩
 ·show 0≤(x.aj.getD i (aB .aX)).id∧(x.aj.getD i (aB .aX)).id≤3
  omega
 ·show 1≤(x.aj.getD i (aB .aX)).rows∧(x.aj.getD i (aB .aX)).rows≤64
  omega
 ·exact h5
 ·show 0≤(x.aj.getD i (aB .aX)).round∧(x.aj.getD i (aB .aX)).round≤100000
  omega
 ·omega
 ·have hj':j<k:=List.mem_range.1 hj
  have e:(ef x k i).received.getD j (aB .aM)=⟨(j:Int),Ai x i j⟩:=yz x i k hj'
  have ho:=LG h hi (show j<x.aa.length by omega)
  have er:(ef x k i).rows=x.rows:=h2
  simp only[mT,e,Bool.and_eq_true,bN,beq_iff_eq,Bool.not_eq_true',Bool.and_eq_false_iff,decide_eq_false_iff_not,er]
  refine⟨⟨⟨by omega,?_⟩,ho.1⟩,ho.2⟩
  by_cases hz:j=0
  ·left;omega
  ·right
   have e':(ef x k i).received.getD (j-1) (aB .aM)=⟨((j-1:Nat):Int),Ai x i (j-1)⟩:=yz x i k (by omega)
   rw[e']
   show¬(j:Int)≤((j-1:Nat):Int)
   omega
theorem Ns{x:aV}(h:okW x=true){i:Nat}(hi:i<x.aj.length): ∀k,k≤x.aa.length→(uz x k).getD i (aB .aX)=ef x k i
 |0,_=>by
  have h4:=(A5 h hi).2.2.2.1
  show x.aj.getD i (aB .aX)=ef x 0 i
  unfold ef
  have e:rcs x i 0=(x.aj.getD i (aB .aX)).received:=by rw[h4];rfl
  rw[e]
 |k+1,hk=>by
  have ha:jK (ef x k i) (k:Int) (Ai x i k)=ef x (k+1) i:=by
   unfold jK
   show(⟨_,_,_,rcs x i k++ [⟨(k:Int),Ai x i k⟩],_⟩:aX)=_
   rw[←SP];rfl
  rw[Jj h (by omega) hi,Ns h hi k (by omega)]
  show Ll (ef x k i) (k:Int) (Ai x i k)=_
  rw[GR (by unfold jL;rw[ha,oq h hi (by omega),oq h hi hk];rfl),ha]
theorem qH{x:aV}(h:okW x=true){i:Nat}(hi:i<x.aj.length):(aY x).getD i (aB .aX)=ef x x.aa.length i:=by
 rw[aY,if_pos h];exact Ns h hi _ (Nat.le_refl _)
theorem VQ(x:aV)(i n:Nat){a:Nat}(ha:a<n):j7 (rcs x i n) (a:Int)=true∧vH (rcs x i n) (a:Int)=Ai x i a:=by
 have hg:=yz x i n ha
 have:=Lm (l:=rcs x i n) (c:=(a:Int)) (k:=a) (by rw[Hx];exact ha) (by
  rw[List.any_eq_false]
  intro r hr
  obtain⟨j,hj⟩:=List.mem_iff_getElem?.1 hr
  have hj2:j<a:=by
   have:=(List.getElem?_eq_some_iff.1 hj).1
   rw[List.length_take]at this;omega
  rw[List.getElem?_take,if_pos hj2]at hj
  have e:r=⟨(j:Int),Ai x i j⟩:=by
   rw[←yz x i n (show j<n by omega),List.getD_eq_getElem?_getD,hj];rfl
  rw[e];simp only[Pu,beq_iff_eq];omega) (by rw[hg];simp[Pu])
 rw[hg]at this;exact this
theorem Nt{x:aV}{d:DB}(h:okW x=true)(hr:x.round<99999)(hc:x.cancelled<9223372036854775807)(hd:cg d=true)(hn:(d.rows.length:Int)=x.rows):
  (bQ x [] d).round=x.round+1∧okW (bQ x [] d)=true∧bR (bQ x [] d).az=x.round∧(bQ x [] d).cancelled=x.cancelled:=by
 have w:=yx.of h
 have w3:=w.round
 have hp:=kQ h hr
 refine⟨?_,Af h hr hc (fun _=>⟨hd,hn⟩),?_,?_⟩
 ·rw[bQ,if_pos hp];exact bh (by omega)
 ·rw[bQ,if_pos hp]
  show bR ⟨x.az.rows,zU x.az x.round d⟩=x.round
  exact(LB w.FF w3 w.last hd (by rw[w.yy];exact hn)).2.1
 ·rw[bQ,if_pos hp];rfl
end
section
structure O1 where
 b:List UInt8
 i:Nat
 h:Int
def O1.h1(c:O1):Int:=IntKind.i64.wrap (IntKind.i64.wrap (c.h*6364136223846793005)+1442695040888963407)
def O1.n(c:O1):O1:=⟨c.b,if c.i<c.b.length then c.i+1 else c.i,c.h1⟩
def JP(seed:Int)(i:Nat):dK:=⟨(i:Int),((i^^^1:Nat):Int),AM (kh seed [199,(i:Int).tdiv 2]),kh seed [211,(i:Int)],[],0,[],0⟩
def VR(seed:Int)(i:Nat):bg:=⟨JP seed i,JP seed i⟩
def nwS(rows:Int)(i:Nat):aX:=⟨(i:Int),rows,0,[],0⟩
def yA(rows:Int)(n:Nat):List aX:=(List.range n).map (nwS rows)
def tD(seed:Int)(n:Nat):List bg:=(List.range n).map (VR seed)
def dO(rows:Int)(s p:Nat)(seed:Int):aV:=⟨rows,yA rows s,tD seed (2*p),⟨rows,[]⟩,AM (kh seed [197]),seed,0,[],0⟩
theorem BR(rows:Int)(n:Nat):(yA rows n).length=n:=by simp[yA]
theorem BS(seed:Int)(n:Nat):(tD seed n).length=n:=by simp[tD]
theorem SU(rows:Int)(k:Nat):yA rows (k+1)=yA rows k++ [nwS rows k]:=vu _ k
theorem SW(seed:Int)(k:Nat):tD seed (k+1)=tD seed k++ [VR seed k]:=vu _ k
theorem FJ(i:Nat):((i^^^1:Nat):Int).tdiv 2=(i:Int).tdiv 2:=by
 have h:(i^^^1)/2=i/2:=by
  rw[Nat.xor_div_two]
  simp
 rw[xg (by omega),xg (by omega)]
 omega
theorem Nu(i:Nat):i^^^1≠i:=by
 intro h
 have h2:(i^^^1)^^^i=i^^^i:=by rw[h]
 rw[Nat.xor_comm i 1,Nat.xor_assoc,Nat.xor_self,Nat.xor_zero]at h2
 cases h2
theorem LH{seed:Int}{i:Nat}(hi:i<8):cN (JP seed i)=true:=by
 have hk:=tV (c8 seed [199,(i:Int).tdiv 2])
 have hx:i^^^1<8:=sB i 8 hi (by decide)
 have hn:=Nu i
 have hB:Hf (JP seed i):=by
  refine⟨Nat.zero_le _,Nat.zero_le _,?_,?_⟩<;>(intro b hb;cases hb)
 refine Ah.2 ⟨⟨⟨by show 0≤(i:Int)∧(i:Int)≤7;omega,by show 0≤((i^^^1:Nat):Int)∧((i^^^1:Nat):Int)≤7;omega⟩,by show(i:Int)≠((i^^^1:Nat):Int);omega,?_⟩,hB,by show(0:Int)≤0∧(0:Int)≤0;omega,by show(0:Int)≤0;omega,by show(0:Int)≤100000;omega⟩
 show eC (AM _)=true
 unfold eC
 rw[bN];omega
theorem Hy{rows seed:Int}{s p:Nat}(hr:1≤rows∧rows≤64)(hs:2≤s∧s≤4)(hp:1≤p∧p≤4):okW (dO rows s p seed)=true:=by
 have hl1:=BR rows s
 have lO:=BS seed (2*p)
 have hk:=tV (c8 seed [197])
 refine yx.ok ⟨hr,by show 2≤(yA rows s).length∧(yA rows s).length≤4;omega,by show 2≤(tD seed (2*p)).length∧(tD seed (2*p)).length≤8;omega,by show(tD seed (2*p)).length % 2=0;omega,kP.2 ⟨⟨hr,by show 0≤8;omega⟩,fun i hi=>by cases hi⟩,rfl,?_,?_,by show(0:Int)≤0∧(0:Int)≤100000;omega,by show(0:Int)≤0;omega,fun i hi=> ?_,fun i hi=> ?_⟩
 ·show bR ⟨rows,[]⟩<0
  rw[vY rfl];decide
 ·show eC (AM _)=true
  unfold eC
  rw[bN];omega
 ·have hi':i<s:=by have:i<(yA rows s).length:=hi;omega
  have e:(yA rows s).getD i (aB .aX)=nwS rows i:=cL _ _ _ _ hi'
  show W4 rows 0 i ((yA rows s).getD i (aB .aX))
  rw[e]
  exact⟨rfl,rfl,rfl,rfl,by show(0:Int)≤0;omega,by show(0:Int)≤3;omega⟩
 ·have hi':i<2*p:=by have:i<(tD seed (2*p)).length:=hi;omega
  have hx:=sB i (2*p) hi' (by omega)
  have e: ∀j,j<2*p→(tD seed (2*p)).getD j (aB .bg)=VR seed j:=fun j hj=>cL _ _ _ _ hj
  have hc:=LH (seed:=seed) (i:=i) (by omega)
  have VS:cR (VR seed i)=true:=SO.iff.2 ⟨hc,hc,gN.2 ⟨⟨rfl,rfl,rfl,rfl⟩,rfl⟩,Int.le_refl _,Int.le_refl _,Ag _⟩
  show(cR ((tD seed (2*p)).getD i (aB .bg))&&(((tD seed (2*p)).getD i (aB .bg)).live.id==(i:Int))&&(((tD seed (2*p)).getD i (aB .bg)).live.dz==((i^^^1:Nat):Int))&&(((tD seed (2*p)).getD i (aB .bg)).live.key==((tD seed (2*p)).getD (i^^^1) (aB .bg)).live.key)&&decide (((tD seed (2*p)).getD i (aB .bg)).live.next≤0))=true
  rw[e i hi',e _ hx,VS]
  simp only[Bool.and_eq_true,beq_iff_eq,decide_eq_true_eq]
  refine⟨⟨⟨⟨trivial,rfl⟩,rfl⟩,?_⟩,Int.le_refl _⟩
  show AM (kh seed [199,(i:Int).tdiv 2])=AM (kh seed [199,((i^^^1:Nat):Int).tdiv 2])
  rw[FJ]
theorem abf{x:aV}{n:Nat}(h:okW x=true)(hr:x.replaced.length≤n):wC x n:=by
 have w:=yx.of h
 refine⟨vQ (Sp h),?_,?_,hr⟩
 ·exact Nat.le_trans (Bk bD 960 8 _ (fun d hd=>mE (JA h d hd)) w.T1.2) (by decide)
 ·have ha:=kP.1 w.FF
  refine Nat.le_trans (Bk dU 1600 8 _ (fun y hy=> ?_) ha.1.2) (by decide)
  obtain⟨i,hi,rfl⟩:=List.mem_iff_getElem.1 hy
  have h2:=jU.1 (ha.2 i hi)
  have e:x.az.rounds.getD i (aB .aJ)=x.az.rounds[i]:=by rw[List.getD_eq_getElem?_getD,List.getElem?_eq_getElem hi];rfl
  rw[e]at h2
  exact He h2.2.2.1
theorem Nv{x:aV}{i:Nat}{d:bg}(h:okW x=true)(hi:i<x.aa.length)(hd:cR d=true)(hs:qS d.live (x.aa.getD i (aB .bg)).live)(hn:d.live.next≤x.round):okW (Sq x i d)=true:=by
 have w:=yx.of h
 have hg: ∀j,j<x.aa.length→(x.aa.set i d).getD j (aB .bg)=if i=j then d else x.aa.getD j (aB .bg):=fun j hj=>fP _ _ hj
 refine yx.ok ⟨w.rows,w.VL,by show 2≤(x.aa.set i d).length∧(x.aa.set i d).length≤8;rw[List.length_set];exact w.T1,by show(x.aa.set i d).length % 2=0;rw[List.length_set];exact w.even,w.FF,w.yy,w.last,w.key,w.round,w.lF,w.sv,fun j hj=> ?_⟩
 have hj:j<x.aa.length:=by have:j<(x.aa.set i d).length:=hj;rwa [List.length_set]at this
 have hx:=sB j x.aa.length hj w.even
 have hq:=mm h hj
 have key: ∀m,m<x.aa.length→((x.aa.set i d).getD m (aB .bg)).live.key=(x.aa.getD m (aB .bg)).live.key:=by
  intro m hm
  rw[hg m hm]
  split
  ·rename_i e;subst e;exact hs.2.2.1
  ·rfl
 simp only[okD,Bool.and_eq_true,decide_eq_true_eq,beq_iff_eq]at hq ⊢
 show(((cR ((x.aa.set i d).getD j (aB .bg))=true∧((x.aa.set i d).getD j (aB .bg)).live.id=(j:Int))∧((x.aa.set i d).getD j (aB .bg)).live.dz=((j^^^1:Nat):Int))∧((x.aa.set i d).getD j (aB .bg)).live.key=((x.aa.set i d).getD (j^^^1) (aB .bg)).live.key)∧((x.aa.set i d).getD j (aB .bg)).live.next≤x.round
 rw[key j hj,key _ hx,hg j hj]
 split
 ·rename_i e
  subst e
  exact⟨⟨⟨⟨hd,hs.1.trans hq.1.1.1.2⟩,hs.2.1.trans hq.1.1.2⟩,hq.1.2⟩,hn⟩
 ·exact hq
theorem W6{x:aV}{c:Int}(h:lU x c=true):c.toNat<x.aa.length∧cR (EE x c)=true∧(EE x c).live.next≤x.round:=by
 obtain⟨h1,h2,h3⟩:=Ho h
 have hi:c.toNat<x.aa.length:=by omega
 have hq:=mm h1 hi
 simp only[okD,Bool.and_eq_true,decide_eq_true_eq]at hq
 exact⟨hi,hq.1.1.1.1,hq.2⟩
theorem Nw{c:dK}{b:List UInt8}(h:cN c=true):cN (jQ c b)=true:=by
 unfold jQ
 split
 ·rename_i hk;simp only[sZ,Bool.and_eq_true]at hk;exact hk.2
 ·exact h
theorem FK(c:dK)(b:List UInt8):qS (jQ c b) c∧(jQ c b).next=c.next∧(jQ c b).sent=c.sent∧(jQ c b).inbox=c.inbox:=by
 unfold jQ
 split
 ·exact⟨⟨rfl,rfl,rfl,rfl⟩,rfl,rfl,rfl⟩
 ·exact⟨⟨rfl,rfl,rfl,rfl⟩,rfl,rfl,rfl⟩
theorem VT{d:bg}{b:List UInt8}(h:cR d=true):cR (zX d b)=true∧qS (zX d b).live d.live∧(zX d b).live.next=d.live.next:=by
 unfold zX
 split
 ·rename_i hk
  simp only[zW,Bool.and_eq_true]at hk
  have hd:=SO.iff.1 h
  obtain⟨p1,p2⟩:=gN.1 hd.same
  obtain⟨a1,a2,a3,a4⟩:=FK d.live b
  obtain⟨b1,b2,b3,b4⟩:=FK d.saved b
  refine⟨SO.iff.2 ⟨Nw hd.live,Nw hd.saved,gN.2 ⟨⟨a1.1.trans (p1.1.trans b1.1.symm),a1.2.1.trans (p1.2.1.trans b1.2.1.symm),a1.2.2.1.trans (p1.2.2.1.trans b1.2.2.1.symm),a1.2.2.2.trans (p1.2.2.2.trans b1.2.2.2.symm)⟩,?_⟩,?_,?_,?_⟩,a1,a2⟩
  ·show(jQ d.live b).aI=(jQ d.saved b).aI
   rw[DZ hk.1.2,DZ hk.2]
   show d.live.aI++ [b]=d.saved.aI++ [b]
   rw[p2]
  ·show(jQ d.saved b).sent≤(jQ d.live b).sent
   rw[a3,b3];exact hd.sent
  ·show(jQ d.saved b).next≤(jQ d.live b).next
   rw[a2,b2];exact hd.next
  ·show zm (jQ d.saved b).inbox (jQ d.live b).inbox=true
   rw[a4,b4];exact hd.pre
 ·exact⟨h,⟨rfl,rfl,rfl,rfl⟩,rfl⟩
theorem YS{x:aV}{c:Int}{b:List UInt8}(h:okW x=true):okW (qC x c b)=true:=by
 unfold qC
 split
 ·rename_i hk
  obtain⟨h1,h2,h3⟩:=W6 hk
  obtain⟨q1,q2,q3⟩:=VT (b:=b) h2
  exact Nv h h1 q1 q2 (by rw[q3];exact h3)
 ·exact h
theorem VU{c:dK}(h:cN c=true):cR ⟨c,c⟩=true:=SO.iff.2 ⟨h,h,gN.2 ⟨⟨rfl,rfl,rfl,rfl⟩,rfl⟩,Int.le_refl _,Int.le_refl _,Ag _⟩
theorem YT{x:aV}{c:Int}(h:okW x=true):okW (VC x c)=true:=by
 unfold VC
 split
 ·rename_i hk
  obtain⟨h1,h2,h3⟩:=W6 hk
  rw[Kq,if_pos h2]
  exact Nv h h1 (VU (SO.iff.1 h2).live) ⟨rfl,rfl,rfl,rfl⟩ h3
 ·exact h
structure wh(x:aV)(n:Nat):Prop where
 ok:okW x=true
 round:x.round≤n
 lF:x.cancelled≤n
 Bp:x.replaced.length≤8*n
theorem wh.mono{x:aV}{n m:Nat}(h:wh x n)(hn:n≤m):wh x m:=⟨h.ok,by have:=h.round;omega,by have:=h.lF;omega,by have:=h.Bp;omega⟩
theorem wh.C{x:aV}{n:Nat}(h:wh x n):wC x (8*n):=abf h.ok h.Bp
theorem wh.B{x:aV}{n:Nat}(h:wh x n)(hn:n≤100000):wB x:=Hh h.C (by omega)
theorem wh.sm{x:aV}{n:Nat}{c:Int}{b:List UInt8}(h:wh x n):wh (qC x c b) n:=by
 refine⟨YS h.ok,?_,?_,?_⟩<;>(unfold qC;split)<;>first|exact h.round|exact h.lF|exact h.Bp
theorem wh.sv{x:aV}{n:Nat}{c:Int}(h:wh x n):wh (VC x c) n:=by
 refine⟨YT h.ok,?_,?_,?_⟩<;>(unfold VC;split)<;>first|exact h.round|exact h.lF|exact h.Bp
end
section
theorem nA: ∀(a b:List UInt8) (i:Nat),oT (cH a b) i=oT a i^^^oT b i
 | [],b,i=>by rw[kS];simp[oT]
 |x::a,[],i=>by rw[gF];simp[oT]
 |x::a,y::b,0=>by simp[cH,oT]
 |x::a,y::b,i+1=>by
  have:=nA a b i
  rw[cH]
  simpa[oT]using this
theorem YV{a b:List UInt8}(hl:a.length=b.length)(h: ∀i,oT a i=oT b i):a=b:=by
 apply List.ext_getElem hl
 intro i h1 h2
 have:=h i
 unfold oT at this
 rw[List.getD_eq_getElem?_getD,List.getElem?_eq_getElem h1,List.getD_eq_getElem?_getD,List.getElem?_eq_getElem h2]at this
 exact this
def sb(rows:List (List UInt8))(v:List Int)(i k:Nat):UInt8:=if k<v.length∧v.getD k (aB .int)=1 then oT (rows.getD k (aB (.sl .u8))) i else 0
def sx(rows:List (List UInt8))(v:List Int)(i:Nat):Nat→UInt8
 |0=>0
 |n+1=>sx rows v i n^^^sb rows v i n
theorem JQ(rows:List (List UInt8))(v:List Int)(i:Nat): ∀n,oT (pE rows v n) i=sx rows v i n
 |0=>rfl
 |n+1=>by
  have ih:=JQ rows v i n
  by_cases h:n<v.length∧v.getD n (aB .int)=1
  ·rw[sQ h.1 h.2,nA,ih,sx,sb,if_pos h]
  ·rw[mD h,ih,sx,sb,if_neg h,UInt8.xor_zero]
theorem YW{a b:List Int}(hl:b.length=a.length){k:Nat}(hk:k<a.length):(List.zipWith xb a b).getD k (aB .int)=xb (a.getD k (aB .int)) (b.getD k (aB .int)):=by
 have hz:k<(List.zipWith xb a b).length:=by rw[List.length_zipWith];omega
 rw[List.getD_eq_getElem?_getD,List.getElem?_eq_getElem hz,List.getElem_zipWith,List.getD_eq_getElem?_getD,List.getElem?_eq_getElem hk,List.getD_eq_getElem?_getD,List.getElem?_eq_getElem (show k<b.length by omega)]
 rfl
theorem YX(rows:List (List UInt8)){a b:List Int}{n:Int}(ha:cF a n=true)(hb:cF b n=true)(i k:Nat):sb rows (List.zipWith xb a b) i k=sb rows a i k^^^sb rows b i k:=by
 have h1:=iZ ha
 have h2:=iZ hb
 have hl:b.length=a.length:=by omega
 have hz:(List.zipWith xb a b).length=a.length:=by rw[List.length_zipWith];omega
 unfold sb
 rw[hz,hl]
 by_cases hk:k<a.length
 ·rw[YW hl hk]
  rcases tW ha k hk with e1|e1<;>rcases tW hb k (by omega)with e2|e2<;>rw[e1,e2]<;>simp[xb,hk]
 ·simp[hk]
theorem abh(a b c d:UInt8):(a^^^b)^^^(c^^^d)=(a^^^c)^^^(b^^^d):=by
 rw[UInt8.xor_assoc,UInt8.xor_assoc, ←UInt8.xor_assoc b c d,UInt8.xor_comm b c,UInt8.xor_assoc c b d]
theorem SY(rows:List (List UInt8)){a b:List Int}{n:Int}(ha:cF a n=true)(hb:cF b n=true)(i:Nat): ∀k,sx rows (List.zipWith xb a b) i k=sx rows a i k^^^sx rows b i k
 |0=>by simp[sx]
 |k+1=>by rw[sx,sx,sx,SY rows ha hb i k,YX rows ha hb,abh]
theorem VX{a b:List Int}{n:Int}(ha:cF a n=true)(hb:cF b n=true):cF (List.zipWith xb a b) n=true:=by
 have h1:=iZ ha
 have h2:=iZ hb
 have hz:(List.zipWith xb a b).length=a.length:=by rw[List.length_zipWith];omega
 simp only[cF,Bool.and_eq_true,decide_eq_true_eq,List.all_eq_true,bN]
 refine⟨⟨by omega,h1.2⟩,fun x hx=> ?_⟩
 obtain⟨k,hk,rfl⟩:=List.mem_iff_getElem.1 hx
 rw[List.getElem_zipWith]
 unfold xb
 split<;>omega
theorem LI{a b:List Int}{n:Int}(ha:cF a n=true)(hb:cF b n=true):kD a b=List.zipWith xb a b:=by
 have h1:=iZ ha
 apply qo
 rw[jD,h1.1,ha,hb];rfl
theorem JR(rows:List (List UInt8)){n:Int}(hn:1≤n∧n≤64)(i k:Nat): ∀(sd:List Int) (l:List Int),cF l n=true→
  cF (sd.foldl (fun l s=>kD l (bw s n)) l) n=true∧sx rows (sd.foldl (fun l s=>kD l (bw s n)) l) i k=sd.foldl (fun z s=>z^^^sx rows (bw s n) i k) (sx rows l i k)
 | [],l,h=>⟨h,rfl⟩
 |s::sd,l,h=>by
  have hr:=th (s:=s) hn
  have e:=LI h hr
  have hz:=VX h hr
  have ih:=JR rows hn i k sd (List.zipWith xb l (bw s n)) hz
  rw[List.foldl_cons,List.foldl_cons,e]
  refine⟨ih.1,?_⟩
  rw[ih.2,SY rows h hr]
theorem Hz{α:Type}(g:α→UInt8): ∀(l:List α) (z:UInt8),l.foldl (fun z s=>z^^^g s) z=z^^^l.foldl (fun z s=>z^^^g s) 0
 | [],z=>by simp
 |s::l,z=>by
  rw[List.foldl_cons,List.foldl_cons,Hz g l (z^^^g s),Hz g l (0^^^g s),UInt8.zero_xor,UInt8.xor_assoc]
theorem BT(i:Nat):oT HM i=0:=by
 unfold oT HM
 rw[List.getD_eq_getElem?_getD,List.getElem?_replicate]
 split<;>rfl
theorem SZ{d:DB}{v:List Int}(hd:cg d=true)(hv:cF v d.rows.length=true):eg d v=cH HM (vO d.rows v):=by
 rw[eg,hd,hv];rfl
theorem S0{d:DB}{v:List Int}(hd:cg d=true)(hv:cF v d.rows.length=true)(i:Nat):oT (eg d v) i=sx d.rows v i d.rows.length:=by
 rw[SZ hd hv,nA,BT,UInt8.zero_xor]
 exact JQ d.rows v i _
theorem S2{d:DB}{v:List Int}(hd:cg d=true)(hv:cF v d.rows.length=true):ji d v=true:=by
 apply xL
 rw[SZ hd hv,ck,jH]
 omega
theorem Nx{d:DB}{v:List Int}(hd:cg d=true)(hv:cF v d.rows.length=true):(eg d v).length=24:=ue (S2 hd hv)
theorem JS{rows i:Int}(h:fW rows i=true):cF (lR rows i) rows=true:=by
 obtain⟨h1,h2,h3,h4⟩:=oZ h
 rw[mu h]
 simp only[cF,Bool.and_eq_true,decide_eq_true_eq,List.all_eq_true,bN,List.length_set,List.length_replicate]
 refine⟨⟨by omega,h2⟩,fun x hx=> ?_⟩
 rcases List.mem_or_eq_of_mem_set hx with h5|h5
 ·have h6:=(List.mem_replicate.1 h5).2
  rw[h6]
  show 0≤(0:Int)∧(0:Int)≤1
  omega
 ·omega
theorem VY(db:List (List UInt8)){rows i:Int}(h:fW rows i=true)(j:Nat): ∀n:Nat,(n:Int)≤rows→sx db (lR rows i) j n=if i<(n:Int)then oT (db.getD i.toNat (aB (.sl .u8))) j else 0:=by
 obtain⟨h1,h2,h3,h4⟩:=oZ h
 intro n
 induction n with
 |zero=>intro _;rw[if_neg (by omega)];rfl
 |succ n ih=>
  intro hn
  have hg:(lR rows i).getD n (aB .int)=if i.toNat=n then 1 else 0:=by
   rw[mu h,fP _ _ (by rw[List.length_replicate];omega)]
   split
   ·rfl
   ·rw[List.getD_eq_getElem?_getD,List.getElem?_replicate,if_pos (by omega)];rfl
  have hl:n<(lR rows i).length:=by rw[mu h,List.length_set,List.length_replicate];omega
  rw[sx,ih (by omega),sb,hg]
  by_cases he:i.toNat=n
  ·rw[if_neg (by omega),if_pos ⟨hl,if_pos he⟩,if_pos (by omega),UInt8.zero_xor,he]
  ·rw[if_neg (show¬(n<(lR rows i).length∧(if i.toNat=n then(1:Int)else 0)=1)by rw[if_neg he];omega),UInt8.xor_zero]
   by_cases hi:i<(n:Int)
   ·rw[if_pos hi,if_pos (by omega)]
   ·rw[if_neg hi,if_neg (by omega)]
theorem Ny(i:Nat): ∀(l:List (List UInt8)) (a:List UInt8),oT (l.foldl cH a) i=l.foldl (fun z b=>z^^^oT b i) (oT a i)
 | [],_=>rfl
 |b::l,a=>by rw[List.foldl_cons,List.foldl_cons,Ny i l,nA]
theorem JT: ∀(l:List (List UInt8)) (a:List UInt8),(∀b,b∈l→b.length=24)→a.length=24∨(l≠ []∧a.length≤24)→(l.foldl cH a).length=24
 | [],a,_,h=>by
   rcases h with h|h
   ·exact h
   ·exact absurd rfl h.1
 |b::l,a,hb,h=>by
  rw[List.foldl_cons]
  refine JT l _ (fun y hy=>hb y (List.mem_cons_of_mem _ hy)) (Or.inl ?_)
  have:=hb b (List.mem_cons_self ..)
  rw[ck]
  rcases h with h|h<;>omega
theorem O3{d:DB}{rows row:Int}{sd:List Int}(hd:cg d=true)(hl:(d.rows.length:Int)=rows)(hu:fW rows row=true)(hc:xw rows row sd=true):
  (∀v,v∈ia rows row sd→cF v d.rows.length=true)∧sU ((ia rows row sd).map (eg d))=d.rows.getD row.toNat (aB (.sl .u8)):=by
 obtain⟨h1,h2,h3,h4⟩:=oZ hu
 have hsel: ∀s,cF (bw s rows) rows=true:=fun s=>th ⟨h1,h2⟩
 have S3: ∀i k,cF (sD rows row sd) rows=true∧sx d.rows (sD rows row sd) i k=sd.foldl (fun z s=>z^^^sx d.rows (bw s rows) i k) (sx d.rows (lR rows row) i k):=fun i k=>JR d.rows ⟨h1,h2⟩ i k sd _ (JS hu)
 have hv: ∀v,v∈ia rows row sd→cF v d.rows.length=true:=by
  intro v hm
  rw[hl]
  rw[ia,if_pos hc]at hm
  rcases List.mem_append.1 hm with h|h
  ·obtain⟨s,_,rfl⟩:=List.mem_map.1 h;exact hsel s
  ·rw[List.mem_singleton.1 h];exact(S3 0 0).1
 refine⟨hv,YV ?_ fun i=> ?_⟩
 ·rw[kU hd _ (by omega)]
  refine JT _ _ (fun b hb=> ?_) (Or.inr ⟨?_,by show 0≤24;omega⟩)
  ·obtain⟨v,hm,rfl⟩:=List.mem_map.1 hb
   exact Nx hd (hv v hm)
  ·rw[ia,if_pos hc];simp
 ·show oT (((ia rows row sd).map (eg d)).foldl cH []) i=_
  rw[Ny,List.foldl_map,ia,if_pos hc,List.foldl_append]
  have e0:oT ([]:List UInt8) i=0:=rfl
  have e1:(sd.map fun s=>bw s rows).foldl (fun z v=>z^^^oT (eg d v) i) 0=sd.foldl (fun z s=>z^^^sx d.rows (bw s rows) i d.rows.length) 0:=by
   rw[List.foldl_map]
   have:(fun(z:UInt8) s=>z^^^oT (eg d (bw s rows)) i)=fun z s=>z^^^sx d.rows (bw s rows) i d.rows.length:=by
    funext z s
    rw[S0 hd (by rw[hl];exact hsel s)]
   rw[this]
  rw[e0,e1,List.foldl_cons,List.foldl_nil,S0 hd (by rw[hl];exact(S3 0 0).1),(S3 i d.rows.length).2,Hz _ sd (sx d.rows (lR rows row) i d.rows.length),VY d.rows hu i d.rows.length (by omega),if_pos (by omega)]
  rw[UInt8.xor_comm (oT _ i), ←UInt8.xor_assoc,UInt8.xor_self,UInt8.zero_xor]
theorem D1{α β:Type}(f:α→β)(l:List α)(d:α):((List.range l.length).map fun i=>f (l.getD i d))=l.map f:=by
 apply List.ext_getElem
 ·simp
 ·intro i h1 h2
  simp only[List.length_map,List.length_range]at h1
  simp[List.getD_eq_getElem?_getD,List.getElem?_eq_getElem h1]
theorem VZ{x:aV}{r row s:Int}(h:okW x=true)(hb: ∀i,i<x.aj.length→(x.aj.getD i (aB .aX)).behavior≠3)(hh:gh x.az.rounds r=true)(hr:0≤row∧row<x.rows):
  A3 x r row s=true∧GY x r row s=(fG x.az.rounds r).rows.getD row.toNat (aB (.sl .u8)):=by
 have hs:=dj h
 have hrw:=(lM h).1
 obtain⟨hd,hl⟩:=JI h hh
 have hu:fW x.rows row=true:=by
  simp only[fW,Bool.and_eq_true,bN]
  rw[bh (by omega)];omega
 have w6:=kE x.aj.length r row s
 have Ko:=iZ (JS hu)
 have hc:xw x.rows row (fD x.aj.length r row s)=true:=by
  simp only[xw,Bool.and_eq_true,Bool.not_eq_true',decide_eq_false_iff_not,b7,bN]
  rw[w6,bh (by omega)];omega
 obtain⟨q1,q2⟩:=O3 (sd:=fD x.aj.length r row s) hd hl hu hc
 have hql:(query' x r row s).length=x.aj.length:=by
  show(ia x.rows row (fD x.aj.length r row s)).length=_
  rw[ia,if_pos hc,List.length_append,List.length_map,w6]
  show x.aj.length-1+1=_
  omega
 have hp:qQ x r row s=(query' x r row s).map (eg (fG x.az.rounds r)):=by
  unfold qQ qP
  rw[List.map_map, ←D1 (eg (fG x.az.rounds r)) (query' x r row s) (aB (.sl .int))]
  apply List.map_congr_left
  intro i hi
  have hi:=List.mem_range.1 hi
  have hm:(query' x r row s).getD i (aB (.sl .int))∈query' x r row s:=getD_in _ hi
  have T0:=S2 hd (q1 _ hm)
  show(GX _ _ _ _ _).data=_
  rw[GX,if_pos T0,if_neg (hb i (by omega))]
  rfl
 have hall: ∀a,a∈qQ x r row s→a.length=24:=by
  intro a ha
  rw[hp]at ha
  obtain⟨v,hm,rfl⟩:=List.mem_map.1 ha
  exact Nx hd (q1 v hm)
 have hcm:gj (qQ x r row s)=true:=by
  simp only[gj,Bool.and_eq_true,List.all_eq_true,decide_eq_true_eq,b7,bN]
  refine⟨?_,fun a ha=>by have:=hall a ha;omega⟩
  rw[hp,List.length_map,hql];omega
 refine⟨by rw[A3,hh,hcm];rfl,?_⟩
 rw[GY,if_pos hh,G3 hcm,hp]
 exact q2
end
section
def lW(l:List UInt8)(i:Int):Int:=if i<(l.length:Int)then IntKind.i64.wrap ((l.getD i.toNat (aB .u8)).toNat:Int)else(IntKind.i64.wrap (IntKind.i64.wrap (i*31)+IntKind.i64.wrap ((l.length:Int)*7))).tmod 256
theorem yB(l:List UInt8){i:Int}(hl:l.length≤1048576)(hi:0≤i∧i≤1000):0≤lW l i∧lW l i≤255:=by
 unfold lW
 split
 ·have:=(l.getD i.toNat (aB .u8)).toNat_lt
  rw[bh (by omega)];omega
 ·rw[bh (a:=i*31) (by omega),bh (a:=(l.length:Int)*7) (by omega),bh (by omega),dn (by omega)]
  omega
theorem Aj{a n:Int}(h:0≤a)(hn:0<n):0≤a.tmod n∧a.tmod n<n:=by
 rw[dn h]
 exact⟨Int.emod_nonneg _ (by omega),Int.emod_lt_of_pos _ hn⟩
end
section

end
section
def dJ(d:DB)(j i:Nat):UInt8:=oT (d.rows.getD j (aB (.sl .u8))) i
theorem D3{d:DB}{j:Nat}(h:d.rows.length≤j)(i:Nat):dJ d j i=0:=by
 unfold dJ;rw[C2 _ _ _ h];rfl
theorem JW{a b:DB}(h:gu a b=true)(j i:Nat):dJ (eL a b) j i=dJ a j i^^^dJ b j i:=by
 have hb:=qp h
 by_cases hj:j<a.rows.length
 ·unfold dJ
  rw[mC h]
  show oT ((eV a b).getD j (aB (.sl .u8))) i=_
  rw[qt h j hj,nA]
 ·rw[D3 (by rw[mC h];show(eV a b).length≤j;rw[gK h];omega),D3 (by omega),D3 (by omega)];rfl
def xs{α:Type}(g:α→UInt8)(l:List α):UInt8:=l.foldl (fun z s=>z^^^g s) 0
theorem dP{α:Type}(g:α→UInt8)(a:α)(l:List α):xs g (a::l)=g a^^^xs g l:=by
 unfold xs
 rw[List.foldl_cons,Hz,UInt8.zero_xor]
theorem S6{α:Type}(g:α→UInt8): ∀a b:List α,xs g (a++b)=xs g a^^^xs g b
 | [],b=>by rw[List.nil_append];show _=0^^^_;rw[UInt8.zero_xor]
 |x::a,b=>by rw[List.cons_append,dP,dP,S6 g a b,UInt8.xor_assoc]
theorem S7{α:Type}(f g:α→UInt8): ∀l:List α,xs (fun s=>f s^^^g s) l=xs f l^^^xs g l
 | []=>by show(0:UInt8)=0^^^0;rw[UInt8.xor_zero]
 |a::l=>by rw[dP,dP,dP,S7 f g l,abh]
theorem Nz{α:Type}: ∀l:List α,xs (fun _=>0) l=0
 | []=>rfl
 |a::l=>by rw[dP,Nz l];rfl
theorem yD{α:Type}{f g:α→UInt8}: ∀{l:List α},(∀a,a∈l→f a=g a)→xs f l=xs g l
 | [],_=>rfl
 |a::l,h=>by rw[dP,dP,h a (List.mem_cons_self ..),yD fun b hb=>h b (List.mem_cons_of_mem _ hb)]
theorem D4{α β:Type}(g:β→UInt8)(f:α→β): ∀l:List α,xs g (l.map f)=xs (fun a=>g (f a)) l
 | []=>rfl
 |a::l=>by rw[List.map_cons,dP,dP,D4 g f l]
theorem NA{α β:Type}(f:α→β→UInt8)(m:List β): ∀l:List α,xs (fun a=>xs (f a) m) l=xs (fun b=>xs (fun a=>f a b) l) m
 | []=>(Nz m).symm
 |a::l=>by
  rw[dP,NA f m l, ←S7]
  exact yD fun b _=>(dP (fun a=>f a b) a l).symm
def FO(n:Nat)(d:DB):Prop:=cg d=true∧d.rows.length=n
theorem FO.xd{n:Nat}{a b:DB}(ha:FO n a)(hb:FO n b):gu a b=true:=by
 simp only[gu,ha.1,hb.1,Bool.true_and,decide_eq_true_eq];rw[ha.2,hb.2]
theorem FO.xor{n:Nat}{a b:DB}(ha:FO n a)(hb:FO n b):FO n (eL a b):=⟨Dk ha.1 hb.1,by rw[qz];exact ha.2⟩
theorem Ao{α:Type}(f:α→DB)(n j i:Nat): ∀(l:List α) (a:DB),FO n a→(∀s,s∈l→FO n (f s))→FO n (l.foldl (fun d s=>eL d (f s)) a)∧dJ (l.foldl (fun d s=>eL d (f s)) a) j i=dJ a j i^^^xs (fun s=>dJ (f s) j i) l
 | [],a,ha,_=>⟨ha,by show dJ a j i=dJ a j i^^^0;rw[UInt8.xor_zero]⟩
 |s::l,a,ha,hl=>by
  have h1:=hl s (List.mem_cons_self ..)
  have ih:=Ao f n j i l (eL a (f s)) (ha.xor h1) fun t ht=>hl t (List.mem_cons_of_mem _ ht)
  rw[List.foldl_cons]
  refine⟨ih.1,ih.2.trans ?_⟩
  rw[JW (ha.xd h1),dP,UInt8.xor_assoc]
theorem S8{rows:Int}(h:0≤rows∧rows≤64):FO rows.toNat (cE rows):=⟨Jv rows,by have:=qG h;omega⟩
theorem LL(rows:Int)(j i:Nat):dJ (cE rows) j i=0:=by
 unfold dJ cE
 dsimp only
 split
 ·rw[List.getD_eq_getElem?_getD,List.getElem?_replicate]
  split
  ·exact BT i
  ·rfl
 ·rfl
theorem W7(s:Int){rows:Int}(h:1≤rows∧rows≤64):FO rows.toNat (EA s rows):=⟨Dl s rows h.2,jd s rows⟩
theorem abj{rows i:Int}{c:List UInt8}(h:lB rows i c=true):FO rows.toNat (HN rows i c):=⟨(vE h).1,by have:=JM h;omega⟩
theorem S9{rows i:Int}{c:List UInt8}{sd:List Int}(h:nI rows i c sd=true)(j b:Nat):xs (fun d=>dJ d j b) (lT rows i c sd)=dJ (HN rows i c) j b:=by
 have hu:lB rows i c=true:=by simp only[nI,Bool.and_eq_true]at h;exact h.1
 have hr:=(vE hu).2
 have q:=(Ao (fun s=>EA s rows) rows.toNat j b sd (HN rows i c) (abj hu) fun s _=>W7 s hr).2
 rw[lT,if_pos h,S6,D4,dP]
 show xs (fun s=>dJ (EA s rows) j b) sd^^^(dJ (lS rows i c sd) j b^^^0)=_
 unfold lS
 rw[q,UInt8.xor_zero,UInt8.xor_comm (dJ (HN rows i c) j b), ←UInt8.xor_assoc,UInt8.xor_self,UInt8.zero_xor]
theorem Ta{rows i:Int}{c:List UInt8}(h:lB rows i c=true){j:Nat}(hj:(j:Int)<rows)(b:Nat):dJ (HN rows i c) j b=if i.toNat=j then oT c b else 0:=by
 have hr:=(vE h).2
 have h1:=Dp rows i c
 rw[h]at h1
 have h2:=h1.symm
 simp only[Bool.and_eq_true,bN,decide_eq_true_eq]at h2
 have hn:=qG (rows:=rows) (by omega)
 have hro:jG (cE rows) i c=true:=by
  simp only[lB,Bool.and_eq_true]at h;exact h.2
 have hb:=BG (by have:=mz rows;omega) hro
 unfold HN
 rw[if_pos (by rw[bN];omega),o7 hro]
 unfold dJ
 show oT (((cE rows).rows.set i.toNat c).getD j (aB (.sl .u8))) b=_
 rw[fP _ _ (by omega)]
 split
 ·rfl
 ·exact LL rows j b
def hon(x:aV):Prop:= ∀i,i<x.aj.length→(x.aj.getD i (aB .aX)).behavior=0
def LM(x:aV):Prop:= ∀i,i<x.aj.length→(x.aj.getD i (aB .aX)).behavior=0∨(x.aj.getD i (aB .aX)).behavior=3
theorem hon.w{x:aV}(h:hon x):LM x:=fun i hi=>Or.inl (h i hi)
theorem Tb{x:aV}(h:okW x=true):aY x=(List.range x.aj.length).map (ef x x.aa.length):=by
 apply List.ext_getElem
 ·rw[List.length_map,List.length_range,dX h]
 ·intro i h1 h2
  have hi:i<x.aj.length:=by rw[dX h]at h1;exact h1
  have:=qH h hi
  rw[List.getD_eq_getElem?_getD,List.getElem?_eq_getElem h1]at this
  rw[List.getElem_map,List.getElem_range]
  exact this
theorem NB{x:aV}(h:okW x=true)(hh:LM x){i:Nat}(hi:i<x.aj.length)(j b:Nat):FO x.rows.toNat (fQ (ef x x.aa.length i))∧dJ (fQ (ef x x.aa.length i)) j b=xs (fun c=>dJ (Ai x i c) j b) (List.range x.aa.length):=by
 have hk:=oq h hi (Nat.le_refl x.aa.length)
 have hr:=Db h
 have Um:=(A5 h hi).2.1
 have e:fQ (ef x x.aa.length i)=dV x.rows (rcs x i x.aa.length):=by
  unfold fQ rcvd
  have hb:(ef x x.aa.length i).behavior=0∨(ef x x.aa.length i).behavior=3:=hh i hi
  rw[if_pos hk,if_neg (by omega),if_neg (by omega)]
  show dV (x.aj.getD i (aB .aX)).rows _=_
  rw[Um];rfl
 rw[e]
 unfold dV
 have q:=Ao (fun r:aM=>r.share) x.rows.toNat j b (rcs x i x.aa.length) (cE x.rows) (S8 (by omega)) (fun s hs=>by
  obtain⟨c,hc,rfl⟩:=List.mem_map.1 hs
  have hc:=List.mem_range.1 hc
  have:=LG h hi hc
  exact⟨this.1,by have:=this.2;show(Ai x i c).rows.length=_;omega⟩)
 refine⟨q.1,q.2.trans ?_⟩
 rw[LL,UInt8.zero_xor]
 unfold rcs
 rw[D4]
theorem JX(n j b:Nat): ∀(l:List DB) (a:DB),FO n a→(∀d,d∈l→FO n d)→ ∃d,HP a l=some d∧FO n d∧dJ d j b=dJ a j b^^^xs (fun d=>dJ d j b) l
 | [],a,ha,_=>⟨a,rfl,ha,by show _=_^^^0;rw[UInt8.xor_zero]⟩
 |s::l,a,ha,hl=>by
  have h1:=hl s (List.mem_cons_self ..)
  obtain⟨d,q1,q2,q3⟩:=JX n j b l (eL a s) (ha.xor h1) fun t ht=>hl t (List.mem_cons_of_mem _ ht)
  refine⟨d,?_,q2,q3.trans ?_⟩
  ·rw[HP,if_pos (ha.xd h1),q1]
  ·rw[JW (ha.xd h1),dP,UInt8.xor_assoc]
theorem JY{x:aV}(h:okW x=true)(hh:LM x){j:Nat}(hj:(j:Int)<x.rows)(b:Nat):
  FO x.rows.toNat (jw (bK (aY x)))∧dJ (jw (bK (aY x))) j b=xs (fun c:Nat=>if(eu (fF x (c:Int)) x.round x.rows).toNat=j then oT (cZ (fF x (c:Int)) x.round x.rows) b else 0) (List.range x.aa.length):=by
 have hs:=dj h
 have hl:(bK (aY x)).length=x.aj.length:=by rw[show(bK (aY x)).length=(aY x).length from List.length_map ..,dX h]
 have e:bK (aY x)=(List.range x.aj.length).map fun i=>fQ (ef x x.aa.length i):=by
  unfold bK;rw[Tb h,List.map_map];rfl
 have hok: ∀d,d∈bK (aY x)→FO x.rows.toNat d:=by
  intro d hd
  rw[e]at hd
  obtain⟨i,hi,rfl⟩:=List.mem_map.1 hd
  exact(NB h hh (List.mem_range.1 hi) 0 0).1
 obtain⟨d,q1,q2,q3⟩:=JX x.rows.toNat j b ((bK (aY x)).drop 1) ((bK (aY x)).getD 0 (aB .DB)) (hok _ (getD_in _ (by omega))) fun d hd=>hok d (List.mem_of_mem_drop hd)
 have ej:jw (bK (aY x))=d:=by
  rw[jw,Lv,if_pos (by simp only[b7,bN];omega),q1];rfl
 rw[ej]
 refine⟨q2,q3.trans ?_⟩
 have e2:dJ ((bK (aY x)).getD 0 (aB .DB)) j b^^^xs (fun d=>dJ d j b) ((bK (aY x)).drop 1)=xs (fun d=>dJ d j b) (bK (aY x)):=by
  have:=iW (bK (aY x)) 0 (aB .DB) (by omega)
  rw[List.drop_zero]at this
  rw[Nat.zero_add]at this
  exact(dP (fun d=>dJ d j b) ((bK (aY x)).getD 0 (aB .DB)) ((bK (aY x)).drop 1)).symm.trans (congrArg (xs fun d=>dJ d j b) this.symm)
 rw[e2,e,D4]
 rw[yD (g:=fun i=>xs (fun c=>dJ (Ai x i c) j b) (List.range x.aa.length)) fun i hi=>(NB h hh (List.mem_range.1 hi) j b).2]
 rw[NA]
 apply yD
 intro c hc
 have hc:=List.mem_range.1 hc
 have hcc:0≤(c:Int)∧(c:Int)<x.aa.length:=by omega
 have hm:=zH h hcc
 have hu:lB x.rows (eu (fF x c) x.round x.rows) (cZ (fF x c) x.round x.rows)=true:=by simp only[nI,Bool.and_eq_true]at hm;exact hm.1
 have e3:(List.range x.aj.length).map (fun i=>Ai x i c)=cD x (c:Int):=by
  have:=D1 (fun d:DB=>d) (cD x (c:Int)) (aB .DB)
  rw[gL h hcc,List.map_id']at this
  exact this
 rw[←Ta hu hj b, ←S9 hm j b]
 show _=xs _ (cD x (c:Int))
 rw[←e3,D4]
def EG(x:aV)(j:Nat):List UInt8:=(List.range x.aa.length).foldl (fun a (c:Nat)=>if(eu (fF x (c:Int)) x.round x.rows).toNat=j then cH a (cZ (fF x (c:Int)) x.round x.rows)else a) HM
theorem Ap(x:aV)(h:okW x=true)(j:Nat): ∀(l:List Nat) (a:List UInt8),a.length=24→(∀c,c∈l→c<x.aa.length)→(l.foldl (fun a (c:Nat)=>if(eu (fF x (c:Int)) x.round x.rows).toNat=j then cH a (cZ (fF x (c:Int)) x.round x.rows)else a) a).length=24∧ ∀b,oT (l.foldl (fun a (c:Nat)=>if(eu (fF x (c:Int)) x.round x.rows).toNat=j then cH a (cZ (fF x (c:Int)) x.round x.rows)else a) a) b=oT a b^^^xs (fun c:Nat=>if(eu (fF x (c:Int)) x.round x.rows).toNat=j then oT (cZ (fF x (c:Int)) x.round x.rows) b else 0) l
 | [],a,ha,_=>⟨ha,fun b=>by show _=_^^^0;rw[UInt8.xor_zero];rfl⟩
 |c::l,a,ha,hl=>by
  have hc:=hl c (List.mem_cons_self ..)
  have h24:=xH (Lj h (c:=(c:Int)) (by omega))
  rw[List.foldl_cons]
  by_cases hq:(eu (fF x (c:Int)) x.round x.rows).toNat=j
  ·rw[if_pos hq]
   have ih:=Ap x h j l (cH a (cZ (fF x (c:Int)) x.round x.rows)) (by rw[ck];omega) fun t ht=>hl t (List.mem_cons_of_mem _ ht)
   refine⟨ih.1,fun b=>(ih.2 b).trans ?_⟩
   rw[nA,dP,if_pos hq,UInt8.xor_assoc]
  ·rw[if_neg hq]
   have ih:=Ap x h j l a ha fun t ht=>hl t (List.mem_cons_of_mem _ ht)
   refine⟨ih.1,fun b=>(ih.2 b).trans ?_⟩
   rw[dP,if_neg hq,UInt8.zero_xor]
theorem row_eq{x:aV}(h:okW x=true)(hh:LM x){j:Nat}(hj:(j:Int)<x.rows):(jw (bK (aY x))).rows.getD j (aB (.sl .u8))=EG x j:=by
 have q:=Ap x h j (List.range x.aa.length) HM jH fun c hc=>List.mem_range.1 hc
 have hd:=(JY h hh hj 0).1
 refine YV ?_ fun b=> ?_
 ·rw[kU hd.1 j (by rw[hd.2];omega)];exact q.1.symm
 ·refine((JY h hh hj b).2).trans ?_
  refine Eq.trans ?_ (q.2 b).symm
  rw[BT,UInt8.zero_xor]
end
section
theorem V3{x:aV}(h:okW x=true){r:dG}(hr:r∈eX x): ∃c i:Nat,c<x.aa.length∧i<x.aj.length∧r=Vq (fY x.aT (i:Int)) (i:Int) (c:Int) x.round (Ai x i c):=by
 unfold eX at hr
 rw[if_pos h]at hr
 unfold Dw at hr
 obtain⟨c,hc,hr⟩:=List.mem_flatMap.1 hr
 unfold Dv at hr
 obtain⟨i,hi,hr⟩:=List.mem_flatMap.1 hr
 unfold Yu at hr
 exact⟨c,i,List.mem_range.1 hc,List.mem_range.1 hi,List.mem_singleton.1 hr⟩
theorem FP{x:aV}(h:okW x=true){i:Nat}(hi:i<x.aj.length){r:dG}(hr:r∈eX x):gM (fY x.aT (i:Int)) (ef x x.aa.length i) r=0:=by
 obtain⟨c,k,hc,hk,rfl⟩:=V3 h hr
 cases hs:nr (fY x.aT (i:Int)) (ef x x.aa.length i) (Vq (fY x.aT (k:Int)) (k:Int) (c:Int) x.round (Ai x k c))with
 |true=>exact YE hs
 |false=>
  have hid:=(A5 h hi).1
  have e:k=i:=by
   unfold nr Vq at hs
   simp only[Bool.or_eq_false_iff,bne_eq_false_iff_eq]at hs
   have h1:(k:Int)=(ef x x.aa.length i).id:=hs.1.1
   have h2:(ef x x.aa.length i).id=(i:Int):=hid
   omega
  subst e
  obtain⟨q1,q2⟩:=VQ x k x.aa.length hc
  refine YD hs q1 ?_
  show G6 (Vq (fY x.aT (k:Int)) (k:Int) (c:Int) x.round (Ai x k c)) (vH (rcs x k x.aa.length) (c:Int))=true
  rw[q2]
  unfold G6 Vq
  exact beq_self_eq_true _
theorem Td{x:aV}(h:okW x=true){i:Nat}(hi:i<x.aj.length)(hb:(x.aj.getD i (aB .aX)).behavior=0∨(x.aj.getD i (aB .aX)).behavior=3):OV x.aT (aY x) (bK (aY x)) (eX x) i= []:=by
 have hl:(bK (aY x)).length=x.aj.length:=by rw[show(bK (aY x)).length=(aY x).length from List.length_map ..,dX h]
 have hid:=(A5 h hi).1
 have hp:(bK (aY x)).getD i (aB .DB)=fQ (ef x x.aa.length i):=by
  unfold bK
  rw[getD_map fQ _ (aB .aX) (by rw[dX h];exact hi),qH h hi]
 have hk:=oq h hi (Nat.le_refl x.aa.length)
 have V4:(ef x x.aa.length i).id=(i:Int):=hid
 have ha:xP (fY x.aT (i:Int)) (ef x x.aa.length i) (fQ (ef x x.aa.length i)) (eX x)=0:=by
  rw[pJ (k:=(eX x).length) (fun j hj=>FP h hi (getD_in _ hj)) (Nat.le_refl _)]
  have e:(fQ (ef x x.aa.length i)).rows=(jZ (ef x x.aa.length i)).rows:=by
   have hb':(ef x x.aa.length i).behavior=0∨(ef x x.aa.length i).behavior=3:=hb
   unfold fQ jZ rcvd
   rw[if_pos hk,if_pos hk,if_neg (by omega),if_neg (by omega)]
  rw[hk,e,beq_self_eq_true];rfl
 have hbad:uB x.aT (aY x) (bK (aY x)) (eX x) i=false:=by
  unfold uB
  rw[qH h hi,hp,V4,ha,hl,decide_eq_false (by omega)];rfl
 unfold OV
 rw[hbad];rfl
theorem NC{x:aV}(h:okW x=true)(hh:LM x):gY x.aT (aY x) (bK (aY x)) (eX x) (aY x).length= []:=by
 unfold gY
 rw[List.flatMap_eq_nil_iff,dX h]
 intro i hi
 exact Td h (List.mem_range.1 hi) (hh i (List.mem_range.1 hi))
theorem ND{y:aV}(h:okW y=true)(ha:gh y.az.rounds (bR y.az)=true){i:Nat}(hb:(y.aj.getD i (aB .aX)).behavior≠3):Px y i=false:=by
 have T0:=Nl h ha (kh y.seed [227,y.round,(i:Int)])
 have e:YG y i=Vt (tsK y i) (y.aj.getD i (aB .aX)).id (bR y.az) (bw (kh y.seed [227,y.round,(i:Int)]) y.rows) (eg (fG y.az.rounds (bR y.az)) (bw (kh y.seed [227,y.round,(i:Int)]) y.rows)):=by
  unfold YG
  rw[GX,if_pos T0,if_neg hb]
 unfold Px YF
 rw[e]
 unfold Vt
 simp
theorem JZ{y:aV}(hh:hon y):testW y=y:=by
 cases ht:ry y with
 |false=>exact DV ht
 |true=>
  have h2:okW y=true∧gh y.az.rounds (bR y.az)=true:=by simpa[ry]using ht
  have hI: ∀n,n≤y.aj.length→Ep y n= []:=by
   intro n
   induction n with
   |zero=>intro _;rfl
   |succ n ih=>intro hn;rw[DP (ND h2.1 h2.2 (by rw[hh n (by omega)];decide)),ih (by omega)]
  rw[uj ht]
  unfold yJ
  rw[hI _ (Nat.le_refl _)];rfl
theorem O5{a:iC}{r f:Int}{d:DB}(h:eD a=true)(hl:bR a<r)(h0:0≤r∧r≤100000)(hd:cg d=true)(hr:(d.rows.length:Int)=a.rows)(hf:bR a<f)(hf2:f≤r):eY (zU a r d) f= [r]∧gh (zU a r d) r=true∧fG (zU a r d) r=d:=by
 have hok:pK a r d=true:=by
  simp only[pK,h,hd,Bool.true_and,Bool.and_eq_true,bN,Bool.not_eq_true',decide_eq_false_iff_not,decide_eq_true_eq]
  exact⟨⟨⟨h0,by omega⟩,trivial⟩,hr⟩
 have key: ∀l:List aJ,(∀y,y∈l→y.round≤bR a)→eY (l++ [⟨r,d⟩]) f= [r]∧gh (l++ [⟨r,d⟩]) r=true∧fG (l++ [⟨r,d⟩]) r=d:=by
  intro l hy
  refine⟨?_,?_⟩
  ·unfold eY
   rw[List.filter_append,List.filter_eq_nil_iff.2 (fun y hm=>by have:=hy y hm;rw[decide_eq_true_eq];omega),List.nil_append,List.filter_cons_of_pos (by rw[decide_eq_true_eq];exact hf2)];rfl
  ·have hlen:(l++ [(⟨r,d⟩:aJ)]).length=l.length+1:=by simp
   have hg:(l++ [(⟨r,d⟩:aJ)]).getD l.length (aB .aJ)=⟨r,d⟩:=by
    rw[List.getD_eq_getElem?_getD,List.getElem?_append_right (Nat.le_refl _),Nat.sub_self];rfl
   have q:=Lo (l:=l++ [⟨r,d⟩]) (r:=r) (k:=l.length) (by omega) (by
    rw[List.take_left',List.any_eq_false]
    ·intro y hm;have:=hy y hm;unfold MQ;simp only[beq_iff_eq];omega
    ·rfl) (by rw[hg];unfold MQ;exact beq_self_eq_true _)
   rw[hg]at q
   exact q
 rw[Hr hok]
 unfold rJ
 split
 ·rename_i h8
  have hne:a.rounds≠ []:=by
   intro e;rw[e]at h8;exact absurd h8 (by show¬(8:Int)<1;decide)
  obtain⟨y,l,e⟩:=List.exists_cons_of_ne_nil hne
  rw[e]
  exact key l fun z hz=>(Hu h z (by rw[e];exact List.mem_cons_of_mem _ hz)).2
 ·exact key _ fun y hy=>(Hu h y hy).2
theorem O6{d:bg}{r:Int}{own other:List UInt8}(h:qx d r=true):(rdev d r own other).live=dL d.live r own other:=by
 unfold rdev
 rw[if_pos h]
 split<;>rfl
structure W8(x y:aV):Prop where
 ok:okW y=true
 rows:y.rows=x.rows
 nd:y.aa.length=x.aa.length
 ns:y.aj.length=x.aj.length
 sv: ∀i,i<x.aj.length→(y.aj.getD i (aB .aX)).behavior=(x.aj.getD i (aB .aX)).behavior
 round:y.round=x.round+1
 lF:y.cancelled=x.cancelled
 Bp:y.replaced=x.replaced
 FF:bR y.az=x.round
 seed:y.seed=x.seed
theorem D5(s:aX):(fN s).behavior=s.behavior:=by unfold fN;split<;>rfl
theorem FQ{x y:aV}(h:okW x=true)(hh:LM x)(hy:okW y=true)(Y3:hon y)(hrw:y.rows=x.rows)(OX:y.aa=x.aa)(har:y.az.rounds=zU x.az x.round (jw (bK (aY x))))(hr:x.round<99999)
  (hn: ∀i:Nat,i<x.aa.length→bR x.az<(fF x (i:Int)).next∧(fF x (i:Int)).next≤x.round){i:Nat}(hi:i<x.aa.length):
  fF (yI y) (i:Int)=dL (fF x (i:Int)) x.round (EG x (eA (fF x (i:Int)).key x.round (cx (fF x (i:Int))) x.rows).toNat) (EG x (eA (fF x (i:Int)).key x.round (1-cx (fF x (i:Int))) x.rows).toNat):=by
 have w:=yx.of h
 have w1:=w.round
 have wr:=w.rows
 have hj:=(JY h hh (j:=0) (by omega) 0).1
 have hjl:((jw (bK (aY x))).rows.length:Int)=x.rows:=by have:=hj.2;omega
 have hD:(yI y).aa.getD i (aB .bg)=jP y (x.aa.getD i (aB .bg)):=by
  rw[ug hy]
  show(y.aa.map _).getD i (aB .bg)=_
  rw[getD_map _ _ (aB .bg) (by rw[OX];exact hi),OX]
 have hni:bR x.az<(x.aa.getD i (aB .bg)).live.next∧(x.aa.getD i (aB .bg)).live.next≤x.round:=hn i hi
 have hds:=O5 w.FF w.last w1 hj.1 (by rw[w.yy];exact hjl) hni.1 hni.2
 have hqd:=mm h hi
 simp only[okD,Bool.and_eq_true,decide_eq_true_eq]at hqd
 have VS:=hqd.1.1.1.1
 have hk:qx (x.aa.getD i (aB .bg)) x.round=true:=by
  rw[qx,VS,Bool.and_true]
  simp only[kK,(SO.iff.1 VS).live,Bool.true_and,bN];omega
 show((yI y).aa.getD i (aB .bg)).live=_
 rw[hD]
 unfold jP nY
 rw[har]
 unfold G0
 rw[hds.1]
 show(GZ y (x.aa.getD i (aB .bg)) (x.aa.getD i (aB .bg)) x.round).live=_
 unfold GZ
 rw[O6 hk,hrw]
 have hread: ∀dd:Int,GY y x.round (eA (x.aa.getD i (aB .bg)).live.key x.round dd x.rows) (x.aa.getD i (aB .bg)).live.seed=EG x (eA (x.aa.getD i (aB .bg)).live.key x.round dd x.rows).toNat:=by
  intro dd
  have hm:=vF (key:=(x.aa.getD i (aB .bg)).live.key) (r:=x.round) (d:=dd) (n:=x.rows) (by omega)
  have q:=(VZ (s:=(x.aa.getD i (aB .bg)).live.seed) hy (fun k hk2=>by rw[Y3 k hk2];decide) (by rw[har];exact hds.2.1) (row:=eA (x.aa.getD i (aB .bg)).live.key x.round dd x.rows) (by rw[hrw];exact hm)).2
  rw[har,hds.2.2]at q
  rw[q,row_eq h hh (by omega)]
 rw[hread,hread]
 rfl
theorem O7{x:aV}(h:okW x=true)(hh:hon x)(hr:x.round<99999)(hc:x.cancelled<9223372036854775807)(hn: ∀i:Nat,i<x.aa.length→bR x.az<(fF x (i:Int)).next∧(fF x (i:Int)).next≤x.round):
  W8 x (bE x)∧ ∀i:Nat,i<x.aa.length→fF (bE x) (i:Int)=dL (fF x (i:Int)) x.round (EG x (eA (fF x (i:Int)).key x.round (cx (fF x (i:Int))) x.rows).toNat) (EG x (eA (fF x (i:Int)).key x.round (1-cx (fF x (i:Int))) x.rows).toNat):=by
 have w:=yx.of h
 have wr:=w.rows
 have qY:=kQ h hr
 have hj:=(JY h hh.w (j:=0) (by omega) 0).1
 have hjl:((jw (bK (aY x))).rows.length:Int)=x.rows:=by have:=hj.2;omega
 obtain⟨c1,c2,c3,c4⟩:=Nt (d:=jw (bK (aY x))) h hr hc hj.1 hjl
 have BU:=yp (g:= []) (d:=jw (bK (aY x))) qY rfl
 generalize hy:bQ x [] (jw (bK (aY x)))=y at*
 have lP:y.aj=x.aj.map fN:=by rw[BU];rfl
 have OX:y.aa=x.aa:=by rw[BU]
 have hrw:y.rows=x.rows:=by rw[BU]
 have har:y.az.rounds=zU x.az x.round (jw (bK (aY x))):=by rw[BU]
 have OY:y.replaced=x.replaced:=by rw[BU];rfl
 have Is: ∀i,i<x.aj.length→(y.aj.getD i (aB .aX)).behavior=(x.aj.getD i (aB .aX)).behavior:=fun i hi=>by
  rw[lP,getD_map fN _ (aB .aX) hi,D5]
 have Y3:hon y:=fun i hi=>by
  rw[lP,List.length_map]at hi
  rw[Is i hi,hh i hi]
 have e:bE x=yI y:=by
  rw[ny qY,NC h hh.w,hy,JZ Y3]
 have hrd:=ug c2
 rw[e]
 have hok:=Hw c2
 exact⟨⟨hok,by rw[hrd];exact hrw,by rw[hrd];show(List.map _ _).length=_;rw[List.length_map,OX],by rw[hrd];show y.aj.length=_;rw[lP,List.length_map],fun i hi=>by rw[hrd];exact Is i hi,by rw[hrd];exact c1,by rw[hrd];exact c4,by rw[hrd];exact OY,by rw[hrd];exact c3,by rw[hrd];show y.seed=_;rw[BU]⟩,
  fun i hi=>FQ h hh.w c2 Y3 hrw OX har hr hn hi⟩
end
section
def Er(seed:Int)(i:Nat):Int:=AM (kh seed [199,(i:Int).tdiv 2])
def sOf(seed:Int)(i:Nat):Int:=kh seed [211,(i:Int)]
def oF(i:Nat):Int:=if(i:Int)<((i^^^1:Nat):Int)then 0 else 1
def fZ(m:List UInt8)(d i:Nat):List (List UInt8):=if i=d then [m]else []
def dm(seed:Int)(m:List UInt8)(d:Nat)(st:Bool)(i:Nat)(nx:Int):dK:=⟨(i:Int),((i^^^1:Nat):Int),Er seed i,sOf seed i,fZ m d i,if st=true then((fZ m d i).length:Int)else 0,if st=true then fZ m d (i^^^1)else [],nx⟩
def rF(seed:Int)(m:List UInt8)(d:Nat):List UInt8:=fT (iD (Er seed d) (oF d)) 0 ⟨1,m⟩
def qI(rows seed:Int)(d:Nat)(r:Int)(i:Nat):Int:=if i=d then eA (Er seed i) r (oF i) rows else vv (sOf seed i) r rows
def Bq(seed:Int)(m:List UInt8)(d:Nat)(r:Int)(i:Nat):List UInt8:=if i=d then rF seed m d else cover (kh (sOf seed i) [r])
def kR(rows seed:Int)(m:List UInt8)(n d:Nat)(r:Int)(j:Nat):List UInt8:=(List.range n).foldl (fun a c=>if(qI rows seed d r c).toNat=j then cH a (Bq seed m d r c)else a) HM
def dW(n d:Nat)(st:Bool):Nat:=if st=true then n else d
theorem V5(n d:Nat):dW n d false=d:=rfl
theorem abk(n d:Nat):dW n d true=n:=rfl
theorem oG(m:List UInt8)(d:Nat):fZ m d d= [m]:=if_pos rfl
theorem oH{m:List UInt8}{d i:Nat}(h:i≠d):fZ m d i= []:=if_neg h
theorem D6{α β:Type}{f g:β→α→β}: ∀{l:List α} {a:β},(∀b, ∀c,c∈l→f b c=g b c)→l.foldl f a=l.foldl g a
 | [],_,_=>rfl
 |c::l,a,h=>by
  rw[List.foldl_cons,List.foldl_cons,h a c (List.mem_cons_self ..)]
  exact D6 fun b e he=>h b e (List.mem_cons_of_mem _ he)
structure At(rows seed:Int)(m:List UInt8)(n d:Nat)(y:aV)(r:Nat)(st:Bool)(nx:Nat):Prop where
 ok:okW y=true
 rows:y.rows=rows
 nd:y.aa.length=n
 round:y.round=(r:Int)
 FF:bR y.az<(nx:Int)
 le:nx≤r
 lv: ∀i,i<n→fF y (i:Int)=dm seed m d st i (nx:Int)
section
variable{rows seed:Int}{m:List UInt8}{n d:Nat}{y z:aV}{r nx:Nat}{st:Bool}
theorem At.cw(h:At rows seed m n d y r st nx){i:Nat}(hi:i<n):mW (dm seed m d st i (nx:Int)) (r:Int) rows=true:=by
 have:=Lj h.ok (c:=(i:Int)) (by have:=h.nd;omega)
 rw[h.lv i hi,h.round,h.rows]at this
 exact this
theorem HA(seed:Int)(m:List UInt8)(i:Nat)(nx:Int):mV (dm seed m i false i nx) (dm seed m i false i nx).sent=rF seed m i:=by
 show fT (iD (Er seed i) (oF i)) 0 ⟨1,(fZ m i i).getD 0 (aB (.sl .u8))⟩=_
 rw[oG];rfl
theorem At.wr(h:At rows seed m n d y r st nx){i:Nat}(hi:i<n):eu (fF y (i:Int)) y.round y.rows=qI rows seed (dW n d st) (r:Int) i:=by
 have hc:=h.cw hi
 rw[h.lv i hi,h.round,h.rows,eu,if_pos hc]
 cases st with
 |true=>
  rw[if_neg (show¬(dm seed m d true i (nx:Int)).sent<(((dm seed m d true i (nx:Int)).aI.length:Nat):Int)by show¬((fZ m d i).length:Int)<((fZ m d i).length:Int);omega),abk]
  unfold qI
  rw[if_neg (show¬i=n by omega)];rfl
 |false=>
  rw[V5]
  unfold qI
  by_cases e:i=d
  ·subst e
   rw[if_pos (show(dm seed m i false i (nx:Int)).sent<(((dm seed m i false i (nx:Int)).aI.length:Nat):Int)by show(0:Int)<((fZ m i i).length:Int);rw[oG];exact(by decide:(0:Int)<1)),if_pos rfl]
   rfl
  ·rw[if_neg (show¬(dm seed m d false i (nx:Int)).sent<(((dm seed m d false i (nx:Int)).aI.length:Nat):Int)by show¬(0:Int)<((fZ m d i).length:Int);rw[oH e];exact(by decide: ¬(0:Int)<0)),if_neg e]
   rfl
theorem At.wc(h:At rows seed m n d y r st nx){i:Nat}(hi:i<n):cZ (fF y (i:Int)) y.round y.rows=Bq seed m (dW n d st) (r:Int) i:=by
 have hc:=h.cw hi
 rw[h.lv i hi,h.round,h.rows,cZ,if_pos hc]
 cases st with
 |true=>
  rw[if_neg (show¬(dm seed m d true i (nx:Int)).sent<(((dm seed m d true i (nx:Int)).aI.length:Nat):Int)by show¬((fZ m d i).length:Int)<((fZ m d i).length:Int);omega),abk]
  unfold Bq
  rw[if_neg (show¬i=n by omega)];rfl
 |false=>
  rw[V5]
  unfold Bq
  by_cases e:i=d
  ·subst e
   rw[if_pos (show(dm seed m i false i (nx:Int)).sent<(((dm seed m i false i (nx:Int)).aI.length:Nat):Int)by show(0:Int)<((fZ m i i).length:Int);rw[oG];exact(by decide:(0:Int)<1)),if_pos rfl]
   exact HA seed m i (nx:Int)
  ·rw[if_neg (show¬(dm seed m d false i (nx:Int)).sent<(((dm seed m d false i (nx:Int)).aI.length:Nat):Int)by show¬(0:Int)<((fZ m d i).length:Int);rw[oH e];exact(by decide: ¬(0:Int)<0)),if_neg e]
   rfl
theorem At.rw(h:At rows seed m n d y r st nx)(j:Nat):EG y j=kR rows seed m n (dW n d st) (r:Int) j:=by
 unfold EG kR
 rw[h.nd]
 refine D6 fun b c hc=> ?_
 have hc:=List.mem_range.1 hc
 rw[h.wr hc,h.wc hc]
def rG(rows seed:Int)(r:Int)(i:Nat):Nat:=(eA (Er seed i) r (oF i) rows).toNat
def D7(rows seed:Int)(r:Int)(i:Nat):Nat:=(eA (Er seed i) r (1-oF i) rows).toNat
def EH(rows seed:Int)(m:List UInt8)(n d:Nat)(r:Int)(c:Nat)(i:Nat):Bool:=Eo (iD (Er seed i) (1-oF i)) (c:Int) (kR rows seed m n d r (D7 rows seed r i))
def Reads(y z:aV):Prop:= ∀i:Nat,i<y.aa.length→fF z (i:Int)=dL (fF y (i:Int)) y.round (EG y (eA (fF y (i:Int)).key y.round (cx (fF y (i:Int))) y.rows).toNat) (EG y (eA (fF y (i:Int)).key y.round (1-cx (fF y (i:Int))) y.rows).toNat)
theorem At.next(h:At rows seed m n d y r st nx)(hq:Reads y z): ∀i:Nat,i<n→fF z (i:Int)=dL (dm seed m d st i (nx:Int)) (r:Int) (kR rows seed m n (dW n d st) (r:Int) (rG rows seed (r:Int) i)) (kR rows seed m n (dW n d st) (r:Int) (D7 rows seed (r:Int) i)):=by
 intro i hi
 have:=hq i (by rw[h.nd];exact hi)
 rw[h.rw,h.rw,h.lv i hi,h.round,h.rows]at this
 exact this
theorem At.kK(h:At rows seed m n d y r st nx)(hr:r<99999){i:Nat}(hi:i<n):kK (dm seed m d st i (nx:Int)) (r:Int)=true:=by
 have:=RK h.ok (c:=(i:Int)) (by have:=h.nd;omega)
 rw[h.lv i hi]at this
 have h2:=h.le
 unfold G.kK
 rw[this,Bool.true_and,bN]
 show(nx:Int)≤r∧_
 omega
theorem NF{seed:Int}{m:List UInt8}{d i:Nat}{nx:Int}{o:List UInt8}(h:Eo (iD (Er seed i) (1-oF i)) ((0:Nat):Int) o=false):fu (dm seed m d false i nx) o=false:=by
 have:kJ (qR (dm seed m d false i nx)) (((dm seed m d false i nx).inbox.length:Nat):Int) o=false:=DE h
 unfold fu
 rw[this];rfl
theorem J0{c:dK}{r:Int}{own o:List UInt8}(h1:G.kK c r=true)(h2:gA c own=false)(h3:fu c o=false):dL c r own o=⟨c.id,c.dz,c.key,c.seed,c.aI,c.sent,c.inbox,r+1⟩:=by
 unfold dL
 rw[if_pos h1,h2,h3];rfl
theorem Te{c:dK}{r:Int}{own o:List UInt8}{s:Int}{l:List (List UInt8)}(h1:G.kK c r=true)(h2:(if gA c own=true then c.sent+1 else c.sent)=s)(h3:(if fu c o=true then c.inbox++ [(Jp (qR c) ((c.inbox.length:Nat):Int) o).body]else c.inbox)=l):dL c r own o=⟨c.id,c.dz,c.key,c.seed,c.aI,s,l,r+1⟩:=by
 unfold dL
 rw[if_pos h1,h2,h3]
theorem At.stay(h:At rows seed m n d y r false nx)(hq:Reads y z)(hr:r<99999)(hm:(kR rows seed m n d (r:Int) (rG rows seed (r:Int) d)==rF seed m d)=false)(ho: ∀i,i<n→EH rows seed m n d (r:Int) 0 i=false): ∀i,i<n→fF z (i:Int)=dm seed m d false i ((r+1:Nat):Int):=by
 intro i hi
 have hh:gA (dm seed m d false i (nx:Int)) (kR rows seed m n (dW n d false) (r:Int) (rG rows seed (r:Int) i))=false:=by
  by_cases e:i=d
  ·subst e
   unfold gA
   have:(kR rows seed m n (dW n i false) (r:Int) (rG rows seed (r:Int) i)==mV (dm seed m i false i (nx:Int)) (dm seed m i false i (nx:Int)).sent)=false:=by
    rw[HA];exact hm
   rw[this,Bool.and_false]
  ·have:decide ((dm seed m d false i (nx:Int)).sent<(((dm seed m d false i (nx:Int)).aI.length:Nat):Int))=false:=by
    rw[decide_eq_false_iff_not]
    show¬(0:Int)<((fZ m d i).length:Int)
    rw[oH e];exact(by decide: ¬(0:Int)<0)
   unfold gA
   rw[this,Bool.false_and]
 rw[h.next hq i hi,J0 (h.kK hr hi) hh (NF (o:=kR rows seed m n (dW n d false) (r:Int) (D7 rows seed (r:Int) i)) (ho i hi))]
 rfl
theorem J1{d:Nat}(h:d<8):Er seed (d^^^1)=Er seed d:=by unfold Er;rw[FJ]
theorem J2{d:Nat}(h:d<8):1-oF (d^^^1)=oF d:=by
 have:d=0∨d=1∨d=2∨d=3∨d=4∨d=5∨d=6∨d=7:=by omega
 rcases this with rfl|rfl|rfl|rfl|rfl|rfl|rfl|rfl<;>decide
theorem O8(k:Int)(l:List UInt8):decr k (gG k l)=l:=by
 apply List.ext_getElem
 ·rw[lq,dF]
 ·intro i h1 h2
  have hi:i<(gG k l).length:=by rw[dF];exact h2
  have e:=C1 k (gG k l) i hi
  rw[xh k l i h2]at e
  rw[List.getD_eq_getElem?_getD,List.getElem?_eq_getElem h1,List.getD_eq_getElem?_getD,List.getElem?_eq_getElem h2]at e
  refine Eq.trans e ?_
  refine Eq.trans (sk (b:=((l[i].toNat:Nat):Int)) ?_) (Vb _)
  rw[lg]
  show(((l[i].toNat:Int)+kh k [(i:Int)]% 256)% 256-kh k [(i:Int)]% 256)% 256=(l[i].toNat:Int)% 256
  omega
theorem V6{key c:Int}{b:List UInt8}(hb:b.length≤14):(cY key c ⟨1,b⟩).length=20:=by
 unfold cY
 simp only[List.length_append,List.length_cons,List.length_nil,List.length_drop,dI]
 omega
theorem O9{key:Int}{b:List UInt8}(hk:eC key=true)(hb:b.length≤14):kJ key 0 (fT key 0 ⟨1,b⟩)=true∧(Jp key 0 (fT key 0 ⟨1,b⟩))=⟨1,b⟩:=by
 have hs:eU key 0 ⟨1,b⟩=true:=by
  simp only[eU,hk,fH,Bool.true_and,Bool.and_eq_true,bN,decide_eq_true_eq]
  omega
 have hl:=V6 (key:=key) (c:=0) hb
 have e:fT key 0 ⟨1,b⟩=gG (jh key 0) (cY key 0 ⟨1,b⟩)++four (gH key 0 (gG (jh key 0) (cY key 0 ⟨1,b⟩))):=by rw[fT,if_pos hs]
 have hel:=dF (jh key 0) (cY key 0 ⟨1,b⟩)
 have ht:(fT key 0 ⟨1,b⟩).take 20=gG (jh key 0) (cY key 0 ⟨1,b⟩):=by rw[e,List.take_left' (by omega)]
 have hd:(fT key 0 ⟨1,b⟩).drop 20=four (gH key 0 (gG (jh key 0) (cY key 0 ⟨1,b⟩))):=by rw[e,List.drop_left' (by omega)]
 have hA:Eo key 0 (fT key 0 ⟨1,b⟩)=true:=by
  unfold Eo
  rw[hk,ht,hd,nV hs,beq_self_eq_true];rfl
 have hp:En key 0 (fT key 0 ⟨1,b⟩)=cY key 0 ⟨1,b⟩:=by unfold En;rw[ht,O8]
 have h1:Pw key 0 (fT key 0 ⟨1,b⟩)=1:=by unfold Pw;rw[hp];rfl
 have h2:BL key 0 (fT key 0 ⟨1,b⟩)=b.length:=by
  unfold BL;rw[hp]
  show(b8 (b.length:Int)).toNat=_
  have:=lg (b.length:Int)
  omega
 have h3:TY key 0 (fT key 0 ⟨1,b⟩)=b:=by
  unfold TY;rw[hp,h2]
  unfold cY
  show((b8 1::b8 (b.length:Int)::(b++_)).take (2+b.length)).drop 2=b
  rw[Nat.add_comm,List.take_succ_cons,List.take_succ_cons,List.drop_succ_cons,List.drop_succ_cons,List.drop_zero,List.take_left' rfl]
 have ho:kJ key 0 (fT key 0 ⟨1,b⟩)=true:=WV hA (by rw[h2];exact hb) (by rw[h1];decide)
 exact⟨ho,by rw[xK ho,h1,h3]⟩
theorem LN{rows seed:Int}{m:List UInt8}{n d:Nat}{r:Int}{j:Nat}(hd:d<n)(hj:(qI rows seed d r d).toNat=j)(hl:(rF seed m d).length=24)(ha: ∀i,i<n→i≠d→(qI rows seed d r i).toNat≠j):kR rows seed m n d r j=rF seed m d:=by
 have key: ∀k,k≤n→(List.range k).foldl (fun a c=>if(qI rows seed d r c).toNat=j then cH a (Bq seed m d r c)else a) HM=if d<k then rF seed m d else HM:=by
  intro k
  induction k with
  |zero=>intro _;rfl
  |succ k ih=>
   intro hk
   rw[List.range_succ,List.foldl_append,ih (by omega)]
   show(if(qI rows seed d r k).toNat=j then cH _ (Bq seed m d r k)else _)=_
   by_cases e:k=d
   ·subst e
    rw[if_pos hj,if_neg (Nat.lt_irrefl _),if_pos (Nat.lt_succ_self _)]
    unfold Bq
    rw[if_pos rfl]
    refine YV (by rw[ck,jH,hl];rfl) fun i=> ?_
    rw[nA,BT,UInt8.zero_xor]
   ·rw[if_neg (ha k (by omega) e)]
    by_cases h2:d<k
    ·rw[if_pos h2,if_pos (by omega)]
    ·rw[if_neg h2,if_neg (by omega)]
 have:=key n (Nat.le_refl _)
 rw[if_pos hd]at this
 exact this
def D8(rows seed:Int)(n d:Nat)(r:Int):Prop:= ∀i,i<n→i≠d→qI rows seed d r i≠qI rows seed d r d
theorem D9{rows seed:Int}{d i:Nat}{r:Int}(hr:1≤rows∧rows≤64)(h:0≤r∧r≤100000):0≤qI rows seed d r i:=by
 unfold qI
 split
 ·exact(vF (by omega)).1
 ·exact(Dr hr).1
theorem At.abl(h:At rows seed m n d y r false nx)(hq:Reads y z)(hr:r<99999)(hd:d<n)(hm:m.length≤14)(ha:D8 rows seed n d (r:Int))(ho: ∀i,i<n→i≠d^^^1→EH rows seed m n d (r:Int) 0 i=false): ∀i,i<n→fF z (i:Int)=dm seed m d true i ((r+1:Nat):Int):=by
 have w:=yx.of h.ok
 have hn8:n≤8:=by have:=w.T1;have:=h.nd;omega
 have hrw:1≤rows∧rows≤64:=by have:=w.rows;rw[h.rows]at this;exact this
 have WO:=xG (Er seed d) (oF d)
 have hso:eU (iD (Er seed d) (oF d)) 0 ⟨1,m⟩=true:=by
  simp only[eU,WO,fH,Bool.true_and,Bool.and_eq_true,bN,decide_eq_true_eq]
  omega
 have hl:(rF seed m d).length=24:=nV hso
 have ZD:qI rows seed d (r:Int) d=eA (Er seed d) (r:Int) (oF d) rows:=by unfold qI;rw[if_pos rfl]
 have hrow:kR rows seed m n d (r:Int) (rG rows seed (r:Int) d)=rF seed m d:=by
  refine LN hd (by rw[ZD];rfl) hl fun i hi e he=> ?_
  have h1:=D9 (seed:=seed) (d:=d) (i:=i) (r:=(r:Int)) hrw (by omega)
  have h2:=D9 (seed:=seed) (d:=d) (i:=d) (r:=(r:Int)) hrw (by omega)
  have h3:rG rows seed (r:Int) d=(qI rows seed d (r:Int) d).toNat:=by rw[ZD];rfl
  exact ha i hi e (by omega)
 have hx8: ∀i:Nat,(i^^^1)^^^1=i:=fun i=>by rw[Nat.xor_assoc,Nat.xor_self,Nat.xor_zero]
 have adN:D7 rows seed (r:Int) (d^^^1)=rG rows seed (r:Int) d:=by
  unfold D7 rG
  rw[J1 (by omega),J2 (by omega)]
 intro i hi
 have e1:(if gA (dm seed m d false i (nx:Int)) (kR rows seed m n (dW n d false) (r:Int) (rG rows seed (r:Int) i))=true then(dm seed m d false i (nx:Int)).sent+1 else(dm seed m d false i (nx:Int)).sent)=((fZ m d i).length:Int):=by
  by_cases e:i=d
  ·subst e
   have:gA (dm seed m i false i (nx:Int)) (kR rows seed m n (dW n i false) (r:Int) (rG rows seed (r:Int) i))=true:=by
    rw[V5,hrow]
    unfold gA
    rw[HA,beq_self_eq_true,Bool.and_true,decide_eq_true_eq]
    show(0:Int)<((fZ m i i).length:Int)
    rw[oG];exact(by decide:(0:Int)<1)
   rw[if_pos this,oG];rfl
  ·have:gA (dm seed m d false i (nx:Int)) (kR rows seed m n (dW n d false) (r:Int) (rG rows seed (r:Int) i))=false:=by
    have:decide ((dm seed m d false i (nx:Int)).sent<(((dm seed m d false i (nx:Int)).aI.length:Nat):Int))=false:=by
     rw[decide_eq_false_iff_not]
     show¬(0:Int)<((fZ m d i).length:Int)
     rw[oH e];exact(by decide: ¬(0:Int)<0)
    unfold gA
    rw[this,Bool.false_and]
   rw[this,oH e];rfl
 have e2:(if fu (dm seed m d false i (nx:Int)) (kR rows seed m n (dW n d false) (r:Int) (D7 rows seed (r:Int) i))=true then(dm seed m d false i (nx:Int)).inbox++ [(Jp (qR (dm seed m d false i (nx:Int))) (((dm seed m d false i (nx:Int)).inbox.length:Nat):Int) (kR rows seed m n (dW n d false) (r:Int) (D7 rows seed (r:Int) i))).body]else(dm seed m d false i (nx:Int)).inbox)=fZ m d (i^^^1):=by
  by_cases e:i=d^^^1
  ·subst e
   obtain⟨o1,o2⟩:=O9 (b:=m) WO hm
   have hck:qR (dm seed m d false (d^^^1) (nx:Int))=iD (Er seed d) (oF d):=by
    show iD (Er seed (d^^^1)) (1-oF (d^^^1))=_
    rw[J1 (by omega),J2 (by omega)]
   rw[V5,adN,hrow]
   have hg:fu (dm seed m d false (d^^^1) (nx:Int)) (rF seed m d)=true:=by
    unfold fu
    rw[hck]
    show((kJ (iD (Er seed d) (oF d)) 0 (rF seed m d)&&((Jp (iD (Er seed d) (oF d)) 0 (rF seed m d)).kind==1))&&_)=true
    unfold rF
    rw[o1,o2];rfl
   rw[if_pos hg,hck]
   show []++ [(Jp (iD (Er seed d) (oF d)) 0 (rF seed m d)).body]=_
   unfold rF
   rw[o2,hx8 d,oG];rfl
  ·rw[NF (o:=kR rows seed m n (dW n d false) (r:Int) (D7 rows seed (r:Int) i)) (ho i hi e),oH (fun e2=>e (by rw[←e2,hx8 i]))];rfl
 rw[h.next hq i hi,Te (h.kK hr hi) e1 e2]
 rfl
theorem quiet_of(hn:y.aa.length=n)(h: ∀i:Nat,i<n→fF y (i:Int)=dm seed m d true i (nx:Int)):tB y.aa n=0∧HQ y.aa n=0∧ep y=true:=by
 have hs: ∀i,(fZ m d i).length≤1:=fun i=>by unfold fZ;split<;>simp
 have k1: ∀k,k≤n→tB y.aa k=0:=by
  intro k
  induction k with
  |zero=>intro _;rfl
  |succ k ih=>
   intro hk
   show IntKind.i64.wrap (tB y.aa k+waiting (fF y (k:Int)))=_
   rw[ih (by omega),h k (by omega)]
   unfold waiting
   show IntKind.i64.wrap (0+IntKind.i64.wrap (((fZ m d k).length:Int)-((fZ m d k).length:Int)))=0
   rw[Int.sub_self];decide
 have k2: ∀k,k≤n→HQ y.aa k=0:=by
  intro k
  induction k with
  |zero=>intro _;rfl
  |succ k ih=>
   intro hk
   by_cases hx:(k^^^1)<y.aa.length
   ·rw[Hs hx,ih (by omega)]
    have q1:(y.aa.getD k (aB .bg)).live=dm seed m d true k (nx:Int):=h k (by omega)
    have q2:(y.aa.getD (k^^^1) (aB .bg)).live=dm seed m d true (k^^^1) (nx:Int):=h (k^^^1) (by omega)
    rw[q1,q2]
    show IntKind.i64.wrap (IntKind.i64.wrap (0+((fZ m d k).length:Int))-((fZ m d ((k^^^1)^^^1)).length:Int))=0
    rw[Nat.xor_assoc,Nat.xor_self,Nat.xor_zero]
    have:=hs k
    rw[bh (a:=0+((fZ m d k).length:Int)) (by omega),show 0+((fZ m d k).length:Int)-((fZ m d k).length:Int)=0 by omega];decide
   ·rw[JJ hx,ih (by omega)]
 have a1:=k1 n (Nat.le_refl _)
 have a2:=k2 n (Nat.le_refl _)
 refine⟨a1,a2,?_⟩
 unfold ep
 rw[hn,a1,a2];rfl
structure LO(rows seed:Int)(m:List UInt8)(n d:Nat)(y:aV)(r:Nat)(st:Bool)(nx:Nat):Prop extends At rows seed m n d y r st nx where
 hon:hon y
 lF:y.cancelled<1000000
theorem LO.Y4(h:LO rows seed m n d y r st nx)(hr:r<99999):Reads y (bE y)∧W8 y (bE y)∧G.hon (bE y):=by
 have q:=O7 h.ok h.hon (by rw[h.toAt.round];omega) (by have:=h.lF;omega) (fun i hi=>by
  rw[h.lv i (by rw[←h.nd];exact hi),h.toAt.round]
  have:=h.le
  exact⟨h.FF,by show(nx:Int)≤r;omega⟩)
 refine⟨q.2,q.1,fun i hi=> ?_⟩
 rw[q.1.ns]at hi
 rw[q.1.sv i hi]
 exact h.hon i hi
theorem LO.mk'(h:LO rows seed m n d y r st nx)(hr:r<99999){st':Bool}(hl: ∀i,i<n→fF (bE y) (i:Int)=dm seed m d st' i ((r+1:Nat):Int)):LO rows seed m n d (bE y) (r+1) st' (r+1):=by
 obtain⟨_,k,hh⟩:=h.Y4 hr
 refine⟨⟨k.ok,by rw[k.rows,h.rows],by rw[k.nd,h.nd],by rw[k.round,h.toAt.round];omega,by rw[k.FF,h.toAt.round];omega,Nat.le_refl _,hl⟩,hh,by rw[k.lF];exact h.lF⟩
end
end
section
class HF where
 f:Nat→Nat→Nat
 g:Nat→Nat
 hf: ∀h v:Nat,hs1 (h:Int) (v:Int)=((f h v:Nat):Int)
 hg: ∀h:Nat,((h:Int)*h+5)% 2147483647=((g h:Nat):Int)
 lt: ∀h v:Nat,f h v<2147483647
section
variable [HF]
def J3(h v:Nat):Nat:=HF.f h v
def sqN(h:Nat):Nat:=HF.g h
theorem Tf(h v:Nat):hs1 (h:Int) (v:Int)=((J3 h v:Nat):Int):=HF.hf h v
theorem adP(h:Nat):((h:Int)*h+5)% 2147483647=((sqN h:Nat):Int):=HF.hg h
def lH:List Nat→Nat→Nat
 | [],h=>h
 |v::l,h=>lH l (J3 h v)
def v7(k:Nat)(l:List Nat):Nat:=J3 (lH l (J3 11 k)) k
def Tg(s k:Nat):Nat:=sqN (v7 s [47,k])
def Th(n:Nat):Nat:=cond (Nat.beq n 0) 1 n
def kN(seed i:Nat):Nat:=Th (v7 seed [199,Nat.div i 2])
def sN(seed i:Nat):Nat:=v7 seed [211,i]
def oJ(i:Nat):Nat:=cond (Nat.ble (Nat.succ i) (Nat.xor i 1)) 0 1
def dkN(key dir:Nat):Nat:=Th (v7 key [83,dir])
def Ea(key r dir rows:Nat):Nat:=Nat.mod (Tg (v7 key [79,r,dir]) 0) rows
def abm(s r rows:Nat):Nat:=Nat.mod (Tg (v7 s [157,r]) 0) rows
def LP(s:Nat):Nat→Nat→List Nat
 |0,_=> []
 |k+1,i=>Nat.mod (Nat.div (Tg s (Nat.add 100 i)) 256) 256::LP s k (Nat.succ i)
def Y5(s:Nat):List Nat:=LP (v7 s [73]) 24 0
def J4(s:Nat):List Nat→Nat→List Nat
 | [],_=> []
 |b::l,i=>Nat.mod (Nat.add b (Nat.mod (v7 s [i]) 256)) 256::J4 s l (Nat.succ i)
def Ti(n:Nat):List Nat:= [Nat.mod n 256,Nat.mod (Nat.div n 256) 256,Nat.mod (Nat.div n 65536) 256,Nat.mod (Nat.div n 16777216) 256]
def ckN(key:Nat):Nat:=Th (v7 key [67,0])
def abn(key:Nat)(l:List Nat):Nat:=J3 (lH l (lH [71,0] (J3 11 key))) key
def Y6(key:Nat)(m:List Nat):List Nat:=(1::m.length::m)++(LP (v7 key [61,0]) 18 0).drop m.length
def abo(key:Nat)(e:List Nat):List Nat:=e++Ti (abn key e)
def abp(key:Nat)(m:List Nat):List Nat:=abo key (J4 (ckN key) (Y6 key m) 0)
def LQ(seed:Nat)(m:List Nat)(d:Nat):List Nat:=abp (dkN (kN seed d) (oJ d)) m
def Pa(rows seed d r i:Nat):Nat:=cond (Nat.beq i d) (Ea (kN seed i) r (oJ i) rows) (abm (sN seed i) r rows)
def ZH(seed:Nat)(m:List Nat)(d r i:Nat):List Nat:=cond (Nat.beq i d) (LQ seed m d) (Y5 (v7 (sN seed i) [r]))
def ZI:List Nat→List Nat→List Nat
 |a::l,b::k=>Nat.xor a b::ZI l k
 |_,_=> []
def adS:List Nat:= [0,0,0,0,0,0,0,0,0,0,0,0,0,0,0,0,0,0,0,0,0,0,0,0]
def Aq(rows seed:Nat)(m:List Nat)(d r j:Nat):Nat→List Nat
 |0=>adS
 |k+1=>cond (Nat.beq (Pa rows seed d r k) j) (ZI (Aq rows seed m d r j k) (ZH seed m d r k)) (Aq rows seed m d r j k)
def V8:List Nat→Nat
 | [a,b,c,d]=>Nat.add a (Nat.add (Nat.mul 256 b) (Nat.add (Nat.mul 65536 c) (Nat.mul 16777216 d)))
 |_=>0
def goN(key:Nat):Nat→List Nat→Nat→Bool
 |0,l,h=>Nat.beq (V8 l) (J3 h key)
 |_+1,[],_=>true
 |n+1,b::l,h=>goN key n l (J3 h b)
def Y7(key c:Nat)(cell:List Nat):Bool:=goN key 20 cell (lH [71,c] (J3 11 key))
def Y8:List Nat→List Nat→Bool
 | [],[]=>true
 |a::l,b::k=>and (Nat.beq a b) (Y8 l k)
 |_,_=>false
def ga(f:Nat→Bool):Nat→Bool
 |0=>true
 |k+1=>and (f k) (ga f k)
theorem fB{f:Nat→Bool}: ∀{n:Nat},ga f n=true→ ∀i,i<n→f i=true
 |0,_,i,hi=>absurd hi (Nat.not_lt_zero i)
 |n+1,h,i,hi=>by
  rw[ga,Bool.and_eq_true]at h
  by_cases e:i=n
  ·rw[e];exact h.1
  ·exact fB h.2 i (by omega)
def qJ(rows seed n d r:Nat):Bool:=ga (fun i=>or (Nat.beq i d) (not (Nat.beq (Pa rows seed d r i) (Pa rows seed d r d)))) n
def Pc(rows seed r i:Nat):Nat:=Ea (kN seed i) r (Nat.sub 1 (oJ i)) rows
def Ar(rows seed:Nat)(m:List Nat)(n d r c i:Nat):Bool:=not (Y7 (dkN (kN seed i) (Nat.sub 1 (oJ i))) c (Aq rows seed m d r (Pc rows seed r i) n))
def dy(l:List UInt8):List Nat:=l.map UInt8.toNat
def ints(l:List Nat):List Int:=l.map fun(n:Nat)=>(n:Int)
theorem Pd(v:Nat)(l:List Nat):ints (v::l)=(v:Int)::ints l:=rfl
theorem Tj: ∀(l:List Nat) (h:Nat),(ints l).foldl hs1 (h:Int)=((lH l h:Nat):Int)
 | [],h=>rfl
 |v::l,h=>by rw[Pd,List.foldl_cons,Tf,Tj l,lH]
theorem yE(k:Nat)(l:List Nat):kh (k:Int) (ints l)=((v7 k l:Nat):Int):=by
 have h11:(11:Int)=((11:Nat):Int):=rfl
 unfold kh hsh v7
 rw[List.foldl_cons,List.foldl_append,h11,Tf,Tj,List.foldl_cons,List.foldl_nil,Tf]
theorem V9(s k:Nat):cs (s:Int) (k:Int)=((Tg s k:Nat):Int):=by
 unfold cs Tg
 rw[show kh (s:Int) [47,(k:Int)]=((v7 s [47,k]:Nat):Int)from yE s [47,k],adP]
theorem Tk(n:Nat):AM (n:Int)=((Th n:Nat):Int):=by
 unfold AM Th
 by_cases h:n=0
 ·subst h;rfl
 ·rw[if_neg (by omega),show Nat.beq n 0=false from Bool.eq_false_iff.2 fun q=>h (Nat.eq_of_beq_eq_true q)];rfl
theorem FR(seed i:Nat):Er (seed:Int) i=((kN seed i:Nat):Int):=by
 unfold Er
 rw[show kh (seed:Int) [199,(i:Int).tdiv 2]=((v7 seed [199,Nat.div i 2]:Nat):Int)from yE seed [199,Nat.div i 2],Tk];rfl
theorem W9(seed i:Nat):sOf (seed:Int) i=((sN seed i:Nat):Int):=yE seed [211,i]
theorem J5(i:Nat):oF i=((oJ i:Nat):Int):=by
 unfold oF oJ
 show _=((cond (Nat.ble (i+1) (i^^^1)) 0 1:Nat):Int)
 by_cases h:i<i^^^1
 ·rw[if_pos (by omega),Nat.ble_eq_true_of_le h];rfl
 ·rw[if_neg (by omega)]
  cases hb:Nat.ble (i+1) (i^^^1)with
  |true=>exact absurd (Nat.le_of_ble_eq_true hb) h
  |false=>rfl
theorem Y9(i:Nat):oJ i≤1:=by unfold oJ;cases Nat.ble (Nat.succ i) (Nat.xor i 1)<;>decide
theorem Tl(i:Nat):1-oF i=((Nat.sub 1 (oJ i):Nat):Int):=by
 rw[J5]
 have:=Y9 i
 show _=((1-oJ i:Nat):Int)
 omega
theorem Wa(k d:Nat):iD (k:Int) (d:Int)=((dkN k d:Nat):Int):=by
 unfold iD
 rw[show kh (k:Int) [83,(d:Int)]=((v7 k [83,d]:Nat):Int)from yE k [83,d],Tk];rfl
theorem NG{key r dir rows:Nat}(h:1≤rows∧rows≤64)(hr:r≤100000):eA (key:Int) (r:Int) (dir:Int) (rows:Int)=((Ea key r dir rows:Nat):Int):=by
 unfold eA
 rw[if_pos (by omega),show kh (key:Int) [79,(r:Int),(dir:Int)]=((v7 key [79,r,dir]:Nat):Int)from yE key [79,r,dir],show(0:Int)=((0:Nat):Int)from rfl,V9]
 exact(Int.natCast_emod _ _).symm
theorem abq{s r rows:Nat}(h:1≤rows∧rows≤64):vv (s:Int) (r:Int) (rows:Int)=((abm s r rows:Nat):Int):=by
 unfold vv
 rw[if_pos (by omega),show kh (s:Int) [157,(r:Int)]=((v7 s [157,r]:Nat):Int)from yE s [157,r],show(0:Int)=((0:Nat):Int)from rfl,V9]
 exact(Int.natCast_emod _ _).symm
theorem Tm(n:Nat):(b8 (n:Int)).toNat=n % 256:=by
 have:=lg (n:Int)
 omega
theorem Xa(s:Nat): ∀k i,LP s k i=(List.range' i k).map fun j=>Tg s (100+j)/256 % 256
 |0,_=>rfl
 |k+1,i=>by rw[LP,List.range'_succ,List.map_cons,Xa s k];rfl
theorem abr(s i:Nat):(b8 (cs (s:Int) (100+(i:Int))/256)).toNat=Tg s (100+i)/256 % 256:=by
 rw[show(100+(i:Int))=((100+i:Nat):Int)by omega,V9]
 generalize Tg s (100+i)=c
 rw[show(c:Int)/256=((c/256:Nat):Int)by omega,Tm]
theorem J6(s n:Nat):dy (stream (s:Int) n)=LP s n 0:=by
 rw[Xa, ←List.range_eq_range']
 unfold dy stream
 rw[List.map_map]
 simp only[Function.comp_def,abr]
theorem abt(s:Nat):dy (cover (s:Int))=Y5 s:=by
 unfold cover Y5
 rw[show kh (s:Int) [73]=((v7 s [73]:Nat):Int)from yE s [73]]
 exact J6 _ 24
theorem J7(s:Nat): ∀(l:List Nat) (i:Nat),(J4 s l i).length=l.length
 | [],_=>rfl
 |b::l,i=>by rw[J4,List.length_cons,J7 s l,List.length_cons]
theorem J8(s:Nat): ∀(l:List Nat) (i j:Nat) (h:j<(J4 s l i).length) (h2:j<l.length),(J4 s l i)[j]=(l[j]+v7 s [i+j]% 256)% 256
 | [],_,_,_,h2=>absurd h2 (Nat.not_lt_zero _)
 |b::l,i,0,_,_=>rfl
 |b::l,i,j+1,h,h2=>by
  show(J4 s l (i+1))[j]'_=_
  rw[J8 s l (i+1) j _ (by simpa using h2)]
  rw[show i+1+j=i+(j+1)by omega];rfl
theorem J9{l:List UInt8}{i:Nat}(h:i<(dy l).length)(h2:i<l.length):(dy l)[i]=l[i].toNat:=List.getElem_map UInt8.toNat
theorem Xb(s:Nat)(l:List UInt8):dy (gG (s:Int) l)=J4 s (dy l) 0:=by
 apply List.ext_getElem
 ·rw[J7];unfold dy;rw[List.length_map,List.length_map,dF]
 ·intro i h1 h2
  have hi:i<l.length:=by
   have:(dy (gG (s:Int) l)).length=l.length:=by unfold dy;rw[List.length_map,dF]
   omega
  rw[J8 s _ _ _ h2 (by unfold dy;rw[List.length_map];exact hi)]
  rw[J9 h1 (by rw[dF];exact hi),J9 _ hi]
  have e:=xh (s:Int) l i hi
  rw[List.getD_eq_getElem?_getD,List.getElem?_eq_getElem (by rw[dF];exact hi),List.getD_eq_getElem?_getD,List.getElem?_eq_getElem hi]at e
  have e':(gG (s:Int) l)[i]'(by rw[dF];exact hi)=b8 ((l[i].toNat:Int)+kh (s:Int) [(i:Int)]% 256):=e
  rw[e',show kh (s:Int) [(i:Int)]=((v7 s [i]:Nat):Int)from yE s [i],show((l[i].toNat:Nat):Int)+((v7 s [i]:Nat):Int)% 256=((l[i].toNat+v7 s [i]% 256:Nat):Int)by omega,Tm,Nat.zero_add]
theorem Za(n:Nat):dy (four (n:Int))=Ti n:=by
 unfold four dy Ti
 rw[show(n:Int)/256=((n/256:Nat):Int)by omega,show(n:Int)/65536=((n/65536:Nat):Int)by omega,show(n:Int)/16777216=((n/16777216:Nat):Int)by omega]
 simp only[List.map_cons,List.map_nil,Tm];rfl
theorem FT: ∀(a b:List Nat) (h:Nat),lH (a++b) h=lH b (lH a h)
 | [],_,_=>rfl
 |v::a,b,h=>FT a b (J3 h v)
theorem Xc(key c:Nat)(l:List UInt8):gH (key:Int) (c:Int) l=((J3 (lH (dy l) (lH [71,c] (J3 11 key))) key:Nat):Int):=by
 unfold gH
 have e: [71,(c:Int)]++l.map (fun c=>(c.toNat:Int))=ints ([71,c]++dy l):=by
  unfold ints dy
  rw[List.map_append,List.map_map];rfl
 rw[e,yE]
 unfold v7
 rw[FT]
theorem adT(key:Nat)(l:List UInt8):gH (key:Int) 0 l=((abn key (dy l):Nat):Int):=Xc key 0 l
theorem Eb(a b:List UInt8):dy (a++b)=dy a++dy b:=List.map_append ..
theorem Ka(l:List UInt8):(dy l).length=l.length:=List.length_map ..
theorem Xd(key:Nat){m:List UInt8}(hm:m.length≤14):dy (cY (key:Int) 0 ⟨1,m⟩)=Y6 key (dy m):=by
 unfold cY Y6
 rw[show kh (key:Int) [61,0]=((v7 key [61,0]:Nat):Int)from yE key [61,0]]
 rw[Eb,Eb,Ka]
 have e:dy ((stream ((v7 key [61,0]:Nat):Int) 18).drop m.length)=(LP (v7 key [61,0]) 18 0).drop m.length:=by
  rw[←J6];unfold dy;rw[List.map_drop]
 show dy [b8 1,b8 (m.length:Int)]++dy m++dy ((stream ((v7 key [61,0]:Nat):Int) 18).drop m.length)=_
 rw[e]
 have h1:(b8 1).toNat=1:=by decide
 have h2:(b8 (m.length:Int)).toNat=m.length:=by rw[Tm];omega
 show([(b8 1).toNat,(b8 (m.length:Int)).toNat]++dy m)++_=_
 rw[h1,h2];rfl
theorem Tn(seed d:Nat){m:List UInt8}(hm:m.length≤14):dy (rF (seed:Int) m d)=LQ seed (dy m) d:=by
 unfold rF LQ abp abo
 rw[FR,J5,Wa]
 generalize hk:dkN (kN seed d) (oJ d)=k
 have hok:eC (k:Int)=true:=by
  have:=xG ((kN seed d:Nat):Int) ((oJ d:Nat):Int)
  rw[Wa,hk]at this
  exact this
 have hs:eU (k:Int) 0 ⟨1,m⟩=true:=by
  simp only[eU,hok,fH,Bool.true_and,Bool.and_eq_true,bN,decide_eq_true_eq]
  omega
 have hc:jh (k:Int) 0=((ckN k:Nat):Int):=by
  unfold jh ckN
  rw[show kh (k:Int) [67,0]=((v7 k [67,0]:Nat):Int)from yE k [67,0],Tk]
 rw[fT,if_pos hs,Eb,hc,Xb,Xd k hm,adT,Za,Xb,Xd k hm]
section
variable{rows seed n d r:Nat}{m:List UInt8}
theorem To(h:1≤rows∧rows≤64)(hr:r≤100000)(i:Nat):qI (rows:Int) (seed:Int) d (r:Int) i=((Pa rows seed d r i:Nat):Int):=by
 unfold qI Pa
 by_cases e:i=d
 ·rw[if_pos e,FR,J5,NG h hr,show Nat.beq i d=true by rw[e];exact Nat.beq_refl d];rfl
 ·rw[if_neg e,W9,abq h,show Nat.beq i d=false from Bool.eq_false_iff.2 fun q=>e (Nat.eq_of_beq_eq_true q)];rfl
theorem adU(hm:m.length≤14)(i:Nat):dy (Bq (seed:Int) m d (r:Int) i)=ZH seed (dy m) d r i:=by
 unfold Bq ZH
 by_cases e:i=d
 ·rw[if_pos e,Tn seed d hm,show Nat.beq i d=true by rw[e];exact Nat.beq_refl d];rfl
 ·rw[if_neg e,W9,show kh ((sN seed i:Nat):Int) [(r:Int)]=((v7 (sN seed i) [r]:Nat):Int)from yE (sN seed i) [r],abt,show Nat.beq i d=false from Bool.eq_false_iff.2 fun q=>e (Nat.eq_of_beq_eq_true q)];rfl
theorem Tp(hm:m.length≤14)(i:Nat):(Bq (seed:Int) m d (r:Int) i).length=24:=by
 unfold Bq
 split
 ·refine nV ?_
  simp only[eU,xG,fH,Bool.true_and,Bool.and_eq_true,bN,decide_eq_true_eq]
  omega
 ·exact dI _ _
theorem Xe: ∀{a b:List UInt8},a.length=b.length→dy (cH a b)=ZI (dy a) (dy b)
 | [],[],_=>rfl
 | [],_::_,h=>by cases h
 |_::_,[],h=>by cases h
 |x::a,y::b,h=>by
  show(x^^^y).toNat::dy (cH a b)=Nat.xor x.toNat y.toNat::ZI (dy a) (dy b)
  rw[Xe (Nat.succ.inj h),UInt8.toNat_xor];rfl
theorem NH(h:1≤rows∧rows≤64)(hr:r≤100000)(hm:m.length≤14)(j:Nat): ∀n,(kR (rows:Int) (seed:Int) m n d (r:Int) j).length=24∧dy (kR (rows:Int) (seed:Int) m n d (r:Int) j)=Aq rows seed (dy m) d r j n
 |0=>⟨jH,rfl⟩
 |n+1=>by
  obtain⟨q1,q2⟩:=NH h hr hm j n
  have hw:=To (seed:=seed) (d:=d) h hr n
  have e:kR (rows:Int) (seed:Int) m (n+1) d (r:Int) j=if(qI (rows:Int) (seed:Int) d (r:Int) n).toNat=j then cH (kR (rows:Int) (seed:Int) m n d (r:Int) j) (Bq (seed:Int) m d (r:Int) n)else kR (rows:Int) (seed:Int) m n d (r:Int) j:=by
   unfold kR
   rw[List.range_succ,List.foldl_append];rfl
  have hl:=Tp (seed:=seed) (d:=d) (r:=r) hm n
  rw[e,Aq]
  by_cases hj:(qI (rows:Int) (seed:Int) d (r:Int) n).toNat=j
  ·rw[if_pos hj,show Nat.beq (Pa rows seed d r n) j=true by rw[←hj,hw];exact Nat.beq_refl _]
   refine⟨by rw[ck];omega,?_⟩
   rw[Xe (by omega),q2,adU hm];rfl
  ·rw[if_neg hj,show Nat.beq (Pa rows seed d r n) j=false from Bool.eq_false_iff.2 fun q=>hj (by rw[hw];exact Nat.eq_of_beq_eq_true q)]
   exact⟨q1,q2⟩
theorem Tq(key:Nat): ∀(k:Nat) (l:List Nat) (h:Nat),k≤l.length→goN key k l h=Nat.beq (V8 (l.drop k)) (J3 (lH (l.take k) h) key)
 |0,l,h,_=>by rw[goN,List.drop_zero,List.take_zero];rfl
 |k+1,[],h,hk=>absurd hk (by simp)
 |k+1,b::l,h,hk=>by
  rw[goN,Tq key k l _ (by simpa using hk)];rfl
theorem abu{key c:Nat}{cell:List UInt8}(hk:eC (key:Int)=true)(hc:c≤1000)(hl:cell.length=24):Eo (key:Int) (c:Int) cell=Y7 key c (dy cell):=by
 unfold Y7
 rw[Tq _ _ _ _ (by rw[Ka];omega),MW hk (by rw[bN];omega) hl]
 have h1:gH (key:Int) (c:Int) (cell.take 20)=((J3 (lH ((dy cell).take 20) (lH [71,c] (J3 11 key))) key:Nat):Int):=by
  rw[Xc]
  unfold dy
  rw[List.map_take]
 have h2:OR cell=((V8 ((dy cell).drop 20):Nat):Int):=by
  have:=R2 hl
  have e:(dy cell).drop 20=dy (cell.drop 20):=by unfold dy;rw[List.map_drop]
  rw[e,this]
  show OR cell=(((cell.getD 20 (aB .u8)).toNat+(256*(cell.getD 21 (aB .u8)).toNat+(65536*(cell.getD 22 (aB .u8)).toNat+16777216*(cell.getD 23 (aB .u8)).toNat)):Nat):Int)
  unfold OR
  omega
 rw[h1,h2]
 by_cases e:V8 ((dy cell).drop 20)=J3 (lH ((dy cell).take 20) (lH [71,c] (J3 11 key))) key
 ·rw[e,Nat.beq_refl,decide_eq_true rfl]
 ·rw[show Nat.beq _ _=false from Bool.eq_false_iff.2 fun q=>e (Nat.eq_of_beq_eq_true q),decide_eq_false (by omega)]
theorem NI(h:1≤rows∧rows≤64)(hr:r≤100000)(hm:m.length≤14){c:Nat}(hc:c≤1000)(i:Nat):EH (rows:Int) (seed:Int) m n d (r:Int) c i= !Ar rows seed (dy m) n d r c i:=by
 have hk:=xG ((kN seed i:Nat):Int) ((Nat.sub 1 (oJ i):Nat):Int)
 rw[Wa]at hk
 have e:D7 (rows:Int) (seed:Int) (r:Int) i=Pc rows seed r i:=by
  unfold D7 Pc
  rw[FR,Tl,NG h hr];rfl
 obtain⟨q1,q2⟩:=NH (seed:=seed) (d:=d) h hr hm (Pc rows seed r i) n
 unfold EH Ar
 rw[e,FR,Tl,Wa,abu hk hc q1,q2,Bool.not_not]
theorem HB: ∀{a b:List Nat},a=b→Y8 a b=true
 | [],_,rfl=>rfl
 |x::a,_,rfl=>by rw[Y8,Nat.beq_refl,HB rfl];rfl
theorem HC{a b:Nat}(h:Nat.beq a b=false):a≠b:=fun e=>by rw[e,Nat.beq_refl]at h;cases h
theorem Tr(h:1≤rows∧rows≤64)(hr:r≤100000):qJ rows seed n d r=true↔D8 (rows:Int) (seed:Int) n d (r:Int):=by
 constructor
 ·intro ha i hi e q
  have:=fB ha i hi
  rw[Bool.or_eq_true]at this
  rcases this with h1|h1
  ·exact e (Nat.eq_of_beq_eq_true h1)
  ·rw[Bool.not_eq_true']at h1
   rw[To h hr,To h hr]at q
   exact HC h1 (by omega)
 ·intro ha
  have key: ∀k,k≤n→ga (fun i=>or (Nat.beq i d) (not (Nat.beq (Pa rows seed d r i) (Pa rows seed d r d)))) k=true:=by
   intro k
   induction k with
   |zero=>intro _;rfl
   |succ k ih=>
    intro hk
    rw[ga,ih (by omega),Bool.and_true]
    by_cases e:k=d
    ·rw[e];simp only[Nat.beq_refl,Bool.true_or]
    ·have:=ha k (by omega) e
     rw[To h hr,To h hr]at this
     rw[Bool.or_eq_true,Bool.not_eq_true']
     exact Or.inr (Bool.eq_false_iff.2 fun q=>this (by rw[Nat.eq_of_beq_eq_true q]))
  exact key n (Nat.le_refl _)
end
end
end
section
def hsK(h v:Nat):Nat:=Nat.mod (Nat.add (Nat.add (Nat.mul h 1000003) v) 13) 2147483647
def sqK(h:Nat):Nat:=Nat.mod (Nat.add (Nat.mul h h) 5) 2147483647
theorem Zb(h v:Nat):hs1 (h:Int) (v:Int)=((hsK h v:Nat):Int):=by
 show((h:Int)*1000003+(v:Int)% 2147483647+13)% 2147483647=(((h*1000003+v+13)% 2147483647:Nat):Int)
 omega
theorem Zc(h:Nat):((h:Int)*h+5)% 2147483647=((sqK h:Nat):Int):=by
 have e:sqK h=(h*h+5)% 2147483647:=rfl
 rw[e,Int.natCast_emod,Int.natCast_add,Int.natCast_mul];rfl
instance hfK:HF:=⟨hsK,sqK,Zb,Zc,fun _ _=>Nat.mod_lt _ (by decide)⟩
end
section
theorem Zd{seed:Int}{m:List UInt8}{i:Nat}(hi:i<8)(hm:m.length≤14):cN (zV (JP seed i) m)=true:=by
 have h:=LH (seed:=seed) hi
 simp only[cN,Bool.and_eq_true]at h ⊢
 obtain⟨⟨⟨⟨⟨⟨⟨⟨⟨h1,h2⟩,h3⟩,h4⟩,h5⟩,h6⟩,h7⟩,h8⟩,h9⟩,VM⟩:=h
 refine⟨⟨⟨⟨⟨⟨⟨⟨⟨h1,h2⟩,h3⟩,h4⟩,by simp[zV,JP]⟩,h6⟩,?_⟩,h8⟩,by simp[zV,JP,inr]⟩,VM⟩
 have:long m=false:=by unfold long;rw[decide_eq_false];omega
 simp[zV,JP,this]
section
variable{rows seed:Int}{s p d:Nat}{m:List UInt8}
theorem Kb(hr:1≤rows∧rows≤64)(hs:2≤s∧s≤4)(hp:1≤p∧p≤4)(hd:d<2*p)(hm:m.length≤14):Hl (dO rows s p seed) (d:Int) m=true∧LO rows seed m (2*p) d (qC (dO rows s p seed) (d:Int) m) 0 false 0∧(qC (dO rows s p seed) (d:Int) m).replaced= []∧(qC (dO rows s p seed) (d:Int) m).cancelled=0∧(qC (dO rows s p seed) (d:Int) m).aj.length=s∧(qC (dO rows s p seed) (d:Int) m).seed=seed∧wh (qC (dO rows s p seed) (d:Int) m) 0:=by
 have hw:=Hy (seed:=seed) hr hs hp
 have hD:wh (dO rows s p seed) 0:=⟨hw,Int.le_refl 0,Int.le_refl 0,Nat.le_refl 0⟩
 have hl:(dO rows s p seed).aa.length=2*p:=BS seed (2*p)
 have hg: ∀i,i<2*p→(dO rows s p seed).aa.getD i (aB .bg)=VR seed i:=fun i hi=>cL _ _ _ _ hi
 have hc:lU (dO rows s p seed) (d:Int)=true:=by
  unfold lU
  rw[hw,Bool.true_and]
  unfold mh
  rw[bN,hl];omega
 have hv:EE (dO rows s p seed) (d:Int)=VR seed d:=hg d hd
 have hod:cR (VR seed d)=true:=by
  have:=mm hw (i:=d) (by omega)
  simp only[okD,Bool.and_eq_true]at this
  rw[←hg d hd]
  exact this.1.1.1.1
 have hq:sZ (JP seed d) m=true:=by
  unfold sZ
  rw[LH (by omega),Zd (by omega) hm];rfl
 have hsb:zW (VR seed d) m=true:=by
  unfold zW
  rw[hod]
  show((true&&sZ (JP seed d) m)&&sZ (JP seed d) m)=true
  rw[hq];rfl
 have hsD:zX (VR seed d) m=⟨zV (JP seed d) m,zV (JP seed d) m⟩:=by
  unfold zX
  rw[if_pos hsb]
  show(⟨jQ (JP seed d) m,jQ (JP seed d) m⟩:bg)=_
  unfold jQ
  rw[if_pos hq]
 have e:qC (dO rows s p seed) (d:Int) m=Sq (dO rows s p seed) d ⟨zV (JP seed d) m,zV (JP seed d) m⟩:=by
  unfold qC
  rw[if_pos hc,hv,hsD];rfl
 have TW:wh (qC (dO rows s p seed) (d:Int) m) 0:=hD.sm
 refine⟨by unfold Hl;rw[hc,hv,hsb];rfl,?_,by rw[e];rfl,by rw[e];rfl,by rw[e];exact BR rows s,by rw[e];rfl,TW⟩
 have ho:=TW.ok
 rw[e]at ho ⊢
 refine⟨⟨ho,rfl,?_,rfl,by show bR ⟨rows,[]⟩<_;rw[vY rfl];decide,Nat.le_refl _,fun i hi=> ?_⟩,fun i hi=> ?_,by show(0:Int)<1000000;decide⟩
 ·show((dO rows s p seed).aa.set d _).length=_
  rw[List.length_set,hl]
 ·show(((dO rows s p seed).aa.set d _).getD i (aB .bg)).live=_
  rw[fP _ _ (by rw[hl];exact hi)]
  unfold dm fZ
  by_cases e2:d=i
  ·subst e2
   rw[if_pos rfl,if_pos rfl];rfl
  ·rw[if_neg e2,if_neg (fun q=>e2 q.symm),hg i hi];rfl
 ·have hi':i<s:=by have:i<(yA rows s).length:=hi;rw[BR]at this;exact this
  show((yA rows s).getD i (aB .aX)).behavior=0
  rw[show(yA rows s).getD i (aB .aX)=nwS rows i from cL _ _ _ _ hi'];rfl
end
section
variable{rows seed:Int}{m:List UInt8}{n d:Nat}{x:aV}
end
end
end Go.Proofs.YtkcegdacbddipaaGreat.G
