/-
  Worlds that are drawn, and bent. No program in sight.
-/
import Derived.KernelRfl
import Derived.Test.YtcnomgcfijjkmaaGreatProg
import Derived.Test.YtcnomgcfijjkmaaGreatR9
namespace Go.Proofs.YtcnomgcfijjkmaaGreat.G
set_option linter.all false
open Go.RowKit L D
section
theorem RG:(Tryz.prog.info? 3).map (fun i=>(i.zero,i.size,i.bytes))=some (some (.int .i64 0),1,8):=by kernel_rfl
theorem RH:(Tryz.prog.info? 5).map (fun i=>(i.zero,i.size,i.bytes))=some (some (.int .u8 0),1,1):=by kernel_rfl
theorem RJ:(Tryz.prog.info? 9).map (fun i=>(i.zero,i.size,i.bytes))=some (some (.string ⟨#[]⟩),1,16):=by kernel_rfl
theorem LV:(Tryz.prog.info? 22).map (fun i=>(i.zero,i.size,i.bytes))=some (some (.slice none 0 0),1,24):=by kernel_rfl
theorem LW:(Tryz.prog.info? 29).map (fun i=>(i.zero,i.size,i.bytes))=some (some (.slice none 0 0),1,24):=by kernel_rfl
theorem S9:(Tryz.prog.info? 54).map (fun i=>(i.zero,i.size,i.bytes))=some (some (.slice none 0 0),1,24):=by kernel_rfl
theorem F7:(Tryz.prog.info? 72).map (fun i=>(i.zero,i.size,i.bytes))=some (some (.agg #[.slice none 0 0]),1,24):=by kernel_rfl
theorem CC:(Tryz.prog.info? 153).map (fun i=>(i.zero,i.size,i.bytes))=some (some (.agg #[.int .i64 0, .slice none 0 0]),2,32):=by kernel_rfl
theorem F8:(Tryz.prog.info? 83).map (fun i=>(i.zero,i.size,i.bytes))=some (some (.agg #[.int .i64 0, .int .i64 0, .int .i64 0, .slice none 0 0, .int .i64 0]),5,56):=by kernel_rfl
theorem F9:(Tryz.prog.info? 90).map (fun i=>(i.zero,i.size,i.bytes))=some (some (.agg #[.int .i64 0, .slice none 0 0]),2,32):=by kernel_rfl
theorem LX:(Tryz.prog.info? 28).map (fun i=>(i.zero,i.size,i.bytes))=some (some (.agg #[.int .i64 0, .slice none 0 0]),2,32):=by kernel_rfl
theorem LY:(Tryz.prog.info? 56).map (fun i=>(i.zero,i.size,i.bytes))=some (some (.agg #[.int .i64 0, .int .i64 0, .int .i64 0, .int .i64 0, .slice none 0 0, .int .i64 0, .slice none 0 0, .int .i64 0]),8,96):=by kernel_rfl
theorem Ga:(Tryz.prog.info? 58).map (fun i=>(i.zero,i.size,i.bytes))=some (some (.agg #[.int .i64 0, .int .i64 0, .int .i64 0, .int .i64 0, .slice none 0 0, .int .i64 0, .slice none 0 0, .int .i64 0, .int .i64 0, .int .i64 0, .int .i64 0, .int .i64 0, .slice none 0 0, .int .i64 0, .slice none 0 0, .int .i64 0]),16,192):=by kernel_rfl
theorem LZ:(Tryz.prog.info? 31).map (fun i=>(i.zero,i.size,i.bytes))=some (some (.agg #[.int .i64 0, .slice none 0 0, .slice none 0 0, .int .i64 0, .slice none 0 0, .int .i64 0, .int .i64 0, .int .i64 0, .slice none 0 0, .int .i64 0]),10,144):=by kernel_rfl
theorem Gb:(Tryz.prog.info? 44).map (fun i=>(i.zero,i.size,i.bytes))=some (some (.agg #[.int .i64 0, .int .i64 0, .int .i64 0, .slice none 0 0]),4,48):=by kernel_rfl
theorem Gc:(Tryz.prog.info? 95).map (fun i=>(i.zero,i.size,i.bytes))=some (some (.agg #[.int .i64 0, .int .i64 0, .int .i64 0]),3,24):=by kernel_rfl
theorem CD:(Tryz.prog.info? 128).map (fun i=>(i.zero,i.size,i.bytes))=some (some (.agg #[.int .i64 0, .int .i64 0, .int .i64 0, .int .i64 0, .int .i64 0]),5,40):=by kernel_rfl
theorem HD:(Tryz.prog.info? 171).map (fun i=>(i.zero,i.size,i.bytes))=some (some (.agg #[.int .i64 0, .slice none 0 0]),2,32):=by kernel_rfl
theorem CE:(Tryz.prog.info? 139).map (fun i=>(i.zero,i.size,i.bytes))=some (some (.agg #[.int .i64 0, .int .i64 0, .slice none 0 0, .slice none 0 0, .int .i64 0]),5,72):=by kernel_rfl
theorem L0:(Tryz.prog.info? 38).map (fun i=>(i.zero,i.size,i.bytes))=some (some (.slice none 0 0),1,24):=by kernel_rfl
theorem jZ{P:Program}{i:Nat}{z:Option Value}{k b:Nat}(h:(P.info? i).map (fun i=>(i.zero,i.size,i.bytes))=some (z,k,b)):(P.info? i).map (·.size)=some k:=by
 cases hq:P.info? i with
 |none=>simp[hq]at h
 |some x=>simp[hq]at h;simp[h]
theorem Pq{P:Program}{i:Nat}{z:Option Value}{k b:Nat}(h:(P.info? i).map (fun i=>(i.zero,i.size,i.bytes))=some (z,k,b)):(P.info? i).map (fun i=>(i.size,i.zero))=some (k,z):=by
 cases hq:P.info? i with
 |none=>simp[hq]at h
 |some x=>simp[hq]at h;simp[h]
theorem kV{P:Program}{t:Nat}{z:List Value}{tg:List (Option Tag)}{fo:List Nat}{fs:Array Field}{b:Nat}(hu:P.underlying t=some (.struct fs))(hi:(P.info? t).map (fun i=>(i.zero,i.size,i.bytes))=some (some (.agg z.toArray),z.length,b))(hz:z.all (·.oneCell')=true)(hf:sI P z.length fs.toList fo=true):b7 P t (.st z tg fo):=
 ⟨fs,hu,Pq hi,fun v hv=>List.all_eq_true.1 hz v hv,fun f k h=>by obtain⟨fd,h1,h2⟩:=(oy hf).1 f k h;exact⟨fd,by simpa using h1,h2⟩,(oy hf).2⟩
theorem dG{P:Program}{i:Nat}(h:(P.info? i).map (fun i=>Nat.beq i.size 1)=some true):(P.info? i).map (·.size)=some 1:=by
 cases hq:P.info? i with
 |none=>simp[hq]at h
 |some x=>simp[hq]at h;simp[h]
def tys:List (Nat×TK):= [(3, .int .i64),
 (2, .int .i64),
 (21, .int .i32),
 (5, .int .u8),
 (265, .int .u32),
 (205, .int .u64),
 (12, .int .u64),
 (4, .bool),
 (9, .str),
 (72, .st [.slice none 0 0] [some (.sl .u8)] [0]),
 (153, .st [.int .i64 0, .slice none 0 0] [none,some (.sl .u8)] [0,1]),
 (83, .st [.int .i64 0, .int .i64 0, .int .i64 0, .slice none 0 0, .int .i64 0] [none,none,none,some .aM,none] [0,1,2,3,4]),
 (90, .st [.int .i64 0, .slice none 0 0] [none,some (.sl .u8)] [0,1]),
 (28, .st [.int .i64 0, .slice none 0 0] [none,some .aC] [0,1]),
 (56, .st [.int .i64 0, .int .i64 0, .int .i64 0, .int .i64 0, .slice none 0 0, .int .i64 0, .slice none 0 0, .int .i64 0] [none,none,none,none,some (.sl .u8),none,some (.sl .u8),none] [0,1,2,3,4,5,6,7]),
 (58, .st [.int .i64 0, .int .i64 0, .int .i64 0, .int .i64 0, .slice none 0 0, .int .i64 0, .slice none 0 0, .int .i64 0, .int .i64 0, .int .i64 0, .int .i64 0, .int .i64 0, .slice none 0 0, .int .i64 0, .slice none 0 0, .int .i64 0] [none,none,none,none,some (.sl .u8),none,some (.sl .u8),none,none,none,none,none,some (.sl .u8),none,some (.sl .u8),none] [0,8]),
 (31, .st [.int .i64 0, .slice none 0 0, .slice none 0 0, .int .i64 0, .slice none 0 0, .int .i64 0, .int .i64 0, .int .i64 0, .slice none 0 0, .int .i64 0] [none,some .bl,some .aS,none,some .aC,none,none,none,some .int,none] [0,1,2,3,5,6,7,8,9]),
 (44, .st [.int .i64 0, .int .i64 0, .int .i64 0, .slice none 0 0] [none,none,none,some .u8] [0,1,2,3]),
 (95, .st [.int .i64 0, .int .i64 0, .int .i64 0] [none,none,none] [0,1,2]),
 (128, .st [.int .i64 0, .int .i64 0, .int .i64 0, .int .i64 0, .int .i64 0] [none,none,none,none,none] [0,1,2,3,4]),
 (171, .st [.int .i64 0, .slice none 0 0] [none,some .u8] [0,1]),
 (139, .st [.int .i64 0, .int .i64 0, .slice none 0 0, .slice none 0 0, .int .i64 0] [none,none,some .int,some .u8,none] [0,1,2,3,4]),
 (29, .sl .int 3),
 (22, .sl .u8 5),
 (106, .sl .str 9),
 (54, .sl (.sl .u8) 22),
 (198, .sl (.sl .int) 29),
 (69, .sl .DB 72),
 (81, .sl .aM 153),
 (24, .sl .bl 83),
 (26, .sl .aC 90),
 (25, .sl .aS 58),
 (49, .sl .Ev 44),
 (38, .sl .pP 95),
 (66, .sl .ep 128),
 (197, .sl .cD 139),
 (160, .sl (.sl .pP) 38)]
def Γ(t:Nat):TK:=match look tys t with|some k=>k|none=> .other
def ty:Tag→Nat
 | .int=>3
 | .u8=>5
 | .str=>9
 | (.sl .u8)=>22
 | (.sl .int)=>29
 | (.sl (.sl .u8))=>54
 | .DB=>72
 | .aM=>153
 | .bl=>83
 | .aC=>90
 | .gH=>28
 | .cX=>56
 | .aS=>58
 | .aR=>31
 | .Ev=>44
 | .pP=>95
 | .ep=>128
 | .Plain=>171
 | .cD=>139
 | (.sl .pP)=>38
 |_=>1000000000
theorem Ta:b7 Tryz.prog 3 (.int .i64):=Tryz.underlying3
theorem Tb:b7 Tryz.prog 2 (.int .i64):=Tryz.underlying2
theorem Pr:b7 Tryz.prog 21 (.int .i32):=Tryz.underlying21
theorem Tc:b7 Tryz.prog 5 (.int .u8):=Tryz.underlying5
theorem L1:b7 Tryz.prog 265 (.int .u32):=Tryz.underlying265
theorem L2:b7 Tryz.prog 205 (.int .u64):=Tryz.underlying205
theorem Pt:b7 Tryz.prog 12 (.int .u64):=Tryz.underlying12
theorem Td:b7 Tryz.prog 4 (.bool):=Tryz.underlying4
theorem Te:b7 Tryz.prog 9 (.str):=Tryz.underlying9
theorem Pu:b7 Tryz.prog 72 (.st [.slice none 0 0] [some (.sl .u8)] [0]):=kV Tryz.underlying72 F7 rfl (by kernel_rfl)
theorem L3:b7 Tryz.prog 153 (.st [.int .i64 0, .slice none 0 0] [none,some (.sl .u8)] [0,1]):=kV Tryz.underlying153 CC rfl (by kernel_rfl)
theorem Pv:b7 Tryz.prog 83 (.st [.int .i64 0, .int .i64 0, .int .i64 0, .slice none 0 0, .int .i64 0] [none,none,none,some .aM,none] [0,1,2,3,4]):=kV Tryz.underlying83 F8 rfl (by kernel_rfl)
theorem Pw:b7 Tryz.prog 90 (.st [.int .i64 0, .slice none 0 0] [none,some (.sl .u8)] [0,1]):=kV Tryz.underlying90 F9 rfl (by kernel_rfl)
theorem Px:b7 Tryz.prog 28 (.st [.int .i64 0, .slice none 0 0] [none,some .aC] [0,1]):=kV Tryz.underlying28 LX rfl (by kernel_rfl)
theorem Py:b7 Tryz.prog 56 (.st [.int .i64 0, .int .i64 0, .int .i64 0, .int .i64 0, .slice none 0 0, .int .i64 0, .slice none 0 0, .int .i64 0] [none,none,none,none,some (.sl .u8),none,some (.sl .u8),none] [0,1,2,3,4,5,6,7]):=kV Tryz.underlying56 LY rfl (by kernel_rfl)
theorem Pz:b7 Tryz.prog 58 (.st [.int .i64 0, .int .i64 0, .int .i64 0, .int .i64 0, .slice none 0 0, .int .i64 0, .slice none 0 0, .int .i64 0, .int .i64 0, .int .i64 0, .int .i64 0, .int .i64 0, .slice none 0 0, .int .i64 0, .slice none 0 0, .int .i64 0] [none,none,none,none,some (.sl .u8),none,some (.sl .u8),none,none,none,none,none,some (.sl .u8),none,some (.sl .u8),none] [0,8]):=kV Tryz.underlying58 Ga rfl (by kernel_rfl)
theorem PA:b7 Tryz.prog 31 (.st [.int .i64 0, .slice none 0 0, .slice none 0 0, .int .i64 0, .slice none 0 0, .int .i64 0, .int .i64 0, .int .i64 0, .slice none 0 0, .int .i64 0] [none,some .bl,some .aS,none,some .aC,none,none,none,some .int,none] [0,1,2,3,5,6,7,8,9]):=kV Tryz.underlying31 LZ rfl (by kernel_rfl)
theorem PB:b7 Tryz.prog 44 (.st [.int .i64 0, .int .i64 0, .int .i64 0, .slice none 0 0] [none,none,none,some .u8] [0,1,2,3]):=kV Tryz.underlying44 Gb rfl (by kernel_rfl)
theorem PC:b7 Tryz.prog 95 (.st [.int .i64 0, .int .i64 0, .int .i64 0] [none,none,none] [0,1,2]):=kV Tryz.underlying95 Gc rfl (by kernel_rfl)
theorem L4:b7 Tryz.prog 128 (.st [.int .i64 0, .int .i64 0, .int .i64 0, .int .i64 0, .int .i64 0] [none,none,none,none,none] [0,1,2,3,4]):=kV Tryz.underlying128 CD rfl (by kernel_rfl)
theorem L5:b7 Tryz.prog 171 (.st [.int .i64 0, .slice none 0 0] [none,some .u8] [0,1]):=kV Tryz.underlying171 HD rfl (by kernel_rfl)
theorem L6:b7 Tryz.prog 139 (.st [.int .i64 0, .int .i64 0, .slice none 0 0, .slice none 0 0, .int .i64 0] [none,none,some .int,some .u8,none] [0,1,2,3,4]):=kV Tryz.underlying139 CE rfl (by kernel_rfl)
theorem PD:b7 Tryz.prog 29 (.sl .int 3):=⟨Tryz.underlying29,jZ RG⟩
theorem PE:b7 Tryz.prog 22 (.sl .u8 5):=⟨Tryz.underlying22,jZ RH⟩
theorem L7:b7 Tryz.prog 106 (.sl .str 9):=⟨Tryz.underlying106,jZ RJ⟩
theorem PF:b7 Tryz.prog 54 (.sl (.sl .u8) 22):=⟨Tryz.underlying54,jZ LV⟩
theorem L8:b7 Tryz.prog 198 (.sl (.sl .int) 29):=⟨Tryz.underlying198,jZ LW⟩
theorem PG:b7 Tryz.prog 69 (.sl .DB 72):=⟨Tryz.underlying69,jZ F7⟩
theorem PI:b7 Tryz.prog 81 (.sl .aM 153):=⟨Tryz.underlying81,jZ CC⟩
theorem PJ:b7 Tryz.prog 24 (.sl .bl 83):=⟨Tryz.underlying24,jZ F8⟩
theorem PK:b7 Tryz.prog 26 (.sl .aC 90):=⟨Tryz.underlying26,jZ F9⟩
theorem PL:b7 Tryz.prog 25 (.sl .aS 58):=⟨Tryz.underlying25,jZ Ga⟩
theorem PM:b7 Tryz.prog 49 (.sl .Ev 44):=⟨Tryz.underlying49,jZ Gb⟩
theorem PN:b7 Tryz.prog 38 (.sl .pP 95):=⟨Tryz.underlying38,jZ Gc⟩
theorem PO:b7 Tryz.prog 66 (.sl .ep 128):=⟨Tryz.underlying66,jZ CD⟩
theorem L9:b7 Tryz.prog 197 (.sl .cD 139):=⟨Tryz.underlying197,jZ CE⟩
theorem Ma:b7 Tryz.prog 160 (.sl (.sl .pP) 38):=⟨Tryz.underlying160,jZ L0⟩
set_option maxRecDepth 100000 in
theorem kinds: ∀e,e∈tys→b7 Tryz.prog e.1 e.2:=by
 simp only[tys,List.forall_mem_cons]
 exact⟨Ta,Tb,Pr,Tc,L1,L2,Pt,Td,Te,Pu,L3,Pv,Pw,Px,Py,Pz,PA,PB,PC,L4,L5,L6,PD,PE,L7,PF,L8,PG,PI,PJ,PK,PL,PM,PN,PO,L9,Ma,by simp⟩
set_option maxRecDepth 100000 in
theorem VJ: ∀e,e∈tys→(∀z tg fo,e.2≠ .st z tg fo)→(Tryz.prog.info? e.1).map (·.size)=some 1:=by
 simp only[tys,List.forall_mem_cons]
 refine⟨fun _=>dG (by kernel_rfl),fun _=>dG (by kernel_rfl),fun _=>dG (by kernel_rfl),fun _=>dG (by kernel_rfl),fun _=>dG (by kernel_rfl),fun _=>dG (by kernel_rfl),fun _=>dG (by kernel_rfl),fun _=>dG (by kernel_rfl),fun _=>dG (by kernel_rfl),fun h=>absurd rfl (h _ _ _),fun h=>absurd rfl (h _ _ _),fun h=>absurd rfl (h _ _ _),fun h=>absurd rfl (h _ _ _),fun h=>absurd rfl (h _ _ _),fun h=>absurd rfl (h _ _ _),fun h=>absurd rfl (h _ _ _),fun h=>absurd rfl (h _ _ _),fun h=>absurd rfl (h _ _ _),fun h=>absurd rfl (h _ _ _),fun h=>absurd rfl (h _ _ _),fun h=>absurd rfl (h _ _ _),fun h=>absurd rfl (h _ _ _),fun _=>dG (by kernel_rfl),fun _=>dG (by kernel_rfl),fun _=>dG (by kernel_rfl),fun _=>dG (by kernel_rfl),fun _=>dG (by kernel_rfl),fun _=>dG (by kernel_rfl),fun _=>dG (by kernel_rfl),fun _=>dG (by kernel_rfl),fun _=>dG (by kernel_rfl),fun _=>dG (by kernel_rfl),fun _=>dG (by kernel_rfl),fun _=>dG (by kernel_rfl),fun _=>dG (by kernel_rfl),fun _=>dG (by kernel_rfl),fun _=>dG (by kernel_rfl),by simp⟩
theorem X:Ctx Tryz.prog ty Γ where
 kind:=fun t=>by
  unfold Γ
  split
  ·rename_i k hk;exact kinds (t,k) (dg hk)
  ·trivial
 one:=fun t h1 h2=>by
  unfold Γ at h1 h2
  split at h1
  ·rename_i k hk;exact VJ (t,k) (dg hk) h1
  ·rename_i hk;rw[hk]at h2;exact absurd rfl h2
theorem aV(t:Tag)(h:ty t<1000000000):El Tryz.prog ty t:=by
 unfold ty at h
 split at h
 ·exact RG
 ·exact RH
 ·exact RJ
 ·exact LV
 ·exact LW
 ·exact S9
 ·exact F7
 ·exact CC
 ·exact F8
 ·exact F9
 ·exact LX
 ·exact LY
 ·exact Ga
 ·exact LZ
 ·exact Gb
 ·exact Gc
 ·exact CD
 ·exact HD
 ·exact CE
 ·exact L0
 ·exact absurd h (by decide)
abbrev So:=Sound ty Tryz.prog
end
section
theorem MO:Tryz.prog.follows .mixedOrders=true:=by kernel_rfl
theorem nb:(∀(p:Prop) [Decidable p],(decide p=true)=p)∧(∀(p:Prop) [Decidable p],(decide p=false)= ¬p)∧(∀b:Bool,((!b)=true)=(b=false))∧(∀b:Bool,((!b)=false)=(b=true))∧
  (∀(α:Type) [BEq α] [LawfulBEq α] (a b:α),((a==b)=true)=(a=b))∧(∀(α:Type) [BEq α] [LawfulBEq α] (a b:α),((a !=b)=true)=(¬a=b))∧(∀(α:Type) [BEq α] [LawfulBEq α] (a b:α),((a==b)=false)=(¬a=b))∧(∀(α:Type) [BEq α] [LawfulBEq α] (a b:α),((a !=b)=false)=(a=b))∧
  (∀(α:Type) (a b:α),(a≠b)= ¬a=b)∧(∀a b:Int,(a>b)=(b<a))∧(∀a b:Int,(a≥b)=(b≤a))∧(∀a b:Nat,(a>b)=(b<a))∧(∀a b:Nat,(a≥b)=(b≤a))∧(∀a b:Int,(¬a<b)=(b≤a))∧(∀a b:Int,(¬a≤b)=(b<a))∧
  (∀(p:Prop) [Decidable p],(¬ ¬p)=p)∧(∀n:Nat,(n:Int).toNat=n)∧(∀m n:Nat,((m:Int)<n)=(m<n))∧(∀m n:Nat,((m:Int)≤n)=(m≤n))∧(∀a b:Nat,(¬a<b)=(b≤a))∧(∀a b:Nat,(¬a≤b)=(b<a))∧
  (∀(p:Prop) [Decidable p] (b:Bool),(if p then b else false)=(decide p&&b))∧(∀(p:Prop) [Decidable p] (b:Bool),(if p then true else b)=(decide p||b))∧(∀(p:Prop) [Decidable p] (b:Bool),(if p then false else b)=(!decide p&&b))∧(∀(p:Prop) [Decidable p] (b:Bool),(if p then b else true)=(!decide p||b))∧
  (∀a b:Bool,((a&&b)=true)=(a=true∧b=true))∧(∀a b:Bool,((a||b)=true)=(a=true∨b=true))∧(∀a b:Bool,((a&&b)=false)=(a=false∨b=false))∧(∀a b:Bool,((a||b)=false)=(a=false∧b=false))∧(∀(b:Bool),decide (b=true)=b):=by
 refine⟨by simp,by simp,by simp,by simp,fun _ _ _ a b=>propext beq_iff_eq,fun _ _ _ a b=>propext bne_iff_ne,fun _ _ _ a b=>propext beq_eq_false_iff_ne,fun _ _ _ a b=>propext bne_eq_false_iff_eq,by simp,by simp,by simp,by simp,by simp,by simp,by simp,by simp,by simp,by simp,by simp,by simp,by simp,by simp,by simp,by simp,by simp,by simp,by simp,by simp,by simp,by simp⟩
theorem lens:(∀n:Nat,(n:Int).toNat=n)∧(∀(α:Type) (a b:List α),(a++b).length=a.length+b.length)∧(∀(α:Type) (a:α),[a].length=1)∧(∀(α:Type) (a:α) (l:List α),(a::l).length=l.length+1)∧(∀(α:Type),([]:List α).length=0)∧(∀(α:Type) (n:Nat) (a:α),(List.replicate n a).length=n)∧
  (∀(α:Type) (l:List α) (n:Nat) (a:α),(l.set n a).length=l.length)∧(∀(α β:Type) (f:α→β) (l:List α),(l.map f).length=l.length)∧(∀(α:Type) (l:List α) (n:Nat),(l.take n).length=min n l.length)∧(∀(α:Type) (l:List α) (n:Nat),(l.drop n).length=l.length-n)∧(∀n:Nat,(List.range n).length=n):=by
 refine⟨by simp,by simp,by simp,by simp,by simp,by simp,by simp,by simp,by simp,by simp,by simp⟩
theorem aT{p:Prop}{l:List Prop}(h:p)(k:gw l):gw (p::l):=⟨h,k⟩
theorem aL:gw []:=True.intro
theorem bw{α:Type}(l:List α)(k:Nat)(d:α)(h:k<l.length):l.take (k+1)=l.take k++ [l.getD k d]:=by
 rw[List.take_add_one,List.getD_eq_getElem?_getD,List.getElem?_eq_getElem h];rfl
theorem bK(a:Int)(n:Nat)(h:a=n)(h2:n<9223372036854775807):IntKind.i64.wrap (a+1)=((n+1:Nat):Int):=by
 subst h;rw[IntWalk.i64_in _ (by omega)];omega
theorem Mb{P:Program}{ty:Tag→Nat}{f:FuncId}{xs:List S1}{v:Value}(h:Sound ty P f xs [.a (.lit v)]){w:World}{us:List Value}(ha:bg (Cb w) xs us)(hA:A3 w:=by first|assumption|exact trivial):Calls P f us.toArray w (Rh w v):=by
 refine(h.2 w us hA ha).mono ?_
 rintro e w' ⟨u,fp,rfl,hb,_,f1,f2,⟨rfl,_⟩,_⟩
 exact⟨rfl,hb⟩
theorem dD{P:Program}{ty:Tag→Nat}{w0:bP}{c:Code}{Q:Post}{st:St}(d:Nat){t:Tag}{l:List (T t)}(h:look st.sl d=some (.one (.a (.sl t l))))(k:l.length≤9223372036854775807→W P ty w0 c Q st):W P ty w0 c Q st:=by
 intro a w iv
 obtain⟨env,g⟩:=iv.good
 obtain⟨fp,⟨oa,cap,_,h1,h2,_⟩,_⟩:=g.slot d _ h
 have e:maxLen=9223372036854775807:=by decide
 exact k (by omega) a w iv
theorem bC{P:Program}{ty:Tag→Nat}{w0:bP}{c:Code}{Q:Post}{st:St}(d i:Nat){cs:List V}{t:Tag}{l:List (T t)}(h:look st.sl d=some (.one (.agg cs)))(hc:cs[i]? =some (.sl t l))(k:l.length≤9223372036854775807→W P ty w0 c Q st):W P ty w0 c Q st:=by
 intro a w iv
 obtain⟨env,g⟩:=iv.good
 obtain⟨us,_,hr⟩:=g.slot d _ h
 obtain⟨u,_,fp,⟨oa,cap,_,h1,h2,_⟩,_⟩:=hr.at hc
 have e:maxLen=9223372036854775807:=by decide
 exact k (by omega) a w iv
theorem mY{α:Type} [DecidableEq α](a b:List α)(d:α)(k:Nat)(ha:k<a.length)(hb:k<b.length)(h:a.take k=b.take k)(he:a.getD k d=b.getD k d):a.take (k+1)=b.take (k+1):=by
 rw[bw a k d ha,bw b k d hb,h,he]
theorem rD{α:Type} [BEq α] [LawfulBEq α](a b:List α)(d:α)(k:Nat)(he:a.getD k d≠b.getD k d):(a==b)=false:=by
 rw[beq_eq_false_iff_ne];rintro rfl;exact he rfl
theorem rE{α:Type} [BEq α] [LawfulBEq α](a b:List α)(k:Nat)(hk:k=a.length)(hl:a.length=b.length)(h:a.take k=b.take k):(a==b)=true:=by
 rw[List.take_of_length_le (by omega),List.take_of_length_le (by omega)]at h
 rw[h];simp
theorem uO{α:Type} [BEq α] [LawfulBEq α](a b:List α)(hl:(a.length:Int)≠b.length):(a==b)=false:=by
 rw[beq_eq_false_iff_ne];rintro rfl;exact hl rfl
theorem Mc{x y:UInt8}(h:(x.toNat:Int)=y.toNat):x=y:=by
 have:x.toNat=y.toNat:=by omega
 exact UInt8.toNat_inj.1 this
theorem Jb(a:List UInt8):(lE a).data.toList=a:=rfl
theorem uP(a:List UInt8):(lE a).size=a.length:=rfl
theorem Ef(l:List (List UInt8)):l.map ((fun x:ByteArray=>x.data.toList)∘lE)=l:=List.map_id l
end
section
theorem Md{α:Type}(f:α→Nat)(l:List α)(d:α)(k:Nat)(h:k<l.length):((l.take (k+1)).map f).sum=((l.take k).map f).sum+f (l.getD k d):=
 Dv l f k _ (by rw[List.getD_eq_getElem?_getD,List.getElem?_eq_getElem h];rfl)
theorem PR(x:UInt8):UInt8.ofNat (Int.toNat ((x.toNat:Nat):Int))=x:=by simp
theorem gd(n:Int):0≤IntKind.u8.wrap n∧IntKind.u8.wrap n<256:=by
 unfold IntKind.wrap
 simp only[IntKind.signed,IntKind.bits]
 simp
 omega
theorem nN(x:UInt8):0≤((x.toNat:Nat):Int)∧((x.toNat:Nat):Int)<256:=by
 have:=x.toNat_lt
 omega
theorem VK(n:Int):(((UInt8.ofNat (IntKind.u8.wrap n).toNat).toNat:Nat):Int)=IntKind.u8.wrap n:=by
 have h:=gd n
 generalize IntKind.u8.wrap n=m at h
 simp
 omega
section
variable{α:Type}{mk:Int→α→α}{mn:α→Nat}
end
theorem W3{P:Program}{ty:Tag→Nat}{zb:bP}{c:Code}{Q:Post}{st:St}(st':St)(h:st=st')(k:W P ty zb c Q st'):W P ty zb c Q st:=h▸k
end
section
theorem bp{a:Int}(h: -9223372036854775808≤a∧a≤9223372036854775807):IntKind.i64.wrap a=a:=IntWalk.i64_in _ (by omega)
theorem Gd(n:Int):IntKind.u8.wrap n=n % 256:=by
 unfold IntKind.wrap
 simp only[IntKind.signed,IntKind.bits]
 simp
def b8(n:Int):UInt8:=UInt8.ofNat (IntKind.u8.wrap n).toNat
theorem tD(n:Int):((b8 n).toNat:Int)=n % 256:=by unfold b8;rw[VK,Gd]
theorem Ge{x y:UInt8}(h:(x.toNat:Int)=y.toNat):x=y:=Mc h
theorem ofNat_toNat(n:Int)(h0:0≤n)(h1:n<256):((UInt8.ofNat n.toNat).toNat:Int)=n:=by
 simp;omega
theorem ofNat_eq{n:Int}{x:UInt8}(h0:0≤n)(h1:n<256)(h:n=x.toNat):UInt8.ofNat n.toNat=x:=by
 apply Ge;rw[ofNat_toNat n h0 h1,h]
theorem zh{a b:Int}(h:a % 256=b % 256):b8 a=b8 b:=by
 apply Ge;rw[tD,tD,h]
theorem dj{a b:Int}(h:0≤a):a.tmod b=a % b:=Int.tmod_eq_emod_of_nonneg h
theorem oM{a b:Int}(h:0≤a):a.tdiv b=a/b:=Int.tdiv_eq_ediv_of_nonneg h
theorem md_eq(p q:Int)(h1:1≤q)(h2:q≤1000000000000):(IntKind.i64.wrap (p.tmod q+q)).tmod q=p % q:=by
 have hb: -q<p.tmod q∧p.tmod q<q:=⟨Int.lt_tmod_of_pos p (by omega),Int.tmod_lt_of_pos p (by omega)⟩
 rw[bp (by omega),dj (by omega),Int.add_emod_right]
 rcases Int.le_total 0 p with h|h
 ·rw[dj h,Int.emod_emod_of_dvd _ (Int.dvd_refl q)]
 ·have e:p.tmod q=p-q*p.tdiv q:=by have:=Int.tmod_add_mul_tdiv p q;omega
  rw[e,Int.sub_mul_emod_self_left]
def hs1(h v:Int):Int:=(h*1000003+v % 2147483647+13)% 2147483647
def hsh(l:List Int):Int:=l.foldl hs1 11
def kh(k:Int)(l:List Int):Int:=hsh (k::(l++ [k]))
theorem Jc(h v:Int):0≤hs1 h v∧hs1 h v<2147483647:=⟨Int.emod_nonneg _ (by decide),Int.emod_lt_of_pos _ (by decide)⟩
theorem j0{α β:Type}(f:β→α→β)(b:β)(l:List α)(k:Nat)(d:α)(h:k<l.length):(l.take (k+1)).foldl f b=f ((l.take k).foldl f b) (l.getD k d):=by
 rw[bw l k d h,List.foldl_append];rfl
theorem uQ: ∀l:List Int,0≤hsh l∧hsh l<2147483647:=by
 have g: ∀(l:List Int) (a:Int),(0≤a∧a<2147483647)→0≤l.foldl hs1 a∧l.foldl hs1 a<2147483647:=by
  intro l
  induction l with
  |nil=>intro a h;exact h
  |cons x r ih=>intro a _;exact ih _ (Jc a x)
 exact fun l=>g l 11 (by decide)
theorem cP(k:Int)(l:List Int):0≤kh k l∧kh k l<2147483647:=uQ _
theorem Tf{h v:Int}(h0:0≤h)(h1:h<2147483647):(IntKind.i64.wrap (IntKind.i64.wrap (IntKind.i64.wrap (h*1000003)+v % 2147483647)+13)).tmod 2147483647=hs1 h v:=by
 have hv:0≤v % 2147483647∧v % 2147483647<2147483647:=⟨Int.emod_nonneg _ (by decide),Int.emod_lt_of_pos _ (by decide)⟩
 rw[bp (a:=h*1000003) (by omega),bp (a:=h*1000003+v % 2147483647) (by omega),bp (by omega),dj (by omega)]
 rfl
def Aw(n:Int):Int:=if n=0 then 1 else n
theorem xz{n:Int}(h:0≤n):(if n>1 then n else 1)=Aw n:=by
 unfold Aw;split<;>split<;>omega
theorem qb{n:Int}(h:0≤n∧n<2147483647):1≤Aw n∧Aw n<2147483647:=by unfold Aw;split<;>omega
theorem VL{h:Int}(h0:0≤h)(h1:h<2147483647):0≤h*h∧h*h≤4611686009837453316:=by
 have:=Int.mul_le_mul (show h≤2147483646 by omega) (show h≤2147483646 by omega) h0 (by decide)
 exact⟨Int.mul_nonneg h0 h0,by omega⟩
def cs(s k:Int):Int:=(kh s [47,k]*kh s [47,k]+5)% 2147483647
theorem tE(s k:Int):0≤cs s k∧cs s k<2147483647:=⟨Int.emod_nonneg _ (by decide),Int.emod_lt_of_pos _ (by decide)⟩
theorem cs_eq{h:Int}(h0:0≤h)(h1:h<2147483647):(IntKind.i64.wrap (IntKind.i64.wrap (h*h)+5)).tmod 2147483647=(h*h+5)% 2147483647:=by
 have:=VL h0 h1
 rw[bp (a:=h*h) (by omega),bp (by omega),dj (by omega)]
theorem Yd{x:Int}(h:0≤x):IntKind.i64.wrap (BitVec.ofInt IntKind.i64.bits x&&&BitVec.ofInt IntKind.i64.bits 1).toNat=x % 2:=by
 obtain⟨n,rfl⟩:=Int.eq_ofNat_of_zero_le h
 have e:(BitVec.ofInt IntKind.i64.bits (n:Int)&&&BitVec.ofInt IntKind.i64.bits 1).toNat=n % 2:=by
  rw[BitVec.toNat_and]
  have h1:(BitVec.ofInt IntKind.i64.bits 1).toNat=1:=by decide
  have h2:(BitVec.ofInt IntKind.i64.bits (n:Int)).toNat=n % 2^64:=by
   rw[BitVec.ofInt_natCast,BitVec.toNat_ofNat];rfl
  rw[h1,h2,Nat.and_one_is_mod]
  omega
 rw[e,bp (by omega)]
 omega
def VM(h:Int):Int:=h*h % 2147483647/512 % 2
theorem Tg{h:Int}(h0:0≤h)(h1:h<2147483647):IntKind.i64.wrap (BitVec.ofInt IntKind.i64.bits (((IntKind.i64.wrap (h*h)).tmod 2147483647).fdiv (2^(min (Int.toNat 9) IntKind.i64.bits)))&&&BitVec.ofInt IntKind.i64.bits 1).toNat=VM h:=by
 have:=VL h0 h1
 have e:(2:Int)^(min (Int.toNat 9) IntKind.i64.bits)=512:=by decide
 rw[bp (a:=h*h) (by omega),dj (by omega),e,Int.fdiv_eq_ediv_of_nonneg _ (by decide)]
 have hm:0≤h*h % 2147483647:=Int.emod_nonneg _ (by decide)
 rw[Yd (by omega)]
 rfl
theorem Jd(h:Int):VM h=0∨VM h=1:=by unfold VM;omega
def gx:List UInt8→List UInt8→List UInt8
 | [],b=>b
 |a,[]=>a
 |x::a,y::b=>(x^^^y)::gx a b
theorem zi(a:List UInt8):gx a []=a:=by cases a<;>rfl
theorem AH(a:List UInt8):gx [] a=a:=by cases a<;>rfl
theorem eO: ∀a b:List UInt8,(gx a b).length=max a.length b.length
 | [],b=>by simp[gx]
 |x::a,[]=>by simp[gx]
 |x::a,y::b=>by simp[gx,eO a b]
theorem PS(x y:UInt8):UInt8.ofNat (IntKind.u8.wrap ((BitVec.ofInt IntKind.u8.bits (x.toNat:Int)^^^BitVec.ofInt IntKind.u8.bits (y.toNat:Int)).toNat:Int)).toNat=x^^^y:=by
 have h:(BitVec.ofInt IntKind.u8.bits (x.toNat:Int)^^^BitVec.ofInt IntKind.u8.bits (y.toNat:Int)).toNat=(x^^^y).toNat:=by
  rw[BitVec.ofInt_natCast,BitVec.ofInt_natCast,BitVec.toNat_xor,BitVec.toNat_ofNat,BitVec.toNat_ofNat,UInt8.toNat_xor]
  have hx:=x.toNat_lt
  have hy:=y.toNat_lt
  show x.toNat % 2^8^^^y.toNat % 2^8=_
  rw[Nat.mod_eq_of_lt (by omega),Nat.mod_eq_of_lt (by omega)]
 rw[h,Gd]
 apply ofNat_eq<;>have:=(x^^^y).toNat_lt<;>omega
def PT(l:List UInt8)(i:Nat):UInt8:=l.getD i 0
theorem qc: ∀(a b:List UInt8) (k:Nat),k<max a.length b.length→(gx a b).take (k+1)=(gx a b).take k++ [PT a k^^^PT b k]
 | [],b,k,h=>by
   rw[AH,bw b k 0 (by simpa using h)]
   simp[PT]
 |x::a,[],k,h=>by
  rw[zi,bw (x::a) k 0 (by simpa using h)]
  simp[PT]
 |x::a,y::b,0,h=>by simp[gx,PT]
 |x::a,y::b,k+1,h=>by
  rw[gx,List.take_succ_cons,List.take_succ_cons,qc a b k (by simp at h;omega)]
  simp[PT]
theorem jM{α:Type}(l:List α)(k:Nat)(d:α)(h:k<l.length):l.drop k=l.getD k d::l.drop (k+1):=by
 rw[List.drop_eq_getElem_cons h,List.getD_eq_getElem?_getD,List.getElem?_eq_getElem h];rfl
theorem zj{α:Type}(f l:List α)(k:Nat)(d y:α)(h:k<l.length)(hf:k<f.length)(hy:f.getD k d=y):(f.take k++l.drop k).set k y=f.take (k+1)++l.drop (k+1):=by
 have hk:(f.take k).length=k:=by rw[List.length_take];omega
 rw[List.set_append_right _ _ (by omega),hk,Nat.sub_self,jM l k d h,List.set_cons_zero,bw f k d hf,List.append_assoc,hy]
 rfl
theorem tF{α:Type}(f l:List α)(k:Nat)(d:α)(hf:k≤f.length):(f.take k++l.drop k).getD k d=l.getD k d:=by
 have hk:(f.take k).length=k:=by rw[List.length_take];omega
 rw[List.getD_eq_getElem?_getD,List.getElem?_append_right (by omega),hk,Nat.sub_self,List.getElem?_drop,List.getD_eq_getElem?_getD,Nat.add_zero]
theorem tG{α:Type}(f l:List α)(k:Nat)(hf:f.length=l.length)(h:k≤l.length):(f.take k++l.drop k).length=l.length:=by
 rw[List.length_append,List.length_take,List.length_drop];omega
theorem oN{α β:Type}(f:α→β)(l:List α)(k:Nat)(d:α)(h:k<l.length):(l.take (k+1)).map f=(l.take k).map f++ [f (l.getD k d)]:=by
 rw[bw l k d h,List.map_append];rfl
theorem rF{β:Type}(f:Nat→β)(k:Nat):(List.range (k+1)).map f=(List.range k).map f++ [f k]:=by
 rw[List.range_succ,List.map_append];rfl
theorem oO{α:Type}(p:α→Bool)(l:List α)(k:Nat)(d:α)(h:k<l.length):(l.take (k+1)).all p=((l.take k).all p&&p (l.getD k d)):=by
 rw[bw l k d h,List.all_append];simp
theorem Me{α:Type}(p:α→Bool)(l:List α)(k:Nat)(d:α)(h:k<l.length):(l.take (k+1)).any p=((l.take k).any p||p (l.getD k d)):=by
 rw[bw l k d h,List.any_append];simp
theorem xA{α:Type}(l:List α)(p:α→Bool)(d:α)(k:Nat)(h:k<l.length)(h2:p (l.getD k d)=true):l.any p=true:=by
 rw[List.any_eq_true]
 refine⟨l.getD k d,?_,h2⟩
 rw[List.getD_eq_getElem?_getD,List.getElem?_eq_getElem h];simp
theorem zk{α:Type}(l:List α)(p:α→Bool)(d:α)(k:Nat)(h:k<l.length)(h2:p (l.getD k d)=false):l.all p=false:=by
 rw[List.all_eq_false]
 refine⟨l.getD k d,?_,by rw[h2];decide⟩
 rw[List.getD_eq_getElem?_getD,List.getElem?_eq_getElem h];simp
theorem rG{α:Type}(l:List α)(k:Nat)(d:α)(h:k<l.length):l[k]? =some (l.getD k d):=by
 rw[List.getD_eq_getElem?_getD,List.getElem?_eq_getElem h];rfl
theorem bJ{α:Type}(l:List α)(k:Nat):(l.take k).length≤k:=by rw[List.length_take];omega
def inr(x lo hi:Int):Bool:=if decide (x≥lo)then decide (x≤hi)else false
theorem bT{x lo hi:Int}:(inr x lo hi=true)=(lo≤x∧x≤hi):=by simp[inr]
theorem RK{x lo hi:Int}:(inr x lo hi=false)= ¬(lo≤x∧x≤hi):=by rw[←bT];simp
theorem Je{α:Type}{l:List α}:(l.isEmpty=true)=(l= []):=by simp
theorem aX:((∀(p:Prop) [Decidable p],(decide p=true)=p)∧(∀(p:Prop) [Decidable p],(decide p=false)= ¬p)∧(∀b:Bool,((!b)=true)=(b=false))∧(∀b:Bool,((!b)=false)=(b=true))∧(∀(α:Type) [BEq α] [LawfulBEq α] (a b:α),((a==b)=true)=(a=b))∧(∀(α:Type) [BEq α] [LawfulBEq α] (a b:α),((a !=b)=true)=(¬a=b))∧(∀(α:Type) [BEq α] [LawfulBEq α] (a b:α),((a==b)=false)=(¬a=b))∧(∀(α:Type) [BEq α] [LawfulBEq α] (a b:α),((a !=b)=false)=(a=b))∧(∀(α:Type) (a b:α),(a≠b)= ¬a=b)∧(∀a b:Int,(a>b)=(b<a))∧(∀a b:Int,(a≥b)=(b≤a))∧(∀a b:Nat,(a>b)=(b<a))∧(∀a b:Nat,(a≥b)=(b≤a))∧(∀a b:Int,(¬a<b)=(b≤a))∧(∀a b:Int,(¬a≤b)=(b<a))∧(∀(p:Prop) [Decidable p],(¬ ¬p)=p)∧(∀n:Nat,(n:Int).toNat=n)∧(∀m n:Nat,((m:Int)<n)=(m<n))∧(∀m n:Nat,((m:Int)≤n)=(m≤n))∧(∀a b:Nat,(¬a<b)=(b≤a))∧(∀a b:Nat,(¬a≤b)=(b<a))∧(∀(p:Prop) [Decidable p] (b:Bool),(if p then b else false)=(decide p&&b))∧(∀(p:Prop) [Decidable p] (b:Bool),(if p then true else b)=(decide p||b))∧(∀(p:Prop) [Decidable p] (b:Bool),(if p then false else b)=(!decide p&&b))∧(∀(p:Prop) [Decidable p] (b:Bool),(if p then b else true)=(!decide p||b))∧(∀a b:Bool,((a&&b)=true)=(a=true∧b=true))∧(∀a b:Bool,((a||b)=true)=(a=true∨b=true))∧(∀a b:Bool,((a&&b)=false)=(a=false∨b=false))∧(∀a b:Bool,((a||b)=false)=(a=false∧b=false))∧(∀(b:Bool),decide (b=true)=b))∧(∀x lo hi:Int,(inr x lo hi=true)=(lo≤x∧x≤hi))∧(∀x lo hi:Int,(inr x lo hi=false)= ¬(lo≤x∧x≤hi))∧(∀(α:Type) (l:List α),(l.isEmpty=true)=(l= [])):=⟨nb,fun _ _ _=>bT,fun _ _ _=>RK,fun _ _=>Je⟩
theorem Eg(l:List Int)(k:Nat)(h:k<l.length):hsh (l.take (k+1))=(IntKind.i64.wrap (IntKind.i64.wrap (IntKind.i64.wrap (hsh (l.take k)*1000003)+(l.getD k (aA .int))% 2147483647)+13)).tmod 2147483647:=by
 rw[Tf (uQ _).1 (uQ _).2]
 exact j0 hs1 11 l k _ h
def Gf(l:List UInt8):List Int:=(l.length:Int)::l.map fun c=>(c.toNat:Int)
theorem Mf(l:List UInt8)(k:Nat)(h:k<l.length):(l.length:Int)::(l.take (k+1)).map (fun c=>(c.toNat:Int))=((l.length:Int)::(l.take k).map (fun c=>(c.toNat:Int)))++ [IntKind.i64.wrap ((l.getD k (aA .u8)).toNat:Int)]:=by
 have:=(l.getD k (aA .u8)).toNat_lt
 rw[bp (by omega),oN (fun c:UInt8=>(c.toNat:Int)) l k (aA .u8) h]
 rfl
def stream(s:Int)(n:Nat):List UInt8:=(List.range n).map fun i:Nat=>b8 (cs s (100+(i:Int))/256)
theorem dO(s:Int)(n:Nat):(stream s n).length=n:=by simp[stream]
theorem wj(s:Int)(k:Nat)(h:k≤1000):stream s (k+1)=stream s k++ [UInt8.ofNat (IntKind.u8.wrap (IntKind.i64.wrap ((cs s (IntKind.i64.wrap (100+(k:Int)))).tdiv 256))).toNat]:=by
 have h1:=tE s (100+(k:Int))
 rw[bp (a:=100+(k:Int)) (by omega),oM h1.1,bp (by omega)]
 exact rF (fun i:Nat=>b8 (cs s (100+(i:Int))/256)) k
theorem Eh{α:Type}(l:List (List α))(d:List α)(k:Nat)(h:k<l.length):((l.take (k+1)).map List.length).sum=((l.take k).map List.length).sum+(l.getD k d).length:=Md List.length l d k h
theorem CF{α:Type}(l:List (List α))(d:List α)(k:Nat)(h:k<l.length):(l.take (k+1)).flatten=(l.take k).flatten++l.getD k d:=by
 rw[bw l k d h,List.flatten_append];simp
theorem wk{α:Type}(l:List (List α))(k:Nat):(l.take k).flatten.length≤(l.map List.length).sum:=by
 rw[List.length_flatten];exact iP l List.length k
end
section
theorem CH{α:Type}(f l:List α)(k:Nat)(d y:α)(h:k<l.length)(hf:f.length=l.length)(hy:f.getD k d=y):f.take (k+1)++l.drop (k+1)=(f.take k++l.drop k).set k y:=(zj f l k d y h (by omega) hy).symm
theorem wm{α:Type}(f:List α)(k:Nat)(d y:α)(h:k<f.length)(hy:f.getD k d=y):f.take (k+1)=f.take k++ [y]:=by rw[bw f k d h,hy]
theorem CI{α:Type}(f l:List α)(k:Nat)(hf:f.length=l.length)(h:l.length≤k):f.take k++l.drop k=f:=by
 rw[List.take_of_length_le (by omega),List.drop_eq_nil_of_le h,List.append_nil]
theorem dH{β:Type}(n:Nat)(g:Nat→β)(k:Nat)(d:β)(h:k<n):((List.range n).map g).getD k d=g k:=by
 rw[List.getD_eq_getElem?_getD,List.getElem?_map,List.getElem?_range h];rfl
def ji(s:Int)(l:List UInt8):List UInt8:=(List.range l.length).map fun i:Nat=>b8 ((l.getD i (aA .u8)).toNat+kh s [(i:Int)]% 256)
theorem gf(s:Int)(l:List UInt8):(ji s l).length=l.length:=by simp[ji]
theorem Em(s:Int)(l:List UInt8)(k:Nat)(h:k<l.length):(ji s l).getD k (aA .u8)=b8 ((l.getD k (aA .u8)).toNat+kh s [(k:Int)]% 256):=dH _ _ k _ h
theorem Jf(s:Int)(l:List UInt8)(k:Nat)(h:k<l.length):(ji s l).take (k+1)++l.drop (k+1)=((ji s l).take k++l.drop k).set k (UInt8.ofNat (IntKind.u8.wrap ((((ji s l).take k++l.drop k).getD k (aA .u8)).toNat+IntKind.u8.wrap ((kh s [(k:Int)]).tmod 256))).toNat):=by
 refine CH _ _ k (aA .u8) _ h (gf s l) ?_
 rw[Em s l k h,tF _ _ _ _ (by rw[gf];omega)]
 refine zh ?_
 have:=cP s [(k:Int)]
 rw[Gd ((kh s [(k:Int)]).tmod 256),dj this.1]
 omega
theorem Jg(s:Int)(l:List UInt8)(k:Nat)(h:k<l.length):(ji s l).take (k+1)=(ji s l).take k++ [UInt8.ofNat (IntKind.u8.wrap ((IntKind.i64.wrap (IntKind.i64.wrap ((l.getD k (aA .u8)).toNat:Int)+(kh s [(k:Int)]).tmod 256)).tmod 256)).toNat]:=by
 refine wm _ k (aA .u8) _ (by rw[gf];exact h) ?_
 rw[Em s l k h]
 refine zh ?_
 have:=cP s [(k:Int)]
 have hx:=(l.getD k (aA .u8)).toNat_lt
 rw[dj this.1,bp (a:=((l.getD k (aA .u8)).toNat:Int)) (by omega),bp (by omega),dj (by omega)]
 omega
def decr(s:Int)(l:List UInt8):List UInt8:=(List.range l.length).map fun i:Nat=>b8 ((l.getD i (aA .u8)).toNat-kh s [(i:Int)]% 256)
theorem zm(s:Int)(l:List UInt8):(decr s l).length=l.length:=by simp[decr]
theorem Mk(s:Int)(l:List UInt8)(k:Nat)(h:k<l.length):(decr s l).getD k (aA .u8)=b8 ((l.getD k (aA .u8)).toNat-kh s [(k:Int)]% 256):=dH _ _ k _ h
theorem Jh(s:Int)(l:List UInt8)(k:Nat)(h:k<l.length):(decr s l).take (k+1)=(decr s l).take k++ [UInt8.ofNat (IntKind.u8.wrap ((IntKind.i64.wrap (IntKind.i64.wrap ((l.getD k (aA .u8)).toNat:Int)-(kh s [(k:Int)]).tmod 256))% 256)).toNat]:=by
 refine wm _ k (aA .u8) _ (by rw[zm];exact h) ?_
 rw[Mk s l k h]
 refine zh ?_
 have:=cP s [(k:Int)]
 have hx:=(l.getD k (aA .u8)).toNat_lt
 rw[dj this.1,bp (a:=((l.getD k (aA .u8)).toNat:Int)) (by omega),bp (by omega)]
 omega
theorem Tk(a b:List UInt8)(k:Nat)(ha:k<a.length)(hb:k<b.length):(gx a b).take (k+1)=(gx a b).take k++ [UInt8.ofNat (IntKind.u8.wrap ((BitVec.ofInt IntKind.u8.bits ((a.getD k (aA .u8)).toNat:Int)^^^BitVec.ofInt IntKind.u8.bits ((b.getD k (aA .u8)).toNat:Int)).toNat:Int)).toNat]:=by
 rw[qc a b k (by omega),PS];rfl
theorem En{α:Type}(l:List α)(k:Nat)(d:α)(h:l.length≤k):l.getD k d=d:=by
 rw[List.getD_eq_getElem?_getD,List.getElem?_eq_none h];rfl
theorem VN(a b:List UInt8)(k:Nat)(ha:k<a.length)(hb:b.length≤k):(gx a b).take (k+1)=(gx a b).take k++ [UInt8.ofNat (((a.getD k (aA .u8)).toNat:Int)).toNat]:=by
 rw[qc a b k (by omega),PR]
 have:PT b k=0:=En b k 0 hb
 rw[this];simp;rfl
theorem VO(a b:List UInt8)(k:Nat)(ha:a.length≤k)(hb:k<b.length):(gx a b).take (k+1)=(gx a b).take k++ [UInt8.ofNat (IntKind.u8.wrap ((BitVec.ofInt IntKind.u8.bits (0:Int)^^^BitVec.ofInt IntKind.u8.bits ((b.getD k (aA .u8)).toNat:Int)).toNat:Int)).toNat]:=by
 rw[qc a b k (by omega)]
 have:PT a k=0:=En a k 0 ha
 rw[this]
 have:=PS 0 (b.getD k (aA .u8))
 rw[show((0:UInt8).toNat:Int)=0 from rfl]at this
 rw[this];rfl
theorem Gh{l:List (List UInt8)}(h:dc List.length l≤1048576)(k:Nat)(hk:k<l.length):(l.getD k (aA (.sl .u8))).length≤1048576:=iM h (rG l k _ hk)
def fD(key round dir rows:Int):Int:=if(1≤rows∧rows≤64)∧0≤round∧round≤1000000000000 then cs (kh key [79,round,dir]) 0 % rows else-1
def Eo(seed round rows:Int):Int:=if 1≤rows∧rows≤64 then cs (kh seed [157,round]) 0 % rows else-1
def lM(key counter:Int)(data:List UInt8):Int:=kh key ([71,counter]++data.map fun c=>(c.toNat:Int))
theorem HH(l:List UInt8)(counter:Int)(k:Nat)(h:k<l.length): [71,counter]++(l.take (k+1)).map (fun c=>(c.toNat:Int))=([71,counter]++(l.take k).map (fun c=>(c.toNat:Int)))++ [IntKind.i64.wrap ((l.getD k (aA .u8)).toNat:Int)]:=by
 have:=(l.getD k (aA .u8)).toNat_lt
 rw[bp (by omega),oN (fun c:UInt8=>(c.toNat:Int)) l k (aA .u8) h,List.append_assoc]
def four(n:Int):List UInt8:= [b8 n,b8 (n/256),b8 (n/65536),b8 (n/16777216)]
theorem HI(n:Int): [UInt8.ofNat (IntKind.u8.wrap n).toNat,UInt8.ofNat (IntKind.u8.wrap (n.fdiv (2^(min (Int.toNat 8) IntKind.i64.bits)))).toNat,UInt8.ofNat (IntKind.u8.wrap (n.fdiv (2^(min (Int.toNat 16) IntKind.i64.bits)))).toNat,UInt8.ofNat (IntKind.u8.wrap (n.fdiv (2^(min (Int.toNat 24) IntKind.i64.bits)))).toNat]=four n:=by
 have e1:(2:Int)^(min (Int.toNat 8) IntKind.i64.bits)=256:=by decide
 have e2:(2:Int)^(min (Int.toNat 16) IntKind.i64.bits)=65536:=by decide
 have e3:(2:Int)^(min (Int.toNat 24) IntKind.i64.bits)=16777216:=by decide
 rw[e1,e2,e3,Int.fdiv_eq_ediv_of_nonneg _ (by decide),Int.fdiv_eq_ediv_of_nonneg _ (by decide),Int.fdiv_eq_ediv_of_nonneg _ (by decide)]
 rfl
def jB(p:Plain):Bool:=(inr p.kind 0 3)&&decide ((p.body.length:Int)≤14)
def ez(k:Int):Bool:=inr k 1 2147483646
def gz(key counter:Int)(p:Plain):Bool:=ez key&&(inr counter 0 1000000000000)&&jB p
def eF(key counter:Int)(p:Plain):List UInt8:= [b8 p.kind,b8 p.body.length]++p.body++(stream (kh key [61,counter]) 18).drop p.body.length
def lN(key counter:Int):Int:=Aw (kh key [67,counter])
def oQ(key counter:Int)(p:Plain):List UInt8:=if gz key counter p then ji (lN key counter) (eF key counter p)++four (lM key counter (ji (lN key counter) (eF key counter p)))else []
def rI(key dir:Int):Int:=Aw (kh key [83,dir])
def cover(seed:Int):List UInt8:=stream (kh seed [73]) 24
end
section
theorem Tl(b c:Bool):(if b=true then true else c)=(b||c):=by cases b<;>rfl
theorem oR(b c:Bool):(if b=true then c else false)=(b&&c):=by cases b<;>rfl
theorem PV(a b:Int):(!decide (a<b))=decide (b≤a):=by rw[←decide_not];congr 1;exact propext Int.not_lt
theorem PW(a b:Int):(!decide (a≤b))=decide (b<a):=by rw[←decide_not];congr 1;exact propext Int.not_le
theorem bne_not(a b:Int):(a !=b)= !(a==b):=rfl
theorem deq(a b:Int):decide (a=b)=(a==b):=rfl
theorem aQ:(∀b c:Bool,(if b=true then true else c)=(b||c))∧(∀b c:Bool,(if b=true then c else false)=(b&&c))∧(∀a b:Int,a>b↔b<a)∧(∀a b:Nat,a>b↔b<a)∧(∀a b:Int,a≥b↔b≤a)∧(∀a b:Nat,a≥b↔b≤a)∧(∀a b:Int,(!decide (a<b))=decide (b≤a))∧(∀a b:Int,(!decide (a≤b))=decide (b<a))∧(∀a b:Int,(a !=b)= !(a==b))∧(∀a b:Int,decide (a=b)=(a==b))∧(∀(p:Prop) [Decidable p] [Decidable (¬p)],decide (¬p)= !decide p)∧(∀(α:Type) (a b:α),(a≠b)= ¬a=b)∧(∀a b:Bool,(!(a&&b))=(!a|| !b))∧(∀a b:Bool,(!(a||b))=(!a&& !b))∧(∀b:Bool,(!!b)=b)∧(∀b:Bool,(b&&true)=b)∧(∀b:Bool,(true&&b)=b)∧(∀b:Bool,(b||false)=b)∧(∀b:Bool,(false||b)=b)∧(∀n:Nat,(n:Int).toNat=n):=⟨Tl,oR,fun _ _=>Iff.rfl,fun _ _=>Iff.rfl,fun _ _=>Iff.rfl,fun _ _=>Iff.rfl,PV,PW,bne_not,deq,fun _=>decide_not,fun _ _ _=>rfl,Bool.not_and,Bool.not_or,Bool.not_not,Bool.and_true,Bool.true_and,Bool.or_false,Bool.false_or,Int.toNat_natCast⟩
theorem VP{E R S:Bool}(h:E=true)(he:E= !R):(R&&S)=false:=by
 rw[h]at he
 cases R with
 |false=>rfl
 |true=>exact absurd he (by decide)
theorem bN{E R:Bool}(h:E=true)(he:E= !R):R=false:=by
 rw[h]at he
 cases R with
 |false=>rfl
 |true=>exact absurd he (by decide)
theorem bM{E R:Bool}(h:E=false)(he:E= !R):R=true:=by
 rw[h]at he
 cases R with
 |true=>rfl
 |false=>exact absurd he (by decide)
def b9(d:DB):Bool:=decide ((d.rows.length:Int)≤64)&&d.rows.all fun r=>decide ((r.length:Int)=24)
def j8(rows:Int)(l:List aM)(i:Nat):Bool:=inr (l.getD i (aA .aM)).client 0 7&& !(decide ((0:Int)<i)&&decide ((l.getD i (aA .aM)).client≤(l.getD (i-1) (aA .aM)).client))&&b9 (l.getD i (aA .aM)).share&&(((l.getD i (aA .aM)).share.rows.length:Int)==rows)
def qV(s:bl):Bool:=inr s.id 0 3&&inr s.rows 1 64&&inr s.behavior 0 3&&inr s.round 0 100000&&decide ((s.received.length:Int)≤8)
def bZ(s:bl):Bool:=qV s&&(List.range s.received.length).all (j8 s.rows s.received)
def mZ(rows:Int)(l:List aC)(i:Nat):Bool:=inr (l.getD i (aA .aC)).round 0 100000&& !(decide ((0:Int)<i)&&decide ((l.getD i (aA .aC)).round≤(l.getD (i-1) (aA .aC)).round))&&b9 (l.getD i (aA .aC)).db&&(((l.getD i (aA .aC)).db.rows.length:Int)==rows)
def zv(a:gH):Bool:=inr a.rows 1 64&&decide ((a.rounds.length:Int)≤8)
def dW(a:gH):Bool:=zv a&&(List.range a.rounds.length).all (mZ a.rows a.rounds)
def cW(a:gH):Int:=if a.rounds.length=0 then-1 else(a.rounds.getD (a.rounds.length-1) (aA .aC)).round
def uU(b:List UInt8):Bool:=decide ((14:Int)<b.length)
def cG(c:cX):Bool:=inr c.id 0 7&&inr c.dF 0 7&& !(c.id==c.dF)&&ez c.key&&decide ((c.aE.length:Int)≤16)&&decide ((c.inbox.length:Int)≤16)&& !c.aE.any uU&& !c.inbox.any uU&&inr c.sent 0 c.aE.length&&inr c.next 0 100000
def gQ(a b:cX):Bool:=(a.id==b.id)&&(a.dF==b.dF)&&(a.key==b.key)&&(a.seed==b.seed)&&(a.aE==b.aE)
def qH(a b:List (List UInt8)):Bool:=decide ((a.length:Int)≤b.length)&&(a==b.take a.length)
def cE(d:aS):Bool:=cG d.live&&cG d.saved&&gQ d.live d.saved&&decide (d.saved.sent≤d.live.sent)&&decide (d.saved.next≤d.live.next)&&qH d.saved.inbox d.live.inbox
def cg(n:Int):Bool:=inr n 2 4
def Bs(x:aR)(i:Nat):Bool:=bZ (x.aj.getD i (aA .bl))&&((x.aj.getD i (aA .bl)).id==(i:Int))&&((x.aj.getD i (aA .bl)).rows==x.rows)&&((x.aj.getD i (aA .bl)).round==x.round)&&decide (((x.aj.getD i (aA .bl)).received.length:Int)≤0)
def okD(x:aR)(i:Nat):Bool:=cE (x.aa.getD i (aA .aS))&&((x.aa.getD i (aA .aS)).live.id==(i:Int))&&((x.aa.getD i (aA .aS)).live.dF==((i^^^1:Nat):Int))&&((x.aa.getD i (aA .aS)).live.key==(x.aa.getD (i^^^1) (aA .aS)).live.key)&&decide ((x.aa.getD i (aA .aS)).live.next≤x.round)
def Ep(x:aR):Bool:=inr x.rows 1 64&&cg x.aj.length&&inr x.aa.length 2 8&&((x.aa.length:Int).tmod 2==0)&&dW x.az&&(x.az.rows==x.rows)&&decide (cW x.az<x.round)&&ez x.bh&&inr x.round 0 100000&&decide (0≤x.cancelled)
def okW(x:aR):Bool:=Ep x&&(List.range x.aj.length).all (Bs x)&&(List.range x.aa.length).all (okD x)
theorem eV{p:Nat→Bool}{k:Nat}(h:(List.range k).all p=true)(hk:p k=true):(List.range (k+1)).all p=true:=by
 rw[List.range_succ,List.all_append,h];simp[hk]
theorem gj{p:Nat→Bool}{k n:Nat}(h:k<n)(hk:p k=false):(List.range n).all p=false:=by
 rw[List.all_eq_false]
 exact⟨k,List.mem_range.2 h,by rw[hk];decide⟩
def fidx{α:Type}(p:α→Bool)(l:List α):Int:=if l.any p then(l.findIdx p:Int)else-1
theorem zw{α:Type}{p:α→Bool}{l:List α}{k:Nat}(d:α)(h:k<l.length)(h1:(l.take k).any p=false)(h2:p (l.getD k d)=true):fidx p l=k:=by
 have ha:l.any p=true:=xA l p d k h h2
 have e:l=l.take k++l.getD k d::l.drop (k+1):=by rw[←jM l k d h,List.take_append_drop]
 unfold fidx
 rw[if_pos ha]
 have hf:l.findIdx p=k:=by
  rw[List.findIdx_eq h]
  refine⟨?_,fun j hj=> ?_⟩
  ·rw[List.getD_eq_getElem?_getD,List.getElem?_eq_getElem h]at h2;exact h2
  ·rw[List.any_eq_false]at h1
   have:=h1 l[j] (by rw[List.mem_take_iff_getElem];exact⟨j,by omega,rfl⟩)
   simpa using this
 rw[hf]
theorem Ji{α:Type}{p:α→Bool}{l:List α}(h:l.any p=false):fidx p l= -1:=by unfold fidx;rw[if_neg (by rw[h];decide)]
theorem PX{α:Type}(p:α→Bool)(l:List α):decide (fidx p l≥0)=l.any p:=by
 unfold fidx
 cases h:l.any p
 ·rw[if_neg (by decide)];rfl
 ·rw[if_pos rfl];simp
theorem CJ{α:Type}{p:α→Bool}{l:List α}{k:Nat}(d:α)(h:k<l.length)(h1:(l.take k).any p=false)(h2:p (l.getD k d)=false):(l.take (k+1)).any p=false:=by
 rw[Me p l k d h,h1,h2];rfl
theorem Er{α:Type}(l:List α)(p:α→Bool):l.all p= !(l.any fun b=> !p b):=by
 induction l with
 |nil=>rfl
 |cons a r ih=>simp[ih]
end
section
theorem rJ(k n:Nat)(h:k<n)(he:n % 2=0):k^^^1<n:=by
 have h1:(k^^^1)/2=k/2:=by
  have:=Nat.xor_div_two (a:=k) (b:=1)
  simpa using this
 have h2:k^^^1<2*(k/2)+2:=by
  have:=Nat.div_add_mod (k^^^1) 2
  have:=Nat.mod_lt (k^^^1) (show 0<2 by decide)
  omega
 omega
theorem Es(k:Nat)(h:k<2^62):IntKind.i64.wrap (BitVec.ofInt IntKind.i64.bits (k:Int)^^^BitVec.ofInt IntKind.i64.bits 1).toNat=((k^^^1:Nat):Int):=by
 have h2:(BitVec.ofInt IntKind.i64.bits (k:Int)^^^BitVec.ofInt IntKind.i64.bits 1).toNat=k^^^1:=by
  rw[BitVec.toNat_xor]
  have h1:(BitVec.ofInt IntKind.i64.bits 1).toNat=1:=by decide
  have h2:(BitVec.ofInt IntKind.i64.bits (k:Int)).toNat=k % 2^64:=by rw[BitVec.ofInt_natCast,BitVec.toNat_ofNat];rfl
  rw[h1,h2,Nat.mod_eq_of_lt (by omega)]
 have hx:=Nat.xor_lt_two_pow (n:=62) h (show 1<2^62 by decide)
 rw[h2,bp (by omega)]
theorem tL{x:aR}(h:Ep x=true):x.aa.length % 2=0∧x.aa.length≤8∧2≤x.aa.length:=by
 simp only[Ep,bT,Bool.and_eq_true,beq_iff_eq]at h
 have h1:=h.1.1.1.1.1.1.2
 have h2:=h.1.1.1.1.1.1.1.2
 rw[dj (by omega)]at h1
 omega
theorem lR{x:aR}(h:okW x=true):Ep x=true:=by simp only[okW,Bool.and_eq_true]at h;exact h.1.1
theorem dZ{x:aR}(h:okW x=true):x.aj.length≤4∧2≤x.aj.length:=by
 have:=lR h
 simp only[Ep,cg,bT,Bool.and_eq_true,beq_iff_eq]at this
 have h1:=this.1.1.1.1.1.1.1.1.2
 omega
def UG(x:aR):Bool:=(List.range x.aj.length).all (Bs x)&&cg x.aj.length
def RM(x:aR):Bool:=((x.aa.length:Int).tmod 2==0)&&inr x.aa.length 2 8&&(List.range x.aa.length).all (okD x)
def jC(x:aR)(c:Int):Bool:=inr c 0 (x.aa.length-1)
def dA(x:aR)(c:Int):Bool:=jC x c&&decide (((c.toNat^^^1:Nat):Int)<x.aa.length)
def cB(c:cX):Int:=if c.id<c.dF then 0 else 1
def kY(c:cX)(Zj:Int):List UInt8:=oQ (rI c.key (cB c)) Zj ⟨1,c.aE.getD Zj.toNat (aA (.sl .u8))⟩
def rK(c:cX)(r n:Int):Bool:=cG c&&inr r 0 100000&&inr n 1 64
def qW(c:cX)(r n:Int):Int:=if rK c r n=true then(if c.sent<c.aE.length then fD c.key r (cB c) n else Eo c.seed r n)else 0
def j9(c:cX)(r n:Int):List UInt8:=if rK c r n=true then(if c.sent<c.aE.length then kY c c.sent else cover (kh c.seed [r]))else []
theorem Bt{c:cX}{r n:Int}(h:rK c r n=true):0≤c.sent∧c.sent≤c.aE.length:=by
 simp only[rK,cG,bT,Bool.and_eq_true]at h
 exact h.1.1.1.2
theorem kZ{k c:Int}{p:Plain}(h:gz k c p=true):p.body.length≤14:=by
 simp only[gz,jB,Bool.and_eq_true,decide_eq_true_eq]at h
 omega
def nA(d:DB)(i:Int):Bool:=inr i 0 (d.rows.length-1)
def rowAt(d:DB)(i:Int):List UInt8:=if nA d i=true then d.rows.getD i.toNat (aA (.sl .u8))else []
def mq(x:aR)(c f:cX)(n:Nat)(r:aC):Nat:=
 if r.round<f.next∨c.aE.length≤n then n else
 if(nA r.db (fD c.key r.round (cB c) x.rows)&&(rowAt r.db (fD c.key r.round (cB c) x.rows)==kY c n))=true then n+1 else n
def dI(x:aR)(c f:cX)(l:List aC):Nat:=l.foldl (mq x c f) f.inbox.length
theorem wq(x:aR)(c f:cX): ∀(l:List aC) (n:Nat),c.aE.length≤n→l.foldl (mq x c f) n=n
 | [],_,_=>rfl
 |r::l,n,h=>by
  rw[List.foldl_cons,show mq x c f n r=n from if_pos (Or.inr h)]
  exact wq x c f l n h
theorem Bu(x:aR)(c f:cX)(l:List aC)(k:Nat):dI x c f (l.take k)≤f.inbox.length+k:=by
 have g: ∀(l:List aC) (n:Nat),l.foldl (mq x c f) n≤n+l.length:=by
  intro l
  induction l with
  |nil=>intro n;exact Nat.le_refl _
  |cons r l ih=>
   intro n
   have h1:mq x c f n r≤n+1:=by unfold mq;split;omega;split<;>omega
   have:=ih (mq x c f n r)
   rw[List.foldl_cons,List.length_cons];omega
 have:=g (l.take k) f.inbox.length
 have:=bJ l k
 unfold dI;omega
theorem wu(x:aR)(c f:cX)(l:List aC)(k:Nat)(h:k<l.length):dI x c f (l.take (k+1))=mq x c f (dI x c f (l.take k)) (l.getD k (aA .aC)):=j0 _ _ l k _ h
theorem Et(x:aR)(c f:cX)(l:List aC)(k:Nat)(h:c.aE.length≤dI x c f (l.take k)):dI x c f l=dI x c f (l.take k):=by
 have e:l=l.take k++l.drop k:=(List.take_append_drop k l).symm
 conv=>lhs;rw[e]
 unfold dI at h ⊢
 rw[List.foldl_append,wq x c f _ _ h]
def fF(x:aR)(i:Int):Bool:=if dA x i=true then decide ((x.aa.getD i.toNat (aA .aS)).live.sent≤(dI x (x.aa.getD i.toNat (aA .aS)).live (x.aa.getD (i.toNat^^^1) (aA .aS)).live x.az.rounds:Int))else false
theorem Jj{x:aR}{c:Int}(hd:x.aa.length≤1048576):(jC x c&&jC x (IntKind.i64.wrap (BitVec.ofInt IntKind.i64.bits c^^^BitVec.ofInt IntKind.i64.bits 1).toNat))=dA x c:=by
 by_cases hc:jC x c=true
 ·have Bg:0≤c∧c<x.aa.length:=by simp only[jC,bT]at hc;omega
  obtain⟨n,rfl⟩:=Int.eq_ofNat_of_zero_le Bg.1
  rw[Es n (by omega),dA,hc]
  simp only[Bool.true_and,jC,Int.toNat_natCast]
  rw[Bool.eq_iff_iff,bT,decide_eq_true_eq]
  omega
 ·rw[Bool.not_eq_true]at hc
  rw[dA,hc];rfl
theorem Jk{x:aR}{c:Int}(hd:x.aa.length≤1048576):(inr c 0 (x.aa.length-1)&&decide (IntKind.i64.wrap (BitVec.ofInt IntKind.i64.bits c^^^BitVec.ofInt IntKind.i64.bits 1).toNat<(x.aa.length:Int)))=dA x c:=by
 by_cases hc:jC x c=true
 ·have Bg:0≤c∧c<x.aa.length:=by simp only[jC,bT]at hc;omega
  obtain⟨n,rfl⟩:=Int.eq_ofNat_of_zero_le Bg.1
  rw[Es n (by omega)];rfl
 ·rw[Bool.not_eq_true]at hc
  rw[dA,hc,show inr c 0 (x.aa.length-1)=false from hc];rfl
theorem CK{x:aR}{i:Int}(h:dA x i=true):0≤i∧i.toNat<x.aa.length∧i.toNat^^^1<x.aa.length∧i=(i.toNat:Int):=by
 simp only[dA,jC,bT,Bool.and_eq_true,decide_eq_true_eq]at h
 omega
end
section
def Tm(s:Int)(i:Nat):Int:=VM (kh s [(i:Int),41])
def bY(s rows:Int):List Int:=if 0≤rows∧rows≤64 then(List.range rows.toNat).map (Tm s)else []
theorem k8(s rows:Int):(bY s rows).length≤64:=by
 unfold bY
 split
 ·simp;omega
 ·simp
theorem zz(s rows:Int)(k:Nat)(h0:(k:Int)<rows)(h1:rows≤64):k<(bY s rows).length:=by
 rw[bY,if_pos (by omega)];simp;omega
theorem CL(s rows:Int)(k:Nat)(h0:(k:Int)<rows)(h1:rows≤64):(bY s rows).take (k+1)=(bY s rows).take k++ [IntKind.i64.wrap (BitVec.ofInt IntKind.i64.bits (((IntKind.i64.wrap (kh s [(k:Int),41]*kh s [(k:Int),41])).tmod 2147483647).fdiv (2^(min (Int.toNat 9) IntKind.i64.bits)))&&&BitVec.ofInt IntKind.i64.bits 1).toNat]:=by
 rw[Tg (cP _ _).1 (cP _ _).2,bw _ _ 0 (zz s rows k h0 h1)]
 congr 2
 rw[bY,if_pos (by omega),dH _ _ _ _ (by omega)]
 rfl
theorem Eu(s rows:Int)(k:Nat)(h:rows≤64→rows≤k):(bY s rows).take k=bY s rows:=by
 refine List.take_of_length_le ?_
 unfold bY
 split
 ·simp;omega
 ·simp
def ig(v:List Int)(rows:Int):Bool:=(decide ((v.length:Int)=rows)&&decide (rows≤64))&&v.all fun x=>inr x 0 1
theorem Bv{v:List Int}{r:Int}(h:ig v r=true):(v.length:Int)=r∧r≤64:=by
 simp only[ig,Bool.and_eq_true,decide_eq_true_eq]at h
 exact h.1
theorem Bw{v:List Int}{r:Int}(h:ig v r=true)(k:Nat)(hk:k<v.length):v.getD k (aA .int)=0∨v.getD k (aA .int)=1:=by
 simp only[ig,Bool.and_eq_true,List.all_eq_true,bT]at h
 have:=h.2 (v.getD k (aA .int)) (by rw[List.getD_eq_getElem?_getD,List.getElem?_eq_getElem hk];exact List.getElem_mem _)
 omega
def xb(x y:Int):Int:=if x=y then 0 else 1
theorem VQ{x y:Int}(hx:x=0∨x=1)(hy:y=0∨y=1):IntKind.i64.wrap (BitVec.ofInt IntKind.i64.bits x^^^BitVec.ofInt IntKind.i64.bits y).toNat=xb x y:=by
 rcases hx with rfl|rfl<;>rcases hy with rfl|rfl<;>decide
def mw(a b:List Int):Bool:=ig a a.length&&ig b a.length
def oX(a b:List Int):List Int:=if mw a b then List.zipWith xb a b else []
theorem qd{a b:List Int}(h:mw a b=true):b.length=a.length∧a.length≤64:=by
 simp only[mw,Bool.and_eq_true]at h
 have h1:=Bv h.1
 have h2:=Bv h.2
 omega
theorem zA{a b:List Int}(h:mw a b=true):oX a b=List.zipWith xb a b:=by rw[oX,if_pos h]
theorem CM{a b:List Int}(h:mw a b=true):(List.zipWith xb a b).length=a.length:=by
 have:=qd h
 rw[List.length_zipWith];omega
theorem Gi(a b:List Int):(oX a b).length≤64:=by
 cases h:mw a b with
 |true=>rw[zA h,CM h];exact(qd h).2
 |false=>rw[oX,if_neg (by rw[h];decide)];simp
theorem PY{a b:List Int}(h:mw a b=true)(k:Nat)(hk:k<a.length):(List.zipWith xb a b).getD k (aA .int)=IntKind.i64.wrap (BitVec.ofInt IntKind.i64.bits (a.getD k (aA .int))^^^BitVec.ofInt IntKind.i64.bits (b.getD k (aA .int))).toNat:=by
 have hl:=qd h
 have h':=h
 simp only[mw,Bool.and_eq_true]at h'
 rw[VQ (Bw h'.1 k hk) (Bw h'.2 k (by omega))]
 rw[List.getD_eq_getElem?_getD,List.getD_eq_getElem?_getD,List.getD_eq_getElem?_getD,List.getElem?_zipWith,List.getElem?_eq_getElem hk,List.getElem?_eq_getElem (show k<b.length by omega)]
 rfl
theorem Ew{a b:List Int}(h:mw a b=true)(k:Nat)(hk:k<a.length):(List.zipWith xb a b).take (k+1)=(List.zipWith xb a b).take k++ [IntKind.i64.wrap (BitVec.ofInt IntKind.i64.bits (a.getD k (aA .int))^^^BitVec.ofInt IntKind.i64.bits (b.getD k (aA .int))).toNat]:=by
 rw[bw _ k (aA .int) (by rw[CM h];exact hk),PY h k hk]
def lS(rows i:Int):Bool:=inr rows 1 64&&inr i 0 (IntKind.i64.wrap (rows-1))
def wv(rows i:Int):List Int:=if lS rows i then(List.replicate rows.toNat (aA .int)).set i.toNat 1 else []
theorem Ex{rows i:Int}(h:lS rows i=true):1≤rows∧rows≤64∧0≤i∧i<rows:=by
 simp only[lS,Bool.and_eq_true,bT]at h
 rw[bp (by omega)]at h
 omega
theorem Bx{rows i:Int}(h:lS rows i=true):wv rows i=(List.replicate rows.toNat (aA .int)).set i.toNat 1:=by rw[wv,if_pos h]
theorem By{rows i:Int}(h:lS rows i=false):wv rows i= []:=by rw[wv,if_neg (by rw[h];decide)]
theorem Bz(rows i:Int):(wv rows i).length≤64:=by
 cases h:lS rows i with
 |true=>rw[Bx h];have:=Ex h;simp;omega
 |false=>rw[By h];simp
def Gj(rows i:Int)(sd:List Int):Bool:= !decide (((wv rows i).length:Int)=0)&&cg (IntKind.i64.wrap ((sd.length:Int)+1))
def zB(rows i:Int)(sd:List Int):List Int:=sd.foldl (fun l s=>oX l (bY s rows)) (wv rows i)
def tO(rows i:Int)(sd:List Int):List (List Int):=if Gj rows i sd then sd.map (fun s=>bY s rows)++ [zB rows i sd]else []
theorem Gk(rows i:Int)(sd:List Int)(k:Nat)(h:k<sd.length):zB rows i (sd.take (k+1))=oX (zB rows i (sd.take k)) (bY (sd.getD k (aA .int)) rows):=j0 _ _ sd k _ h
theorem BA(rows i:Int)(sd:List Int):(zB rows i sd).length≤64:=by
 rcases List.eq_nil_or_concat sd with rfl| ⟨l,x,rfl⟩
 ·exact Bz _ _
 ·rw[List.concat_eq_append,zB,List.foldl_append];exact Gi _ _
theorem Mm{rows i:Int}{sd:List Int}(h:Gj rows i sd=true)(hl:sd.length≤1048576):sd.length≤3:=by
 simp only[Gj,cg,Bool.and_eq_true,bT]at h
 rw[bp (by omega)]at h
 omega
def jl(n:Nat)(r row s:Int):List Int:=(List.range (n-1)).map fun i:Nat=>kh s [229,r,row,(i:Int)]
theorem rN(n:Nat)(r row s:Int):(jl n r row s).length=n-1:=by simp[jl]
theorem Ey(n:Nat)(r row s:Int)(k:Nat)(h:k<n-1):(jl n r row s).take (k+1)=(jl n r row s).take k++ [kh s [229,r,row,(k:Int)]]:=by
 rw[bw _ k (aA .int) (by rw[rN];exact h),jl,dH _ _ _ _ h]
end
section
set_option maxRecDepth 100000
theorem getD_some{α:Type}(l:List α)(d:α)(k:Nat)(h:k<l.length):l[k]? =some (l.getD k d):=by
 rw[List.getD_eq_getElem?_getD,List.getElem?_eq_getElem h];rfl
def CP(x:DB):Nat:=(dc List.length) x.rows
def wz(x:aM):Nat:=CP x.share
def dP(x:bl):Nat:=(dc wz) x.received
def cu(x:cX):Nat:=(dc List.length) x.aE+(dc List.length) x.inbox
def bq(x:aS):Nat:=cu x.live+cu x.saved
def dm(x:aC):Nat:=CP x.db
def ef(x:gH):Nat:=(dc dm) x.rounds
def dn(x:aR):Nat:=(dc dP) x.aj+(dc bq) x.aa+ef x.az+List.length x.replaced
end
section
theorem CQ{x:aR}(h:dn x≤1048576):x.aa.length≤1048576:=by
 have h2:dc bq x.aa≤1048576:=by unfold dn at h;omega
 exact cN h2
theorem qg{x:aR}(h:dn x≤1048576):x.az.rounds.length≤1048576:=by
 have h2:ef x.az≤1048576:=by unfold dn at h;omega
 unfold ef at h2
 exact cN h2
end
section
def RQ:List UInt8:=List.replicate 24 (aA .u8)
def dr(rows:Int):DB:=⟨if 0≤rows∧rows≤64 then List.replicate rows.toNat RQ else []⟩
theorem Mn{α:Type}(n k:Nat)(x:α)(h:k<n):(List.replicate n x).take (k+1)=(List.replicate n x).take k++ [x]:=by
 rw[List.take_replicate,List.take_replicate,Nat.min_eq_left (by omega),Nat.min_eq_left (by omega),List.replicate_succ']
theorem qh(rows:Int):(dr rows).rows.length≤64:=by
 unfold dr;dsimp only;split
 ·simp;omega
 ·simp
theorem jO{rows:Int}(h:0≤rows∧rows≤64):(dr rows).rows=List.replicate rows.toNat RQ:=by unfold dr;dsimp only;rw[if_pos h]
theorem Gq(rows:Int)(k:Nat)(h0:(k:Int)<rows)(h1:rows≤64):(dr rows).rows.take (k+1)=(dr rows).rows.take k++ [RQ]:=by
 rw[jO (by omega)];exact Mn _ _ _ (by omega)
theorem Mo(rows:Int)(k:Nat)(h0:(k:Int)<rows)(h1:rows≤64):k<(dr rows).rows.length:=by
 rw[jO (by omega)];simp;omega
theorem Jn(rows:Int)(k:Nat)(h:rows≤64→rows≤k):(dr rows).rows.take k=(dr rows).rows:=by
 refine List.take_of_length_le ?_
 unfold dr;dsimp only;split
 ·simp;omega
 ·simp
def nB(d:DB)(i:Int)(c:List UInt8):Bool:=inr i 0 (IntKind.i64.wrap ((d.rows.length:Int)-1))&&decide ((c.length:Int)=24)
def zC(d:DB)(i:Int)(c:List UInt8):DB:=if nB d i c then⟨d.rows.set i.toNat c⟩else d
theorem HJ{d:DB}{i:Int}{c:List UInt8}(hl:d.rows.length≤1048576)(h:nB d i c=true):0≤i∧i<d.rows.length∧c.length=24:=by
 simp only[nB,Bool.and_eq_true,bT,decide_eq_true_eq]at h
 rw[bp (by omega)]at h
 omega
theorem uZ{d:DB}{i:Int}{c:List UInt8}(h:nB d i c=true):zC d i c=⟨d.rows.set i.toNat c⟩:=by rw[zC,if_pos h]
theorem Jo{d:DB}{i:Int}{c:List UInt8}(h:nB d i c=false):zC d i c=d:=by rw[zC,if_neg (by rw[h];decide)]
def jD(a b:DB):Bool:=(b9 a&&b9 b)&&decide ((a.rows.length:Int)=b.rows.length)
def jm(a b:DB):List (List UInt8):=List.zipWith gx a.rows b.rows
def fG(a b:DB):DB:=if jD a b then⟨jm a b⟩else a
theorem zD{d:DB}(h:b9 d=true):d.rows.length≤64:=by
 simp only[b9,Bool.and_eq_true,decide_eq_true_eq]at h;omega
theorem qi{d:DB}(h:b9 d=true)(k:Nat)(hk:k<d.rows.length):(d.rows.getD k (aA (.sl .u8))).length=24:=by
 simp only[b9,Bool.and_eq_true,List.all_eq_true,decide_eq_true_eq]at h
 have:=h.2 (d.rows.getD k (aA (.sl .u8))) (by rw[List.getD_eq_getElem?_getD,List.getElem?_eq_getElem hk];exact List.getElem_mem _)
 omega
theorem zE{a b:DB}(h:jD a b=true):b9 a=true∧b9 b=true∧a.rows.length=b.rows.length∧a.rows.length≤64:=by
 simp only[jD,Bool.and_eq_true,decide_eq_true_eq]at h
 have:=zD h.1.1
 exact⟨h.1.1,h.1.2,by omega,this⟩
theorem m7{a b:DB}(h:jD a b=true):(jm a b).length=a.rows.length:=by
 have:=zE h
 rw[jm,List.length_zipWith];omega
theorem zF{a b:DB}(h:jD a b=true)(k:Nat)(hk:k<a.rows.length):(jm a b).getD k (aA (.sl .u8))=gx (a.rows.getD k (aA (.sl .u8))) (b.rows.getD k (aA (.sl .u8))):=by
 have hb:=zE h
 rw[jm,List.getD_eq_getElem?_getD,List.getD_eq_getElem?_getD,List.getD_eq_getElem?_getD,List.getElem?_zipWith,List.getElem?_eq_getElem hk,List.getElem?_eq_getElem (show k<b.rows.length by omega)]
 rfl
theorem Ez{a b:DB}(h:jD a b=true)(k:Nat)(hk:k<a.rows.length):(jm a b).take (k+1)=(jm a b).take k++ [gx (a.rows.getD k (aA (.sl .u8))) (b.rows.getD k (aA (.sl .u8)))]:=by
 rw[bw _ k (aA (.sl .u8)) (by rw[m7 h];exact hk),zF h k hk]
theorem va{a b:DB}(h:jD a b=true):fG a b=⟨jm a b⟩:=by rw[fG,if_pos h]
theorem ql{a b:DB}(h:jD a b=false):fG a b=a:=by rw[fG,if_neg (by rw[h];decide)]
def jo(x:aR)(c:Int):List Int:=(List.range (x.aj.length-1)).map fun i:Nat=>kh x.seed [223,x.round,c,(i:Int)]
theorem kf(x:aR)(c:Int):(jo x c).length=x.aj.length-1:=by simp[jo]
theorem EA(x:aR)(c:Int)(k:Nat)(h:k<x.aj.length-1):(jo x c).take (k+1)=(jo x c).take k++ [kh x.seed [223,x.round,c,(k:Int)]]:=by
 rw[bw _ k (aA .int) (by rw[kf];exact h),jo,dH _ _ _ _ h]
def rP(rows i:Int)(c:List UInt8):Bool:=inr rows 1 64&&nB (dr rows) i c
def Tn(rows i:Int)(c:List UInt8):DB:=if inr rows 1 64 then zC (dr rows) i c else⟨[]⟩
theorem qm:RQ.length=24:=by simp[RQ]
theorem Jp(rows:Int):dc List.length (dr rows).rows≤1048576:=by
 have h:=qh rows
 have h2:((dr rows).rows.map List.length).sum≤24*(dr rows).rows.length:=by
  unfold dr;dsimp only;split
  ·simp[qm];omega
  ·simp
 unfold dc;omega
end
section
theorem iX{d:DB}:b9 d=true↔d.rows.length≤64∧ ∀r,r∈d.rows→r.length=24:=by
 simp only[b9,Bool.and_eq_true,decide_eq_true_eq,List.all_eq_true]
 constructor
 ·rintro⟨h1,h2⟩;exact⟨by omega,fun r hr=>by have:=h2 r hr;omega⟩
 ·rintro⟨h1,h2⟩;exact⟨by omega,fun r hr=>by have:=h2 r hr;omega⟩
theorem eI{d:DB}(h:b9 d=true):dc List.length d.rows≤1048576:=by
 obtain⟨h1,h2⟩:=iX.1 h
 have h3: ∀l:List (List UInt8),(∀r,r∈l→r.length=24)→(l.map List.length).sum=24*l.length:=by
  intro l
  induction l with
  |nil=>intro _;rfl
  |cons x r ih=>intro hl;rw[List.map_cons,List.sum_cons,ih fun y hy=>hl y (by simp[hy]),hl x (by simp),List.length_cons];omega
 have:=h3 _ h2
 unfold dc;omega
theorem EH{a b:DB}(ha:b9 a=true)(hb:b9 b=true):b9 (fG a b)=true:=by
 cases h:jD a b with
 |false=>rw[ql h];exact ha
 |true=>
  rw[va h,iX]
  have hl:=m7 h
  refine⟨by have:=zD ha;show(jm a b).length≤64;omega,fun r hr=> ?_⟩
  obtain⟨k,hk⟩:=List.getElem?_of_mem hr
  have hk2:k<(jm a b).length:=(List.getElem?_eq_some_iff.1 hk).1
  have hg:=zF h k (by omega)
  rw[List.getD_eq_getElem?_getD,hk]at hg
  have hx:=zE h
  rw[show r=_ from hg,eO,qi ha k (by omega),qi hb k (by omega)];rfl
def gq(s rows:Int):List (List UInt8):=(List.range rows.toNat).map fun r:Nat=>stream (IntKind.i64.wrap (s+IntKind.i64.wrap (1000*(r:Int)))) (24:Int).toNat
def P2(s rows:Int):DB:=⟨gq s rows⟩
theorem lf(s rows:Int):(gq s rows).length=rows.toNat:=by simp[gq]
theorem CV(s rows:Int)(k:Nat)(h:k<rows.toNat):(gq s rows).take (k+1)=(gq s rows).take k++ [stream (IntKind.i64.wrap (s+IntKind.i64.wrap (1000*(k:Int)))) (24:Int).toNat]:=by
 rw[bw _ k (aA (.sl .u8)) (by rw[lf];exact h),gq,dH _ _ _ _ h]
theorem Gv(s rows:Int)(h:rows≤64):b9 (P2 s rows)=true:=by
 rw[iX]
 refine⟨by show(gq s rows).length≤64;rw[lf];omega,fun r hr=> ?_⟩
 obtain⟨k,_,rfl⟩:=List.mem_map.1 (show r∈gq s rows from hr)
 exact dO _ _
def vh(rows i:Int)(c:List UInt8)(sd:List Int):Bool:=rP rows i c&&cg (IntKind.i64.wrap ((sd.length:Int)+1))
def wD(rows i:Int)(c:List UInt8)(sd:List Int):DB:=sd.foldl (fun d s=>fG d (P2 s rows)) (Tn rows i c)
def tT(rows i:Int)(c:List UInt8)(sd:List Int):List DB:=if vh rows i c sd then sd.map (fun s=>P2 s rows)++ [wD rows i c sd]else []
theorem Gw{rows i:Int}{c:List UInt8}(h:rP rows i c=true):b9 (Tn rows i c)=true∧1≤rows∧rows≤64:=by
 simp only[rP,Bool.and_eq_true]at h
 obtain⟨h1,h2⟩:=h
 have hr:1≤rows∧rows≤64:=by rw[bT]at h1;exact h1
 have hb:=HJ (Nat.le_trans (qh rows) (by decide)) h2
 refine⟨?_,hr⟩
 rw[Tn,if_pos h1,uZ h2,iX,jO (by omega)]
 refine⟨by simp;omega,fun r hr=> ?_⟩
 rcases List.mem_or_eq_of_mem_set hr with h|rfl
 ·rw[(List.mem_replicate.1 h).2,qm]
 ·exact hb.2.2
theorem Gx(rows i:Int)(c:List UInt8)(sd:List Int)(k:Nat)(h:k<sd.length):wD rows i c (sd.take (k+1))=fG (wD rows i c (sd.take k)) (P2 (sd.getD k (aA .int)) rows):=j0 _ _ sd k _ h
theorem EI{rows i:Int}{c:List UInt8}(h:rP rows i c=true)(sd:List Int):b9 (wD rows i c sd)=true:=by
 have hu:=Gw h
 have g: ∀(l:List Int) (d:DB),b9 d=true→b9 (l.foldl (fun d s=>fG d (P2 s rows)) d)=true:=by
  intro l
  induction l with
  |nil=>intro d hd;exact hd
  |cons x r ih=>intro d hd;exact ih _ (EH hd (Gv x rows hu.2.2))
 exact g sd _ hu.1
theorem Ms{rows i:Int}{c:List UInt8}{sd:List Int}(h:vh rows i c sd=true)(hl:sd.length≤1048576):rP rows i c=true∧sd.length≤3:=by
 simp only[vh,cg,Bool.and_eq_true,bT]at h
 rw[bp (by omega)]at h
 exact⟨h.1,by omega⟩
theorem EJ(rows i:Int)(c:List UInt8):rP rows i c=(inr rows 1 64&&inr i 0 (IntKind.i64.wrap (rows-1))&&decide ((c.length:Int)=24)):=by
 unfold rP
 cases h:inr rows 1 64 with
 |false=>rfl
 |true=>
  rw[bT]at h
  have:((dr rows).rows.length:Int)=rows:=by rw[jO (by omega)];simp;omega
  rw[nB,this]
  simp
theorem P3{rows i:Int}{c:List UInt8}{sd:List Int}(h:vh rows i c sd=true):zC (dr rows) i c=Tn rows i c:=by
 simp only[vh,rP,Bool.and_eq_true]at h
 rw[Tn,if_pos h.1.1]
end
section
theorem Jq(k c:Int)(p:Plain):(oQ k c p).length≤100:=by
 unfold oQ
 split
 ·rename_i h
  have hb:=kZ h
  have hp:(eF k c p).length≤40:=by
   unfold eF
   simp only[List.length_append,List.length_drop,List.length_cons,List.length_nil,dO];omega
  rw[List.length_append,gf]
  simp only[four,List.length_cons,List.length_nil];omega
 ·exact Nat.zero_le _
theorem Gy(c:cX)(r n:Int):(j9 c r n).length≤1048576:=by
 unfold j9
 split
 ·split
  ·exact Nat.le_trans (Jq _ _ _) (by decide)
  ·unfold cover;rw[dO];decide
 ·exact Nat.zero_le _
def Oj(x:aR)(c:Int):cX:=(x.aa.getD c.toNat (aA .aS)).live
def c8(x:aR)(c:Int):List DB:=tT x.rows (qW (Oj x c) x.round x.rows) (j9 (Oj x c) x.round x.rows) (jo x c)
end
section
theorem qt{E R:Bool}(h:E=true)(he:E=R):R=true:=by rw[←he];exact h
theorem vk{E R:Bool}(h:E=false)(he:E=R):R=false:=by rw[←he];exact h
theorem m8{x:aR}(h:okW x=true){i:Nat}(hi:i<x.aa.length):okD x i=true:=by
 simp only[okW,Bool.and_eq_true,List.all_eq_true]at h
 exact h.2 i (List.mem_range.2 hi)
theorem CW{x:aR}(h:okW x=true){i:Nat}(hi:i<x.aj.length):Bs x i=true:=by
 simp only[okW,Bool.and_eq_true,List.all_eq_true]at h
 exact h.1.2 i (List.mem_range.2 hi)
theorem Mt{x:aR}{i:Nat}(h:okD x i=true):cG (x.aa.getD i (aA .aS)).live=true:=by
 simp only[okD,cE,Bool.and_eq_true]at h
 exact h.1.1.1.1.1.1.1.1.1
theorem ng{x:aR}(h:okW x=true):(1≤x.rows∧x.rows≤64)∧0≤x.round∧x.round≤100000:=by
 have h:=lR h
 simp only[Ep,Bool.and_eq_true,bT]at h
 omega
theorem Tv{x:aR}{c:Int}(h:okW x=true)(hc:0≤c∧c<x.aa.length):cG (Oj x c)=true:=Mt (m8 h (by omega))
theorem Tw{x:aR}{c:Int}(h:okW x=true)(hc:0≤c∧c<x.aa.length):rK (Oj x c) x.round x.rows=true:=by
 have:=ng h
 simp only[rK,Tv h hc,Bool.and_eq_true,bT]
 exact⟨⟨trivial,this.2⟩,this.1⟩
theorem Gz{key r d n:Int}(h:(1≤n∧n≤64)∧0≤r∧r≤1000000000000):0≤fD key r d n∧fD key r d n<n:=by
 unfold fD
 rw[if_pos h]
 exact⟨Int.emod_nonneg _ (by omega),Int.emod_lt_of_pos _ (by omega)⟩
theorem GA{s r n:Int}(h:1≤n∧n≤64):0≤Eo s r n∧Eo s r n<n:=by
 unfold Eo
 rw[if_pos h]
 exact⟨Int.emod_nonneg _ (by omega),Int.emod_lt_of_pos _ (by omega)⟩
theorem EK{c:cX}{r n:Int}(h:rK c r n=true):0≤qW c r n∧qW c r n<n:=by
 have hb:(0≤r∧r≤100000)∧1≤n∧n≤64:=by
  simp only[rK,Bool.and_eq_true,bT]at h;exact⟨h.1.2,h.2⟩
 rw[qW,if_pos h]
 split
 ·exact Gz (by omega)
 ·exact GA (by omega)
theorem P4(k d:Int):ez (rI k d)=true:=by
 have:=qb (cP k [83,d])
 simp only[ez,bT];unfold rI;omega
theorem qu{c:cX}(h:cG c=true):c.aE.length≤16∧c.inbox.length≤16∧(∀b,b∈c.aE→b.length≤14)∧(∀b,b∈c.inbox→b.length≤14)∧0≤c.sent∧c.sent≤c.aE.length∧0≤c.next∧c.next≤100000:=by
 simp only[cG,Bool.and_eq_true,Bool.not_eq_true',List.any_eq_false,bT,decide_eq_true_eq]at h
 obtain⟨⟨⟨⟨⟨⟨_,h1⟩,h2⟩,h3⟩,h4⟩,h5⟩,h6⟩:=h
 refine⟨by omega,by omega,fun b hb=> ?_,fun b hb=> ?_,h5.1,h5.2,h6.1,h6.2⟩
 ·have:=h3 b hb;simp only[uU,decide_eq_true_eq]at this;omega
 ·have:=h4 b hb;simp only[uU,decide_eq_true_eq]at this;omega
theorem getD_in{α:Type}{l:List α}{k:Nat}(d:α)(h:k<l.length):l.getD k d∈l:=by
 rw[List.getD_eq_getElem?_getD,List.getElem?_eq_getElem h];exact List.getElem_mem h
theorem EL{k c:Int}{p:Plain}(h:gz k c p=true):(oQ k c p).length=24:=by
 have hb:=kZ h
 rw[oQ,if_pos h,List.length_append,gf]
 simp only[eF,four,List.length_append,List.length_drop,List.length_cons,List.length_nil,dO];omega
theorem Jr{c:cX}(h:cG c=true){a:Int}(h0:0≤a)(h1:a<c.aE.length):(kY c a).length=24:=by
 obtain⟨q1,_,q2,_⟩:=qu h
 apply EL
 simp only[gz,P4,jB,Bool.and_eq_true,bT,decide_eq_true_eq]
 have:=q2 _ (getD_in (aA (.sl .u8)) (show a.toNat<c.aE.length by omega))
 refine⟨⟨trivial,by omega⟩,by omega,by omega⟩
theorem CX{c:cX}{r n:Int}(h:rK c r n=true):(j9 c r n).length=24:=by
 rw[j9,if_pos h]
 split
 ·rename_i hs
  have hc:cG c=true:=by simp only[rK,Bool.and_eq_true]at h;exact h.1.1
  exact Jr hc (Bt h).1 hs
 ·rw[cover,dO]
theorem Js{x:aR}{c:Int}(h:okW x=true)(hc:0≤c∧c<x.aa.length):vh x.rows (qW (Oj x c) x.round x.rows) (j9 (Oj x c) x.round x.rows) (jo x c)=true:=by
 have hw:=Tw h hc
 have hr:=ng h
 have hs:=dZ h
 have hrow:=EK hw
 have hcell:=CX hw
 simp only[vh,EJ,cg,Bool.and_eq_true,bT,decide_eq_true_eq,kf]
 rw[bp (by omega),bp (by omega)]
 omega
theorem iY{x:aR}{c:Int}(h:okW x=true)(hc:0≤c∧c<x.aa.length):(c8 x c).length=x.aj.length:=by
 have hs:=dZ h
 rw[c8,tT,if_pos (Js h hc),List.length_append,List.length_map,kf]
 simp;omega
end
section
theorem Mu{rows i:Int}{c:List UInt8}{sd:List Int}(hr:rows≤64): ∀d,d∈tT rows i c sd→b9 d=true:=by
 intro d hd
 unfold tT at hd
 split at hd
 ·rename_i hm
  have hu:rP rows i c=true:=by simp only[vh,Bool.and_eq_true]at hm;exact hm.1
  rcases List.mem_append.1 hd with h|h
  ·obtain⟨s,_,rfl⟩:=List.mem_map.1 h
   exact Gv s rows hr
  ·rw[List.mem_singleton.1 h];exact EI hu _
 ·cases hd
def Tx(d:DB):Nat:=(d.rows.map List.length).sum
theorem P5{d:DB}(h:b9 d=true):Tx d≤1536:=by
 obtain⟨h1,h2⟩:=iX.1 h
 have h3: ∀l:List (List UInt8),(∀r,r∈l→r.length=24)→(l.map List.length).sum=24*l.length:=by
  intro l
  induction l with
  |nil=>intro _;rfl
  |cons x r ih=>intro hl;rw[List.map_cons,List.sum_cons,ih fun y hy=>hl y (by simp[hy]),hl x (by simp),List.length_cons];omega
 have:=h3 _ h2
 unfold Tx;omega
theorem RS{α:Type}(f:α→Nat)(C:Nat): ∀(l:List α),(∀x,x∈l→f x≤C)→(l.map f).sum≤C*l.length
 | [],_=>by simp
 |x::r,h=>by
  have:=RS f C r fun y hy=>h y (by simp[hy])
  have:=h x (by simp)
  rw[List.map_cons,List.sum_cons,List.length_cons,Nat.mul_add]
  omega
end
section
def nh(s:bl):Prop:=s.received.length≤1048576∧ ∀r,r∈s.received→dc List.length r.share.rows≤1048576
theorem Jt{l:List bl}(h:dc dP l≤1048576){i:Nat}{s:bl}(hs:l[i]? =some s):nh s:=by
 have h1:dc wz s.received≤1048576:=iM h hs
 refine⟨cN h1,fun r hr=> ?_⟩
 obtain⟨j,hj⟩:=List.mem_iff_getElem?.1 hr
 exact iM h1 hj
def wB(x:aR):Prop:=dc dP x.aj≤1048576∧dc bq x.aa≤1048576∧ef x.az≤1048576∧x.replaced.length≤4194304
theorem EM{x:aR}(h:wB x):x.aj.length≤1048576:=cN h.1
theorem HO{x:aR}(h:wB x):x.aa.length≤1048576:=cN h.2.1
def jq(s:bl)(c:Int)(d:DB):bl:=⟨s.id,s.rows,s.round,s.received++ [⟨c,d⟩],s.behavior⟩
def nC(s:bl)(c:Int)(d:DB):Bool:=bZ s&&bZ (jq s c d)
def HP(s:bl)(c:Int)(d:DB):bl:=if nC s c d then jq s c d else s
def below(s:bl)(c:Int):Prop:= ∀r,r∈s.received→r.client<c
theorem Ju{s:bl}{c e:Int}{d:DB}(h:below s c)(hc:c<e):below (HP s c d) e:=by
 intro r hr
 unfold HP at hr
 split at hr
 ·rcases List.mem_append.1 hr with h1|h1
  ·have:=h r h1;omega
  ·rw[List.mem_singleton.1 h1];exact hc
 ·have:=h r hr;omega
theorem Jv{s:bl}{c:Int}{d:DB}(h:nh s)(hd:b9 d=true):nh (HP s c d):=by
 unfold HP
 split
 ·rename_i hk
  have h1:(jq s c d).received.length≤8:=by
   simp only[nC,bZ,qV,Bool.and_eq_true,decide_eq_true_eq]at hk;omega
  refine⟨by omega,fun r hr=> ?_⟩
  rcases List.mem_append.1 hr with h2|h2
  ·exact h.2 r h2
  ·rw[List.mem_singleton.1 h2];exact eI hd
 ·exact h
def RT(c:Int)(r:aM):Bool:=r.client==c
def nD(l:List aM)(c:Int):Bool:=l.any (RT c)
def zK(l:List aM)(c:Int):DB:=if nD l c then(l.getD (fidx (RT c) l).toNat (aA .aM)).share else⟨[]⟩
theorem Ty{l:List aM}{c:Int}{k:Nat}(h:k<l.length)(h1:(l.take k).any (RT c)=false)(h2:RT c (l.getD k (aA .aM))=true):nD l c=true∧zK l c=(l.getD k (aA .aM)).share:=by
 have ha:nD l c=true:=xA l (RT c) (aA .aM) k h h2
 exact⟨ha,by rw[zK,if_pos ha,zw (aA .aM) h h1 h2];rfl⟩
theorem HQ{l:List aM}{c:Int}(h:l.any (RT c)=false):nD l c=false∧zK l c=⟨[]⟩:=⟨h,by rw[zK,nD,h];rfl⟩
theorem GB{l:List aM}{c:Int}(h: ∀r,r∈l→dc List.length r.share.rows≤1048576):dc List.length (zK l c).rows≤1048576:=by
 unfold zK
 split
 ·rw[List.getD_eq_getElem?_getD]
  cases hq:l[(fidx (RT c) l).toNat]? with
  |none=>exact by decide
  |some r=>exact h r (List.mem_of_getElem? hq)
 ·exact by decide
theorem Tz{s:bl}{c:Int}{d:DB}(h:nC s c d=false):HP s c d=s:=by rw[HP,h];rfl
theorem HR{s:bl}{c:Int}{d:DB}(h:nC s c d=true):HP s c d=jq s c d:=by rw[HP,h];rfl
theorem P6{s:bl}{c:Int}{k:Nat}(hb: ∀r,r∈s.received→r.client<c)(hk:k≤s.received.length)(h:(if decide ((k:Int)<(s.received.length:Int))=true then decide ((s.received.getD k (aA .aM)).client<c)else false)=false):k=s.received.length:=by
 by_cases h1:k<s.received.length
 ·rw[if_pos (by simpa using h1)]at h
  have:=hb _ (getD_in (aA .aM) h1)
  simp only[decide_eq_false_iff_not]at h
  omega
 ·omega
theorem ins_eq(l:List aM)(y:aM): []++List.drop (Int.toNat 0) (List.take ((l.length:Int)).toNat l)++ [y]++ []=l++ [y]:=by simp
theorem VY{s:bl}{c:Int}{d:DB}(h:(if !bZ s then true else !bZ (jq s c d))=true):nC s c d=false:=by
 unfold nC
 cases h1:bZ s<;>cases h2:bZ (jq s c d)<;>simp_all
theorem VZ{s:bl}{c:Int}{d:DB}(h:(if !bZ s then true else !bZ (jq s c d))=false):nC s c d=true:=by
 unfold nC
 cases h1:bZ s<;>cases h2:bZ (jq s c d)<;>simp_all
def Mv(d:DB):Int:=hsh ((d.rows.length:Int)::d.rows.flatMap Gf)
theorem xC(l:List UInt8):(Gf l).length=l.length+1:=by simp[Gf]
theorem TA(l:List (List UInt8)): ∀k,((l.take k).flatMap Gf).length≤dc List.length l:=by
 have key: ∀m:List (List UInt8),(m.flatMap Gf).length=dc List.length m:=by
  intro m
  induction m with
  |nil=>rfl
  |cons x r ih=>rw[List.flatMap_cons,List.length_append,ih,xC];unfold dc;simp only[List.length_cons,List.map_cons,List.sum_cons];omega
 intro k
 rw[key]
 have h1:=iP l List.length k
 unfold dc
 have:(l.take k).length≤l.length:=List.length_take_le' _ _
 omega
theorem P7(l:List (List UInt8))(k:Nat)(h:k<l.length):(l.take (k+1)).flatMap Gf=(l.take k).flatMap Gf++Gf (l.getD k (aA (.sl .u8))):=by
 rw[bw l k (aA (.sl .u8)) h,List.flatMap_append];simp
def ni(m s:Int):Int:=Aw (kh m [173,s])
theorem Mw{m s:Int}:(if kh m [173,s]>1 then kh m [173,s]else 1)=ni m s:=by
 have:=cP m [173,s]
 unfold ni Aw
 split<;>split<;>omega
def GC(c r:Int)(d:DB):Int:=hsh [179,c,r,Mv d]
def P8(key s c r g:Int):Int:=kh key [181,s,c,r,g]
def Yo(key s c r:Int)(d:DB):ep:=⟨s,c,r,GC c r d,P8 key s c r (GC c r d)⟩
def HS(l:List bl)(c:Int)(ds:List DB):List bl:=List.zipWith (fun s d=>HP s c d) l ds
def rR(x:aR):Nat→List bl
 |0=>x.aj
 |k+1=>HS (rR x k) (k:Int) (c8 x (k:Int))
def V0(x:aR)(c:Nat)(i:Nat):List ep:= [Yo (ni x.bh (i:Int)) (i:Int) (c:Int) x.round ((c8 x (c:Int)).getD i (aA .DB))]
def EN(x:aR)(c:Nat)(n:Nat):List ep:=(List.range n).flatMap (V0 x c)
def EO(x:aR)(n:Nat):List ep:=(List.range n).flatMap fun c=>EN x c x.aj.length
theorem BF(x:aR)(c n:Nat):EN x c (n+1)=EN x c n++ [Yo (ni x.bh (n:Int)) (n:Int) (c:Int) x.round ((c8 x (c:Int)).getD n (aA .DB))]:=by
 unfold EN
 rw[List.range_succ,List.flatMap_append];simp[V0]
theorem BG(x:aR)(n:Nat):EO x (n+1)=EO x n++EN x n x.aj.length:=by
 unfold EO
 rw[List.range_succ,List.flatMap_append];simp
theorem zL(x:aR)(c:Nat): ∀n,(EN x c n).length=n
 |0=>rfl
 |n+1=>by rw[BF,List.length_append,zL x c n];rfl
theorem EP(x:aR): ∀n,(EO x n).length=n*x.aj.length
 |0=>by simp[EO]
 |n+1=>by rw[BG,List.length_append,EP x n,zL,Nat.add_mul];omega
structure Col(x:aR)(k:Nat):Prop where
 len:(rR x k).length=x.aj.length
 V1: ∀s,s∈rR x k→below s (k:Int)
 W8: ∀s,s∈rR x k→nh s
theorem qv{x:aR}(h:okW x=true): ∀s,s∈x.aj→s.received= []:=by
 intro s hs
 obtain⟨i,hi,rfl⟩:=List.mem_iff_getElem.1 hs
 have h1:=CW h hi
 have e:x.aj.getD i (aA .bl)=x.aj[i]:=by rw[List.getD_eq_getElem?_getD,List.getElem?_eq_getElem hi];rfl
 simp only[Bs,e,Bool.and_eq_true,decide_eq_true_eq]at h1
 have h2:x.aj[i].received.length=0:=by omega
 exact List.length_eq_zero_iff.1 h2
theorem rS{x:aR}{c:Int}(h:okW x=true): ∀d,d∈c8 x c→b9 d=true:=by
 have:=ng h
 exact Mu (by omega)
theorem ES{l:List bl}{c:Int}{ds:List DB}{s:bl}(h:s∈HS l c ds): ∃t d,t∈l∧d∈ds∧s=HP t c d:=by
 induction l generalizing ds with
 |nil=>cases h
 |cons t l ih=>
  cases ds with
  |nil=>cases h
  |cons d ds=>
   rcases List.mem_cons.1 h with h1|h1
   ·exact⟨t,d,List.mem_cons_self ..,List.mem_cons_self ..,h1⟩
   ·obtain⟨t',d',q1,q2,q3⟩:=ih h1
    exact⟨t',d',List.mem_cons_of_mem _ q1,List.mem_cons_of_mem _ q2,q3⟩
theorem col{x:aR}(h:okW x=true): ∀k,k≤x.aa.length→Col x k
 |0,_=>by
  have he:=qv h
  refine⟨rfl,fun s hs=> ?_,fun s hs=> ?_⟩
  ·intro r hr;rw[he s hs]at hr;cases hr
  ·refine⟨by rw[he s hs];decide,fun r hr=> ?_⟩
   rw[he s hs]at hr;cases hr
 |k+1,hk=>by
  have ih:=col h k (by omega)
  have hl:(c8 x (k:Int)).length=x.aj.length:=iY h (by omega)
  refine⟨?_,fun s hs=> ?_,fun s hs=> ?_⟩
  ·show(List.zipWith _ _ _).length=_
   rw[List.length_zipWith,ih.len,hl];omega
  ·obtain⟨t,d,h1,h2,rfl⟩:=ES hs
   exact Ju (ih.V1 t h1) (by omega)
  ·obtain⟨t,d,h1,h2,rfl⟩:=ES hs
   exact Jv (ih.W8 t h1) (rS h d h2)
theorem gT{x:aR}(h:okW x=true){k:Nat}(hk:k≤x.aa.length):(rR x k).length=x.aj.length:=(col h k hk).len
theorem ET{x:aR}(h:okW x=true){k i:Nat}(hk:k<x.aa.length)(hi:i<x.aj.length):(rR x (k+1)).getD i (aA .bl)=HP ((rR x k).getD i (aA .bl)) (k:Int) ((c8 x (k:Int)).getD i (aA .DB)):=by
 have hl:(c8 x (k:Int)).length=x.aj.length:=iY h (by omega)
 have h2:=gT h (k:=k) (by omega)
 show(List.zipWith _ _ _).getD i _=_
 rw[List.getD_eq_getElem?_getD,List.getD_eq_getElem?_getD,List.getD_eq_getElem?_getD,List.getElem?_zipWith,List.getElem?_eq_getElem (show i<(rR x k).length by omega),List.getElem?_eq_getElem (show i<(c8 x (k:Int)).length by omega)]
 rfl
def vm(x:aR)(k i:Nat):List bl:=(rR x (k+1)).take i++(rR x k).drop i
theorem Mx{x:aR}(h:okW x=true){k i:Nat}(hk:k<x.aa.length)(hi:i≤x.aj.length):(vm x k i).length=x.aj.length:=by
 have h1:=gT h (k:=k) (by omega)
 have h2:=gT h (k:=k+1) (by omega)
 unfold vm
 rw[tG _ _ _ (by omega) (by omega),h1]
theorem EU{x:aR}(h:okW x=true){k i:Nat}(hk:k<x.aa.length)(hi:i<x.aj.length):(vm x k i).getD i (aA .bl)=(rR x k).getD i (aA .bl):=by
 have h2:=gT h (k:=k+1) (by omega)
 exact tF _ _ _ _ (by omega)
theorem Jw{x:aR}(h:okW x=true){k i:Nat}(hk:k<x.aa.length)(hi:i<x.aj.length):(vm x k i).set i (HP ((vm x k i).getD i (aA .bl)) (k:Int) ((c8 x (k:Int)).getD i (aA .DB)))=vm x k (i+1):=by
 have h1:=gT h (k:=k) (by omega)
 have h2:=gT h (k:=k+1) (by omega)
 rw[EU h hk hi]
 exact zj _ _ _ (aA .bl) _ (by omega) (by omega) (ET h hk hi)
theorem My{x:aR}(h:okW x=true){k i:Nat}(hk:k<x.aa.length)(hi:x.aj.length≤i):vm x k i=rR x (k+1):=by
 have h1:=gT h (k:=k) (by omega)
 have h2:=gT h (k:=k+1) (by omega)
 unfold vm
 rw[List.take_of_length_le (by omega),List.drop_of_length_le (by omega),List.append_nil]
theorem Mz{x:aR}(h:okW x=true){k i:Nat}(hk:k<x.aa.length)(hi:i<x.aj.length):below ((vm x k i).getD i (aA .bl)) (k:Int)∧nh ((vm x k i).getD i (aA .bl))∧dc List.length ((c8 x (k:Int)).getD i (aA .DB)).rows≤1048576:=by
 rw[EU h hk hi]
 have c:=col h k (by omega)
 have hl:(c8 x (k:Int)).length=x.aj.length:=iY h (by omega)
 exact⟨c.V1 _ (getD_in _ (by rw[c.len];exact hi)),c.W8 _ (getD_in _ (by rw[c.len];exact hi)),eI (rS h _ (getD_in _ (by omega)))⟩
def bH(x:aR):List bl:=if okW x then rR x x.aa.length else []
def kj(x:aR):List ep:=if okW x then EO x x.aa.length else []
end
section
theorem MD{x:aR}(h:dn x≤1048576)(k:Nat)(hk:k<x.az.rounds.length):dc List.length (x.az.rounds.getD k (aA .aC)).db.rows≤1048576:=by
 have h2:ef x.az≤1048576:=by unfold dn at h;omega
 unfold ef at h2
 have h3:=iM h2 (rG _ k (aA .aC) hk)
 unfold dm CP at h3
 exact h3
theorem xD{x:aR}(h:dn x≤1048576){k:Nat}(hk:k<x.aa.length):bq (x.aa.getD k (aA .aS))≤1048576:=by
 have h2:dc bq x.aa≤1048576:=by unfold dn at h;omega
 exact iM h2 (rG _ k (aA .aS) hk)
theorem xE{d:aS}(h:bq d≤1048576):dc List.length d.live.aE≤1048576∧dc List.length d.live.inbox≤1048576∧dc List.length d.saved.aE≤1048576∧dc List.length d.saved.inbox≤1048576:=by
 unfold bq cu at h
 omega
theorem EW{x:aR}(h:dn x≤1048576){k:Nat}(hk:k<x.aa.length):(x.aa.getD k (aA .aS)).live.inbox.length≤1048576:=cN (xE (xD h hk)).2.1
theorem zO{x:aR}{c f:cX}{n:Nat}{r:aC}(h:r.round<f.next∨c.aE.length≤n):mq x c f n r=n:=if_pos h
theorem BI{x:aR}{c f:cX}{n:Nat}{r:aC}(h: ¬(r.round<f.next∨c.aE.length≤n))(h2:(nA r.db (fD c.key r.round (cB c) x.rows)&&(rowAt r.db (fD c.key r.round (cB c) x.rows)==kY c n))=true):mq x c f n r=n+1:=by
 unfold mq;rw[if_neg h,if_pos h2]
theorem zP{x:aR}{c f:cX}{n:Nat}{r:aC}(h: ¬(r.round<f.next∨c.aE.length≤n))(h2:(nA r.db (fD c.key r.round (cB c) x.rows)&&(rowAt r.db (fD c.key r.round (cB c) x.rows)==kY c n))=false):mq x c f n r=n:=by
 unfold mq;rw[if_neg h,if_neg (by rw[h2];decide)]
end
section
def eX(l:List aC)(f:Int):List Int:=(l.filter fun r=>decide (f≤r.round)).map aC.round
theorem zQ(l:List aC)(f:Int)(k:Nat)(h:k<l.length)(h2:f≤(l.getD k (aA .aC)).round):eX (l.take (k+1)) f=eX (l.take k) f++ [(l.getD k (aA .aC)).round]:=by
 unfold eX
 rw[bw l k (aA .aC) h,List.filter_append,List.map_append]
 generalize l.getD k (aA .aC)=r at h2 ⊢
 simp[List.filter_cons,h2]
theorem wE(l:List aC)(f:Int)(k:Nat)(h:k<l.length)(h2: ¬f≤(l.getD k (aA .aC)).round):eX (l.take (k+1)) f=eX (l.take k) f:=by
 unfold eX
 rw[bw l k (aA .aC) h,List.filter_append,List.map_append]
 generalize l.getD k (aA .aC)=r at h2 ⊢
 simp[List.filter_cons,h2]
theorem zR(l:List aC)(f:Int):(eX l f).length≤l.length:=by
 unfold eX
 rw[List.length_map];exact List.length_filter_le _ _
theorem wF(l:List aC)(f:Int)(k:Nat):(eX (l.take k) f).length≤k:=by
 have h1:=zR (l.take k) f
 rw[List.length_take]at h1
 omega
def kr(x:aR)(d:aS):Bool:= !(decide ((5:Int)<(eX x.az.rounds d.saved.next).length)|| (decide ((8:Int)≤x.az.rounds.length)&&decide (d.saved.next<(x.az.rounds.getD 0 (aA .aC)).round)))
def ku(x:aR):Bool:=x.aa.all (kr x)
def lp(x:aR)(i:Int):Bool:=dA x i&&qH (x.aa.getD i.toNat (aA .aS)).live.inbox (x.aa.getD (i.toNat^^^1) (aA .aS)).live.aE
theorem C1{x:aR}{i:Int}(hd:x.aa.length≤1048576)(h:dA x i=true):(0≤i∧i<(x.aa.length:Int))∧(0≤IntKind.i64.wrap (BitVec.ofInt IntKind.i64.bits i^^^BitVec.ofInt IntKind.i64.bits 1).toNat∧IntKind.i64.wrap (BitVec.ofInt IntKind.i64.bits i^^^BitVec.ofInt IntKind.i64.bits 1).toNat<(x.aa.length:Int))∧
  (IntKind.i64.wrap (BitVec.ofInt IntKind.i64.bits i^^^BitVec.ofInt IntKind.i64.bits 1).toNat).toNat=i.toNat^^^1:=by
 obtain⟨h0,h1,h2,h3⟩:=CK h
 have hx:=Es i.toNat (by omega)
 rw[←h3]at hx
 rw[hx]
 exact⟨by omega,by omega,by simp⟩
theorem EX{x:aR}{i:Int}(hd:x.aa.length≤1048576):(dA x i&&qH (x.aa.getD i.toNat (aA .aS)).live.inbox (x.aa.getD (IntKind.i64.wrap (BitVec.ofInt IntKind.i64.bits i^^^BitVec.ofInt IntKind.i64.bits 1).toNat).toNat (aA .aS)).live.aE)=lp x i:=by
 unfold lp
 cases h:dA x i with
 |false=>rfl
 |true=>rw[(C1 hd h).2.2]
def J9(x:aR)(k:Nat):Bool:=lp x (k:Int)&&fF x (k:Int)
def nE(x:aR):Bool:=okW x&&ku x&&(List.range x.aa.length).all (J9 x)
end
section
def EY(key c:Int)(cell:List UInt8):List UInt8:=decr (lN key c) (cell.take 20)
def ME(key c:Int)(cell:List UInt8):Bool:=ez key&&inr c 0 1000000000000&&decide ((cell.length:Int)=24)&&(cell.drop 20==four (lM key c (cell.take 20)))
def TD(key c:Int)(cell:List UInt8):Bool:=inr ((EY key c cell).getD 0 (aA .u8)).toNat 0 3&&decide ((((EY key c cell).getD 1 (aA .u8)).toNat:Int)≤14)
def pg(key c:Int)(cell:List UInt8):Bool:=ME key c cell&&TD key c cell
def Ok(key c:Int)(cell:List UInt8):Plain:=if pg key c cell then⟨((EY key c cell).getD 0 (aA .u8)).toNat,((EY key c cell).take (2+((EY key c cell).getD 1 (aA .u8)).toNat)).drop 2⟩else⟨0,[]⟩
theorem HU{key c:Int}{cell:List UInt8}(h:ME key c cell=true):(EY key c cell).length=20∧cell.length=24:=by
 simp only[ME,Bool.and_eq_true,decide_eq_true_eq]at h
 have:cell.length=24:=by omega
 refine⟨?_,this⟩
 unfold EY
 rw[zm,List.length_take];omega
theorem vo{key c:Int}{cell:List UInt8}(h:pg key c cell=false):Ok key c cell=⟨0,[]⟩:=by rw[Ok,h];rfl
theorem MF(key c:Int)(cell:List UInt8):(Ok key c cell).body.length≤14:=by
 unfold Ok
 split
 ·rename_i h
  simp only[pg,TD,Bool.and_eq_true,decide_eq_true_eq]at h
  simp only[List.length_drop,List.length_take];omega
 ·exact Nat.zero_le _
theorem MG(a b c d:UInt8)(n:Int)(h0:0≤n)(h1:n<4294967296):([a,b,c,d]==four n)=decide ((a.toNat:Int)+256*b.toNat+65536*c.toNat+16777216*d.toNat=n):=by
 have ha:=a.toNat_lt;have hb:=b.toNat_lt;have hc:=c.toNat_lt;have hd:=d.toNat_lt
 rw[Bool.eq_iff_iff,beq_iff_eq,decide_eq_true_eq]
 have key: ∀(x:UInt8) (m:Int),x=b8 m↔(x.toNat:Int)=m % 256:=by
  intro x m
  constructor
  ·rintro rfl;exact tD m
  ·intro h;apply Ge;rw[tD];exact h
 unfold four
 simp only[List.cons.injEq,and_true,key]
 constructor
 ·rintro⟨q1,q2,q3,q4⟩;omega
 ·intro h;omega
def Ol(r:Int)(a:aC):Bool:=a.round==r
def kB(l:List aC)(r:Int):Bool:=l.any (Ol r)
def kL(l:List aC)(r:Int):DB:=if kB l r then(l.getD (fidx (Ol r) l).toNat (aA .aC)).db else⟨[]⟩
theorem TF{l:List aC}{r:Int}{k:Nat}(h:k<l.length)(h1:(l.take k).any (Ol r)=false)(h2:Ol r (l.getD k (aA .aC))=true):kB l r=true∧kL l r=(l.getD k (aA .aC)).db:=by
 have ha:kB l r=true:=xA l (Ol r) (aA .aC) k h h2
 exact⟨ha,by rw[kL,if_pos ha,zw (aA .aC) h h1 h2];rfl⟩
theorem HV{l:List aC}{r:Int}(h:l.any (Ol r)=false):kB l r=false∧kL l r=⟨[]⟩:=⟨h,by rw[kL,kB,h];rfl⟩
def P9(rows:List (List UInt8))(v:List Int)(o:List UInt8)(k:Nat):List UInt8:=if decide ((k:Int)<v.length)&&(v.getD k (aA .int)==1)then gx o (rows.getD k (aA (.sl .u8)))else o
def qJ(rows:List (List UInt8))(v:List Int)(k:Nat):List UInt8:=(List.range k).foldl (P9 rows v) []
def C2(rows:List (List UInt8))(v:List Int):List UInt8:=qJ rows v rows.length
theorem BJ(rows:List (List UInt8))(v:List Int)(k:Nat):qJ rows v (k+1)=P9 rows v (qJ rows v k) k:=by
 unfold qJ
 rw[List.range_succ,List.foldl_append];rfl
theorem zS{rows:List (List UInt8)}{v:List Int}{k:Nat}(h:k<v.length)(h1:v.getD k (aA .int)=1):qJ rows v (k+1)=gx (qJ rows v k) (rows.getD k (aA (.sl .u8))):=by
 rw[BJ,P9,if_pos]
 simp only[Bool.and_eq_true,decide_eq_true_eq,beq_iff_eq]
 exact⟨by omega,h1⟩
theorem qx{rows:List (List UInt8)}{v:List Int}{k:Nat}(h: ¬(k<v.length∧v.getD k (aA .int)=1)):qJ rows v (k+1)=qJ rows v k:=by
 rw[BJ,P9,if_neg]
 simp only[Bool.and_eq_true,decide_eq_true_eq,beq_iff_eq]
 intro h2
 exact h ⟨by omega,h2.2⟩
theorem BK(rows:List (List UInt8))(v:List Int)(k:Nat)(h:v.length≤k): ∀n,qJ rows v (k+n)=qJ rows v k
 |0=>rfl
 |n+1=>by rw[←Nat.add_assoc,qx (by omega)];exact BK rows v k h n
theorem MH{rows:List (List UInt8)}{v:List Int}{k:Nat}(hk:k≤rows.length)(h:rows.length≤k∨v.length≤k):qJ rows v k=C2 rows v:=by
 unfold C2
 rcases h with h|h
 ·rw[show k=rows.length by omega]
 ·have:=BK rows v k h (rows.length-k)
  rw[show k+(rows.length-k)=rows.length by omega]at this
  exact this.symm
theorem zT{rows:List (List UInt8)}(v:List Int)(h: ∀r,r∈rows→r.length≤1048576): ∀k,k≤rows.length→(qJ rows v k).length≤1048576
 |0,_=>Nat.zero_le _
 |k+1,hk=>by
  have ih:=zT v h k (by omega)
  by_cases hh:k<v.length∧v.getD k (aA .int)=1
  ·rw[zS hh.1 hh.2,eO]
   have:=h _ (getD_in (aA (.sl .u8)) (show k<rows.length by omega))
   omega
  ·rw[qx hh];exact ih
def gX(d:DB)(v:List Int):List UInt8:=if b9 d&&ig v d.rows.length then gx RQ (C2 d.rows v)else []
theorem zU(d:DB)(v:List Int):(gX d v).length=24∨gX d v= []:=by
 unfold gX
 split
 ·left
  rename_i h
  simp only[Bool.and_eq_true]at h
  have key: ∀k,k≤d.rows.length→(qJ d.rows v k).length≤24:=by
   intro k
   induction k with
   |zero=>intro _;exact Nat.zero_le _
   |succ k ih=>
    intro hk
    by_cases hh:k<v.length∧v.getD k (aA .int)=1
    ·rw[zS hh.1 hh.2,eO,qi h.1 k (by omega)]
     have:=ih (by omega);omega
    ·rw[qx hh];exact ih (by omega)
  have:=key d.rows.length (Nat.le_refl _)
  unfold C2
  rw[eO,qm];omega
 ·right;rfl
def Jy(key sv r:Int)(v:List Int)(b:List UInt8):Int:=kh key ([191,sv,r,(v.length:Int)]++v++Gf b)
def V2(key sv r:Int)(v:List Int)(b:List UInt8):cD:=⟨sv,r,v,b,Jy key sv r v b⟩
def mB(d:DB)(v:List Int):Bool:= !((gX d v).length==0)
def Yq:cD:=⟨0,0,[],[],0⟩
def nY(key sv r:Int)(d:DB)(v:List Int):cD:=if mB d v then V2 key sv r v (gX d v)else Yq
def Ka(b:List UInt8):List UInt8:=b.set 0 (b.getD 0 (aA .u8)^^^128)
def Om(s:bl)(key r:Int)(d:DB)(v:List Int):cD:=if mB d v then(if s.behavior=3 then V2 key s.id r v (Ka (gX d v))else V2 key s.id r v (gX d v))else Yq
def kC(l:List (List UInt8)):Bool:=cg l.length&&l.all fun a=>decide ((a.length:Int)=24)
def zV(l:List (List UInt8)):List UInt8:=l.foldl gx []
def RU(l:List (List UInt8)):List UInt8:=if kC l then zV l else []
theorem BL(l:List (List UInt8))(k:Nat)(h:k<l.length):zV (l.take (k+1))=gx (zV (l.take k)) (l.getD k (aA (.sl .u8))):=by
 unfold zV
 rw[bw l k (aA (.sl .u8)) h,List.foldl_append];rfl
theorem MI{l:List (List UInt8)}(h: ∀a,a∈l→a.length≤1048576): ∀k,(zV (l.take k)).length≤1048576:=by
 intro k
 induction k with
 |zero=>exact Nat.zero_le _
 |succ k ih=>
  by_cases hk:k<l.length
  ·rw[BL l k hk,eO]
   have:=h _ (getD_in (aA (.sl .u8)) hk)
   omega
  ·rw[List.take_of_length_le (by omega)]at ih ⊢
   exact ih
def V3(x:aR)(r:Int)(d:DB)(q:List (List Int))(i:Nat):cD:=Om (x.aj.getD i (aA .bl)) (ni x.bh (i:Int)) r d (q.getD i (aA (.sl .int)))
def wG(x:aR)(r:Int)(d:DB)(q:List (List Int))(n:Nat):List cD:=(List.range n).map (V3 x r d q)
theorem GD(x:aR)(r:Int)(d:DB)(q:List (List Int))(n:Nat):wG x r d q (n+1)=wG x r d q n++ [V3 x r d q n]:=by
 unfold wG
 rw[List.range_succ,List.map_append];rfl
theorem Jz(x:aR)(r:Int)(d:DB)(q:List (List Int))(n:Nat):(wG x r d q n).length=n:=by simp[wG]
def query'(x:aR)(r row s:Int):List (List Int):=tO x.rows row (jl x.aj.length r row s)
def HW(x:aR)(r row s:Int):List (List UInt8):=(wG x r (kL x.az.rounds r) (query' x r row s) (query' x r row s).length).map cD.data
def EZ(x:aR)(r row s:Int):Bool:=kB x.az.rounds r&&kC (HW x r row s)
def JA(x:aR)(r row s:Int):List UInt8:=if kB x.az.rounds r then RU (HW x r row s)else []
def vp(c:cX)(r:Int):Bool:=cG c&&inr r c.next 99999
def zW(c:cX)(own:List UInt8):Bool:=decide (c.sent<(c.aE.length:Int))&&(own==kY c c.sent)
def BM(c:cX):Int:=rI c.key (1-cB c)
def pz(c:cX)(other:List UInt8):Bool:=(pg (BM c) (c.inbox.length:Int) other&&((Ok (BM c) (c.inbox.length:Int) other).kind==1))&&decide ((c.inbox.length:Int)<16)
def fj(c:cX)(r:Int)(own other:List UInt8):cX:=if vp c r then⟨c.id,c.dF,c.key,c.seed,c.aE,if zW c own then c.sent+1 else c.sent,if pz c other then c.inbox++ [(Ok (BM c) (c.inbox.length:Int) other).body]else c.inbox,r+1⟩else c
def zX(d:aS):Bool:=cE d&&decide (4≤IntKind.i64.wrap (d.live.next-d.saved.next))
def zY(d:aS)(r:Int):Bool:=vp d.live r&&cE d
def mC(d:aS)(r:Int)(own other:List UInt8):aS:=⟨fj d.live r own other,d.saved⟩
def rdev(d:aS)(r:Int)(own other:List UInt8):aS:=if zY d r then(if zX (mC d r own other)then⟨fj d.live r own other,fj d.live r own other⟩else mC d r own other)else d
def nF(a b:cX):Prop:=a.id=b.id∧a.dF=b.dF∧a.key=b.key∧a.seed=b.seed
theorem rV(c:cX)(r:Int)(own other:List UInt8):nF (fj c r own other) c:=by
 unfold fj
 split
 ·exact⟨rfl,rfl,rfl,rfl⟩
 ·exact⟨rfl,rfl,rfl,rfl⟩
theorem JB(d:aS)(r:Int)(own other:List UInt8):nF (rdev d r own other).live d.live:=by
 unfold rdev
 split
 ·split
  ·exact rV _ _ _ _
  ·exact rV _ _ _ _
 ·exact⟨rfl,rfl,rfl,rfl⟩
theorem GF{a b:cX}(h:nF a b):cB a=cB b:=by unfold cB;rw[h.1,h.2.1]
def GG(x:aR)(d0 d:aS)(r:Int):aS:=rdev d r (JA x r (fD d0.live.key r (cB d0.live) x.rows) d0.live.seed) (JA x r (fD d0.live.key r (1-cB d0.live) x.rows) d0.live.seed)
def E0(x:aR)(d0:aS)(l:List Int):aS:=l.foldl (GG x d0) d0
theorem JC(x:aR)(d0:aS)(l:List Int)(k:Nat)(h:k<l.length):E0 x d0 (l.take (k+1))=GG x d0 (E0 x d0 (l.take k)) (l.getD k (aA .int)):=by
 unfold E0
 rw[bw l k (aA .int) h,List.foldl_append];rfl
theorem vr(x:aR)(d0:aS): ∀(l:List Int) (d:aS),nF d.live d0.live→nF (l.foldl (GG x d0) d).live d0.live
 | [],_,h=>h
 |r::l,d,h=>by
  refine vr x d0 l _ ?_
  have:=JB d r (JA x r (fD d0.live.key r (cB d0.live) x.rows) d0.live.seed) (JA x r (fD d0.live.key r (1-cB d0.live) x.rows) d0.live.seed)
  exact⟨this.1.trans h.1,this.2.1.trans h.2.1,this.2.2.1.trans h.2.2.1,this.2.2.2.trans h.2.2.2⟩
def vu(x:aR)(d:aS):List Int:=eX x.az.rounds d.live.next
def kD(x:aR)(d:aS):aS:=E0 x d (vu x d)
def nG(x:aR)(k i:Nat):List aS:=(x.aa.map (kD x)).take k++(E0 x (x.aa.getD k (aA .aS)) ((vu x (x.aa.getD k (aA .aS))).take i)::x.aa.drop (k+1))
def MJ(x:aR)(k:Nat):List aS:=(x.aa.map (kD x)).take k++x.aa.drop k
theorem RW(x:aR)(k:Nat)(h:k<x.aa.length):nG x k 0=MJ x k:=by
 unfold nG MJ
 rw[List.take_zero,List.drop_eq_getElem_cons h,show x.aa[k]=x.aa.getD k (aA .aS)by rw[List.getD_eq_getElem?_getD,List.getElem?_eq_getElem h];rfl];rfl
theorem tU(x:aR)(k:Nat)(h:k<x.aa.length):((x.aa.map (kD x)).take k).length=k:=by
 rw[List.length_take,List.length_map];omega
theorem Qa(x:aR)(k i:Nat)(h:k<x.aa.length):(nG x k i).length=x.aa.length:=by
 unfold nG
 rw[List.length_append,tU x k h,List.length_cons,List.length_drop];omega
theorem xF(x:aR)(k i:Nat)(h:k<x.aa.length):(nG x k i).getD k (aA .aS)=E0 x (x.aa.getD k (aA .aS)) ((vu x (x.aa.getD k (aA .aS))).take i):=by
 unfold nG
 rw[List.getD_eq_getElem?_getD,List.getElem?_append_right (by rw[tU x k h];omega),tU x k h,Nat.sub_self];rfl
theorem MK(x:aR)(k i:Nat)(h:k<x.aa.length)(hi:i<(vu x (x.aa.getD k (aA .aS))).length):(nG x k i).set k (GG x (x.aa.getD k (aA .aS)) ((nG x k i).getD k (aA .aS)) ((vu x (x.aa.getD k (aA .aS))).getD i (aA .int)))=nG x k (i+1):=by
 rw[xF x k i h, ←JC x _ _ i hi]
 unfold nG
 rw[List.set_append_right _ _ (by rw[tU x k h];omega),tU x k h,Nat.sub_self];rfl
theorem Qc(x:aR)(k i:Nat)(h:k<x.aa.length)(hi:(vu x (x.aa.getD k (aA .aS))).length≤i):nG x k i=MJ x (k+1):=by
 unfold nG MJ
 rw[List.take_of_length_le hi,bw (x.aa.map (kD x)) k (aA .aS) (by rw[List.length_map];exact h),List.append_assoc]
 congr 1
 rw[show(x.aa.map (kD x)).getD k (aA .aS)=kD x (x.aa.getD k (aA .aS))by
  rw[List.getD_eq_getElem?_getD,List.getD_eq_getElem?_getD,List.getElem?_map,List.getElem?_eq_getElem h];rfl]
 rfl
theorem Qd(x:aR)(k:Nat)(h:k<x.aa.length):(MJ x k).getD k (aA .aS)=x.aa.getD k (aA .aS):=by rw[←RW x k h,xF x k 0 h];rfl
theorem Qe(x:aR)(k:Nat)(h:k≤x.aa.length):(MJ x k).length=x.aa.length:=by
 unfold MJ
 rw[tG _ _ _ (by rw[List.length_map]) h]
def AJ(x:aR):aR:=if okW x then⟨x.rows,x.aj,x.aa.map (kD x),x.az,x.bh,x.seed,x.round,x.replaced,x.cancelled⟩else x
theorem Qf(x:aR)(k:Nat)(hk:k≤x.aa.length)(h:x.aa.length≤k):MJ x k=x.aa.map (kD x):=by
 unfold MJ
 rw[List.take_of_length_le (by rw[List.length_map];exact h),List.drop_of_length_le h,List.append_nil]
end
section
theorem On(x:UInt8):IntKind.i64.wrap (x.toNat:Int)=x.toNat:=bp (by have:=x.toNat_lt;omega)
def V4(key c:Int)(cell:List UInt8):Int:=((EY key c cell).getD 0 (aA .u8)).toNat
def Fy(key c:Int)(cell:List UInt8):Nat:=((EY key c cell).getD 1 (aA .u8)).toNat
def W9(key c:Int)(cell:List UInt8):List UInt8:=((EY key c cell).take (2+Fy key c cell)).drop 2
theorem TG(key c:Int)(cell:List UInt8):Fy key c cell<256:=((EY key c cell).getD 1 (aA .u8)).toNat_lt
theorem TH(key c:Int)(cell:List UInt8):decr (lN key c) ((cell.take (20:Int).toNat).drop (0:Int).toNat)=EY key c cell:=by unfold EY;simp
theorem TI(key c:Int)(cell:List UInt8):((EY key c cell).take (IntKind.i64.wrap (2+IntKind.i64.wrap (((EY key c cell).getD (Int.toNat 1) (aA .u8)).toNat:Int))).toNat).drop (Int.toNat 2)=W9 key c cell:=by
 have h:=TG key c cell
 rw[On,bp (by show _∧2+(Fy key c cell:Int)≤_;show _≤2+(Fy key c cell:Int)∧_;omega)]
 show((EY key c cell).take (2+(Fy key c cell:Int)).toNat).drop 2=_
 rw[show(2+(Fy key c cell:Int)).toNat=2+Fy key c cell by omega];rfl
theorem V5{key c:Int}{cell:List UInt8}(h:14<Fy key c cell):pg key c cell=false:=by
 have:TD key c cell=false:=by
  simp only[TD,Bool.and_eq_false_iff,decide_eq_false_iff_not]
  right
  show¬((Fy key c cell:Int)≤14)
  omega
 rw[pg,this,Bool.and_false]
theorem ML{key c:Int}{cell:List UInt8}(h:ME key c cell=false):pg key c cell=false:=by rw[pg,h];rfl
theorem Qg{key c:Int}{cell:List UInt8}(hA:ME key c cell=true)(h:Fy key c cell≤14):(W9 key c cell).length=Fy key c cell:=by
 have:=(HU hA).1
 unfold W9
 rw[List.length_drop,List.length_take];omega
theorem HX{key c:Int}{cell:List UInt8}(h:pg key c cell=true):Ok key c cell=⟨V4 key c cell,W9 key c cell⟩:=by rw[Ok,if_pos h];rfl
theorem V6{key c:Int}{cell:List UInt8}(hA:ME key c cell=true)(h:Fy key c cell≤14)(hk:V4 key c cell≤3):pg key c cell=true:=by
 rw[pg,hA,Bool.true_and,TD]
 simp only[Bool.and_eq_true,bT,decide_eq_true_eq]
 exact⟨⟨by omega,hk⟩,by show(Fy key c cell:Int)≤14;omega⟩
theorem TJ{key c:Int}{cell:List UInt8}(h:3<V4 key c cell):pg key c cell=false:=by
 have:TD key c cell=false:=by
  simp only[TD,Bool.and_eq_false_iff]
  left
  rw[RK]
  show¬(0≤V4 key c cell∧V4 key c cell≤3)
  omega
 rw[pg,this,Bool.and_false]
theorem TL(a b k:Nat)(h:a<2^k):a||| (b*2^k)=a+b*2^k:=by
 have:=Nat.two_pow_add_eq_or_of_lt h b
 rw[Nat.mul_comm b,Nat.or_comm, ←this,Nat.add_comm]
theorem TM{a:Nat}{b k:Nat}(ha:a<2^k)(hb:b<256)(hk:k=8∨k=16∨k=24):IntKind.i64.wrap (BitVec.ofInt IntKind.i64.bits (a:Int)|||BitVec.ofInt IntKind.i64.bits (IntKind.i64.wrap ((b:Int)*2^k))).toNat=((a+b*2^k:Nat):Int):=by
 have hp:b*2^k<2^32:=by
  rcases hk with rfl|rfl|rfl<;>omega
 have ha2:a<2^24:=by
  rcases hk with rfl|rfl|rfl<;>omega
 have e:((b:Int)*2^k)=((b*2^k:Nat):Int):=by push_cast;rfl
 rw[e,bp (a:=((b*2^k:Nat):Int)) (by omega),BitVec.ofInt_natCast,BitVec.ofInt_natCast,BitVec.toNat_or,BitVec.toNat_ofNat,BitVec.toNat_ofNat]
 show IntKind.i64.wrap (((a % 2^64|||b*2^k % 2^64:Nat)):Int)=_
 rw[Nat.mod_eq_of_lt (by omega),Nat.mod_eq_of_lt (by omega),TL a b k ha,bp (by omega)]
def TN(cell:List UInt8):Int:=((cell.getD 20 (aA .u8)).toNat:Int)+256*(cell.getD 21 (aA .u8)).toNat+65536*(cell.getD 22 (aA .u8)).toNat+16777216*(cell.getD 23 (aA .u8)).toNat
theorem Qh(cell:List UInt8):IntKind.i64.wrap (BitVec.ofInt IntKind.i64.bits (IntKind.i64.wrap (BitVec.ofInt IntKind.i64.bits (IntKind.i64.wrap (BitVec.ofInt IntKind.i64.bits (IntKind.i64.wrap ((cell.getD (Int.toNat 20) (aA .u8)).toNat:Int))|||BitVec.ofInt IntKind.i64.bits (IntKind.i64.wrap (IntKind.i64.wrap ((cell.getD (Int.toNat 21) (aA .u8)).toNat:Int)*2^(min (Int.toNat 8) IntKind.i64.bits)))).toNat)|||BitVec.ofInt IntKind.i64.bits (IntKind.i64.wrap (IntKind.i64.wrap ((cell.getD (Int.toNat 22) (aA .u8)).toNat:Int)*2^(min (Int.toNat 16) IntKind.i64.bits)))).toNat)|||BitVec.ofInt IntKind.i64.bits (IntKind.i64.wrap (IntKind.i64.wrap ((cell.getD (Int.toNat 23) (aA .u8)).toNat:Int)*2^(min (Int.toNat 24) IntKind.i64.bits)))).toNat=TN cell:=by
 have h0:=(cell.getD 20 (aA .u8)).toNat_lt
 have h1:=(cell.getD 21 (aA .u8)).toNat_lt
 have h2:=(cell.getD 22 (aA .u8)).toNat_lt
 have h3:=(cell.getD 23 (aA .u8)).toNat_lt
 rw[On,On,On,On]
 show IntKind.i64.wrap (BitVec.ofInt IntKind.i64.bits (IntKind.i64.wrap (BitVec.ofInt IntKind.i64.bits (IntKind.i64.wrap (BitVec.ofInt IntKind.i64.bits (((cell.getD 20 (aA .u8)).toNat:Nat):Int)|||BitVec.ofInt IntKind.i64.bits (IntKind.i64.wrap ((((cell.getD 21 (aA .u8)).toNat:Nat):Int)*2^8))).toNat)|||BitVec.ofInt IntKind.i64.bits (IntKind.i64.wrap ((((cell.getD 22 (aA .u8)).toNat:Nat):Int)*2^16))).toNat)|||BitVec.ofInt IntKind.i64.bits (IntKind.i64.wrap ((((cell.getD 23 (aA .u8)).toNat:Nat):Int)*2^24))).toNat=_
 rw[TM (k:=8) h0 h1 (by omega),TM (k:=16) (by omega) h2 (by omega),TM (k:=24) (by omega) h3 (by omega)]
 unfold TN
 omega
theorem TO{cell:List UInt8}(h:cell.length=24):cell.drop 20= [cell.getD 20 (aA .u8),cell.getD 21 (aA .u8),cell.getD 22 (aA .u8),cell.getD 23 (aA .u8)]:=by
 rw[jM cell 20 (aA .u8) (by omega),jM cell 21 (aA .u8) (by omega),jM cell 22 (aA .u8) (by omega),jM cell 23 (aA .u8) (by omega),List.drop_of_length_le (by omega)]
theorem Qi{key c:Int}{cell:List UInt8}(h1:ez key=true)(h2:inr c 0 1000000000000=true)(h3:cell.length=24):ME key c cell=decide (TN cell=lM key c (cell.take 20)):=by
 have hr:=cP key (71::c::(cell.take 20).map (fun x=>(x.toNat:Int)))
 have Dq:0≤lM key c (cell.take 20)∧lM key c (cell.take 20)<2147483647:=hr
 rw[ME,h1,h2,show decide ((cell.length:Int)=24)=true by rw[decide_eq_true_eq];omega,Bool.true_and,Bool.true_and,Bool.true_and,TO h3,MG _ _ _ _ _ Dq.1 (by omega)]
 rfl
def RX(key c:Int)(cell:List UInt8):Bool:=ez key&&inr c 0 1000000000000&&decide ((cell.length:Int)=24)
theorem TP{key c:Int}{cell:List UInt8}(h:RX key c cell=false):pg key c cell=false:=by
 apply ML
 unfold RX at h
 rw[ME,h];rfl
theorem V7{key c:Int}{cell:List UInt8}(h:RX key c cell=true):ez key=true∧inr c 0 1000000000000=true∧cell.length=24:=by
 simp only[RX,Bool.and_eq_true,decide_eq_true_eq]at h
 exact⟨h.1.1,h.1.2,by omega⟩
theorem TQ(l:List UInt8):l.set (Int.toNat 0) (UInt8.ofNat (IntKind.u8.wrap ((BitVec.ofInt IntKind.u8.bits (((l.getD (Int.toNat 0) (aA .u8)).toNat:Nat):Int)^^^BitVec.ofInt IntKind.u8.bits 128).toNat:Int)).toNat)=Ka l:=by
 have:=PS (l.getD (Int.toNat 0) (aA .u8)) 128
 rw[show(((128:UInt8).toNat:Nat):Int)=128 from rfl]at this
 rw[this];rfl
theorem Qj{d:DB}{v:List Int}(h:(gX d v).length=0):mB d v=false:=by rw[mB,h];rfl
theorem E1{d:DB}{v:List Int}(h: ¬(gX d v).length=0):mB d v=true:=by
 rw[mB,Bool.not_eq_true']
 exact beq_eq_false_iff_ne.2 h
theorem TR{key sv r:Int}{d:DB}{v:List Int}(h:mB d v=false):nY key sv r d v=Yq:=by rw[nY,h];rfl
theorem HY{key sv r:Int}{d:DB}{v:List Int}(h:mB d v=true):nY key sv r d v=V2 key sv r v (gX d v):=by rw[nY,if_pos h]
theorem HZ{d:DB}{v:List Int}(h:mB d v=true):(gX d v).length=24:=by
 rcases zU d v with h1|h1
 ·exact h1
 ·rw[mB,h1]at h;cases h
theorem TS{s:bl}{key r:Int}{d:DB}{v:List Int}(h:(mB d v&&(s.behavior==3))=false):Om s key r d v=nY key s.id r d v:=by
 unfold Om nY
 cases hk:mB d v with
 |false=>rfl
 |true=>
  rw[hk,Bool.true_and,beq_eq_false_iff_ne]at h
  rw[if_pos rfl,if_pos rfl,if_neg h]
theorem Qk{s:bl}{key r:Int}{d:DB}{v:List Int}(h:(mB d v&&(s.behavior==3))=true):mB d v=true∧Om s key r d v=V2 key s.id r v (Ka (gX d v)):=by
 rw[Bool.and_eq_true,beq_iff_eq]at h
 exact⟨h.1,by rw[Om,if_pos h.1,if_pos h.2]⟩
theorem H6(b:List UInt8):(Ka b).length=b.length:=by unfold Ka;rw[List.length_set]
theorem V8(s:bl)(key r:Int)(d:DB){v:List Int}(hv:v.length≤262144):(Om s key r d v).selection.length≤262144∧(Om s key r d v).data.length≤262144:=by
 have h:=zU d v
 have h2:(gX d v).length≤262144:=by
  rcases h with h|h
  ·omega
  ·rw[h];exact Nat.zero_le _
 unfold Om
 split
 ·split
  ·exact⟨hv,by show(Ka (gX d v)).length≤_;rw[H6];exact h2⟩
  ·exact⟨hv,h2⟩
 ·exact⟨Nat.zero_le _,Nat.zero_le _⟩
theorem Ql{l:List (List UInt8)}(h:kC l=true):RU l=zV l:=by rw[RU,if_pos h]
theorem H7{l:List (List UInt8)}(h:kC l=false):RU l= []:=by rw[RU,h];rfl
theorem MM{l:List (List UInt8)}(h:kC l=true): ∀a,a∈l→a.length≤1048576:=by
 intro a ha
 simp only[kC,Bool.and_eq_true,List.all_eq_true,decide_eq_true_eq]at h
 have:=h.2 a ha
 omega
theorem Qm{l:List (List UInt8)}{k:Nat}(hk:k<l.length)(h: ¬(l.getD k (aA (.sl .u8))).length=24):kC l=false:=by
 have h2:(l.all fun a=>decide ((a.length:Int)=24))=false:=zk _ _ (aA (.sl .u8)) k hk (by rw[decide_eq_false_iff_not];omega)
 rw[kC,h2,Bool.and_false]
theorem MN(rows i:Int)(sd:List Int): ∀v,v∈tO rows i sd→v.length≤64:=by
 intro v hv
 unfold tO at hv
 split at hv
 ·rcases List.mem_append.1 hv with h|h
  ·obtain⟨s,_,rfl⟩:=List.mem_map.1 h
   exact k8 _ _
  ·rw[List.mem_singleton.1 h]
   exact BA rows i sd
 ·cases hv
theorem MP(rows i:Int)(sd:List Int):(tO rows i sd).length≤sd.length+1:=by
 unfold tO
 split
 ·rw[List.length_append,List.length_map];simp
 ·exact Nat.zero_le _
theorem Qn{x:aR}(r row s:Int)(h:okW x=true):(query' x r row s).length≤x.aj.length:=by
 have h1:=MP x.rows row (jl x.aj.length r row s)
 have h2:=rN x.aj.length r row s
 have h3:=(dZ h).2
 unfold query'
 omega
theorem TT(x:aR)(r row s:Int)(k:Nat):((query' x r row s).getD k (aA (.sl .int))).length≤64:=by
 rw[List.getD_eq_getElem?_getD]
 cases hq:(query' x r row s)[k]? with
 |none=>exact Nat.zero_le _
 |some v=>exact MN _ _ _ v (List.mem_of_getElem? hq)
theorem MQ{x:aR}{r row s:Int}(h:kB x.az.rounds r=false):JA x r row s= []∧EZ x r row s=false:=⟨by rw[JA,h];rfl,by rw[EZ,h];rfl⟩
theorem Qo{x:aR}{r row s:Int}(h:kB x.az.rounds r=true):JA x r row s=RU (HW x r row s)∧EZ x r row s=kC (HW x r row s):=⟨by rw[JA,if_pos h],by rw[EZ,h,Bool.true_and]⟩
theorem MR{x:aR}(h:okW x=true):x.az.rounds.length≤8∧ ∀y,y∈x.az.rounds→dc List.length y.db.rows≤1048576:=by
 have ha:=lR h
 simp only[Ep,Bool.and_eq_true]at ha
 have ha:dW x.az=true:=ha.1.1.1.1.1.2
 simp only[dW,zv,Bool.and_eq_true,List.all_eq_true,List.mem_range,decide_eq_true_eq]at ha
 refine⟨by omega,fun y hy=> ?_⟩
 obtain⟨i,hi,rfl⟩:=List.mem_iff_getElem.1 hy
 have h2:=ha.2 i hi
 have e:x.az.rounds.getD i (aA .aC)=x.az.rounds[i]:=by rw[List.getD_eq_getElem?_getD,List.getElem?_eq_getElem hi];rfl
 simp only[mZ,e,Bool.and_eq_true]at h2
 exact eI h2.1.2
end
section
def gI(rows:Int)(l:List aM):DB:=l.foldl (fun d r=>fG d r.share) (dr rows)
theorem JE(rows:Int)(l:List aM)(k:Nat)(h:k<l.length):gI rows (l.take (k+1))=fG (gI rows (l.take k)) (l.getD k (aA .aM)).share:=by
 unfold gI
 rw[bw l k (aA .aM) h,List.foldl_append];rfl
theorem MX(rows:Int):b9 (dr rows)=true:=by
 rw[iX]
 refine⟨qh rows,fun r hr=> ?_⟩
 unfold dr at hr
 dsimp only at hr
 split at hr
 ·rw[(List.mem_replicate.1 hr).2];exact qm
 ·cases hr
theorem rW(a b:DB):(fG a b).rows.length=a.rows.length:=by
 cases h:jD a b with
 |true=>rw[va h];exact m7 h
 |false=>rw[ql h]
theorem qy{a b:DB}(ha:b9 a=true):b9 (fG a b)=true:=by
 cases h:jD a b with
 |true=>exact EH ha (zE h).2.1
 |false=>rw[ql h];exact ha
theorem H9(rows:Int): ∀(l:List aM) (d:DB),b9 d=true→b9 (l.foldl (fun d r=>fG d r.share) d)=true∧(l.foldl (fun d r=>fG d r.share) d).rows.length=d.rows.length
 | [],d,h=>⟨h,rfl⟩
 |r::l,d,h=>by
  have ih:=H9 rows l (fG d r.share) (qy h)
  rw[rW]at ih
  exact ih
theorem vA(rows:Int)(l:List aM):b9 (gI rows l)=true∧(gI rows l).rows.length=(dr rows).rows.length:=H9 rows l _ (MX rows)
theorem Qr(rows:Int)(l:List aM):dc List.length (gI rows l).rows≤1048576:=eI (vA rows l).1
theorem Qs{s:bl}(h:bZ s=true):(1≤s.rows∧s.rows≤64)∧s.received.length≤8:=by
 simp only[bZ,qV,Bool.and_eq_true,bT,decide_eq_true_eq]at h
 omega
theorem E2{s:bl}(h:bZ s=true): ∀r,r∈s.received→dc List.length r.share.rows≤1048576:=by
 intro r hr
 obtain⟨i,hi,rfl⟩:=List.mem_iff_getElem.1 hr
 simp only[bZ,Bool.and_eq_true,List.all_eq_true,List.mem_range]at h
 have h2:=h.2 i hi
 have e:s.received.getD i (aA .aM)=s.received[i]:=by rw[List.getD_eq_getElem?_getD,List.getElem?_eq_getElem hi];rfl
 simp only[j8,e,Bool.and_eq_true]at h2
 exact eI h2.1.2
theorem JF(rows:Int)(l:List aM)(f k:Nat)(h:k<l.length)(hf:f≤k):gI rows ((l.drop f).take (k+1-f))=fG (gI rows ((l.drop f).take (k-f))) (l.getD k (aA .aM)).share:=by
 rw[show k+1-f=(k-f)+1 by omega,JE _ _ _ (by rw[List.length_drop];omega)]
 congr 2
 rw[List.getD_eq_getElem?_getD,List.getElem?_drop,show f+(k-f)=k by omega];rfl
theorem MY(rows:Int)(l:List aM)(f k:Nat)(h:l.length≤k):gI rows ((l.drop f).take (k-f))=gI rows (l.drop f):=by
 rw[List.take_of_length_le (by rw[List.length_drop];omega)]
def AL(s:bl):DB:=if bZ s then gI s.rows s.received else⟨[]⟩
def alt(d:DB):DB:=⟨d.rows.set 0 ((d.rows.getD 0 (aA (.sl .u8))).set 0 ((d.rows.getD 0 (aA (.sl .u8))).getD 0 (aA .u8)^^^1))⟩
def rcvd(s:bl):List aM:=if s.behavior=1 then s.received.drop 1 else s.received
def vB(s:bl):DB:=if bZ s then(if s.behavior=2 then alt (gI s.rows (rcvd s))else gI s.rows (rcvd s))else⟨[]⟩
theorem alt_eq(d:DB):d.rows.set (Int.toNat 0) ((d.rows.getD (Int.toNat 0) (aA (.sl .u8))).set (Int.toNat 0) (UInt8.ofNat (IntKind.u8.wrap ((BitVec.ofInt IntKind.u8.bits ((((d.rows.getD (Int.toNat 0) (aA (.sl .u8))).getD (Int.toNat 0) (aA .u8)).toNat:Nat):Int)^^^BitVec.ofInt IntKind.u8.bits 1).toNat:Int)).toNat))=(alt d).rows:=by
 have:=PS ((d.rows.getD (Int.toNat 0) (aA (.sl .u8))).getD (Int.toNat 0) (aA .u8)) 1
 rw[show(((1:UInt8).toNat:Nat):Int)=1 from rfl]at this
 rw[this];rfl
theorem TU{s:bl}(h:bZ s=true):0<(gI s.rows (rcvd s)).rows.length∧0<((gI s.rows (rcvd s)).rows.getD 0 (aA (.sl .u8))).length:=by
 have h1:=Qs h
 have h2:=vA s.rows (rcvd s)
 have h3:(dr s.rows).rows.length=s.rows.toNat:=by rw[jO (by omega)];simp
 have h4:0<(gI s.rows (rcvd s)).rows.length:=by omega
 exact⟨h4,by rw[qi h2.1 0 h4];decide⟩
theorem JG(s:bl):s.behavior=1→rcvd s=s.received.drop 1:=fun h=>if_pos h
theorem MZ(s:bl): ¬s.behavior=1→rcvd s=s.received:=fun h=>if_neg h
theorem M0{d:DB}(h:b9 d=true):b9 (alt d)=true:=by
 rw[iX]at h ⊢
 refine⟨by unfold alt;dsimp only;rw[List.length_set];exact h.1,fun r hr=> ?_⟩
 unfold alt at hr
 dsimp only at hr
 rcases List.mem_or_eq_of_mem_set hr with h1|h1
 ·exact h.2 r h1
 ·subst h1
  rw[List.length_set]
  cases hd:d.rows with
  |nil=>rw[hd]at hr;cases hr
  |cons b l=>exact h.2 b (by rw[hd];exact List.mem_cons_self ..)
theorem Qt(s:bl):dc List.length (vB s).rows≤1048576:=by
 unfold vB
 split
 ·split
  ·exact eI (M0 (vA _ _).1)
  ·exact eI (vA _ _).1
 ·exact by decide
def Qu(key:Int)(r:ep):Bool:=r.G5==P8 key r.server r.client r.round r.oo
def tW(key:Int)(s:bl)(r:ep):Bool:=(r.server !=s.id||r.round !=s.round)|| !Qu key r
def M1(r:ep)(d:DB):Bool:=r.oo==GC r.client r.round d
def gk(key:Int)(s:bl)(r:ep):Int:=if tW key s r then 0 else if nD s.received r.client then(if M1 r (zK s.received r.client)then 0 else 2)else 1
def AM(key:Int)(s:bl)(p:DB):List ep→Int
 | []=>if bZ s&&(p.rows==(AL s).rows)then 0 else 3
 |r::l=>if gk key s r=0 then AM key s p l else gk key s r
theorem vC(key:Int)(s:bl)(p:DB): ∀(l:List ep) (k:Nat),(∀j,j<k→gk key s (l.getD j (aA .ep))=0)→AM key s p (l.drop k)=AM key s p l
 |l,0,_=>by rw[List.drop_zero]
 | [],k+1,_=>by simp
 |r::l,k+1,h=>by
  have h0:=h 0 (by omega)
  rw[List.drop_succ_cons,vC key s p l k fun j hj=>by simpa using h (j+1) (by omega)]
  show AM key s p l=if gk key s r=0 then AM key s p l else gk key s r
  rw[if_pos (by simpa using h0)]
theorem E3{key:Int}{s:bl}{p:DB}{l:List ep}{k:Nat}(h: ∀j,j<k→gk key s (l.getD j (aA .ep))=0)(hk:k<l.length)(hn:gk key s (l.getD k (aA .ep))≠0):AM key s p l=gk key s (l.getD k (aA .ep)):=by
 rw[←vC key s p l k h,List.drop_eq_getElem_cons hk,show l[k]=l.getD k (aA .ep)by rw[List.getD_eq_getElem?_getD,List.getElem?_eq_getElem hk];rfl]
 exact if_neg hn
theorem E4{key:Int}{s:bl}{p:DB}{l:List ep}{k:Nat}(h: ∀j,j<k→gk key s (l.getD j (aA .ep))=0)(hk:l.length≤k):AM key s p l=if bZ s&&(p.rows==(AL s).rows)then 0 else 3:=by
 rw[←vC key s p l k h,List.drop_of_length_le hk];rfl
theorem zZ{key:Int}{s:bl}{l:List ep}{k:Nat}(h: ∀j,j<k→gk key s (l.getD j (aA .ep))=0)(hk:gk key s (l.getD k (aA .ep))=0): ∀j,j<k+1→gk key s (l.getD j (aA .ep))=0:=by
 intro j hj
 by_cases hjk:j=k
 ·subst hjk;exact hk
 ·exact h j (by omega)
def E5(m:Int)(sv:List bl)(pb:List DB)(rc:List ep)(i:Nat):Bool:=decide ((pb.length:Int)≤(i:Int))|| !(AM (ni m (sv.getD i (aA .bl)).id) (sv.getD i (aA .bl)) (pb.getD i (aA .DB)) rc==0)
def TV(m:Int)(sv:List bl)(pb:List DB)(rc:List ep)(i:Nat):List Int:=if E5 m sv pb rc i then [(sv.getD i (aA .bl)).id]else []
def jF(m:Int)(sv:List bl)(pb:List DB)(rc:List ep)(n:Nat):List Int:=(List.range n).flatMap (TV m sv pb rc)
theorem E6{m:Int}{sv:List bl}{pb:List DB}{rc:List ep}{n:Nat}(h:E5 m sv pb rc n=true):jF m sv pb rc (n+1)=jF m sv pb rc n++ [(sv.getD n (aA .bl)).id]:=by
 unfold jF
 rw[List.range_succ,List.flatMap_append];simp[TV,h]
theorem BN{m:Int}{sv:List bl}{pb:List DB}{rc:List ep}{n:Nat}(h:E5 m sv pb rc n=false):jF m sv pb rc (n+1)=jF m sv pb rc n:=by
 unfold jF
 rw[List.range_succ,List.flatMap_append];simp[TV,h]
theorem pG(m:Int)(sv:List bl)(pb:List DB)(rc:List ep): ∀n,(jF m sv pb rc n).length≤n
 |0=>Nat.le_refl _
 |n+1=>by
  have ih:=pG m sv pb rc n
  cases h:E5 m sv pb rc n with
  |true=>rw[E6 h,List.length_append];simp;omega
  |false=>rw[BN h];omega
def cU(sv:List bl):List DB:=sv.map vB
theorem JH(sv:List bl)(k:Nat)(h:k<sv.length):(cU sv).take (k+1)=(cU sv).take k++ [vB (sv.getD k (aA .bl))]:=by
 rw[bw (cU sv) k (aA .DB) (by unfold cU;rw[List.length_map];exact h)]
 congr 2
 unfold cU
 rw[List.getD_eq_getElem?_getD,List.getD_eq_getElem?_getD,List.getElem?_map,List.getElem?_eq_getElem h];rfl
theorem Qv(sv:List bl): ∀d,d∈cU sv→dc List.length d.rows≤1048576:=by
 intro d hd
 obtain⟨s,_,rfl⟩:=List.mem_map.1 hd
 exact Qt s
theorem M3{pb:List DB}(h: ∀d,d∈pb→dc List.length d.rows≤1048576)(k:Nat):dc List.length (pb.getD k (aA .DB)).rows≤1048576:=by
 rw[List.getD_eq_getElem?_getD]
 cases hq:pb[k]? with
 |none=>exact by decide
 |some d=>exact h d (List.mem_of_getElem? hq)
theorem GI{x:aR}(h:okW x=true): ∀s,s∈bH x→nh s:=by
 rw[bH,if_pos h];exact(col h _ (Nat.le_refl _)).W8
theorem kG{x:aR}(h:okW x=true):(bH x).length=x.aj.length:=by
 rw[bH,if_pos h];exact gT h (Nat.le_refl _)
theorem Ys{key:Int}{s:bl}{r:ep}(h:tW key s r=false)(h1:nD s.received r.client=false):gk key s r=1:=by rw[gk,h,h1];rfl
theorem Yt{key:Int}{s:bl}{r:ep}(h:tW key s r=false)(h1:nD s.received r.client=true)(h2:M1 r (zK s.received r.client)=false):gk key s r=2:=by rw[gk,h,h1,h2];rfl
theorem Yu{key:Int}{s:bl}{r:ep}(h:tW key s r=false)(h1:nD s.received r.client=true)(h2:M1 r (zK s.received r.client)=true):gk key s r=0:=by rw[gk,h,h1,h2];rfl
theorem Yv{key:Int}{s:bl}{r:ep}(h:tW key s r=true):gk key s r=0:=by rw[gk,h];rfl
end
section
def GJ:DB→List DB→Option DB
 |a,[]=>some a
 |a,s::r=>if jD a s then GJ (fG a s) r else none
def JI(l:List DB):Option DB:=if cg l.length then GJ (l.getD 0 (aA .DB)) (l.drop 1)else none
def C3(l:List DB):Bool:=(JI l).isSome
def jw(l:List DB):DB:=(JI l).getD ⟨[]⟩
def BO(l:List DB)(k:Nat):DB:=((l.drop 1).take k).foldl fG (l.getD 0 (aA .DB))
theorem Aa(l:List DB)(k:Nat)(h:k<(l.drop 1).length):BO l (k+1)=fG (BO l k) ((l.drop 1).getD k (aA .DB)):=by
 unfold BO
 rw[bw (l.drop 1) k (aA .DB) h,List.foldl_append];rfl
theorem E7{α:Type}(l:List α)(k:Nat)(d:α)(h:k<l.length):l.drop k=l.getD k d::l.drop (k+1):=by
 rw[List.drop_eq_getElem_cons h,show l[k]=l.getD k d by rw[List.getD_eq_getElem?_getD,List.getElem?_eq_getElem h];rfl]
theorem M4(l:List DB)(k:Nat)(h:k<(l.drop 1).length)(hx:jD (BO l k) ((l.drop 1).getD k (aA .DB))=true):GJ (BO l k) ((l.drop 1).drop k)=GJ (BO l (k+1)) ((l.drop 1).drop (k+1)):=by
 rw[E7 _ k (aA .DB) h,GJ,if_pos hx,Aa l k h]
theorem TW(l:List DB)(k:Nat)(h:k<(l.drop 1).length)(hx:jD (BO l k) ((l.drop 1).getD k (aA .DB))=false):GJ (BO l k) ((l.drop 1).drop k)=none:=by
 rw[E7 _ k (aA .DB) h,GJ,hx];rfl
theorem Qw(l:List DB)(k:Nat)(h:(l.drop 1).length≤k):GJ (BO l k) ((l.drop 1).drop k)=some (BO l k):=by
 rw[List.drop_of_length_le h];rfl
def Ab(l:List DB):Prop:= ∀d,d∈l→b9 d=true
theorem mE{l:List DB}(h:Ab l)(k:Nat):b9 (l.getD k (aA .DB))=true:=by
 rw[List.getD_eq_getElem?_getD]
 cases hq:l[k]? with
 |none=>exact by decide
 |some d=>exact h d (List.mem_of_getElem? hq)
theorem TX{l:List DB}(h:Ab l): ∀k,b9 (BO l k)=true:=by
 intro k
 induction k with
 |zero=>exact mE h 0
 |succ k ih=>
  by_cases hk:k<(l.drop 1).length
  ·rw[Aa l k hk];exact qy ih
  ·have e:BO l (k+1)=BO l k:=by unfold BO;rw[List.take_of_length_le (by omega),List.take_of_length_le (by omega)]
   rw[e];exact ih
theorem GK{l:List DB}(h:JI l=none):jw l=⟨[]⟩∧C3 l=false:=by unfold jw C3;rw[h];exact⟨rfl,rfl⟩
theorem Ia{l:List DB}{d:DB}(h:JI l=some d):jw l=d∧C3 l=true:=by unfold jw C3;rw[h];exact⟨rfl,rfl⟩
theorem Qx{l:List DB}(h:cg l.length=false):JI l=none:=by rw[JI,h];rfl
theorem Qy{l:List DB}(h:cg l.length=true):JI l=GJ (BO l 0) ((l.drop 1).drop 0):=by rw[JI,if_pos h];rfl
theorem E8{l:List DB}(h:cg l.length=true):2≤l.length∧l.length≤4:=by simp only[cg,bT]at h;omega
theorem Qz(s:bl):b9 (vB s)=true:=by
 unfold vB
 split
 ·split
  ·exact M0 (vA _ _).1
  ·exact(vA _ _).1
 ·exact by decide
theorem nr(sv:List bl):Ab (cU sv):=by
 intro d hd
 obtain⟨s,_,rfl⟩:=List.mem_map.1 hd
 exact Qz s
theorem E9(l:List DB)(h:Ab l):b9 (jw l)=true:=by
 cases hq:JI l with
 |none=>rw[(GK hq).1];decide
 |some d=>
  rw[(Ia hq).1]
  have key: ∀(r:List DB) (a:DB),b9 a=true→GJ a r=some d→b9 d=true:=by
   intro r
   induction r with
   |nil=>intro a ha hj;simp only[GJ,oI]at hj;exact hj▸ha
   |cons s r ih=>
    intro a ha hj
    simp only[GJ]at hj
    split at hj
    ·exact ih _ (qy ha) hj
    ·cases hj
  unfold JI at hq
  split at hq
  ·exact key _ _ (mE h 0) hq
  ·cases hq
def vD(a:gH)(r:Int)(d:DB):Bool:=(((dW a&&inr r 0 100000)&& !decide (r≤cW a))&&b9 d)&&decide ((d.rows.length:Int)=a.rows)
def su(a:gH)(r:Int)(d:DB):List aC:=a.rounds++ [⟨r,d⟩]
def C4(a:gH)(r:Int)(d:DB):List aC:=if vD a r d then(if(8:Int)<(su a r d).length then(su a r d).drop 1 else su a r d)else a.rounds
def GL(id rows b:Int):Bool:=inr id 0 3&&inr rows 1 64&&inr b 0 3
def newS(id rows b:Int):bl:=if GL id rows b then⟨id,rows,0,[],b⟩else⟨0,0,0,[],0⟩
def GM(s:bl):Bool:=bZ s&& !(s.round==100000)
def jG(s:bl):bl:=if GM s then⟨s.id,s.rows,IntKind.i64.wrap (s.round+1),[],s.behavior⟩else s
def AN(l:List bl)(id:Int):Bool:=inr id 0 (IntKind.i64.wrap ((l.length:Int)-1))
def Ac(rows rd:Int)(p:List bl×List Int)(id:Int):List bl×List Int:=if AN p.1 id then(p.1.set id.toNat ⟨id,rows,rd,[],0⟩,p.2++ [id])else p
def Ay(rows rd:Int)(p:List bl×List Int)(g:List Int):List bl×List Int:=g.foldl (Ac rows rd) p
theorem Ad(rows rd:Int)(p:List bl×List Int)(g:List Int)(k:Nat)(h:k<g.length):Ay rows rd p (g.take (k+1))=Ac rows rd (Ay rows rd p (g.take k)) (g.getD k (aA .int)):=by
 unfold Ay
 rw[bw g k (aA .int) h,List.foldl_append];rfl
theorem C5(rows rd:Int)(p:List bl×List Int)(id:Int):(Ac rows rd p id).1.length=p.1.length∧(Ac rows rd p id).2.length≤p.2.length+1:=by
 unfold Ac
 split
 ·simp
 ·exact⟨rfl,Nat.le_succ _⟩
theorem C6(rows rd:Int)(p:List bl×List Int)(g:List Int): ∀k,k≤g.length→(Ay rows rd p (g.take k)).1.length=p.1.length∧(Ay rows rd p (g.take k)).2.length≤p.2.length+k
 |0,_=>⟨rfl,Nat.le_refl _⟩
 |k+1,hk=>by
  have ih:=C6 rows rd p g k (by omega)
  rw[Ad _ _ _ _ k (by omega)]
  have:=C5 rows rd (Ay rows rd p (g.take k)) (g.getD k (aA .int))
  omega
def AO(rd:Int)(l:List bl):Prop:= ∀s,s∈l→s.round=rd∧nh s
theorem Wa{rows rd:Int}{p:List bl×List Int}{id:Int}(h:AO rd p.1):AO rd (Ac rows rd p id).1:=by
 unfold Ac
 split
 ·intro s hs
  rcases List.mem_or_eq_of_mem_set hs with h1|h1
  ·exact h s h1
  ·subst h1
   exact⟨rfl,Nat.zero_le _,fun r hr=>by cases hr⟩
 ·exact h
theorem M5{rows rd:Int}{p:List bl×List Int}(g:List Int)(h:AO rd p.1): ∀k,k≤g.length→AO rd (Ay rows rd p (g.take k)).1
 |0,_=>h
 |k+1,hk=>by
  rw[Ad _ _ _ _ k (by omega)]
  exact Wa (M5 g h k (by omega))
theorem M6(l:List bl)(k:Nat)(h:k<l.length):((l.map jG).take k++l.drop k).set k (jG (((l.map jG).take k++l.drop k).getD k (aA .bl)))=(l.map jG).take (k+1)++l.drop (k+1):=by
 rw[tF _ _ _ _ (by rw[List.length_map];omega)]
 refine zj _ _ _ (aA .bl) _ h (by rw[List.length_map];exact h) ?_
 rw[List.getD_eq_getElem?_getD,List.getD_eq_getElem?_getD,List.getElem?_map,List.getElem?_eq_getElem h];rfl
def jH(x:aR):Bool:=okW x&& !decide (x.round≥99999)
def wH(x:aR)(g:List Int):List bl×List Int:=Ay x.rows x.round (x.aj,x.replaced) g
def cM(x:aR)(g:List Int)(d:DB):aR:=if jH x then⟨x.rows,(wH x g).1.map jG,x.aa,⟨x.az.rows,if g.length=0 then C4 x.az x.round d else x.az.rounds⟩,x.bh,x.seed,IntKind.i64.wrap (x.round+1),(wH x g).2,if g.length=0 then x.cancelled else IntKind.i64.wrap (x.cancelled+1)⟩else x
theorem RY{x:aR}(h:okW x=true):AO x.round x.aj:=by
 intro s hs
 obtain⟨i,hi,rfl⟩:=List.mem_iff_getElem.1 hs
 have h1:=CW h hi
 have e:x.aj.getD i (aA .bl)=x.aj[i]:=by rw[List.getD_eq_getElem?_getD,List.getElem?_eq_getElem hi];rfl
 have he:=qv h _ hs
 simp only[Bs,e,Bool.and_eq_true,beq_iff_eq]at h1
 exact⟨h1.1.2,by rw[he];decide,fun r hr=>by rw[he]at hr;cases hr⟩
def TY(key:Int)(a:cD):Bool:=a.G5==Jy key a.server a.round a.selection a.data
def Yw(key:Int)(d:DB)(a:cD):Bool:=TY key a&& !(a.data==gX d a.selection)
def Zr(x:aR)(i:Nat):Int:=ni x.bh (i:Int)
def Zs(x:aR)(i:Nat):cD:=Om (x.aj.getD i (aA .bl)) (Zr x i) (cW x.az) (kL x.az.rounds (cW x.az)) (bY (kh x.seed [227,x.round,(i:Int)]) x.rows)
def RZ(x:aR)(i:Nat):Bool:=Yw (Zr x i) (kL x.az.rounds (cW x.az)) (Zs x i)
def C7(x:aR)(n:Nat):List Int:=(List.range n).flatMap fun i=>if RZ x i then [(i:Int)]else []
theorem Ib{x:aR}{n:Nat}(h:RZ x n=true):C7 x (n+1)=C7 x n++ [(n:Int)]:=by
 unfold C7
 rw[List.range_succ,List.flatMap_append];simp[h]
theorem Fa{x:aR}{n:Nat}(h:RZ x n=false):C7 x (n+1)=C7 x n:=by
 unfold C7
 rw[List.range_succ,List.flatMap_append];simp[h]
def C8(x:aR)(n:Nat):List bl×List Int:=Ay x.rows x.round (x.aj,x.replaced) (C7 x n)
theorem QA{x:aR}{n:Nat}(h:RZ x n=true):C8 x (n+1)=Ac x.rows x.round (C8 x n) (n:Int):=by
 unfold C8 Ay
 rw[Ib h,List.foldl_append];rfl
theorem M7{x:aR}{n:Nat}(h:RZ x n=false):C8 x (n+1)=C8 x n:=by unfold C8;rw[Fa h]
def C9(x:aR):Bool:=okW x&&kB x.az.rounds (cW x.az)
def testW(x:aR):aR:=if C9 x then⟨x.rows,(C8 x x.aj.length).1,x.aa,x.az,x.bh,x.seed,x.round,(C8 x x.aj.length).2,x.cancelled⟩else x
def eT(x:aR):aR:=if jH x then AJ (testW (cM x (jF x.bh (bH x) (cU (bH x)) (kj x) (bH x).length) (jw (cU (bH x)))))else x
def mF(x:aR):Nat→aR
 |0=>x
 |k+1=>eT (mF x k)
end
section
theorem wZ{α:Type}(f:α→Nat)(C n:Nat)(l:List α)(h: ∀y,y∈l→f y≤C)(hl:l.length≤n):dc f l≤(C+1)*n:=by
 have h1:=RS f C l h
 have h2:(C+1)*l.length≤(C+1)*n:=Nat.mul_le_mul_left _ hl
 unfold dc
 rw[Nat.add_mul,Nat.one_mul]at h2
 omega
theorem Da{d:DB}(h:b9 d=true):dc List.length d.rows≤1600:=by
 have h1:=P5 h
 have h2:=zD h
 unfold Tx at h1;unfold dc;omega
def Db(c:cX):Prop:=c.aE.length≤16∧c.inbox.length≤16∧(∀b,b∈c.aE→b.length≤14)∧ ∀b,b∈c.inbox→b.length≤14
theorem tX{c:cX}(h:cG c=true):Db c:=by
 obtain⟨h1,h2,h3,h4,_⟩:=qu h
 exact⟨h1,h2,h3,h4⟩
theorem BP{c:cX}(h:Db c):cu c≤480:=by
 have h1:=wZ List.length 14 16 c.aE h.2.2.1 h.1
 have h2:=wZ List.length 14 16 c.inbox h.2.2.2 h.2.1
 unfold cu;omega
theorem tY{c:cX}(h:Db c)(r:Int)(own other:List UInt8):Db (fj c r own other):=by
 unfold fj
 split
 ·refine⟨h.1,?_,h.2.2.1,?_⟩
  ·dsimp only
   split
   ·rename_i hg
    simp only[pz,Bool.and_eq_true,decide_eq_true_eq]at hg
    rw[List.length_append,List.length_singleton];omega
   ·exact h.2.1
  ·dsimp only
   split
   ·intro b hb
    rcases List.mem_append.1 hb with h1|h1
    ·exact h.2.2.2 b h1
    ·rw[List.mem_singleton.1 h1];exact MF _ _ _
   ·exact h.2.2.2
 ·exact h
def Dc(d:aS):Prop:=Db d.live∧Db d.saved
theorem TZ{d:aS}(h:Dc d)(r:Int)(own other:List UInt8):Dc (rdev d r own other):=by
 unfold rdev
 split
 ·split
  ·exact⟨tY h.1 _ _ _,tY h.1 _ _ _⟩
  ·exact⟨tY h.1 _ _ _,h.2⟩
 ·exact h
theorem GN(x:aR)(d0:aS): ∀(l:List Int) (d:aS),Dc d→Dc (l.foldl (GG x d0) d)
 | [],_,h=>h
 |r::l,_,h=>GN x d0 l _ (TZ h _ _ _)
theorem jP{d:aS}(h:Dc d):bq d≤960:=by
 have h1:=BP h.1
 have h2:=BP h.2
 unfold bq;omega
theorem Wb{x:aR}{i:Nat}(h:okD x i=true):Dc (x.aa.getD i (aA .aS)):=by
 simp only[okD,cE,Bool.and_eq_true]at h
 exact⟨tX h.1.1.1.1.1.1.1.1.1,tX h.1.1.1.1.1.1.1.1.2⟩
theorem Fb{x:aR}(h:okW x=true): ∀d,d∈x.aa→Dc d:=by
 intro d hd
 obtain⟨i,hi,rfl⟩:=List.mem_iff_getElem.1 hd
 have h1:=Wb (m8 h hi)
 rwa [List.getD_eq_getElem?_getD,List.getElem?_eq_getElem hi]at h1
def wC(x:aR)(n:Nat):Prop:=dc dP x.aj≤1048576∧dc bq x.aa≤1048576∧ef x.az≤1048576∧x.replaced.length≤n
theorem M8{x:aR}{n:Nat}(h:wC x n)(hn:n≤4194304):wB x:=⟨h.1,h.2.1,h.2.2.1,Nat.le_trans h.2.2.2 hn⟩
theorem lz{x:aR}{n m:Nat}(h:wC x n)(hn:n≤m):wC x m:=⟨h.1,h.2.1,h.2.2.1,Nat.le_trans h.2.2.2 hn⟩
theorem Wc{x:aR}{n:Nat}(h:wC x n):wC (AJ x) n:=by
 unfold AJ
 split
 ·rename_i hk
  refine⟨h.1,?_,h.2.2.1,h.2.2.2⟩
  have h1:dc bq (x.aa.map (kD x))≤(960+1)*8:=by
   refine wZ bq 960 8 _ (fun d hd=> ?_) (by rw[List.length_map];exact(tL (lR hk)).2.1)
   obtain⟨e,he,rfl⟩:=List.mem_map.1 hd
   exact jP (GN x e _ _ (Fb hk e he))
  exact Nat.le_trans h1 (by decide)
 ·exact h
theorem Yx{s:bl}(h:s.received= []):dP s=0:=by unfold dP;rw[h];rfl
def wI(l:List bl):Prop:=l.length≤4∧ ∀s,s∈l→s.received= []
theorem rX{l:List bl}(h:wI l):dc dP l≤1048576:=
 Nat.le_trans (wZ dP 0 4 l (fun s hs=>by rw[Yx (h.2 s hs)];exact Nat.le_refl 0) h.1) (by decide)
theorem Wd{rows rd:Int}{p:List bl×List Int}{id:Int}(h:wI p.1):wI (Ac rows rd p id).1:=by
 unfold Ac
 split
 ·refine⟨by rw[List.length_set];exact h.1,fun s hs=> ?_⟩
  rcases List.mem_or_eq_of_mem_set hs with h1|h1
  ·exact h.2 s h1
  ·subst h1;rfl
 ·exact h
theorem M9{rows rd:Int}: ∀(g:List Int) {p:List bl×List Int},wI p.1→wI (Ay rows rd p g).1∧(Ay rows rd p g).2.length≤p.2.length+g.length
 | [],_,h=>⟨h,Nat.le_refl _⟩
 |i::g,p,h=>by
  have h1:=M9 (rows:=rows) (rd:=rd) g (Wd (rows:=rows) (rd:=rd) (id:=i) h)
  have h2:=(C5 rows rd p i).2
  refine⟨h1.1,?_⟩
  have h3:(Ay rows rd p (i::g)).2.length≤(Ac rows rd p i).2.length+g.length:=h1.2
  rw[List.length_cons];omega
theorem Na{x:aR}(h:okW x=true):wI x.aj:=⟨(dZ h).1,qv h⟩
theorem T0{l:List bl}(h:wI l):wI (l.map jG):=by
 refine⟨by rw[List.length_map];exact h.1,fun s hs=> ?_⟩
 obtain⟨t,ht,rfl⟩:=List.mem_map.1 hs
 unfold jG
 split
 ·rfl
 ·exact h.2 t ht
theorem We{a:gH}{r:Int}{d:DB}(ha:dW a=true)(hd:b9 d=true):dc dm (C4 a r d)≤1048576:=by
 have h8:a.rounds.length≤8:=by simp only[dW,zv,Bool.and_eq_true,decide_eq_true_eq]at ha;omega
 have hm: ∀y,y∈a.rounds→dm y≤1600:=by
  intro y hy
  obtain⟨i,hi,rfl⟩:=List.mem_iff_getElem.1 hy
  simp only[dW,Bool.and_eq_true,List.all_eq_true,List.mem_range]at ha
  have h2:=ha.2 i hi
  have e:a.rounds.getD i (aA .aC)=a.rounds[i]:=by rw[List.getD_eq_getElem?_getD,List.getElem?_eq_getElem hi];rfl
  simp only[mZ,e,Bool.and_eq_true]at h2
  exact Da h2.1.2
 have hL: ∀y,y∈su a r d→dm y≤1600:=by
  intro y hy
  rcases List.mem_append.1 hy with h1|h1
  ·exact hm y h1
  ·rw[List.mem_singleton.1 h1];exact Da hd
 have hl:(su a r d).length≤9:=by unfold su;rw[List.length_append,List.length_singleton];omega
 have key:dc dm (C4 a r d)≤(1600+1)*9:=by
  unfold C4
  split
  ·split
   ·exact wZ _ _ _ _ (fun y hy=>hL y (List.mem_of_mem_drop hy)) (by rw[List.length_drop];omega)
   ·exact wZ _ _ _ _ hL hl
  ·exact wZ _ _ _ _ hm (by omega)
 exact Nat.le_trans key (by decide)
theorem QB{x:aR}(h:okW x=true):dW x.az=true:=by
 have h:=lR h
 simp only[Ep,Bool.and_eq_true]at h
 exact h.1.1.1.1.1.2
theorem Fc{x:aR}{g:List Int}{d:DB}{n:Nat}(h:wC x n)(hd:b9 d=true):wC (cM x g d) (n+g.length):=by
 unfold cM
 split
 ·rename_i hk
  simp only[jH,Bool.and_eq_true]at hk
  have h0:=M9 (rows:=x.rows) (rd:=x.round) g (p:=(x.aj,x.replaced)) (Na hk.1)
  refine⟨rX (T0 h0.1),h.2.1,?_,?_⟩
  ·show dc dm _≤_
   dsimp only
   split
   ·exact We (QB hk.1) hd
   ·exact h.2.2.1
  ·have h1:=h0.2
   have h2:=h.2.2.2
   show(Ay x.rows x.round (x.aj,x.replaced) g).2.length≤_
   dsimp only at h1
   omega
 ·exact lz h (Nat.le_add_right _ _)
theorem Dd(x:aR): ∀n,(C7 x n).length≤n
 |0=>Nat.le_refl _
 |n+1=>by
  have ih:=Dd x n
  cases h:RZ x n with
  |true=>rw[Ib h,List.length_append];simp;omega
  |false=>rw[Fa h];omega
theorem Ic{x:aR}{n:Nat}(h:wC x n):wC (testW x) (n+4):=by
 unfold testW
 split
 ·rename_i hk
  simp only[C9,Bool.and_eq_true]at hk
  have h0:=M9 (rows:=x.rows) (rd:=x.round) (C7 x x.aj.length) (p:=(x.aj,x.replaced)) (Na hk.1)
  have h4:=(dZ hk.1).1
  have h5:=Dd x x.aj.length
  refine⟨rX h0.1,h.2.1,h.2.2.1,?_⟩
  have h1:=h0.2
  have h2:=h.2.2.2
  show(Ay x.rows x.round (x.aj,x.replaced) (C7 x x.aj.length)).2.length≤_
  dsimp only at h1
  omega
 ·exact lz h (Nat.le_add_right _ _)
theorem Fe{x:aR}{n:Nat}(h:wC x n):wC (eT x) (n+8):=by
 unfold eT
 split
 ·rename_i hk
  simp only[jH,Bool.and_eq_true]at hk
  have h1:=pG x.bh (bH x) (cU (bH x)) (kj x) (bH x).length
  rw[kG hk.1]at h1
  have h4:=(dZ hk.1).1
  have h2:=Ic (Fc (g:=jF x.bh (bH x) (cU (bH x)) (kj x) (bH x).length) (d:=jw (cU (bH x))) h (E9 _ (nr _)))
  rw[kG hk.1]at h2 ⊢
  exact lz (Wc h2) (by omega)
 ·exact lz h (Nat.le_add_right _ _)
theorem Nb{x:aR}{n:Nat}(h:wC x n): ∀k,wC (mF x k) (n+8*k)
 |0=>h
 |k+1=>lz (Fe (Nb h k)) (by omega)
end
section
def Nc(c:cX)(b:List UInt8):cX:=⟨c.id,c.dF,c.key,c.seed,c.aE++ [b],c.sent,c.inbox,c.next⟩
def vE(c:cX)(b:List UInt8):Bool:=cG c&&cG (Nc c b)
def iZ(c:cX)(b:List UInt8):cX:=if vE c b then Nc c b else c
def Ae(d:aS)(b:List UInt8):Bool:=(cE d&&vE d.live b)&&vE d.saved b
def Af(d:aS)(b:List UInt8):aS:=if Ae d b then⟨iZ d.live b,iZ d.saved b⟩else d
def QC(d:aS):aS:=if cE d then⟨d.saved,d.saved⟩else d
def Oo(d:aS):aS:=if cE d then⟨d.live,d.live⟩else d
def JJ(x:aR)(i:Nat)(d:aS):aR:=⟨x.rows,x.aj,x.aa.set i d,x.az,x.bh,x.seed,x.round,x.replaced,x.cancelled⟩
def Wf(x:aR)(i:Nat)(s:bl):aR:=⟨x.rows,x.aj.set i s,x.aa,x.az,x.bh,x.seed,x.round,x.replaced,x.cancelled⟩
def fT(x:aR)(c:Int):Bool:=okW x&&jC x c
def w5(x:aR)(c:Int):aS:=x.aa.getD c.toNat (aA .aS)
def JK(x:aR)(c:Int)(b:List UInt8):Bool:=fT x c&&Ae (w5 x c) b
def Kb(x:aR)(c:Int)(b:List UInt8):aR:=if fT x c then JJ x c.toNat (Af (w5 x c) b)else x
def Oq(x:aR)(c:Int):aR:=if fT x c then JJ x c.toNat (QC (w5 x c))else x
def QD(x:aR)(c:Int):aR:=if fT x c then JJ x c.toNat (Oo (w5 x c))else x
def UJ(s:bl)(b:Int):bl:=⟨s.id,s.rows,s.round,s.received,b⟩
def AP(x:aR)(i b:Int):Bool:=(okW x&&inr i 0 (IntKind.i64.wrap ((x.aj.length:Int)-1)))&&inr b 0 3
def Ot(x:aR)(i b:Int):aR:=if AP x i b then Wf x i.toNat (UJ (x.aj.getD i.toNat (aA .bl)) b)else x
theorem xG{x:aR}{c:Int}(h:fT x c=true):okW x=true∧0≤c∧c<x.aa.length:=by
 simp only[fT,jC,Bool.and_eq_true,bT]at h
 exact⟨h.1,by omega⟩
theorem T1{x:aR}{c:Int}(h:fT x c=true):Dc (w5 x c):=by
 obtain⟨h1,h2⟩:=xG h
 exact Fb h1 _ (getD_in _ (by omega))
theorem Nd{x:aR}{i b:Int}(h:AP x i b=true):okW x=true∧(0≤i∧i<x.aj.length)∧0≤b∧b≤3:=by
 simp only[AP,Bool.and_eq_true,bT]at h
 have:=dZ h.1.1
 rw[bp (a:=(x.aj.length:Int)-1) (by omega)]at h
 exact⟨h.1.1,by omega,h.2⟩
end
section
theorem Ff(c:cX):rI c.key (IntKind.i64.wrap (1-cB c))=BM c:=by
 unfold BM
 rw[bp (by unfold cB;split<;>omega)]
theorem Nf{c:cX}{r:Int}{own other:List UInt8}(h:vp c r=false):fj c r own other=c:=by rw[fj,h];rfl
theorem T2{c:cX}{r:Int}(h:vp c r=true):cG c=true∧c.next≤r∧r≤99999∧0≤c.next:=by
 simp only[vp,Bool.and_eq_true,bT]at h
 have:=(qu h.1).2.2.2.2.2.2.1
 exact⟨h.1,h.2.1,h.2.2,this⟩
theorem QE{d:aS}{r:Int}{own other:List UInt8}(h:zY d r=false):rdev d r own other=d:=by rw[rdev,h];rfl
theorem QF{d:aS}{r:Int}{own other:List UInt8}(h:zY d r=true)(hn:zX (mC d r own other)=true):rdev d r own other=Oo (mC d r own other):=by
 have hk:cE (mC d r own other)=true:=by
  simp only[zX,Bool.and_eq_true]at hn;exact hn.1
 rw[rdev,if_pos h,if_pos hn,Oo,if_pos hk];rfl
theorem QG{d:aS}{r:Int}{own other:List UInt8}(h:zY d r=true)(hn:zX (mC d r own other)=false):rdev d r own other=mC d r own other:=by
 rw[rdev,if_pos h,hn];rfl
theorem Ng{d:aS}{r:Int}{own other:List UInt8}(h:zY d r=true):bq (mC d r own other)≤1048576:=by
 simp only[zY,Bool.and_eq_true]at h
 have hd:=h.2
 simp only[cE,Bool.and_eq_true]at hd
 have hb:Dc (mC d r own other):=⟨tY (tX hd.1.1.1.1.1) _ _ _,tX hd.1.1.1.1.2⟩
 have:=jP hb
 omega
theorem T3{x:aR}(h:okW x=true){k:Nat}(hk:k<x.aa.length)(l:List Int):bq (E0 x (x.aa.getD k (aA .aS)) l)≤1048576:=by
 have:=jP (GN x (x.aa.getD k (aA .aS)) l _ (Fb h _ (getD_in (aA .aS) hk)))
 unfold E0;omega
theorem T4{x:aR}(h:okW x=true){k:Nat}(hk:k<x.aa.length)(i:Nat):bq ((nG x k i).getD k (aA .aS))≤1048576:=by
 rw[xF x k i hk];exact T3 h hk _
theorem Nh(x:aR)(k i:Nat)(hk:k<x.aa.length):nF ((nG x k i).getD k (aA .aS)).live (x.aa.getD k (aA .aS)).live:=by
 rw[xF x k i hk]
 exact vr x _ _ _ ⟨rfl,rfl,rfl,rfl⟩
theorem Ni(x:aR)(k i:Nat)(h:k<x.aa.length)(hi:i<(vu x (x.aa.getD k (aA .aS))).length):
  (nG x k i).set k (rdev ((nG x k i).getD k (aA .aS)) ((vu x (x.aa.getD k (aA .aS))).getD i (aA .int))
   (JA x ((vu x (x.aa.getD k (aA .aS))).getD i (aA .int)) (fD ((nG x k i).getD k (aA .aS)).live.key ((vu x (x.aa.getD k (aA .aS))).getD i (aA .int)) (cB ((nG x k i).getD k (aA .aS)).live) x.rows) ((nG x k i).getD k (aA .aS)).live.seed)
   (JA x ((vu x (x.aa.getD k (aA .aS))).getD i (aA .int)) (fD ((nG x k i).getD k (aA .aS)).live.key ((vu x (x.aa.getD k (aA .aS))).getD i (aA .int)) (1-cB ((nG x k i).getD k (aA .aS)).live) x.rows) ((nG x k i).getD k (aA .aS)).live.seed))=nG x k (i+1):=by
 have hs:=Nh x k i h
 rw[GF hs,hs.2.2.1,hs.2.2.2]
 exact MK x k i h hi
theorem T5{x:aR}(h:okW x=false):AJ x=x:=by rw[AJ,h];rfl
theorem QH{x:aR}(h:okW x=true):AJ x=⟨x.rows,x.aj,x.aa.map (kD x),x.az,x.bh,x.seed,x.round,x.replaced,x.cancelled⟩:=by rw[AJ,if_pos h]
theorem T6(c:cX):IntKind.i64.wrap (1-cB c)=1-cB c:=bp (by unfold cB;split<;>omega)
end
section
theorem Fg{α:Type}(l:List α)(k:Nat)(d:α):(l.drop 1).getD k d=l.getD (k+1) d:=by
 rw[List.getD_eq_getElem?_getD,List.getD_eq_getElem?_getD,List.getElem?_drop,Nat.add_comm]
theorem Yz{l:List DB}(ha:Ab l)(h:(if(!cg l.length)=true then true else !b9 (l.getD (Int.toNat 0) (aA .DB)))=true):cg l.length=false:=by
 cases hs:cg l.length with
 |false=>rfl
 |true=>
  rw[hs]at h
  have:=mE ha 0
  have h2:b9 (l.getD (Int.toNat 0) (aA .DB))=true:=this
  rw[h2]at h
  cases h
theorem Wh{l:List DB}(h:(if(!cg l.length)=true then true else !b9 (l.getD (Int.toNat 0) (aA .DB)))=false):cg l.length=true:=by
 cases hs:cg l.length with
 |true=>rfl
 |false=>rw[hs]at h;cases h
theorem YA{l:List DB}(h:(!cg (l.length:Int))=false):(0:Int)≤0∧(0:Int)<(l.length:Int):=by
 have h2:cg (l.length:Int)=true:=by simpa using h
 have:=E8 h2
 omega
theorem QI{rows rd:Int}{p:List bl×List Int}{id:Int}(h:AN p.1 id=true):Ac rows rd p id=(p.1.set id.toNat ⟨id,rows,rd,[],0⟩,p.2++ [id]):=by rw[Ac,if_pos h]
theorem QJ{rows rd:Int}{p:List bl×List Int}{id:Int}(h:AN p.1 id=false):Ac rows rd p id=p:=by rw[Ac,h];rfl
theorem T7{l:List bl}{id:Int}(hl:l.length≤4)(h:AN l id=true):0≤id∧id<l.length:=by
 simp only[AN,bT]at h
 rw[bp (by omega)]at h
 omega
theorem Fh{id rows:Int}(h:0≤id∧id≤3)(hr:1≤rows∧rows≤64):newS id rows 0=⟨id,rows,0,[],0⟩:=by
 have:GL id rows 0=true:=by simp only[GL,Bool.and_eq_true,bT];omega
 rw[newS,if_pos this]
def GO(x:aR)(g:List Int)(k:Nat):List bl×List Int:=Ay x.rows x.round (x.aj,x.replaced) (g.take k)
theorem Nj{x:aR}{g:List Int}{k:Nat}(h:k<g.length):Ac x.rows x.round (GO x g k) (g.getD k (aA .int))=GO x g (k+1):=(Ad _ _ _ _ k h).symm
theorem xH{x:aR}{g:List Int}{k:Nat}(h:g.length≤k):GO x g k=wH x g:=by unfold GO wH;rw[List.take_of_length_le h]
theorem De{x:aR}{g:List Int}{k:Nat}(h:k≤g.length):(GO x g k).1.length=x.aj.length∧(GO x g k).2.length≤x.replaced.length+k:=C6 _ _ _ g k h
theorem Nk{x:aR}{g:List Int}{k:Nat}(hk:okW x=true)(h:k≤g.length):AO x.round (GO x g k).1:=M5 g (RY hk) k h
theorem Wi{x:aR}(g:List Int)(hk:okW x=true):AO x.round (wH x g).1:=by
 have:=Nk (g:=g) hk (Nat.le_refl _)
 rwa [xH (Nat.le_refl _)]at this
theorem QK(x:aR)(g:List Int):(wH x g).1.length=x.aj.length∧(wH x g).2.length≤x.replaced.length+g.length:=by
 have:=De (x:=x) (g:=g) (Nat.le_refl _)
 rwa [xH (Nat.le_refl _)]at this
theorem Ah{rd:Int}{l:List bl}(h:AO rd l){k:Nat}(hk:k<l.length):(l.getD k (aA .bl)).round=rd∧nh (l.getD k (aA .bl)):=h _ (getD_in (aA .bl) hk)
def Fi(l:List bl)(k:Nat):List bl:=(l.map jG).take k++l.drop k
theorem R1(l:List bl):Fi l 0=l:=by unfold Fi;simp
theorem Fj{l:List bl}{k:Nat}(h:k<l.length):(Fi l k).set k (jG ((Fi l k).getD k (aA .bl)))=Fi l (k+1):=M6 l k h
theorem Ie{l:List bl}{k:Nat}(h:k<l.length):(Fi l k).getD k (aA .bl)=l.getD k (aA .bl):=tF _ _ _ _ (by rw[List.length_map];omega)
theorem Ig{l:List bl}{k:Nat}(h:k≤l.length):(Fi l k).length=l.length:=tG _ _ _ (by rw[List.length_map]) h
theorem Ih{l:List bl}{k:Nat}(h:l.length≤k):Fi l k=l.map jG:=by
 unfold Fi
 rw[List.take_of_length_le (by rw[List.length_map];exact h),List.drop_of_length_le h,List.append_nil]
theorem JM{x:aR}{g:List Int}{d:DB}(h:jH x=false):cM x g d=x:=by rw[cM,h];rfl
theorem Nl{x:aR}{g:List Int}{d:DB}(h:jH x=true)(hg:g.length=0):cM x g d=⟨x.rows,(wH x g).1.map jG,x.aa,⟨x.az.rows,C4 x.az x.round d⟩,x.bh,x.seed,IntKind.i64.wrap (x.round+1),(wH x g).2,x.cancelled⟩:=by
 rw[cM,if_pos h,if_pos hg,if_pos hg]
theorem Nn{x:aR}{g:List Int}{d:DB}(h:jH x=true)(hg: ¬g.length=0):cM x g d=⟨x.rows,(wH x g).1.map jG,x.aa,x.az,x.bh,x.seed,IntKind.i64.wrap (x.round+1),(wH x g).2,IntKind.i64.wrap (x.cancelled+1)⟩:=by
 rw[cM,if_pos h,if_neg hg,if_neg hg]
theorem No{x:aR}(h:jH x=true):okW x=true∧x.round<99999:=by
 simp only[jH,Bool.and_eq_true,Bool.not_eq_true',decide_eq_false_iff_not]at h
 exact⟨h.1,by omega⟩
theorem T8{a:gH}{r:Int}{d:DB}(h:vD a r d=false):C4 a r d=a.rounds:=by rw[C4,h];rfl
theorem QL{a:gH}{r:Int}{d:DB}(h:vD a r d=true):C4 a r d=if(8:Int)<(su a r d).length then(su a r d).drop 1 else su a r d:=by rw[C4,if_pos h]
theorem T9{a:gH}{r:Int}{d:DB}(h:vD a r d=true):a.rounds.length≤8∧b9 d=true:=by
 simp only[vD,dW,zv,Bool.and_eq_true,decide_eq_true_eq]at h
 exact⟨by omega,h.1.2⟩
theorem Fk{s rows:Int}(h:1≤rows∧rows≤64):ig (bY s rows) rows=true:=by
 have e:bY s rows=(List.range rows.toNat).map (Tm s):=by rw[bY,if_pos (by omega)]
 simp only[ig,Bool.and_eq_true,decide_eq_true_eq,List.all_eq_true,bT]
 refine⟨⟨by rw[e];simp;omega,h.2⟩,fun v hv=> ?_⟩
 rw[e]at hv
 obtain⟨i,_,rfl⟩:=List.mem_map.1 hv
 have:=Jd (kh s [(i:Int),41])
 unfold Tm
 omega
theorem Np{x:aR}(h:okW x=true){r:Int}(hh:kB x.az.rounds r=true):b9 (kL x.az.rounds r)=true∧((kL x.az.rounds r).rows.length:Int)=x.rows:=by
 have ha:=lR h
 simp only[Ep,Bool.and_eq_true,beq_iff_eq]at ha
 have har:x.az.rows=x.rows:=ha.1.1.1.1.2
 have hok:dW x.az=true:=ha.1.1.1.1.1.2
 simp only[dW,Bool.and_eq_true,List.all_eq_true,List.mem_range]at hok
 have hi:(x.az.rounds.findIdx (Ol r))<x.az.rounds.length:=by
  rw[List.findIdx_lt_length]
  obtain⟨y,h1,h2⟩:=List.any_eq_true.1 hh
  exact⟨y,h1,h2⟩
 have hd:=hok.2 _ hi
 simp only[mZ,Bool.and_eq_true,beq_iff_eq]at hd
 have e:kL x.az.rounds r=(x.az.rounds.getD (x.az.rounds.findIdx (Ol r)) (aA .aC)).db:=by
  rw[kL,if_pos hh]
  have Zt:x.az.rounds.any (Ol r)=true:=hh
  rw[fidx,if_pos Zt];rfl
 rw[e]
 exact⟨hd.1.2,by rw[←har];exact hd.2⟩
theorem Wj{x:aR}(h:okW x=true){r:Int}(hh:kB x.az.rounds r=true)(s:Int):mB (kL x.az.rounds r) (bY s x.rows)=true:=by
 obtain⟨h1,h2⟩:=Np h hh
 apply E1
 have hs:ig (bY s x.rows) ((kL x.az.rounds r).rows.length:Int)=true:=by rw[h2];exact Fk (ng h).1
 rw[gX,h1,hs]
 simp only[Bool.and_self,if_true]
 rw[eO,qm]
 omega
theorem Wk{x:aR}(h:okW x=true)(k:Nat)(hk:k≤x.aj.length):AO x.round (C8 x k).1∧(C8 x k).1.length=x.aj.length∧(C8 x k).2.length≤x.replaced.length+k:=by
 have h1:=M5 (rows:=x.rows) (rd:=x.round) (p:=(x.aj,x.replaced)) (C7 x k) (RY h) (C7 x k).length (Nat.le_refl _)
 have h2:=C6 x.rows x.round (x.aj,x.replaced) (C7 x k) (C7 x k).length (Nat.le_refl _)
 rw[List.take_length]at h1 h2
 have h3:=Dd x k
 exact⟨h1,h2.1,by have h4:=h2.2;show(Ay x.rows x.round (x.aj,x.replaced) (C7 x k)).2.length≤_;dsimp only at h4;omega⟩
theorem Nq{x:aR}(h:C9 x=false):testW x=x:=by rw[testW,h];rfl
theorem JN{x:aR}(h:C9 x=true):testW x=⟨x.rows,(C8 x x.aj.length).1,x.aa,x.az,x.bh,x.seed,x.round,(C8 x x.aj.length).2,x.cancelled⟩:=by rw[testW,if_pos h]
theorem JO{x:aR}(h:jH x=false):eT x=x:=by rw[eT,h];rfl
theorem Ai{x:aR}(h:jH x=true):eT x=AJ (testW (cM x (jF x.bh (bH x) (cU (bH x)) (kj x) (bH x).length) (jw (cU (bH x))))):=by rw[eT,if_pos h]
theorem Wl{x:aR}(h:wB x):x.az.rounds.length≤1048576∧ ∀y,y∈x.az.rounds→dc List.length y.db.rows≤1048576:=by
 have h2:dc dm x.az.rounds≤1048576:=h.2.2.1
 refine⟨cN h2,fun y hy=> ?_⟩
 obtain⟨i,hi⟩:=List.mem_iff_getElem?.1 hy
 exact iM h2 hi
end
section
theorem QM{x:aR}(h:wB x)(hok:okW x=true)(hr:x.replaced.length≤4194000):wB (cM x (jF x.bh (bH x) (cU (bH x)) (kj x) (bH x).length) (jw (cU (bH x))))∧wB (testW (cM x (jF x.bh (bH x) (cU (bH x)) (kj x) (bH x).length) (jw (cU (bH x))))):=by
 have h1:=pG x.bh (bH x) (cU (bH x)) (kj x) (bH x).length
 have h4:=(dZ hok).1
 rw[kG hok]at h1
 have hc:wC x 4194000:=⟨h.1,h.2.1,h.2.2.1,hr⟩
 have h2:=Fc (g:=jF x.bh (bH x) (cU (bH x)) (kj x) (bH x).length) (d:=jw (cU (bH x))) hc (E9 _ (nr _))
 rw[kG hok]at h2 ⊢
 exact⟨M8 h2 (by omega),M8 (Ic h2) (by omega)⟩
def wR(x:aR):Prop:=wB x∧x.replaced.length≤4194000
theorem R2{x:aR}{n:Nat}(h:wC x n)(hn:n≤4194000):wR x:=⟨M8 h (by omega),Nat.le_trans h.2.2.2 hn⟩
theorem Ua{x:aR}{n k:Nat}(h:wC x n)(hn:n+8*k≤4194000):wR (mF x k):=R2 (Nb h k) hn
end
section
def Ii(c:Int):Nat:=if 0≤c∧c≤400 then c.toNat else 0
theorem Ub(c:Int):Ii c≤400:=by unfold Ii;split<;>omega
theorem Nr{c:Int}(h:0≤c∧c≤400):(Ii c:Int)=c:=by unfold Ii;rw[if_pos h];omega
theorem QN{c:Int}(h: ¬(0≤c∧c≤400)):Ii c=0:=by unfold Ii;rw[if_neg h]
theorem Wm{c:Int}{k:Nat}(h:(if decide ((k:Int)<c)=true then decide (c≤400)else false)=true):k<Ii c:=by
 by_cases h1:(k:Int)<c
 ·rw[if_pos (by simpa using h1),decide_eq_true_eq]at h
  have:=Nr (c:=c) (by omega)
  omega
 ·rw[if_neg (by simpa using h1)]at h;cases h
theorem Uc{c:Int}{k:Nat}(hk:k≤Ii c)(h:(if decide ((k:Int)<c)=true then decide (c≤400)else false)=false):k=Ii c:=by
 by_cases hc:0≤c∧c≤400
 ·have h2:=Nr hc
  by_cases h1:(k:Int)<c
  ·rw[if_pos (by simpa using h1),decide_eq_false_iff_not]at h
   omega
  ·omega
 ·have:=QN hc;omega
def mx(a b:Int):Int:=if b>a then b else a
theorem Ud{x:aR}(h:wC x 4100000){k:Nat}(hk:k≤401):wR (mF x k)∧(mF x k).aa.length≤1048576:=by
 have h1:=Ua h (k:=k) (by omega)
 exact⟨h1,HO h1.1⟩
end
section
theorem QO{c:cX}{b:List UInt8}(h:vE c b=false):iZ c b=c:=by rw[iZ,h];rfl
theorem Aj{c:cX}{b:List UInt8}(h:vE c b=true):iZ c b=Nc c b:=by rw[iZ,if_pos h]
theorem QS{d:aS}{b:List UInt8}(h:Ae d b=false):Af d b=d:=by rw[Af,h];rfl
theorem Ns{d:aS}{b:List UInt8}(h:Ae d b=true):Af d b=⟨iZ d.live b,iZ d.saved b⟩:=by rw[Af,if_pos h]
theorem Nt{x:aR}{c:Int}(h:fT x c=true):bq (x.aa.getD c.toNat (aA .aS))≤1048576:=by
 have:=jP (T1 h)
 unfold w5 at this
 omega
theorem Ue{x:aR}{c:Int}{b:List UInt8}(h:fT x c=false):Kb x c b=x∧JK x c b=false:=⟨by rw[Kb,h];rfl,by rw[JK,h];rfl⟩
theorem QT{x:aR}{c:Int}{b:List UInt8}(h:fT x c=true):Kb x c b=JJ x c.toNat (Af (w5 x c) b)∧JK x c b=Ae (w5 x c) b:=⟨by rw[Kb,if_pos h],by rw[JK,h,Bool.true_and]⟩
theorem Uf{x:aR}{c:Int}(h:fT x c=false):Oq x c=x:=by rw[Oq,h];rfl
theorem QU{x:aR}{c:Int}(h:fT x c=true):Oq x c=JJ x c.toNat (QC (w5 x c)):=by rw[Oq,if_pos h]
theorem Ug{x:aR}{i b:Int}(h:AP x i b=false):Ot x i b=x:=by rw[Ot,h];rfl
theorem QV{x:aR}{i b:Int}(h:AP x i b=true):Ot x i b=Wf x i.toNat (UJ (x.aj.getD i.toNat (aA .bl)) b):=by rw[Ot,if_pos h]
end
section
theorem vH{α:Type}{l m:List α}{k:Nat}(d:α)(h:k<l.length):(l++m).getD k d=l.getD k d:=by
 rw[List.getD_eq_getElem?_getD,List.getD_eq_getElem?_getD,List.getElem?_append_left h]
theorem BQ{α:Type}{l:List α}{y:α}(d:α):(l++ [y]).getD l.length d=y:=by
 rw[List.getD_eq_getElem?_getD,List.getElem?_append_right (Nat.le_refl _)];simp
theorem sq{α:Type}(l:List α)(k:Nat)(d:α):(l.drop 1).getD k d=l.getD (k+1) d:=by
 rw[List.getD_eq_getElem?_getD,List.getD_eq_getElem?_getD,List.getElem?_drop,Nat.add_comm]
theorem vI{α:Type}{l:List α}{i k:Nat}(d y:α)(h:k<l.length):(l.set i y).getD k d=if i=k then y else l.getD k d:=by
 rw[List.getD_eq_getElem?_getD,List.getD_eq_getElem?_getD,List.getElem?_set]
 split
 ·rename_i e;subst e;simp[h]
 ·rfl
theorem getD_map{α β:Type}(f:α→β){l:List α}{k:Nat}(d:β)(e:α)(h:k<l.length):(l.map f).getD k d=f (l.getD k e):=by
 rw[List.getD_eq_getElem?_getD,List.getD_eq_getElem?_getD,List.getElem?_map,List.getElem?_eq_getElem h];rfl
def R3(rows rd:Int)(i:Nat)(s:bl):Prop:=s.id=(i:Int)∧s.rows=rows∧s.round=rd∧s.received= []∧0≤s.behavior∧s.behavior≤3
def UK(rows rd:Int)(l:List bl):Prop:= ∀i,i<l.length→R3 rows rd i (l.getD i (aA .bl))
theorem Nu{rows rd:Int}{i:Nat}{s:bl}(h:R3 rows rd i s)(hr:1≤rows∧rows≤64)(hd:0≤rd∧rd≤100000)(hi:i≤3):bZ s=true:=by
 obtain⟨h1,h2,h3,h4,h5⟩:=h
 simp only[bZ,qV,Bool.and_eq_true,bT,decide_eq_true_eq,h4,List.length_nil]
 refine⟨⟨⟨⟨⟨by omega,by omega⟩,by omega⟩,by omega⟩,by omega⟩,by simp⟩
theorem Df{x:aR}{i:Nat}(hr:1≤x.rows∧x.rows≤64)(hd:0≤x.round∧x.round≤100000)(hi:i≤3):Bs x i=true↔R3 x.rows x.round i (x.aj.getD i (aA .bl)):=by
 constructor
 ·intro h
  simp only[Bs,Bool.and_eq_true,beq_iff_eq,decide_eq_true_eq]at h
  obtain⟨⟨⟨⟨h1,h2⟩,h3⟩,h4⟩,h5⟩:=h
  simp only[bZ,qV,Bool.and_eq_true,bT]at h1
  exact⟨h2,h3,h4,List.length_eq_zero_iff.1 (by omega),h1.1.1.1.2⟩
 ·intro h
  have h1:=Nu h hr hd hi
  obtain⟨h2,h3,h4,h5,_⟩:=h
  simp only[Bs,Bool.and_eq_true,beq_iff_eq,decide_eq_true_eq]
  exact⟨⟨⟨⟨h1,h2⟩,h3⟩,h4⟩,by rw[h5];decide⟩
def inc(rows:Int)(l:List aC):Prop:= ∀i,i<l.length→mZ rows l i=true
theorem iJ{a:gH}:dW a=true↔((1≤a.rows∧a.rows≤64)∧a.rounds.length≤8)∧inc a.rows a.rounds:=by
 simp only[dW,zv,Bool.and_eq_true,bT,decide_eq_true_eq,List.all_eq_true,List.mem_range]
 constructor
 ·rintro⟨⟨h1,h2⟩,h3⟩;exact⟨⟨h1,by omega⟩,h3⟩
 ·rintro⟨⟨h1,h2⟩,h3⟩;exact⟨⟨h1,by omega⟩,h3⟩
theorem gY{rows:Int}{l:List aC}{i:Nat}:mZ rows l i=true↔(0≤(l.getD i (aA .aC)).round∧(l.getD i (aA .aC)).round≤100000)∧(0<i→(l.getD (i-1) (aA .aC)).round<(l.getD i (aA .aC)).round)∧b9 (l.getD i (aA .aC)).db=true∧((l.getD i (aA .aC)).db.rows.length:Int)=rows:=by
 simp only[mZ,Bool.and_eq_true,bT,beq_iff_eq,Bool.not_eq_true',Bool.and_eq_false_iff,decide_eq_false_iff_not]
 constructor
 ·rintro⟨⟨⟨h1,h2⟩,h3⟩,h4⟩
  refine⟨h1,fun hi=> ?_,h3,h4⟩
  rcases h2 with h2|h2
  ·omega
  ·omega
 ·rintro⟨h1,h2,h3,h4⟩
  refine⟨⟨⟨h1,?_⟩,h3⟩,h4⟩
  by_cases hi:0<i
  ·right;have:=h2 hi;omega
  ·left;omega
theorem Nv{rows:Int}{l:List aC}(h:inc rows l):inc rows (l.drop 1):=by
 intro i hi
 have hi:i+1<l.length:=by rw[List.length_drop]at hi;omega
 have h1:=gY.1 (h (i+1) hi)
 rw[gY,sq]
 refine⟨h1.1,fun hp=> ?_,h1.2.2⟩
 rw[sq,show i-1+1=i by omega]
 exact h1.2.1 (by omega)
theorem Nw{rows:Int}{l:List aC}{r:Int}{d:DB}(h:inc rows l)(h0:0≤r∧r≤100000)(hl:0<l.length→(l.getD (l.length-1) (aA .aC)).round<r)(hd:b9 d=true)(hr:(d.rows.length:Int)=rows):inc rows (l++ [⟨r,d⟩]):=by
 intro i hi
 rw[List.length_append,List.length_singleton]at hi
 by_cases hil:i<l.length
 ·have h1:=gY.1 (h i hil)
  rw[gY,vH _ hil]
  refine⟨h1.1,fun hp=> ?_,h1.2.2⟩
  rw[vH _ (by omega)]
  exact h1.2.1 hp
 ·obtain rfl:i=l.length:=by omega
  rw[gY,BQ]
  refine⟨h0,fun hp=> ?_,hd,hr⟩
  rw[vH _ (by omega)]
  exact hl hp
theorem Nx{rows:Int}{l:List aC}(h:inc rows l): ∀(j i:Nat),i<j→j<l.length→(l.getD i (aA .aC)).round<(l.getD j (aA .aC)).round
 |0,i,h1,_=>by omega
 |j+1,i,h1,h2=>by
  have h3:=(gY.1 (h (j+1) h2)).2.1 (by omega)
  rw[show j+1-1=j by omega]at h3
  by_cases e:i=j
  ·subst e;exact h3
  ·have:=Nx h j i (by omega) (by omega);omega
theorem qz{a:gH}(h:0<a.rounds.length):cW a=(a.rounds.getD (a.rounds.length-1) (aA .aC)).round:=by rw[cW,if_neg (by omega)]
theorem GP{a:gH}(h:a.rounds= []):cW a= -1:=by rw[cW,h];rfl
theorem Uh{a:gH}(h:dW a=true): ∀y,y∈a.rounds→0≤y.round∧y.round≤cW a:=by
 intro y hy
 have h2:=(iJ.1 h).2
 obtain⟨i,hi,rfl⟩:=List.mem_iff_getElem.1 hy
 have e:a.rounds[i]=a.rounds.getD i (aA .aC):=by rw[List.getD_eq_getElem?_getD,List.getElem?_eq_getElem hi];rfl
 rw[qz (by omega),e]
 refine⟨(gY.1 (h2 i hi)).1.1,?_⟩
 by_cases hl:i=a.rounds.length-1
 ·rw[hl];exact Int.le_refl _
 ·exact Int.le_of_lt (Nx h2 _ _ (by omega) (by omega))
theorem QW{a:gH}{r:Int}{d:DB}(h:dW a=true)(h0:0≤r∧r≤100000)(hl:cW a<r)(hd:b9 d=true)(hr:(d.rows.length:Int)=a.rows):vD a r d=true:=by
 simp only[vD,Bool.and_eq_true,h,hd,bT,h0,hr,Bool.not_eq_true',decide_eq_false_iff_not,decide_true]
 exact⟨⟨⟨⟨trivial,⟨trivial,trivial⟩⟩,by omega⟩,trivial⟩,trivial⟩
theorem QX{a:gH}{r:Int}{d:DB}(h:vD a r d=true):C4 a r d=if(8:Int)<(su a r d).length then(su a r d).drop 1 else su a r d:=by rw[C4,if_pos h]
theorem Ny{a:gH}{r:Int}{d:DB}:(su a r d).length=a.rounds.length+1∧ ∀e,(su a r d).getD a.rounds.length e=⟨r,d⟩:=by
 unfold su
 exact⟨by rw[List.length_append];rfl,fun e=>BQ e⟩
theorem Nz{a:gH}{r:Int}{d:DB}(h:dW a=true)(h0:0≤r∧r≤100000)(hl:cW a<r)(hd:b9 d=true)(hr:(d.rows.length:Int)=a.rows):
  dW ⟨a.rows,C4 a r d⟩=true∧cW ⟨a.rows,C4 a r d⟩=r∧0<(C4 a r d).length∧(C4 a r d).getD ((C4 a r d).length-1) (aA .aC)=⟨r,d⟩:=by
 have ha:=iJ.1 h
 have hi:inc a.rows (su a r d):=Nw ha.2 h0 (fun hp=>by rw[qz hp]at hl;exact hl) hd hr
 obtain⟨hL,hG⟩:=Ny (a:=a) (r:=r) (d:=d)
 rw[QX (QW h h0 hl hd hr)]
 split
 ·rename_i h8
  have hlen:((su a r d).drop 1).length=a.rounds.length:=by rw[List.length_drop];omega
  have hg:((su a r d).drop 1).getD (((su a r d).drop 1).length-1) (aA .aC)=⟨r,d⟩:=by
   rw[hlen,sq,show a.rounds.length-1+1=a.rounds.length by omega];exact hG _
  refine⟨iJ.2 ⟨⟨ha.1.1,by show((su a r d).drop 1).length≤8;omega⟩,Nv hi⟩,?_,by omega,hg⟩
  rw[qz (by show 0<((su a r d).drop 1).length;omega)]
  exact congrArg aC.round hg
 ·rename_i h8
  have hg:(su a r d).getD ((su a r d).length-1) (aA .aC)=⟨r,d⟩:=by
   rw[hL,show a.rounds.length+1-1=a.rounds.length by omega];exact hG _
  refine⟨iJ.2 ⟨⟨ha.1.1,by show(su a r d).length≤8;omega⟩,hi⟩,?_,by omega,hg⟩
  rw[qz (by show 0<(su a r d).length;omega)]
  exact congrArg aC.round hg
structure Dg(x:aR):Prop where
 rows:1≤x.rows∧x.rows≤64
 R4:2≤x.aj.length∧x.aj.length≤4
 Ui:2≤x.aa.length∧x.aa.length≤8
 even:x.aa.length % 2=0
 Ox:dW x.az=true
 Ak:x.az.rows=x.rows
 last:cW x.az<x.round
 key:ez x.bh=true
 round:0≤x.round∧x.round≤100000
 vJ:0≤x.cancelled
 sv:UK x.rows x.round x.aj
 dv: ∀i,i<x.aa.length→okD x i=true
theorem Dg.of{x:aR}(h:okW x=true):Dg x:=by
 have hh:=lR h
 have he:=tL hh
 have hs:=dZ h
 have Zt:=hh
 simp only[Ep,Bool.and_eq_true,bT,beq_iff_eq,decide_eq_true_eq]at hh
 obtain⟨⟨⟨⟨⟨⟨⟨⟨⟨h1,h2⟩,h3⟩,h4⟩,h5⟩,h6⟩,h7⟩,h8⟩,h9⟩,Uj⟩:=hh
 exact⟨h1,⟨hs.2,hs.1⟩,⟨he.2.2,he.2.1⟩,he.1,h5,h6,h7,h8,h9,Uj,fun i hi=>(Df h1 h9 (by omega)).1 (CW h hi),fun i hi=>m8 h hi⟩
theorem Dg.ok{x:aR}(h:Dg x):okW x=true:=by
 obtain⟨h1,h2,h3,h4,h5,h6,h7,h8,h9,Uj,h11,h12⟩:=h
 have ht:(x.aa.length:Int).tmod 2=0:=by rw[dj (by omega)];omega
 simp only[okW,Ep,cg,Bool.and_eq_true,bT,beq_iff_eq,decide_eq_true_eq,List.all_eq_true,List.mem_range]
 exact⟨⟨⟨⟨⟨⟨⟨⟨⟨⟨⟨h1,by omega⟩,by omega⟩,ht⟩,h5⟩,h6⟩,h7⟩,h8⟩,h9⟩,Uj⟩,fun i hi=>(Df h1 h9 (by omega)).2 (h11 i hi)⟩,h12⟩
theorem QY{rows rd:Int}{p:List bl×List Int}{id:Int}(hl:p.1.length≤4)(h:UK rows rd p.1):UK rows rd (Ac rows rd p id).1:=by
 unfold Ac
 split
 ·rename_i hk
  simp only[AN,bT]at hk
  rw[bp (by omega)]at hk
  intro i hi
  rw[List.length_set]at hi
  show R3 rows rd i ((p.1.set id.toNat ⟨id,rows,rd,[],0⟩).getD i (aA .bl))
  rw[vI _ _ hi]
  split
  ·rename_i e
   exact⟨by show id=(i:Int);omega,rfl,rfl,rfl,Int.le_refl _,by show(0:Int)≤3;decide⟩
  ·exact h i hi
 ·exact h
theorem Dh{rows rd:Int}: ∀(g:List Int) {p:List bl×List Int},p.1.length≤4→UK rows rd p.1→UK rows rd (Ay rows rd p g).1∧(Ay rows rd p g).1.length=p.1.length
 | [],_,_,h=>⟨h,rfl⟩
 |i::g,p,hl,h=>by
  have lH:=(C5 rows rd p i).1
  have:=Dh g (p:=Ac rows rd p i) (by omega) (QY (id:=i) hl h)
  exact⟨this.1,this.2.trans lH⟩
theorem QZ{rows rd:Int}{i:Nat}{s:bl}(h:R3 rows rd i s)(hr:1≤rows∧rows≤64)(hd:0≤rd∧rd<100000)(hi:i≤3):R3 rows (rd+1) i (jG s):=by
 have hk:=Nu h hr (by omega) hi
 obtain⟨h1,h2,h3,h4,h5⟩:=h
 have hb:GM s=true:=by
  simp only[GM,hk,Bool.true_and,Bool.not_eq_true',beq_eq_false_iff_ne];omega
 rw[jG,if_pos hb]
 refine⟨h1,h2,?_,rfl,h5⟩
 show IntKind.i64.wrap (s.round+1)=rd+1
 rw[bp (by omega),h3]
theorem BR{x y:aR}{i:Nat}(hd:y.aa=x.aa)(hr:x.round≤y.round)(h:okD x i=true):okD y i=true:=by
 simp only[okD,Bool.and_eq_true,decide_eq_true_eq]at h ⊢
 rw[hd]
 exact⟨h.1,by omega⟩
theorem Al{x:aR}(h:okW x=true)(hr:x.round<99999):jH x=true:=by
 simp only[jH,h,Bool.true_and,Bool.not_eq_true',decide_eq_false_iff_not];omega
theorem JP{x:aR}{g:List Int}{d:DB}(h:okW x=true)(hr:x.round<99999)(hc:x.cancelled<9223372036854775807)(hd:g= []→b9 d=true∧(d.rows.length:Int)=x.rows):okW (cM x g d)=true:=by
 have w:=Dg.of h
 have hp:=Dh (rows:=x.rows) (rd:=x.round) g (p:=(x.aj,x.replaced)) w.R4.2 w.sv
 have w1:=w.rows;have w2:=w.R4;have w3:=w.round;have w4:=w.vJ
 have hrd:IntKind.i64.wrap (x.round+1)=x.round+1:=bp (by omega)
 rw[cM,if_pos (Al h hr)]
 have uo:UK x.rows (x.round+1) ((wH x g).1.map jG):=by
  intro i hi
  rw[List.length_map]at hi
  have hi4:i≤3:=by have:=hp.2;unfold wH at hi;dsimp only at this;omega
  rw[getD_map jG _ (aA .bl) hi]
  exact QZ (hp.1 i hi) w1 (by omega) hi4
 have hlen:((wH x g).1.map jG).length=x.aj.length:=by rw[List.length_map];exact hp.2
 have Wn:dW ⟨x.az.rows,if g.length=0 then C4 x.az x.round d else x.az.rounds⟩=true∧cW ⟨x.az.rows,if g.length=0 then C4 x.az x.round d else x.az.rounds⟩<x.round+1:=by
  by_cases hg:g.length=0
  ·obtain⟨q1,q2⟩:=hd (List.length_eq_zero_iff.1 hg)
   rw[if_pos hg]
   have:=Nz w.Ox (by omega:0≤x.round∧x.round≤100000) w.last q1 (by rw[w.Ak];exact q2)
   exact⟨this.1,by rw[this.2.1];omega⟩
  ·rw[if_neg hg]
   have:=w.last
   exact⟨w.Ox,by show cW x.az<_;omega⟩
 refine Dg.ok ⟨w1,by dsimp only;rw[hlen];exact w2,w.Ui,w.even,Wn.1,w.Ak,?_,w.key,?_,?_,?_,fun i hi=> ?_⟩
 ·dsimp only;rw[hrd];exact Wn.2
 ·dsimp only;rw[hrd];omega
 ·dsimp only
  split
  ·exact w4
  ·rw[bp (by omega)];omega
 ·dsimp only;rw[hrd];exact uo
 ·exact BR (x:=x) rfl (by dsimp only;rw[hrd];omega) (w.dv i hi)
theorem NA{x:aR}(h:okW x=true):okW (testW x)=true:=by
 unfold testW
 split
 ·have w:=Dg.of h
  have hp:=Dh (rows:=x.rows) (rd:=x.round) (C7 x x.aj.length) (p:=(x.aj,x.replaced)) w.R4.2 w.sv
  have w2:=w.R4
  refine Dg.ok ⟨w.rows,?_,w.Ui,w.even,w.Ox,w.Ak,w.last,w.key,w.round,w.vJ,hp.1,fun i hi=>BR (x:=x) rfl (Int.le_refl _) (w.dv i hi)⟩
  have Xd:(Ay x.rows x.round (x.aj,x.replaced) (C7 x x.aj.length)).1.length=x.aj.length:=hp.2
  show 2≤(Ay x.rows x.round (x.aj,x.replaced) (C7 x x.aj.length)).1.length∧(Ay x.rows x.round (x.aj,x.replaced) (C7 x x.aj.length)).1.length≤4
  rw[Xd];exact w2
 ·exact h
theorem Am{a b:List (List UInt8)}:qH a b=true↔a.length≤b.length∧a=b.take a.length:=by
 simp only[qH,Bool.and_eq_true,decide_eq_true_eq,beq_iff_eq]
 constructor
 ·rintro⟨h1,h2⟩;exact⟨by omega,h2⟩
 ·rintro⟨h1,h2⟩;exact⟨by omega,h2⟩
theorem vK(a:List (List UInt8)):qH a a=true:=Am.2 ⟨Nat.le_refl _,(List.take_length).symm⟩
theorem NB{a b c:List (List UInt8)}(h:qH a b=true):qH a (b++c)=true:=by
 obtain⟨h1,h2⟩:=Am.1 h
 refine Am.2 ⟨by rw[List.length_append];omega,?_⟩
 rw[List.take_append_of_le_length h1];exact h2
theorem vL{c:cX}:cG c=true↔(((0≤c.id∧c.id≤7)∧(0≤c.dF∧c.dF≤7))∧c.id≠c.dF∧ez c.key=true)∧Db c∧(0≤c.sent∧c.sent≤c.aE.length)∧0≤c.next∧c.next≤100000:=by
 simp only[cG,Db,Bool.and_eq_true,Bool.not_eq_true',List.any_eq_false,bT,decide_eq_true_eq,beq_eq_false_iff_ne]
 have hl: ∀b:List UInt8, ¬uU b=true↔b.length≤14:=by
  intro b;simp only[uU,decide_eq_true_eq];omega
 constructor
 ·rintro⟨⟨⟨⟨⟨⟨⟨⟨⟨h1,h2⟩,h3⟩,h4⟩,h5⟩,h6⟩,h7⟩,h8⟩,h9⟩,Uj⟩
  exact⟨⟨⟨h1,h2⟩,h3,h4⟩,⟨by omega,by omega,fun b hb=>(hl b).1 (h7 b hb),fun b hb=>(hl b).1 (h8 b hb)⟩,h9,Uj⟩
 ·rintro⟨⟨⟨h1,h2⟩,h3,h4⟩,⟨h5,h6,h7,h8⟩,h9,Uj⟩
  exact⟨⟨⟨⟨⟨⟨⟨⟨⟨h1,h2⟩,h3⟩,h4⟩,by omega⟩,by omega⟩,fun b hb=>(hl b).2 (h7 b hb)⟩,fun b hb=>(hl b).2 (h8 b hb)⟩,h9⟩,Uj⟩
theorem NC{c:cX}{r:Int}{own other:List UInt8}(h:cG c=true):cG (fj c r own other)=true:=by
 by_cases hk:vp c r=true
 ·have hB:=tY (tX h) r own other
  rw[fj,if_pos hk]at hB ⊢
  obtain⟨h1,_,h3,h4⟩:=vL.1 h
  simp only[vp,Bool.and_eq_true,bT]at hk
  refine vL.2 ⟨h1,hB,?_,?_⟩
  ·dsimp only
   split
   ·rename_i hh
    simp only[zW,Bool.and_eq_true,decide_eq_true_eq]at hh
    omega
   ·exact h3
  ·dsimp only;omega
 ·rw[fj,if_neg hk];exact h
structure ND(d:aS):Prop where
 live:cG d.live=true
 saved:cG d.saved=true
 same:gQ d.live d.saved=true
 sent:d.saved.sent≤d.live.sent
 next:d.saved.next≤d.live.next
 pre:qH d.saved.inbox d.live.inbox=true
theorem ND.iff{d:aS}:cE d=true↔ND d:=by
 simp only[cE,Bool.and_eq_true,decide_eq_true_eq]
 constructor
 ·rintro⟨⟨⟨⟨⟨h1,h2⟩,h3⟩,h4⟩,h5⟩,h6⟩;exact⟨h1,h2,h3,h4,h5,h6⟩
 ·rintro⟨h1,h2,h3,h4,h5,h6⟩;exact⟨⟨⟨⟨⟨h1,h2⟩,h3⟩,h4⟩,h5⟩,h6⟩
theorem eP{a b:cX}:gQ a b=true↔nF a b∧a.aE=b.aE:=by
 simp only[gQ,nF,Bool.and_eq_true,beq_iff_eq]
 constructor
 ·rintro⟨⟨⟨⟨h1,h2⟩,h3⟩,h4⟩,h5⟩;exact⟨⟨h1,h2,h3,h4⟩,h5⟩
 ·rintro⟨⟨h1,h2,h3,h4⟩,h5⟩;exact⟨⟨⟨⟨h1,h2⟩,h3⟩,h4⟩,h5⟩
theorem JQ(c:cX)(r:Int)(own other:List UInt8):(fj c r own other).aE=c.aE∧c.sent≤(fj c r own other).sent∧(fj c r own other).sent≤c.sent+1∧c.next≤(fj c r own other).next∧ ∃m,(fj c r own other).inbox=c.inbox++m:=by
 unfold fj
 split
 ·rename_i hk
  simp only[vp,Bool.and_eq_true,bT]at hk
  refine⟨rfl,?_,?_,?_,?_⟩
  ·dsimp only;split<;>omega
  ·dsimp only;split<;>omega
  ·dsimp only;omega
  ·dsimp only
   split
   ·exact⟨_,rfl⟩
   ·exact⟨[],(List.append_nil _).symm⟩
 ·exact⟨rfl,Int.le_refl _,by omega,Int.le_refl _,[],(List.append_nil _).symm⟩
theorem Q0{d:aS}{r:Int}{own other:List UInt8}(h:cE d=true):cE (rdev d r own other)=true:=by
 have hd:=ND.iff.1 h
 unfold rdev
 split
 ·have hc:=NC (r:=r) (own:=own) (other:=other) hd.live
  split
  ·exact ND.iff.2 ⟨hc,hc,eP.2 ⟨⟨rfl,rfl,rfl,rfl⟩,rfl⟩,Int.le_refl _,Int.le_refl _,vK _⟩
  ·obtain⟨q1,q2,_,q3,m,q4⟩:=JQ d.live r own other
   obtain⟨p1,p2⟩:=eP.1 hd.same
   have p3:=rV d.live r own other
   refine ND.iff.2 ⟨hc,hd.saved,eP.2 ⟨⟨p3.1.trans p1.1,p3.2.1.trans p1.2.1,p3.2.2.1.trans p1.2.2.1,p3.2.2.2.trans p1.2.2.2⟩,q1.trans p2⟩,Int.le_trans hd.sent q2,Int.le_trans hd.next q3,?_⟩
   show qH d.saved.inbox (fj d.live r own other).inbox=true
   rw[q4]
   exact NB hd.pre
 ·exact h
theorem JR{d:aS}{r:Int}{own other:List UInt8}{R:Int}(h:d.live.next≤R)(hr:r+1≤R):(rdev d r own other).live.next≤R:=by
 have key:(fj d.live r own other).next≤R:=by
  unfold fj
  split
  ·exact hr
  ·exact h
 unfold rdev
 split
 ·split
  ·exact key
  ·exact key
 ·exact h
theorem Ij(x:aR)(d0:aS){R:Int}: ∀(l:List Int) (d:aS),(∀r,r∈l→r+1≤R)→cE d=true→d.live.next≤R→cE (l.foldl (GG x d0) d)=true∧(l.foldl (GG x d0) d).live.next≤R
 | [],_,_,h1,h2=>⟨h1,h2⟩
 |r::l,d,hl,h1,h2=>Ij x d0 l _ (fun q hq=>hl q (List.mem_cons_of_mem _ hq)) (Q0 h1) (JR h2 (hl r (List.mem_cons_self ..)))
theorem GQ{l:List aC}{f r:Int}(h:r∈eX l f):f≤r∧ ∃y,y∈l∧y.round=r:=by
 unfold eX at h
 obtain⟨y,hy,rfl⟩:=List.mem_map.1 h
 rw[List.mem_filter]at hy
 exact⟨by simpa using hy.2,y,hy.1,rfl⟩
theorem Fl{x:aR}{i:Nat}(h:okW x=true)(hi:i<x.aa.length):cE (kD x (x.aa.getD i (aA .aS)))=true∧(kD x (x.aa.getD i (aA .aS))).live.next≤x.round∧nF (kD x (x.aa.getD i (aA .aS))).live (x.aa.getD i (aA .aS)).live:=by
 have w:=Dg.of h
 have hd:=m8 h hi
 simp only[okD,Bool.and_eq_true,decide_eq_true_eq]at hd
 have h1:=Ij x (x.aa.getD i (aA .aS)) (R:=x.round) (vu x (x.aa.getD i (aA .aS))) _ (fun r hr=>by
  obtain⟨_,y,hy,rfl⟩:=GQ hr
  have:=(Uh w.Ox y hy).2
  have:=w.last
  omega) hd.1.1.1.1 hd.2
 exact⟨h1.1,h1.2,vr x _ _ _ ⟨rfl,rfl,rfl,rfl⟩⟩
theorem Uk{x:aR}(h:okW x=true):okW (AJ x)=true:=by
 have w:=Dg.of h
 rw[AJ,if_pos h]
 have hg: ∀i,i<x.aa.length→(x.aa.map (kD x)).getD i (aA .aS)=kD x (x.aa.getD i (aA .aS)):=fun i hi=>getD_map _ _ _ hi
 refine Dg.ok ⟨w.rows,w.R4,by dsimp only;rw[List.length_map];exact w.Ui,by dsimp only;rw[List.length_map];exact w.even,w.Ox,w.Ak,w.last,w.key,w.round,w.vJ,w.sv,fun i hi=> ?_⟩
 have hi:i<x.aa.length:=by dsimp only at hi;rwa [List.length_map]at hi
 obtain⟨q1,q2,q3⟩:=Fl h hi
 have hd:=m8 h hi
 have hx:=rJ i x.aa.length hi w.even
 obtain⟨_,_,p3⟩:=Fl h hx
 simp only[okD,Bool.and_eq_true,decide_eq_true_eq,beq_iff_eq]at hd ⊢
 rw[hg i hi,hg _ hx]
 exact⟨⟨⟨⟨q1,q3.1.trans hd.1.1.1.2⟩,q3.2.1.trans hd.1.1.2⟩,by rw[q3.2.2.1,p3.2.2.1];exact hd.1.2⟩,q2⟩
end
section
theorem An{rows:Int}(h:0≤rows∧rows≤64):((dr rows).rows.length:Int)=rows:=by
 rw[jO h,List.length_replicate];omega
theorem NF{rows i:Int}{c:List UInt8}(h:rP rows i c=true):((Tn rows i c).rows.length:Int)=rows:=by
 have h':=h
 simp only[rP,Bool.and_eq_true]at h'
 have hr:1≤rows∧rows≤64:=by have:=h'.1;rw[bT]at this;exact this
 rw[Tn,if_pos h'.1,uZ h'.2]
 show(((dr rows).rows.set i.toNat c).length:Int)=rows
 rw[List.length_set];exact An (by omega)
theorem BS{α:Type}(f:α→DB): ∀(l:List α) (d:DB),(l.foldl (fun d s=>fG d (f s)) d).rows.length=d.rows.length:=by
 intro l
 induction l with
 |nil=>intro d;rfl
 |cons x r ih=>intro d;rw[List.foldl_cons,ih,rW]
theorem GR{rows i:Int}{c:List UInt8}(h:rP rows i c=true)(sd:List Int):((wD rows i c sd).rows.length:Int)=rows:=by
 unfold wD;rw[BS (fun s=>P2 s rows)];exact NF h
theorem GS{rows i:Int}{c:List UInt8}{sd:List Int}: ∀d,d∈tT rows i c sd→(d.rows.length:Int)=rows:=by
 intro d hd
 unfold tT at hd
 split at hd
 ·rename_i h
  have hu:rP rows i c=true:=by simp only[vh,Bool.and_eq_true]at h;exact h.1
  rcases List.mem_append.1 hd with h1|h1
  ·obtain⟨s,_,rfl⟩:=List.mem_map.1 h1
   have:=(Gw hu).2
   show((gq s rows).length:Int)=rows
   rw[lf];omega
  ·rw[List.mem_singleton.1 h1];exact GR hu sd
 ·cases hd
def NG(x:aR)(i:Nat)(c:Nat):DB:=(c8 x (c:Int)).getD i (aA .DB)
def rcs(x:aR)(i n:Nat):List aM:=(List.range n).map fun c:Nat=>⟨(c:Int),NG x i c⟩
theorem NH(x:aR)(i n:Nat):rcs x i (n+1)=rcs x i n++ [⟨(n:Int),NG x i n⟩]:=by
 unfold rcs;rw[List.range_succ,List.map_append];rfl
theorem Q1(x:aR)(i n:Nat):(rcs x i n).length=n:=by simp[rcs]
theorem Ik(x:aR)(i n:Nat){k:Nat}(h:k<n):(rcs x i n).getD k (aA .aM)=⟨(k:Int),NG x i k⟩:=dH _ _ _ _ h
def vM(x:aR)(k i:Nat):bl:=⟨(x.aj.getD i (aA .bl)).id,(x.aj.getD i (aA .bl)).rows,(x.aj.getD i (aA .bl)).round,rcs x i k,(x.aj.getD i (aA .bl)).behavior⟩
theorem Wo{x:aR}(h:okW x=true):2≤x.aa.length∧x.aa.length≤8:=by
 have:=lR h
 simp only[Ep,Bool.and_eq_true,bT]at this
 omega
theorem Ul{x:aR}(h:okW x=true){i c:Nat}(hi:i<x.aj.length)(hc:c<x.aa.length):b9 (NG x i c)=true∧((NG x i c).rows.length:Int)=x.rows:=by
 have hl:(c8 x (c:Int)).length=x.aj.length:=iY h (by omega)
 have hm:NG x i c∈c8 x (c:Int):=getD_in _ (by omega)
 exact⟨rS h _ hm,GS _ hm⟩
theorem NI{x:aR}(h:okW x=true){i:Nat}(hi:i<x.aj.length):(x.aj.getD i (aA .bl)).id=(i:Int)∧(x.aj.getD i (aA .bl)).rows=x.rows∧(x.aj.getD i (aA .bl)).round=x.round∧(x.aj.getD i (aA .bl)).received= []∧0≤(x.aj.getD i (aA .bl)).behavior∧(x.aj.getD i (aA .bl)).behavior≤3:=by
 have hs:=dZ h
 have hr:=ng h
 exact(Df hr.1 hr.2 (by omega)).1 (CW h hi)
theorem Di{x:aR}(h:okW x=true){k i:Nat}(hi:i<x.aj.length)(hk:k≤x.aa.length):bZ (vM x k i)=true:=by
 have hs:=dZ h
 have hr:=ng h
 have hn:=Wo h
 obtain⟨h1,h2,h3,h4,h5⟩:=NI h hi
 have hl:(vM x k i).received.length=k:=Q1 x i k
 simp only[bZ,qV,Bool.and_eq_true,bT,decide_eq_true_eq,List.all_eq_true,hl]
 refine⟨⟨⟨⟨⟨?_,?_⟩,?_⟩,?_⟩,?_⟩,fun j hj=> ?_⟩
 ·show 0≤(x.aj.getD i (aA .bl)).id∧(x.aj.getD i (aA .bl)).id≤3
  omega
 ·show 1≤(x.aj.getD i (aA .bl)).rows∧(x.aj.getD i (aA .bl)).rows≤64
  omega
 ·exact h5
 ·show 0≤(x.aj.getD i (aA .bl)).round∧(x.aj.getD i (aA .bl)).round≤100000
  omega
 ·omega
 ·have hj':j<k:=List.mem_range.1 hj
  have e:(vM x k i).received.getD j (aA .aM)=⟨(j:Int),NG x i j⟩:=Ik x i k hj'
  have ho:=Ul h hi (show j<x.aa.length by omega)
  have er:(vM x k i).rows=x.rows:=h2
  simp only[j8,e,Bool.and_eq_true,bT,beq_iff_eq,Bool.not_eq_true',Bool.and_eq_false_iff,decide_eq_false_iff_not,er]
  refine⟨⟨⟨by omega,?_⟩,ho.1⟩,ho.2⟩
  by_cases hz:j=0
  ·left;omega
  ·right
   have e':(vM x k i).received.getD (j-1) (aA .aM)=⟨((j-1:Nat):Int),NG x i (j-1)⟩:=Ik x i k (by omega)
   rw[e']
   show¬(j:Int)≤((j-1:Nat):Int)
   omega
theorem Il{x:aR}(h:okW x=true){i:Nat}(hi:i<x.aj.length): ∀k,k≤x.aa.length→(rR x k).getD i (aA .bl)=vM x k i
 |0,_=>by
  have h4:=(NI h hi).2.2.2.1
  show x.aj.getD i (aA .bl)=vM x 0 i
  unfold vM
  have e:rcs x i 0=(x.aj.getD i (aA .bl)).received:=by rw[h4];rfl
  rw[e]
 |k+1,hk=>by
  have ha:jq (vM x k i) (k:Int) (NG x i k)=vM x (k+1) i:=by
   unfold jq
   show(⟨_,_,_,rcs x i k++ [⟨(k:Int),NG x i k⟩],_⟩:bl)=_
   rw[←NH];rfl
  rw[ET h (by omega) hi,Il h hi k (by omega)]
  show HP (vM x k i) (k:Int) (NG x i k)=_
  rw[HR (by unfold nC;rw[ha,Di h hi (by omega),Di h hi hk];rfl),ha]
theorem Q2{x:aR}(h:okW x=true){i:Nat}(hi:i<x.aj.length):(bH x).getD i (aA .bl)=vM x x.aa.length i:=by
 rw[bH,if_pos h];exact Il h hi _ (Nat.le_refl _)
theorem BT(rows:Int)(l:List aM):(gI rows l).rows.length=(dr rows).rows.length:=BS (fun r:aM=>r.share) l _
theorem NJ(d:DB):(alt d).rows.length=d.rows.length:=List.length_set ..
theorem NK{x:aR}(h:okW x=true){d:DB}(hd:d∈cU (bH x)):(d.rows.length:Int)=x.rows:=by
 obtain⟨s,hs,rfl⟩:=List.mem_map.1 hd
 obtain⟨i,hi⟩:=List.mem_iff_getElem?.1 hs
 have hl:i<x.aj.length:=by
  have:=(List.getElem?_eq_some_iff.1 hi).1
  rw[kG h]at this;exact this
 have e:s=vM x x.aa.length i:=by
  rw[←Q2 h hl,List.getD_eq_getElem?_getD,hi];rfl
 have hr:s.rows=x.rows:=by rw[e];exact(NI h hl).2.1
 have hk:bZ s=true:=by rw[e];exact Di h hl (Nat.le_refl _)
 have hw:=ng h
 have hn:((dr s.rows).rows.length:Int)=x.rows:=by rw[hr];exact An (by omega)
 unfold vB
 rw[if_pos hk]
 split
 ·rw[NJ,BT];exact hn
 ·rw[BT];exact hn
theorem Fm: ∀(l:List DB) (a:DB),b9 a=true→(∀d,d∈l→b9 d=true∧d.rows.length=a.rows.length)→ ∃d,GJ a l=some d∧d.rows.length=a.rows.length
 | [],a,_,_=>⟨a,rfl,rfl⟩
 |s::r,a,ha,hl=>by
  have hs:=hl s (List.mem_cons_self ..)
  have hx:jD a s=true:=by
   simp only[jD,Bool.and_eq_true,decide_eq_true_eq]
   exact⟨⟨ha,hs.1⟩,by omega⟩
  have he:=rW a s
  obtain⟨d,h1,h2⟩:=Fm r (fG a s) (qy ha) (fun d hd=>by
   have:=hl d (List.mem_cons_of_mem _ hd)
   exact⟨this.1,by omega⟩)
  exact⟨d,by rw[GJ,if_pos hx,h1],by omega⟩
theorem Fo{x:aR}(h:okW x=true):C3 (cU (bH x))=true∧((jw (cU (bH x))).rows.length:Int)=x.rows:=by
 have hs:=dZ h
 have hl:(cU (bH x)).length=x.aj.length:=by rw[show(cU (bH x)).length=(bH x).length from List.length_map ..,kG h]
 have h0:(cU (bH x)).getD 0 (aA .DB)∈cU (bH x):=getD_in _ (by omega)
 have e0:=NK h h0
 obtain⟨d,h1,h2⟩:=Fm ((cU (bH x)).drop 1) ((cU (bH x)).getD 0 (aA .DB)) (nr (bH x) _ h0) (fun d hd=>by
  have hm:=List.mem_of_mem_drop hd
  have:=NK h hm
  exact⟨nr (bH x) _ hm,by omega⟩)
 have e:JI (cU (bH x))=some d:=by
  rw[JI,if_pos (by simp only[cg,bT];omega),h1]
 exact⟨by rw[C3,e];rfl,by rw[jw,e];show(d.rows.length:Int)=x.rows;omega⟩
end
section
structure fJ where
 b:List UInt8
 i:Nat
 h:Int
def JS(x:Int):Int:=IntKind.i64.wrap (BitVec.ofInt IntKind.i64.bits x&&&BitVec.ofInt IntKind.i64.bits 255).toNat
theorem NL(x:Int):0≤JS x∧JS x≤255:=by
 have h:(BitVec.ofInt IntKind.i64.bits x&&&BitVec.ofInt IntKind.i64.bits 255).toNat≤255:=by
  rw[BitVec.toNat_and];exact Nat.le_trans Nat.and_le_right (by decide)
 unfold JS
 rw[bp (by omega)];omega
def fJ.h1(c:fJ):Int:=IntKind.i64.wrap (IntKind.i64.wrap (c.h*6364136223846793005)+1442695040888963407)
def fJ.x0(c:fJ):Int:=JS (IntKind.i64.wrap (BitVec.ofInt IntKind.i64.bits (c.h1.fdiv (2^(min (Int.toNat 33) IntKind.i64.bits)))^^^BitVec.ofInt IntKind.i64.bits (c.h1.fdiv (2^(min (Int.toNat 47) IntKind.i64.bits)))).toNat)
def fJ.x(c:fJ):Int:=if c.i<c.b.length then JS (IntKind.i64.wrap (c.x0+IntKind.i64.wrap ((c.b.getD c.i (aA .u8)).toNat:Int)))else c.x0
def fJ.n(c:fJ):fJ:=⟨c.b,if c.i<c.b.length then c.i+1 else c.i,c.h1⟩
theorem fJ.YE(c:fJ):0≤c.x∧c.x≤255:=by
 unfold fJ.x
 split
 ·exact NL _
 ·exact NL _
def c9(c:fJ)(n:Int):Int:=if n≤0 then 0 else if n≤256 then c.x.tmod n else(IntKind.i64.wrap (IntKind.i64.wrap (IntKind.i64.wrap (c.x*65536)+IntKind.i64.wrap (c.n.x*256))+c.n.n.x)).tmod n
def bu(c:fJ)(n:Int):fJ:=if n≤0 then c else if n≤256 then c.n else c.n.n.n
theorem cV(c:fJ)(n:Int):(bu c n).b=c.b:=by
 unfold bu
 split
 ·rfl
 ·split<;>rfl
theorem iK(c:fJ){n:Int}(h:0<n):0≤c9 c n∧c9 c n<n:=by
 have h1:=c.YE;have h2:=c.n.YE;have h3:=c.n.n.YE
 unfold c9
 rw[if_neg (by omega)]
 split
 ·rw[dj h1.1];exact⟨Int.emod_nonneg _ (by omega),Int.emod_lt_of_pos _ h⟩
 ·rw[bp (a:=c.x*65536) (by omega),bp (a:=c.n.x*256) (by omega),bp (a:=c.x*65536+c.n.x*256) (by omega),bp (by omega),dj (by omega)]
  exact⟨Int.emod_nonneg _ (by omega),Int.emod_lt_of_pos _ h⟩
theorem NM(c:fJ)(n:Int):0≤c9 c n:=by
 by_cases h:0<n
 ·exact(iK c h).1
 ·rw[c9,if_pos (by omega)];exact Int.le_refl 0
def NN(c:fJ):Nat→fJ
 |0=>c
 |k+1=>(NN c k).n
def R5(c:fJ):Nat→List UInt8
 |0=> []
 |k+1=>R5 c k++ [b8 (NN c k).x]
theorem NO(c:fJ): ∀k,(NN c k).b=c.b
 |0=>rfl
 |k+1=>NO c k
theorem xI(c:fJ): ∀k,(R5 c k).length=k
 |0=>rfl
 |k+1=>by rw[R5,List.length_append,xI c k];rfl
def Wp(h:Int)(x:UInt8):Int:=IntKind.i64.wrap (BitVec.ofInt IntKind.i64.bits (IntKind.i64.wrap (IntKind.i64.wrap (IntKind.i64.wrap (h*137)+IntKind.i64.wrap (x.toNat:Int))+11))&&&BitVec.ofInt IntKind.i64.bits 1073741823).toNat
def Q3(l:List UInt8)(k:Nat):Int:=(l.take k).foldl Wp (IntKind.i64.wrap (193017+(l.length:Int)))
theorem JT{l:List UInt8}{k:Nat}(h:k<l.length):Q3 l (k+1)=Wp (Q3 l k) (l.getD k (aA .u8)):=j0 _ _ _ _ _ h
def Ao(l:List UInt8):Nat:=min l.length 4000
def JU(l:List UInt8):fJ:=⟨l,0,Q3 l (Ao l)⟩
theorem Um{l:List UInt8}{k:Nat}(h:(if decide ((k:Int)<(l.length:Int))=true then decide ((k:Int)<4000)else false)=true):k<Ao l:=by
 unfold Ao
 by_cases h1:(k:Int)<(l.length:Int)
 ·rw[if_pos (by simpa using h1),decide_eq_true_eq]at h;omega
 ·rw[if_neg (by simpa using h1)]at h;cases h
theorem Q4{l:List UInt8}{k:Nat}(hk:k≤Ao l)(h:(if decide ((k:Int)<(l.length:Int))=true then decide ((k:Int)<4000)else false)=false):k=Ao l:=by
 unfold Ao at hk ⊢
 by_cases h1:(k:Int)<(l.length:Int)
 ·rw[if_pos (by simpa using h1),decide_eq_false_iff_not]at h;omega
 ·omega
def vN(l:List UInt8)(m:Int):Int:=if IntKind.i64.wrap (3+IntKind.i64.wrap ((l.length:Int).tdiv 12))>m then m else IntKind.i64.wrap (3+IntKind.i64.wrap ((l.length:Int).tdiv 12))
def Xe(seed:Int)(i:Nat):cX:=⟨(i:Int),((i^^^1:Nat):Int),Aw (kh seed [199,(i:Int).tdiv 2]),kh seed [211,(i:Int)],[],0,[],0⟩
def Xf(seed:Int)(i:Nat):aS:=⟨Xe seed i,Xe seed i⟩
def YF(rows:Int)(i:Nat):bl:=⟨(i:Int),rows,0,[],0⟩
def w8(rows:Int)(n:Nat):List bl:=(List.range n).map (YF rows)
def nV(seed:Int)(n:Nat):List aS:=(List.range n).map (Xf seed)
def Q5(rows:Int)(s p:Nat)(seed:Int):aR:=⟨rows,w8 rows s,nV seed (2*p),⟨rows,[]⟩,Aw (kh seed [197]),seed,0,[],0⟩
theorem Dj(rows:Int)(n:Nat):(w8 rows n).length=n:=by simp[w8]
theorem Dk(seed:Int)(n:Nat):(nV seed n).length=n:=by simp[nV]
theorem NP(rows:Int)(k:Nat):w8 rows (k+1)=w8 rows k++ [YF rows k]:=rF _ k
theorem NQ(seed:Int)(k:Nat):nV seed (k+1)=nV seed k++ [Xf seed k]:=rF _ k
theorem JV(i:Nat):((i^^^1:Nat):Int).tdiv 2=(i:Int).tdiv 2:=by
 have h:(i^^^1)/2=i/2:=by
  rw[Nat.xor_div_two]
  simp
 rw[oM (by omega),oM (by omega)]
 omega
theorem Im(i:Nat):i^^^1≠i:=by
 intro h
 have h2:(i^^^1)^^^i=i^^^i:=by rw[h]
 rw[Nat.xor_comm i 1,Nat.xor_assoc,Nat.xor_self,Nat.xor_zero]at h2
 cases h2
theorem Un{seed:Int}{i:Nat}(hi:i<8):cG (Xe seed i)=true:=by
 have hk:=qb (cP seed [199,(i:Int).tdiv 2])
 have hx:i^^^1<8:=rJ i 8 hi (by decide)
 have hn:=Im i
 have hB:Db (Xe seed i):=by
  refine⟨Nat.zero_le _,Nat.zero_le _,?_,?_⟩<;>(intro b hb;cases hb)
 refine vL.2 ⟨⟨⟨by show 0≤(i:Int)∧(i:Int)≤7;omega,by show 0≤((i^^^1:Nat):Int)∧((i^^^1:Nat):Int)≤7;omega⟩,by show(i:Int)≠((i^^^1:Nat):Int);omega,?_⟩,hB,by show(0:Int)≤0∧(0:Int)≤0;omega,by show(0:Int)≤0;omega,by show(0:Int)≤100000;omega⟩
 show ez (Aw _)=true
 unfold ez
 rw[bT];omega
theorem Q6{rows seed:Int}{s p:Nat}(hr:1≤rows∧rows≤64)(hs:2≤s∧s≤4)(hp:1≤p∧p≤4):okW (Q5 rows s p seed)=true:=by
 have hl1:=Dj rows s
 have lH:=Dk seed (2*p)
 have hk:=qb (cP seed [197])
 refine Dg.ok ⟨hr,by show 2≤(w8 rows s).length∧(w8 rows s).length≤4;omega,by show 2≤(nV seed (2*p)).length∧(nV seed (2*p)).length≤8;omega,by show(nV seed (2*p)).length % 2=0;omega,iJ.2 ⟨⟨hr,by show 0≤8;omega⟩,fun i hi=>by cases hi⟩,rfl,?_,?_,by show(0:Int)≤0∧(0:Int)≤100000;omega,by show(0:Int)≤0;omega,fun i hi=> ?_,fun i hi=> ?_⟩
 ·show cW ⟨rows,[]⟩<0
  rw[GP rfl];decide
 ·show ez (Aw _)=true
  unfold ez
  rw[bT];omega
 ·have hi':i<s:=by have:i<(w8 rows s).length:=hi;omega
  have e:(w8 rows s).getD i (aA .bl)=YF rows i:=dH _ _ _ _ hi'
  show R3 rows 0 i ((w8 rows s).getD i (aA .bl))
  rw[e]
  exact⟨rfl,rfl,rfl,rfl,by show(0:Int)≤0;omega,by show(0:Int)≤3;omega⟩
 ·have hi':i<2*p:=by have:i<(nV seed (2*p)).length:=hi;omega
  have hx:=rJ i (2*p) hi' (by omega)
  have e: ∀j,j<2*p→(nV seed (2*p)).getD j (aA .aS)=Xf seed j:=fun j hj=>dH _ _ _ _ hj
  have hc:=Un (seed:=seed) (i:=i) (by omega)
  have YG:cE (Xf seed i)=true:=ND.iff.2 ⟨hc,hc,eP.2 ⟨⟨rfl,rfl,rfl,rfl⟩,rfl⟩,Int.le_refl _,Int.le_refl _,vK _⟩
  show(cE ((nV seed (2*p)).getD i (aA .aS))&&(((nV seed (2*p)).getD i (aA .aS)).live.id==(i:Int))&&(((nV seed (2*p)).getD i (aA .aS)).live.dF==((i^^^1:Nat):Int))&&(((nV seed (2*p)).getD i (aA .aS)).live.key==((nV seed (2*p)).getD (i^^^1) (aA .aS)).live.key)&&decide (((nV seed (2*p)).getD i (aA .aS)).live.next≤0))=true
  rw[e i hi',e _ hx,YG]
  simp only[Bool.and_eq_true,beq_iff_eq,decide_eq_true_eq]
  refine⟨⟨⟨⟨trivial,rfl⟩,rfl⟩,?_⟩,Int.le_refl _⟩
  show Aw (kh seed [199,(i:Int).tdiv 2])=Aw (kh seed [199,((i^^^1:Nat):Int).tdiv 2])
  rw[JV]
theorem Wq{x:aR}{n:Nat}(h:okW x=true)(hr:x.replaced.length≤n):wC x n:=by
 have w:=Dg.of h
 refine⟨rX (Na h),?_,?_,hr⟩
 ·exact Nat.le_trans (wZ bq 960 8 _ (fun d hd=>jP (Fb h d hd)) w.Ui.2) (by decide)
 ·have ha:=iJ.1 w.Ox
  refine Nat.le_trans (wZ dm 1600 8 _ (fun y hy=> ?_) ha.1.2) (by decide)
  obtain⟨i,hi,rfl⟩:=List.mem_iff_getElem.1 hy
  have h2:=gY.1 (ha.2 i hi)
  have e:x.az.rounds.getD i (aA .aC)=x.az.rounds[i]:=by rw[List.getD_eq_getElem?_getD,List.getElem?_eq_getElem hi];rfl
  rw[e]at h2
  exact Da h2.2.2.1
theorem Dl{x:aR}{i:Nat}{d:aS}(h:okW x=true)(hi:i<x.aa.length)(hd:cE d=true)(hs:nF d.live (x.aa.getD i (aA .aS)).live)(hn:d.live.next≤x.round):okW (JJ x i d)=true:=by
 have w:=Dg.of h
 have hg: ∀j,j<x.aa.length→(x.aa.set i d).getD j (aA .aS)=if i=j then d else x.aa.getD j (aA .aS):=fun j hj=>vI _ _ hj
 refine Dg.ok ⟨w.rows,w.R4,by show 2≤(x.aa.set i d).length∧(x.aa.set i d).length≤8;rw[List.length_set];exact w.Ui,by show(x.aa.set i d).length % 2=0;rw[List.length_set];exact w.even,w.Ox,w.Ak,w.last,w.key,w.round,w.vJ,w.sv,fun j hj=> ?_⟩
 have hj:j<x.aa.length:=by have:j<(x.aa.set i d).length:=hj;rwa [List.length_set]at this
 have hx:=rJ j x.aa.length hj w.even
 have hq:=m8 h hj
 have key: ∀m,m<x.aa.length→((x.aa.set i d).getD m (aA .aS)).live.key=(x.aa.getD m (aA .aS)).live.key:=by
  intro m hm
  rw[hg m hm]
  split
  ·rename_i e;subst e;exact hs.2.2.1
  ·rfl
 simp only[okD,Bool.and_eq_true,decide_eq_true_eq,beq_iff_eq]at hq ⊢
 show(((cE ((x.aa.set i d).getD j (aA .aS))=true∧((x.aa.set i d).getD j (aA .aS)).live.id=(j:Int))∧((x.aa.set i d).getD j (aA .aS)).live.dF=((j^^^1:Nat):Int))∧((x.aa.set i d).getD j (aA .aS)).live.key=((x.aa.set i d).getD (j^^^1) (aA .aS)).live.key)∧((x.aa.set i d).getD j (aA .aS)).live.next≤x.round
 rw[key j hj,key _ hx,hg j hj]
 split
 ·rename_i e
  subst e
  exact⟨⟨⟨⟨hd,hs.1.trans hq.1.1.1.2⟩,hs.2.1.trans hq.1.1.2⟩,hq.1.2⟩,hn⟩
 ·exact hq
theorem NR{x:aR}{c:Int}(h:fT x c=true):c.toNat<x.aa.length∧cE (w5 x c)=true∧(w5 x c).live.next≤x.round:=by
 obtain⟨h1,h2,h3⟩:=xG h
 have hi:c.toNat<x.aa.length:=by omega
 have hq:=m8 h1 hi
 simp only[okD,Bool.and_eq_true,decide_eq_true_eq]at hq
 exact⟨hi,hq.1.1.1.1,hq.2⟩
theorem Io{c:cX}{b:List UInt8}(h:cG c=true):cG (iZ c b)=true:=by
 unfold iZ
 split
 ·rename_i hk;simp only[vE,Bool.and_eq_true]at hk;exact hk.2
 ·exact h
theorem BU(c:cX)(b:List UInt8):nF (iZ c b) c∧(iZ c b).next=c.next∧(iZ c b).sent=c.sent∧(iZ c b).inbox=c.inbox:=by
 unfold iZ
 split
 ·exact⟨⟨rfl,rfl,rfl,rfl⟩,rfl,rfl,rfl⟩
 ·exact⟨⟨rfl,rfl,rfl,rfl⟩,rfl,rfl,rfl⟩
theorem Q7{d:aS}{b:List UInt8}(h:cE d=true):cE (Af d b)=true∧nF (Af d b).live d.live∧(Af d b).live.next=d.live.next:=by
 unfold Af
 split
 ·rename_i hk
  simp only[Ae,Bool.and_eq_true]at hk
  have hd:=ND.iff.1 h
  obtain⟨p1,p2⟩:=eP.1 hd.same
  obtain⟨a1,a2,a3,a4⟩:=BU d.live b
  obtain⟨b1,b2,b3,b4⟩:=BU d.saved b
  refine⟨ND.iff.2 ⟨Io hd.live,Io hd.saved,eP.2 ⟨⟨a1.1.trans (p1.1.trans b1.1.symm),a1.2.1.trans (p1.2.1.trans b1.2.1.symm),a1.2.2.1.trans (p1.2.2.1.trans b1.2.2.1.symm),a1.2.2.2.trans (p1.2.2.2.trans b1.2.2.2.symm)⟩,?_⟩,?_,?_,?_⟩,a1,a2⟩
  ·show(iZ d.live b).aE=(iZ d.saved b).aE
   rw[Aj hk.1.2,Aj hk.2]
   show d.live.aE++ [b]=d.saved.aE++ [b]
   rw[p2]
  ·show(iZ d.saved b).sent≤(iZ d.live b).sent
   rw[a3,b3];exact hd.sent
  ·show(iZ d.saved b).next≤(iZ d.live b).next
   rw[a2,b2];exact hd.next
  ·show qH (iZ d.saved b).inbox (iZ d.live b).inbox=true
   rw[a4,b4];exact hd.pre
 ·exact⟨h,⟨rfl,rfl,rfl,rfl⟩,rfl⟩
theorem Uo{x:aR}{c:Int}{b:List UInt8}(h:okW x=true):okW (Kb x c b)=true:=by
 unfold Kb
 split
 ·rename_i hk
  obtain⟨h1,h2,h3⟩:=NR hk
  obtain⟨q1,q2,q3⟩:=Q7 (b:=b) h2
  exact Dl h h1 q1 q2 (by rw[q3];exact h3)
 ·exact h
theorem Ip{c:cX}(h:cG c=true):cE ⟨c,c⟩=true:=ND.iff.2 ⟨h,h,eP.2 ⟨⟨rfl,rfl,rfl,rfl⟩,rfl⟩,Int.le_refl _,Int.le_refl _,vK _⟩
theorem Up{x:aR}{c:Int}(h:okW x=true):okW (Oq x c)=true:=by
 unfold Oq
 split
 ·rename_i hk
  obtain⟨h1,h2,h3⟩:=NR hk
  have hd:=ND.iff.1 h2
  obtain⟨p1,p2⟩:=eP.1 hd.same
  have hn:=hd.next
  rw[QC,if_pos h2]
  exact Dl h h1 (Ip hd.saved) ⟨p1.1.symm,p1.2.1.symm,p1.2.2.1.symm,p1.2.2.2.symm⟩ (by show(w5 x c).saved.next≤x.round;omega)
 ·exact h
theorem Uq{x:aR}{c:Int}(h:okW x=true):okW (QD x c)=true:=by
 unfold QD
 split
 ·rename_i hk
  obtain⟨h1,h2,h3⟩:=NR hk
  rw[Oo,if_pos h2]
  exact Dl h h1 (Ip (ND.iff.1 h2).live) ⟨rfl,rfl,rfl,rfl⟩ h3
 ·exact h
theorem Ur{x:aR}{i b:Int}(h:okW x=true):okW (Ot x i b)=true:=by
 unfold Ot
 split
 ·rename_i hk
  obtain⟨_,h1,h2⟩:=Nd hk
  have w:=Dg.of h
  refine Dg.ok ⟨w.rows,by show 2≤(x.aj.set i.toNat (UJ (x.aj.getD i.toNat (aA .bl)) b)).length∧(x.aj.set i.toNat (UJ (x.aj.getD i.toNat (aA .bl)) b)).length≤4;rw[List.length_set];exact w.R4,w.Ui,w.even,w.Ox,w.Ak,w.last,w.key,w.round,w.vJ,fun j hj=> ?_,w.dv⟩
  have hj:j<x.aj.length:=by have:j<(x.aj.set i.toNat (UJ (x.aj.getD i.toNat (aA .bl)) b)).length:=hj;rwa [List.length_set]at this
  show R3 x.rows x.round j ((x.aj.set i.toNat (UJ (x.aj.getD i.toNat (aA .bl)) b)).getD j (aA .bl))
  rw[vI _ _ hj]
  have hq:=w.sv j hj
  split
  ·rename_i e
   subst e
   obtain⟨q1,q2,q3,q4,_⟩:=hq
   exact⟨q1,q2,q3,q4,h2.1,h2.2⟩
  ·exact hq
 ·exact h
theorem Wr(x:aR):(AJ x).round=x.round∧(AJ x).cancelled=x.cancelled∧(AJ x).replaced=x.replaced∧(AJ x).rows=x.rows∧(AJ x).aj=x.aj∧(AJ x).az=x.az∧(AJ x).aa.length=x.aa.length∧(AJ x).bh=x.bh:=by
 unfold AJ
 split
 ·exact⟨rfl,rfl,rfl,rfl,rfl,rfl,List.length_map ..,rfl⟩
 ·exact⟨rfl,rfl,rfl,rfl,rfl,rfl,rfl,rfl⟩
theorem Q8(x:aR):(testW x).round=x.round∧(testW x).cancelled=x.cancelled∧(testW x).rows=x.rows∧(testW x).az=x.az∧(testW x).aa=x.aa∧(testW x).bh=x.bh:=by
 unfold testW
 split
 ·exact⟨rfl,rfl,rfl,rfl,rfl,rfl⟩
 ·exact⟨rfl,rfl,rfl,rfl,rfl,rfl⟩
theorem JW{x:aR}(h:okW x=true)(hc:x.cancelled<9223372036854775807):okW (eT x)=true:=by
 unfold eT
 split
 ·rename_i hk
  have hr:x.round<99999:=by simp only[jH,h,Bool.true_and,Bool.not_eq_true',decide_eq_false_iff_not]at hk;omega
  exact Uk (NA (JP h hr hc fun _=>⟨E9 _ (nr _),(Fo h).2⟩))
 ·exact h
theorem NS{x:aR}(h:okW x=true)(hr:x.round<99999)(hc:x.cancelled<9223372036854775807):(eT x).round=x.round+1∧(eT x).cancelled=(if(jF x.bh (bH x) (cU (bH x)) (kj x) (bH x).length).length=0 then x.cancelled else x.cancelled+1)∧(eT x).rows=x.rows∧(eT x).aa.length=x.aa.length∧cW (eT x).az=(if(jF x.bh (bH x) (cU (bH x)) (kj x) (bH x).length).length=0 then x.round else cW x.az):=by
 have w:=Dg.of h
 have w3:=w.round;have w4:=w.vJ
 have hk:=Al h hr
 rw[eT,if_pos hk]
 obtain⟨a1,a2,_,a4,_,a6,a7,_⟩:=Wr (testW (cM x (jF x.bh (bH x) (cU (bH x)) (kj x) (bH x).length) (jw (cU (bH x)))))
 obtain⟨b1,b2,b3,b4,b5,_⟩:=Q8 (cM x (jF x.bh (bH x) (cU (bH x)) (kj x) (bH x).length) (jw (cU (bH x))))
 have hj:=Fo h
 rw[a1,a2,a4,a6,a7,b1,b2,b3,b4,b5,cM,if_pos hk]
 refine⟨bp (by omega),?_,rfl,rfl,?_⟩
 ·dsimp only
  split
  ·rfl
  ·exact bp (by omega)
 ·dsimp only
  split
  ·exact(Nz w.Ox w3 w.last (E9 _ (nr _)) (by rw[w.Ak];exact hj.2)).2.1
  ·rfl
structure pN(x:aR)(n:Nat):Prop where
 ok:okW x=true
 round:x.round≤n
 vJ:x.cancelled≤n
 Fp:x.replaced.length≤8*n
theorem pN.mono{x:aR}{n m:Nat}(h:pN x n)(hn:n≤m):pN x m:=⟨h.ok,by have:=h.round;omega,by have:=h.vJ;omega,by have:=h.Fp;omega⟩
theorem pN.C{x:aR}{n:Nat}(h:pN x n):wC x (8*n):=Wq h.ok h.Fp
theorem pN.B{x:aR}{n:Nat}(h:pN x n)(hn:n≤100000):wB x:=M8 h.C (by omega)
theorem pN.R{x:aR}{n:Nat}(h:pN x n)(hn:n≤100000):wR x:=R2 h.C (by omega)
theorem pN.sm{x:aR}{n:Nat}{c:Int}{b:List UInt8}(h:pN x n):pN (Kb x c b) n:=by
 refine⟨Uo h.ok,?_,?_,?_⟩<;>(unfold Kb;split)<;>first|exact h.round|exact h.vJ|exact h.Fp
theorem pN.cc{x:aR}{n:Nat}{c:Int}(h:pN x n):pN (Oq x c) n:=by
 refine⟨Up h.ok,?_,?_,?_⟩<;>(unfold Oq;split)<;>first|exact h.round|exact h.vJ|exact h.Fp
theorem pN.sv{x:aR}{n:Nat}{c:Int}(h:pN x n):pN (QD x c) n:=by
 refine⟨Uq h.ok,?_,?_,?_⟩<;>(unfold QD;split)<;>first|exact h.round|exact h.vJ|exact h.Fp
theorem pN.co{x:aR}{n:Nat}{i b:Int}(h:pN x n):pN (Ot x i b) n:=by
 refine⟨Ur h.ok,?_,?_,?_⟩<;>(unfold Ot;split)<;>first|exact h.round|exact h.vJ|exact h.Fp
theorem pN.rd{x:aR}{n:Nat}(h:pN x n)(hn:n≤99998):pN (eT x) (n+1):=by
 have h1:=h.round;have h2:=h.vJ
 have hf:=NS h.ok (by omega) (by omega)
 have hC:=Fe h.C
 refine⟨JW h.ok (by omega),by omega,?_,by have:=hC.2.2.2;omega⟩
 rw[hf.2.1];split<;>omega
def nu(p:fJ×aR):fJ×aR:=
 (NN (bu (bu p.1 p.2.aa.length) 4) (c9 (bu p.1 p.2.aa.length) 4).toNat,Kb p.2 (c9 p.1 p.2.aa.length) (R5 (bu (bu p.1 p.2.aa.length) 4) (c9 (bu p.1 p.2.aa.length) 4).toNat))
def NT(k:Int)(p:fJ×aR):fJ×aR:=
 if k=0 then nu p
 else if k=1 then(bu p.1 p.2.aa.length,Oq p.2 (c9 p.1 p.2.aa.length))
 else if k=2 then(bu (bu p.1 p.2.aj.length) 4,Ot p.2 (c9 p.1 p.2.aj.length) (c9 (bu p.1 p.2.aj.length) 4))
 else(p.1,eT p.2)
def gJ(p:fJ×aR):fJ×aR:=NT (c9 p.1 8) (bu p.1 8,p.2)
def dR{α:Type}(f:α→α)(a:α):Nat→α
 |0=>a
 |k+1=>f (dR f a k)
def Q9:List Int:= [12,16]
def NU(c:fJ):fJ:=bu (bu (bu (bu c 2) 2) 2) 999
def Ws(c:fJ):aR:=Q5 (Q9.getD (c9 c 2).toNat (aA .int)) (2+c9 (bu c 2) 2).toNat (1+c9 (bu (bu c 2) 2) 2).toNat (c9 (bu (bu (bu c 2) 2) 2) 999)
def n32(c:fJ):Nat:=(c9 (NU c) 5).toNat
def nZ(c:fJ):fJ×aR:=(bu (NU c) 5,Ws c)
def Ap(c:fJ):fJ×aR:=dR nu (nZ c) (n32 c)
def NV(c:fJ)(s:Int):Nat:=(c9 (Ap c).1 s).toNat
def hY(c:fJ)(s:Int):fJ×aR:=(bu (Ap c).1 s,(Ap c).2)
def JX(c:fJ)(s:Int):fJ×aR:=dR gJ (hY c s) (NV c s)
def Xg(l:List UInt8):aR:=(JX (JU l) (3+vN l 12)).2
theorem NW(l:List UInt8)(h:l.length≤1048576){m:Int}(hm:3≤m):3≤vN l m∧vN l m≤m:=by
 unfold vN
 rw[oM (by omega),bp (a:=(l.length:Int)/12) (by omega),bp (by omega)]
 split<;>omega
theorem NX(p:fJ×aR):(nu p).1.b=p.1.b:=by
 show(NN _ _).b=_
 rw[NO,cV,cV]
theorem Wt(p:fJ×aR):(gJ p).1.b=p.1.b:=by
 unfold gJ NT
 split
 ·rw[NX];exact cV _ _
 ·split
  ·show(bu (bu p.1 8) _).b=_;rw[cV,cV]
  ·split
   ·show(bu (bu (bu p.1 8) _) 4).b=_;rw[cV,cV,cV]
   ·exact cV _ _
theorem Iq{f:fJ×aR→fJ×aR}(h: ∀p,(f p).1.b=p.1.b)(p:fJ×aR): ∀k,(dR f p k).1.b=p.1.b
 |0=>rfl
 |k+1=>(h _).trans (Iq h p k)
theorem R6(c:fJ):(NU c).b=c.b:=by unfold NU;rw[cV,cV,cV,cV]
theorem R7(c:fJ):(Ap c).1.b=c.b:=by
 unfold Ap
 rw[Iq NX]
 show(bu (NU c) 5).b=c.b
 rw[cV,R6]
theorem Ir{c:fJ}:Q9.getD (c9 c 2).toNat (aA .int)=12∨Q9.getD (c9 c 2).toNat (aA .int)=16:=by
 have h:=iK c (n:=2) (by omega)
 rcases(show(c9 c 2).toNat=0∨(c9 c 2).toNat=1 by omega)with e|e<;>rw[e]
 ·exact Or.inl rfl
 ·exact Or.inr rfl
theorem R8(c:fJ):pN (Ws c) 0∧(Ws c).aa.length≤4∧(Ws c).aj.length≤3:=by
 have h1:=iK (bu c 2) (n:=2) (by omega)
 have h2:=iK (bu (bu c 2) 2) (n:=2) (by omega)
 have h3:=Ir (c:=c)
 refine⟨⟨Q6 (by omega) (by omega) (by omega),Int.le_refl 0,Int.le_refl 0,Nat.le_refl 0⟩,?_,?_⟩
 ·show(nV _ _).length≤4
  rw[Dk];omega
 ·show(w8 _ _).length≤3
  rw[Dj];omega
theorem NY{p:fJ×aR}{n:Nat}(h:pN p.2 n):pN (nu p).2 n:=h.sm
theorem Wu{p:fJ×aR}{n:Nat}(h:pN p.2 n)(hn:n≤99998):pN (gJ p).2 (n+1):=by
 unfold gJ NT
 split
 ·exact(NY (p:=(bu p.1 8,p.2)) h).mono (by omega)
 ·split
  ·exact h.cc.mono (by omega)
  ·split
   ·exact h.co.mono (by omega)
   ·exact h.rd hn
theorem Wv(c:fJ):pN (Ap c).2 0:=by
 have: ∀k,pN (dR nu (nZ c) k).2 0:=by
  intro k
  induction k with
  |zero=>exact(R8 c).1
  |succ k ih=>exact NY ih
 exact this _
theorem NZ(c:fJ)(s:Int): ∀k,k≤99998→pN (dR gJ (hY c s) k).2 k
 |0,_=>Wv c
 |k+1,h=>Wu (NZ c s k (by omega)) (by omega)
theorem R9(c:fJ){s:Int}(h:0<s):(NV c s:Int)<s:=by
 have:=iK (Ap c).1 h
 unfold NV;omega
theorem Ww{l:List UInt8}(h:l.length≤1048576):pN (Xg l) 15:=by
 have h1:=NW l h (m:=12) (by omega)
 have h2:=R9 (JU l) (s:=3+vN l 12) (by omega)
 exact(NZ (JU l) (3+vN l 12) _ (by omega)).mono (by omega)
end
section
theorem Ra:(Tryz.prog.info? 119).map (fun i=>(i.zero,i.size,i.bytes))=some (some (.agg #[.slice none 0 0, .int .i64 0, .int .i64 0]),3,40):=by kernel_rfl
theorem N0:b7 Tryz.prog 119 (.st [.slice none 0 0, .int .i64 0, .int .i64 0] [some .u8,none,none] [0,1,2]):=kV Tryz.underlying119 Ra rfl (by kernel_rfl)
def Uu:List (Nat×TK):=(119, .st [.slice none 0 0, .int .i64 0, .int .i64 0] [some .u8,none,none] [0,1,2])::tys
def Γ2(t:Nat):TK:=match look Uu t with|some k=>k|none=> .other
theorem Uv: ∀e,e∈Uu→b7 Tryz.prog e.1 e.2:=by
 intro e he
 rcases List.mem_cons.1 he with rfl|he
 ·exact N0
 ·exact kinds e he
theorem Wx: ∀e,e∈Uu→(∀z tg fo,e.2≠ .st z tg fo)→(Tryz.prog.info? e.1).map (·.size)=some 1:=by
 intro e he h
 rcases List.mem_cons.1 he with rfl|he
 ·exact absurd rfl (h _ _ _)
 ·exact VJ e he h
theorem X2:Ctx Tryz.prog ty Γ2 where
 kind:=fun t=>by
  unfold Γ2
  split
  ·rename_i k hk;exact Uv (t,k) (dg hk)
  ·trivial
 one:=fun t h1 h2=>by
  unfold Γ2 at h1 h2
  split at h1
  ·rename_i k hk;exact Wx (t,k) (dg hk) h1
  ·rename_i hk;rw[hk]at h2;exact absurd rfl h2
end
section
structure ArP where
 c:fJ
 a:gH
 r:Int
end
section
def n4(c:fJ)(a b:Int):fJ:=bu (bu (bu (bu c a) b) 99) 999
structure ClP where
 c:fJ
 x:cX
end
section
structure ZA where
 c:fJ
 d:aS
def YH(p:ZA):Prop:=p.d.live.sent<(p.d.live.aE.length:Int)
instance (p:ZA):Decidable (YH p):=inferInstanceAs (Decidable (_<_))
structure SvP where
 c:fJ
 s:bl
end
section
def sb(rows:List (List UInt8))(v:List Int)(i k:Nat):UInt8:=if k<v.length∧v.getD k (aA .int)=1 then PT (rows.getD k (aA (.sl .u8))) i else 0
def sx(rows:List (List UInt8))(v:List Int)(i:Nat):Nat→UInt8
 |0=>0
 |n+1=>sx rows v i n^^^sb rows v i n
end
section

end
section
theorem Rc{x:aR}(h:okW x=true): ∀s,s∈x.aj→dP s≤15000:=by
 intro s hs
 have:=qv h s hs
 unfold dP
 rw[this]
 exact Nat.zero_le _
end
end Go.Proofs.YtcnomgcfijjkmaaGreat.G
