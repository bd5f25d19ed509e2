/-
  Worlds that are drawn, and bent. No program in sight.
-/
import Derived.KernelRfl
import Derived.Test.YtcnomgcfijjkmaaGreatProg
import Derived.Test.YtcnomgcfijjkmaaGreatM9
namespace Go.Proofs.YtcnomgcfijjkmaaGreat.G
set_option linter.all false
open Go.RowKit L D
section
theorem X6:(Tryz.prog.info? 3).map (fun i=>(i.zero,i.size,i.bytes))=some (some (.int .i64 0),1,8):=by kernel_rfl
theorem X7:(Tryz.prog.info? 5).map (fun i=>(i.zero,i.size,i.bytes))=some (some (.int .u8 0),1,1):=by kernel_rfl
theorem X8:(Tryz.prog.info? 9).map (fun i=>(i.zero,i.size,i.bytes))=some (some (.string ⟨#[]⟩),1,16):=by kernel_rfl
theorem Sp:(Tryz.prog.info? 22).map (fun i=>(i.zero,i.size,i.bytes))=some (some (.slice none 0 0),1,24):=by kernel_rfl
theorem Sq:(Tryz.prog.info? 29).map (fun i=>(i.zero,i.size,i.bytes))=some (some (.slice none 0 0),1,24):=by kernel_rfl
theorem ZI:(Tryz.prog.info? 54).map (fun i=>(i.zero,i.size,i.bytes))=some (some (.slice none 0 0),1,24):=by kernel_rfl
theorem Mb:(Tryz.prog.info? 72).map (fun i=>(i.zero,i.size,i.bytes))=some (some (.agg #[.slice none 0 0]),1,24):=by kernel_rfl
theorem HY:(Tryz.prog.info? 153).map (fun i=>(i.zero,i.size,i.bytes))=some (some (.agg #[.int .i64 0, .slice none 0 0]),2,32):=by kernel_rfl
theorem Mc:(Tryz.prog.info? 83).map (fun i=>(i.zero,i.size,i.bytes))=some (some (.agg #[.int .i64 0, .int .i64 0, .int .i64 0, .slice none 0 0, .int .i64 0]),5,56):=by kernel_rfl
theorem Md:(Tryz.prog.info? 90).map (fun i=>(i.zero,i.size,i.bytes))=some (some (.agg #[.int .i64 0, .slice none 0 0]),2,32):=by kernel_rfl
theorem Sr:(Tryz.prog.info? 28).map (fun i=>(i.zero,i.size,i.bytes))=some (some (.agg #[.int .i64 0, .slice none 0 0]),2,32):=by kernel_rfl
theorem Ss:(Tryz.prog.info? 56).map (fun i=>(i.zero,i.size,i.bytes))=some (some (.agg #[.int .i64 0, .int .i64 0, .int .i64 0, .int .i64 0, .slice none 0 0, .int .i64 0, .slice none 0 0, .int .i64 0]),8,96):=by kernel_rfl
theorem Me:(Tryz.prog.info? 58).map (fun i=>(i.zero,i.size,i.bytes))=some (some (.agg #[.int .i64 0, .int .i64 0, .int .i64 0, .int .i64 0, .slice none 0 0, .int .i64 0, .slice none 0 0, .int .i64 0, .int .i64 0, .int .i64 0, .int .i64 0, .int .i64 0, .slice none 0 0, .int .i64 0, .slice none 0 0, .int .i64 0]),16,192):=by kernel_rfl
theorem Su:(Tryz.prog.info? 31).map (fun i=>(i.zero,i.size,i.bytes))=some (some (.agg #[.int .i64 0, .slice none 0 0, .slice none 0 0, .int .i64 0, .slice none 0 0, .int .i64 0, .int .i64 0, .int .i64 0, .slice none 0 0, .int .i64 0]),10,144):=by kernel_rfl
theorem Mf:(Tryz.prog.info? 44).map (fun i=>(i.zero,i.size,i.bytes))=some (some (.agg #[.int .i64 0, .int .i64 0, .int .i64 0, .slice none 0 0]),4,48):=by kernel_rfl
theorem Mg:(Tryz.prog.info? 95).map (fun i=>(i.zero,i.size,i.bytes))=some (some (.agg #[.int .i64 0, .int .i64 0, .int .i64 0]),3,24):=by kernel_rfl
theorem HZ:(Tryz.prog.info? 128).map (fun i=>(i.zero,i.size,i.bytes))=some (some (.agg #[.int .i64 0, .int .i64 0, .int .i64 0, .int .i64 0, .int .i64 0]),5,40):=by kernel_rfl
theorem NV:(Tryz.prog.info? 171).map (fun i=>(i.zero,i.size,i.bytes))=some (some (.agg #[.int .i64 0, .slice none 0 0]),2,32):=by kernel_rfl
theorem H6:(Tryz.prog.info? 139).map (fun i=>(i.zero,i.size,i.bytes))=some (some (.agg #[.int .i64 0, .int .i64 0, .slice none 0 0, .slice none 0 0, .int .i64 0]),5,72):=by kernel_rfl
theorem Sv:(Tryz.prog.info? 38).map (fun i=>(i.zero,i.size,i.bytes))=some (some (.slice none 0 0),1,24):=by kernel_rfl
theorem nR{P:Program}{i:Nat}{z:Option Value}{k b:Nat}(h:(P.info? i).map (fun i=>(i.zero,i.size,i.bytes))=some (z,k,b)):(P.info? i).map (·.size)=some k:=by
 cases hq:P.info? i with
 |none=>simp[hq]at h
 |some x=>simp[hq]at h;simp[h]
theorem Wn{P:Program}{i:Nat}{z:Option Value}{k b:Nat}(h:(P.info? i).map (fun i=>(i.zero,i.size,i.bytes))=some (z,k,b)):(P.info? i).map (fun i=>(i.size,i.zero))=some (k,z):=by
 cases hq:P.info? i with
 |none=>simp[hq]at h
 |some x=>simp[hq]at h;simp[h]
theorem pg{P:Program}{t:Nat}{z:List Value}{tg:List (Option Tag)}{fo:List Nat}{fs:Array Field}{b:Nat}(hu:P.underlying t=some (.struct fs))(hi:(P.info? t).map (fun i=>(i.zero,i.size,i.bytes))=some (some (.agg z.toArray),z.length,b))(hz:z.all (·.oneCell')=true)(hf:yI P z.length fs.toList fo=true):c8 P t (.st z tg fo):=
 ⟨fs,hu,Wn hi,fun v hv=>List.all_eq_true.1 hz v hv,fun f k h=>by obtain⟨fd,h1,h2⟩:=(ug hf).1 f k h;exact⟨fd,by simpa using h1,h2⟩,(ug hf).2⟩
theorem eS{P:Program}{i:Nat}(h:(P.info? i).map (fun i=>Nat.beq i.size 1)=some true):(P.info? i).map (·.size)=some 1:=by
 cases hq:P.info? i with
 |none=>simp[hq]at h
 |some x=>simp[hq]at h;simp[h]
def tys:List (Nat×TK):= [(3, .int .i64),
 (2, .int .i64),
 (21, .int .i32),
 (5, .int .u8),
 (265, .int .u32),
 (205, .int .u64),
 (12, .int .u64),
 (4, .bool),
 (9, .str),
 (72, .st [.slice none 0 0] [some (.sl .u8)] [0]),
 (153, .st [.int .i64 0, .slice none 0 0] [none,some (.sl .u8)] [0,1]),
 (83, .st [.int .i64 0, .int .i64 0, .int .i64 0, .slice none 0 0, .int .i64 0] [none,none,none,some .aR,none] [0,1,2,3,4]),
 (90, .st [.int .i64 0, .slice none 0 0] [none,some (.sl .u8)] [0,1]),
 (28, .st [.int .i64 0, .slice none 0 0] [none,some .aN] [0,1]),
 (56, .st [.int .i64 0, .int .i64 0, .int .i64 0, .int .i64 0, .slice none 0 0, .int .i64 0, .slice none 0 0, .int .i64 0] [none,none,none,none,some (.sl .u8),none,some (.sl .u8),none] [0,1,2,3,4,5,6,7]),
 (58, .st [.int .i64 0, .int .i64 0, .int .i64 0, .int .i64 0, .slice none 0 0, .int .i64 0, .slice none 0 0, .int .i64 0, .int .i64 0, .int .i64 0, .int .i64 0, .int .i64 0, .slice none 0 0, .int .i64 0, .slice none 0 0, .int .i64 0] [none,none,none,none,some (.sl .u8),none,some (.sl .u8),none,none,none,none,none,some (.sl .u8),none,some (.sl .u8),none] [0,8]),
 (31, .st [.int .i64 0, .slice none 0 0, .slice none 0 0, .int .i64 0, .slice none 0 0, .int .i64 0, .int .i64 0, .int .i64 0, .slice none 0 0, .int .i64 0] [none,some .bw,some .bC,none,some .aN,none,none,none,some .int,none] [0,1,2,3,5,6,7,8,9]),
 (44, .st [.int .i64 0, .int .i64 0, .int .i64 0, .slice none 0 0] [none,none,none,some .u8] [0,1,2,3]),
 (95, .st [.int .i64 0, .int .i64 0, .int .i64 0] [none,none,none] [0,1,2]),
 (128, .st [.int .i64 0, .int .i64 0, .int .i64 0, .int .i64 0, .int .i64 0] [none,none,none,none,none] [0,1,2,3,4]),
 (171, .st [.int .i64 0, .slice none 0 0] [none,some .u8] [0,1]),
 (139, .st [.int .i64 0, .int .i64 0, .slice none 0 0, .slice none 0 0, .int .i64 0] [none,none,some .int,some .u8,none] [0,1,2,3,4]),
 (29, .sl .int 3),
 (22, .sl .u8 5),
 (106, .sl .str 9),
 (54, .sl (.sl .u8) 22),
 (198, .sl (.sl .int) 29),
 (69, .sl .DB 72),
 (81, .sl .aR 153),
 (24, .sl .bw 83),
 (26, .sl .aN 90),
 (25, .sl .bC 58),
 (49, .sl .Ev 44),
 (38, .sl .gB 95),
 (66, .sl .eD 128),
 (197, .sl .cY 139),
 (160, .sl (.sl .gB) 38)]
def Γ(t:Nat):TK:=match look tys t with|some k=>k|none=> .other
def ty:Tag→Nat
 | .int=>3
 | .u8=>5
 | .str=>9
 | (.sl .u8)=>22
 | (.sl .int)=>29
 | (.sl (.sl .u8))=>54
 | .DB=>72
 | .aR=>153
 | .bw=>83
 | .aN=>90
 | .iP=>28
 | .eg=>56
 | .bC=>58
 | .bp=>31
 | .Ev=>44
 | .gB=>95
 | .eD=>128
 | .Plain=>171
 | .cY=>139
 | (.sl .gB)=>38
 |_=>1000000000
theorem ZJ:c8 Tryz.prog 3 (.int .i64):=Tryz.underlying3
theorem ZK:c8 Tryz.prog 2 (.int .i64):=Tryz.underlying2
theorem Wo:c8 Tryz.prog 21 (.int .i32):=Tryz.underlying21
theorem ZL:c8 Tryz.prog 5 (.int .u8):=Tryz.underlying5
theorem Sw:c8 Tryz.prog 265 (.int .u32):=Tryz.underlying265
theorem Sx:c8 Tryz.prog 205 (.int .u64):=Tryz.underlying205
theorem Wp:c8 Tryz.prog 12 (.int .u64):=Tryz.underlying12
theorem ZM:c8 Tryz.prog 4 (.bool):=Tryz.underlying4
theorem ZN:c8 Tryz.prog 9 (.str):=Tryz.underlying9
theorem Wq:c8 Tryz.prog 72 (.st [.slice none 0 0] [some (.sl .u8)] [0]):=pg Tryz.underlying72 Mb rfl (by kernel_rfl)
theorem Sy:c8 Tryz.prog 153 (.st [.int .i64 0, .slice none 0 0] [none,some (.sl .u8)] [0,1]):=pg Tryz.underlying153 HY rfl (by kernel_rfl)
theorem Wr:c8 Tryz.prog 83 (.st [.int .i64 0, .int .i64 0, .int .i64 0, .slice none 0 0, .int .i64 0] [none,none,none,some .aR,none] [0,1,2,3,4]):=pg Tryz.underlying83 Mc rfl (by kernel_rfl)
theorem Ws:c8 Tryz.prog 90 (.st [.int .i64 0, .slice none 0 0] [none,some (.sl .u8)] [0,1]):=pg Tryz.underlying90 Md rfl (by kernel_rfl)
theorem Wt:c8 Tryz.prog 28 (.st [.int .i64 0, .slice none 0 0] [none,some .aN] [0,1]):=pg Tryz.underlying28 Sr rfl (by kernel_rfl)
theorem Wu:c8 Tryz.prog 56 (.st [.int .i64 0, .int .i64 0, .int .i64 0, .int .i64 0, .slice none 0 0, .int .i64 0, .slice none 0 0, .int .i64 0] [none,none,none,none,some (.sl .u8),none,some (.sl .u8),none] [0,1,2,3,4,5,6,7]):=pg Tryz.underlying56 Ss rfl (by kernel_rfl)
theorem Wv:c8 Tryz.prog 58 (.st [.int .i64 0, .int .i64 0, .int .i64 0, .int .i64 0, .slice none 0 0, .int .i64 0, .slice none 0 0, .int .i64 0, .int .i64 0, .int .i64 0, .int .i64 0, .int .i64 0, .slice none 0 0, .int .i64 0, .slice none 0 0, .int .i64 0] [none,none,none,none,some (.sl .u8),none,some (.sl .u8),none,none,none,none,none,some (.sl .u8),none,some (.sl .u8),none] [0,8]):=pg Tryz.underlying58 Me rfl (by kernel_rfl)
theorem Ww:c8 Tryz.prog 31 (.st [.int .i64 0, .slice none 0 0, .slice none 0 0, .int .i64 0, .slice none 0 0, .int .i64 0, .int .i64 0, .int .i64 0, .slice none 0 0, .int .i64 0] [none,some .bw,some .bC,none,some .aN,none,none,none,some .int,none] [0,1,2,3,5,6,7,8,9]):=pg Tryz.underlying31 Su rfl (by kernel_rfl)
theorem Wx:c8 Tryz.prog 44 (.st [.int .i64 0, .int .i64 0, .int .i64 0, .slice none 0 0] [none,none,none,some .u8] [0,1,2,3]):=pg Tryz.underlying44 Mf rfl (by kernel_rfl)
theorem Wy:c8 Tryz.prog 95 (.st [.int .i64 0, .int .i64 0, .int .i64 0] [none,none,none] [0,1,2]):=pg Tryz.underlying95 Mg rfl (by kernel_rfl)
theorem Sz:c8 Tryz.prog 128 (.st [.int .i64 0, .int .i64 0, .int .i64 0, .int .i64 0, .int .i64 0] [none,none,none,none,none] [0,1,2,3,4]):=pg Tryz.underlying128 HZ rfl (by kernel_rfl)
theorem SA:c8 Tryz.prog 171 (.st [.int .i64 0, .slice none 0 0] [none,some .u8] [0,1]):=pg Tryz.underlying171 NV rfl (by kernel_rfl)
theorem SB:c8 Tryz.prog 139 (.st [.int .i64 0, .int .i64 0, .slice none 0 0, .slice none 0 0, .int .i64 0] [none,none,some .int,some .u8,none] [0,1,2,3,4]):=pg Tryz.underlying139 H6 rfl (by kernel_rfl)
theorem Wz:c8 Tryz.prog 29 (.sl .int 3):=⟨Tryz.underlying29,nR X6⟩
theorem WA:c8 Tryz.prog 22 (.sl .u8 5):=⟨Tryz.underlying22,nR X7⟩
theorem SC:c8 Tryz.prog 106 (.sl .str 9):=⟨Tryz.underlying106,nR X8⟩
theorem WB:c8 Tryz.prog 54 (.sl (.sl .u8) 22):=⟨Tryz.underlying54,nR Sp⟩
theorem SD:c8 Tryz.prog 198 (.sl (.sl .int) 29):=⟨Tryz.underlying198,nR Sq⟩
theorem WC:c8 Tryz.prog 69 (.sl .DB 72):=⟨Tryz.underlying69,nR Mb⟩
theorem WD:c8 Tryz.prog 81 (.sl .aR 153):=⟨Tryz.underlying81,nR HY⟩
theorem WE:c8 Tryz.prog 24 (.sl .bw 83):=⟨Tryz.underlying24,nR Mc⟩
theorem WG:c8 Tryz.prog 26 (.sl .aN 90):=⟨Tryz.underlying26,nR Md⟩
theorem WH:c8 Tryz.prog 25 (.sl .bC 58):=⟨Tryz.underlying25,nR Me⟩
theorem WI:c8 Tryz.prog 49 (.sl .Ev 44):=⟨Tryz.underlying49,nR Mf⟩
theorem WJ:c8 Tryz.prog 38 (.sl .gB 95):=⟨Tryz.underlying38,nR Mg⟩
theorem WK:c8 Tryz.prog 66 (.sl .eD 128):=⟨Tryz.underlying66,nR HZ⟩
theorem SE:c8 Tryz.prog 197 (.sl .cY 139):=⟨Tryz.underlying197,nR H6⟩
theorem SF:c8 Tryz.prog 160 (.sl (.sl .gB) 38):=⟨Tryz.underlying160,nR Sv⟩
set_option maxRecDepth 100000 in
theorem kinds: ∀e,e∈tys→c8 Tryz.prog e.1 e.2:=by
 simp only[tys,List.forall_mem_cons]
 exact⟨ZJ,ZK,Wo,ZL,Sw,Sx,Wp,ZM,ZN,Wq,Sy,Wr,Ws,Wt,Wu,Wv,Ww,Wx,Wy,Sz,SA,SB,Wz,WA,SC,WB,SD,WC,WD,WE,WG,WH,WI,WJ,WK,SE,SF,by simp⟩
set_option maxRecDepth 100000 in
theorem acm: ∀e,e∈tys→(∀z tg fo,e.2≠ .st z tg fo)→(Tryz.prog.info? e.1).map (·.size)=some 1:=by
 simp only[tys,List.forall_mem_cons]
 refine⟨fun _=>eS (by kernel_rfl),fun _=>eS (by kernel_rfl),fun _=>eS (by kernel_rfl),fun _=>eS (by kernel_rfl),fun _=>eS (by kernel_rfl),fun _=>eS (by kernel_rfl),fun _=>eS (by kernel_rfl),fun _=>eS (by kernel_rfl),fun _=>eS (by kernel_rfl),fun h=>absurd rfl (h _ _ _),fun h=>absurd rfl (h _ _ _),fun h=>absurd rfl (h _ _ _),fun h=>absurd rfl (h _ _ _),fun h=>absurd rfl (h _ _ _),fun h=>absurd rfl (h _ _ _),fun h=>absurd rfl (h _ _ _),fun h=>absurd rfl (h _ _ _),fun h=>absurd rfl (h _ _ _),fun h=>absurd rfl (h _ _ _),fun h=>absurd rfl (h _ _ _),fun h=>absurd rfl (h _ _ _),fun h=>absurd rfl (h _ _ _),fun _=>eS (by kernel_rfl),fun _=>eS (by kernel_rfl),fun _=>eS (by kernel_rfl),fun _=>eS (by kernel_rfl),fun _=>eS (by kernel_rfl),fun _=>eS (by kernel_rfl),fun _=>eS (by kernel_rfl),fun _=>eS (by kernel_rfl),fun _=>eS (by kernel_rfl),fun _=>eS (by kernel_rfl),fun _=>eS (by kernel_rfl),fun _=>eS (by kernel_rfl),fun _=>eS (by kernel_rfl),fun _=>eS (by kernel_rfl),fun _=>eS (by kernel_rfl),by simp⟩
theorem X:Ctx Tryz.prog ty Γ where
 kind:=fun t=>by
  unfold Γ
  split
  ·rename_i k hk;exact kinds (t,k) (eH hk)
  ·trivial
 one:=fun t h1 h2=>by
  unfold Γ at h1 h2
  split at h1
  ·rename_i k hk;exact acm (t,k) (eH hk) h1
  ·rename_i hk;rw[hk]at h2;exact absurd rfl h2
theorem bn(t:Tag)(h:ty t<1000000000):El Tryz.prog ty t:=by
 unfold ty at h
 split at h
 ·exact X6
 ·exact X7
 ·exact X8
 ·exact Sp
 ·exact Sq
 ·exact ZI
 ·exact Mb
 ·exact HY
 ·exact Mc
 ·exact Md
 ·exact Sr
 ·exact Ss
 ·exact Me
 ·exact Su
 ·exact Mf
 ·exact Mg
 ·exact HZ
 ·exact NV
 ·exact H6
 ·exact Sv
 ·exact absurd h (by decide)
abbrev So:=Sound ty Tryz.prog
end
section
theorem MO:Tryz.prog.follows .mixedOrders=true:=by kernel_rfl
theorem nb:(∀(p:Prop) [Decidable p],(decide p=true)=p)∧(∀(p:Prop) [Decidable p],(decide p=false)= ¬p)∧(∀b:Bool,((!b)=true)=(b=false))∧(∀b:Bool,((!b)=false)=(b=true))∧
  (∀(α:Type) [BEq α] [LawfulBEq α] (a b:α),((a==b)=true)=(a=b))∧(∀(α:Type) [BEq α] [LawfulBEq α] (a b:α),((a !=b)=true)=(¬a=b))∧(∀(α:Type) [BEq α] [LawfulBEq α] (a b:α),((a==b)=false)=(¬a=b))∧(∀(α:Type) [BEq α] [LawfulBEq α] (a b:α),((a !=b)=false)=(a=b))∧
  (∀(α:Type) (a b:α),(a≠b)= ¬a=b)∧(∀a b:Int,(a>b)=(b<a))∧(∀a b:Int,(a≥b)=(b≤a))∧(∀a b:Nat,(a>b)=(b<a))∧(∀a b:Nat,(a≥b)=(b≤a))∧(∀a b:Int,(¬a<b)=(b≤a))∧(∀a b:Int,(¬a≤b)=(b<a))∧
  (∀(p:Prop) [Decidable p],(¬ ¬p)=p)∧(∀n:Nat,(n:Int).toNat=n)∧(∀m n:Nat,((m:Int)<n)=(m<n))∧(∀m n:Nat,((m:Int)≤n)=(m≤n))∧(∀a b:Nat,(¬a<b)=(b≤a))∧(∀a b:Nat,(¬a≤b)=(b<a))∧
  (∀(p:Prop) [Decidable p] (b:Bool),(if p then b else false)=(decide p&&b))∧(∀(p:Prop) [Decidable p] (b:Bool),(if p then true else b)=(decide p||b))∧(∀(p:Prop) [Decidable p] (b:Bool),(if p then false else b)=(!decide p&&b))∧(∀(p:Prop) [Decidable p] (b:Bool),(if p then b else true)=(!decide p||b))∧
  (∀a b:Bool,((a&&b)=true)=(a=true∧b=true))∧(∀a b:Bool,((a||b)=true)=(a=true∨b=true))∧(∀a b:Bool,((a&&b)=false)=(a=false∨b=false))∧(∀a b:Bool,((a||b)=false)=(a=false∧b=false))∧(∀(b:Bool),decide (b=true)=b):=by
 refine⟨by simp,by simp,by simp,by simp,fun _ _ _ a b=>propext beq_iff_eq,fun _ _ _ a b=>propext bne_iff_ne,fun _ _ _ a b=>propext beq_eq_false_iff_ne,fun _ _ _ a b=>propext bne_eq_false_iff_eq,by simp,by simp,by simp,by simp,by simp,by simp,by simp,by simp,by simp,by simp,by simp,by simp,by simp,by simp,by simp,by simp,by simp,by simp,by simp,by simp,by simp,by simp⟩
theorem lens:(∀n:Nat,(n:Int).toNat=n)∧(∀(α:Type) (a b:List α),(a++b).length=a.length+b.length)∧(∀(α:Type) (a:α),[a].length=1)∧(∀(α:Type) (a:α) (l:List α),(a::l).length=l.length+1)∧(∀(α:Type),([]:List α).length=0)∧(∀(α:Type) (n:Nat) (a:α),(List.replicate n a).length=n)∧
  (∀(α:Type) (l:List α) (n:Nat) (a:α),(l.set n a).length=l.length)∧(∀(α β:Type) (f:α→β) (l:List α),(l.map f).length=l.length)∧(∀(α:Type) (l:List α) (n:Nat),(l.take n).length=min n l.length)∧(∀(α:Type) (l:List α) (n:Nat),(l.drop n).length=l.length-n)∧(∀n:Nat,(List.range n).length=n):=by
 refine⟨by simp,by simp,by simp,by simp,by simp,by simp,by simp,by simp,by simp,by simp,by simp⟩
theorem aS{p:Prop}{l:List Prop}(h:p)(k:lB l):lB (p::l):=⟨h,k⟩
theorem aL:lB []:=True.intro
theorem bL{α:Type}(l:List α)(k:Nat)(d:α)(h:k<l.length):l.take (k+1)=l.take k++ [l.getD k d]:=by
 rw[List.take_add_one,List.getD_eq_getElem?_getD,List.getElem?_eq_getElem h];rfl
theorem bH(a:Int)(n:Nat)(h:a=n)(h2:n<9223372036854775807):IntKind.i64.wrap (a+1)=((n+1:Nat):Int):=by
 subst h;rw[IntWalk.i64_in _ (by omega)];omega
theorem J0{P:Program}{ty:Tag→Nat}{f:FuncId}{xs:List S1}{v:Value}(h:Sound ty P f xs [.a (.lit v)]){w:World}{us:List Value}(ha:bN (HB w) xs us)(hA:Ge w:=by first|assumption|exact trivial):Calls P f us.toArray w (Q5 w v):=by
 refine(h.2 w us hA ha).mono ?_
 rintro e w' ⟨u,fp,rfl,hb,_,f1,f2,⟨rfl,_⟩,_⟩
 exact⟨rfl,hb⟩
theorem cx{P:Program}{ty:Tag→Nat}{w0:cK}{c:Code}{Q:Post}{st:St}(d:Nat){t:Tag}{l:List (T t)}(h:look st.sl d=some (.one (.a (.sl t l))))(k:l.length≤9223372036854775807→W P ty w0 c Q st):W P ty w0 c Q st:=by
 intro a w iv
 obtain⟨env,g⟩:=iv.good
 obtain⟨fp,⟨oa,cap,_,h1,h2,_⟩,_⟩:=g.slot d _ h
 have e:maxLen=9223372036854775807:=by decide
 exact k (by omega) a w iv
theorem bB{P:Program}{ty:Tag→Nat}{w0:cK}{c:Code}{Q:Post}{st:St}(d i:Nat){cs:List V}{t:Tag}{l:List (T t)}(h:look st.sl d=some (.one (.agg cs)))(hc:cs[i]? =some (.sl t l))(k:l.length≤9223372036854775807→W P ty w0 c Q st):W P ty w0 c Q st:=by
 intro a w iv
 obtain⟨env,g⟩:=iv.good
 obtain⟨us,_,hr⟩:=g.slot d _ h
 obtain⟨u,_,fp,⟨oa,cap,_,h1,h2,_⟩,_⟩:=hr.at hc
 have e:maxLen=9223372036854775807:=by decide
 exact k (by omega) a w iv
theorem rU{α:Type} [DecidableEq α](a b:List α)(d:α)(k:Nat)(ha:k<a.length)(hb:k<b.length)(h:a.take k=b.take k)(he:a.getD k d=b.getD k d):a.take (k+1)=b.take (k+1):=by
 rw[bL a k d ha,bL b k d hb,h,he]
theorem xu{α:Type} [BEq α] [LawfulBEq α](a b:List α)(d:α)(k:Nat)(he:a.getD k d≠b.getD k d):(a==b)=false:=by
 rw[beq_eq_false_iff_ne];rintro rfl;exact he rfl
theorem xw{α:Type} [BEq α] [LawfulBEq α](a b:List α)(k:Nat)(hk:k=a.length)(hl:a.length=b.length)(h:a.take k=b.take k):(a==b)=true:=by
 rw[List.take_of_length_le (by omega),List.take_of_length_le (by omega)]at h
 rw[h];simp
theorem AO{α:Type} [BEq α] [LawfulBEq α](a b:List α)(hl:(a.length:Int)≠b.length):(a==b)=false:=by
 rw[beq_eq_false_iff_ne];rintro rfl;exact hl rfl
theorem SG{x y:UInt8}(h:(x.toNat:Int)=y.toNat):x=y:=by
 have:x.toNat=y.toNat:=by omega
 exact UInt8.toNat_inj.1 this
end
section
theorem SH{α:Type}(f:α→Nat)(l:List α)(d:α)(k:Nat)(h:k<l.length):((l.take (k+1)).map f).sum=((l.take k).map f).sum+f (l.getD k d):=
 Jf l f k _ (by rw[List.getD_eq_getElem?_getD,List.getElem?_eq_getElem h];rfl)
theorem WL(x:UInt8):UInt8.ofNat (Int.toNat ((x.toNat:Nat):Int))=x:=by simp
theorem rV(n:Int):0≤IntKind.u8.wrap n∧IntKind.u8.wrap n<256:=by
 unfold IntKind.wrap
 simp only[IntKind.signed,IntKind.bits]
 simp
 omega
theorem u8n(x:UInt8):0≤((x.toNat:Nat):Int)∧((x.toNat:Nat):Int)<256:=by
 have:=x.toNat_lt
 omega
theorem acn(n:Int):(((UInt8.ofNat (IntKind.u8.wrap n).toNat).toNat:Nat):Int)=IntKind.u8.wrap n:=by
 have h:=rV n
 generalize IntKind.u8.wrap n=m at h
 simp
 omega
section
variable{α:Type}{mk:Int→α→α}{mn:α→Nat}
end
theorem ad8{P:Program}{ty:Tag→Nat}{zb:cK}{c:Code}{Q:Post}{st:St}(st':St)(h:st=st')(k:W P ty zb c Q st'):W P ty zb c Q st:=h▸k
end
section
theorem bV{a:Int}(h: -9223372036854775808≤a∧a≤9223372036854775807):IntKind.i64.wrap a=a:=IntWalk.i64_in _ (by omega)
theorem H7(n:Int):IntKind.u8.wrap n=n % 256:=by
 unfold IntKind.wrap
 simp only[IntKind.signed,IntKind.bits]
 simp
def b8(n:Int):UInt8:=UInt8.ofNat (IntKind.u8.wrap n).toNat
theorem zf(n:Int):((b8 n).toNat:Int)=n % 256:=by unfold b8;rw[acn,H7]
theorem Mh{x y:UInt8}(h:(x.toNat:Int)=y.toNat):x=y:=SG h
theorem ofNat_toNat(n:Int)(h0:0≤n)(h1:n<256):((UInt8.ofNat n.toNat).toNat:Int)=n:=by
 simp;omega
theorem ofNat_eq{n:Int}{x:UInt8}(h0:0≤n)(h1:n<256)(h:n=x.toNat):UInt8.ofNat n.toNat=x:=by
 apply Mh;rw[ofNat_toNat n h0 h1,h]
theorem zg{a b:Int}(h:a % 256=b % 256):b8 a=b8 b:=by
 apply Mh;rw[zf,zf,h]
theorem ep{a b:Int}(h:0≤a):a.tmod b=a % b:=Int.tmod_eq_emod_of_nonneg h
theorem uA{a b:Int}(h:0≤a):a.tdiv b=a/b:=Int.tdiv_eq_ediv_of_nonneg h
theorem md_eq(p q:Int)(h1:1≤q)(h2:q≤1000000000000):(IntKind.i64.wrap (p.tmod q+q)).tmod q=p % q:=by
 have hb: -q<p.tmod q∧p.tmod q<q:=⟨Int.lt_tmod_of_pos p (by omega),Int.tmod_lt_of_pos p (by omega)⟩
 rw[bV (by omega),ep (by omega),Int.add_emod_right]
 rcases Int.le_total 0 p with h|h
 ·rw[ep h,Int.emod_emod_of_dvd _ (Int.dvd_refl q)]
 ·have e:p.tmod q=p-q*p.tdiv q:=by have:=Int.tmod_add_mul_tdiv p q;omega
  rw[e,Int.sub_mul_emod_self_left]
def hs1(h v:Int):Int:=(h*1000003+v % 2147483647+13)% 2147483647
def hsh(l:List Int):Int:=l.foldl hs1 11
def kh(k:Int)(l:List Int):Int:=hsh (k::(l++ [k]))
theorem PS(h v:Int):0≤hs1 h v∧hs1 h v<2147483647:=⟨Int.emod_nonneg _ (by decide),Int.emod_lt_of_pos _ (by decide)⟩
theorem rW{α β:Type}(f:β→α→β)(b:β)(l:List α)(k:Nat)(d:α)(h:k<l.length):(l.take (k+1)).foldl f b=f ((l.take k).foldl f b) (l.getD k d):=by
 rw[bL l k d h,List.foldl_append];rfl
theorem AP: ∀l:List Int,0≤hsh l∧hsh l<2147483647:=by
 have g: ∀(l:List Int) (a:Int),(0≤a∧a<2147483647)→0≤l.foldl hs1 a∧l.foldl hs1 a<2147483647:=by
  intro l
  induction l with
  |nil=>intro a h;exact h
  |cons x r ih=>intro a _;exact ih _ (PS a x)
 exact fun l=>g l 11 (by decide)
theorem dS(k:Int)(l:List Int):0≤kh k l∧kh k l<2147483647:=AP _
theorem ZO{h v:Int}(h0:0≤h)(h1:h<2147483647):(IntKind.i64.wrap (IntKind.i64.wrap (IntKind.i64.wrap (h*1000003)+v % 2147483647)+13)).tmod 2147483647=hs1 h v:=by
 have hv:0≤v % 2147483647∧v % 2147483647<2147483647:=⟨Int.emod_nonneg _ (by decide),Int.emod_lt_of_pos _ (by decide)⟩
 rw[bV (a:=h*1000003) (by omega),bV (a:=h*1000003+v % 2147483647) (by omega),bV (by omega),ep (by omega)]
 rfl
def Eu(n:Int):Int:=if n=0 then 1 else n
theorem CW{n:Int}(h:0≤n):(if n>1 then n else 1)=Eu n:=by
 unfold Eu;split<;>split<;>omega
theorem vQ{n:Int}(h:0≤n∧n<2147483647):1≤Eu n∧Eu n<2147483647:=by unfold Eu;split<;>omega
theorem aco{h:Int}(h0:0≤h)(h1:h<2147483647):0≤h*h∧h*h≤4611686009837453316:=by
 have:=Int.mul_le_mul (show h≤2147483646 by omega) (show h≤2147483646 by omega) h0 (by decide)
 exact⟨Int.mul_nonneg h0 h0,by omega⟩
def cs(s k:Int):Int:=(kh s [47,k]*kh s [47,k]+5)% 2147483647
theorem uB(s k:Int):0≤cs s k∧cs s k<2147483647:=⟨Int.emod_nonneg _ (by decide),Int.emod_lt_of_pos _ (by decide)⟩
theorem cs_eq{h:Int}(h0:0≤h)(h1:h<2147483647):(IntKind.i64.wrap (IntKind.i64.wrap (h*h)+5)).tmod 2147483647=(h*h+5)% 2147483647:=by
 have:=aco h0 h1
 rw[bV (a:=h*h) (by omega),bV (by omega),ep (by omega)]
theorem ae7{x:Int}(h:0≤x):IntKind.i64.wrap (BitVec.ofInt IntKind.i64.bits x&&&BitVec.ofInt IntKind.i64.bits 1).toNat=x % 2:=by
 obtain⟨n,rfl⟩:=Int.eq_ofNat_of_zero_le h
 have e:(BitVec.ofInt IntKind.i64.bits (n:Int)&&&BitVec.ofInt IntKind.i64.bits 1).toNat=n % 2:=by
  rw[BitVec.toNat_and]
  have h1:(BitVec.ofInt IntKind.i64.bits 1).toNat=1:=by decide
  have h2:(BitVec.ofInt IntKind.i64.bits (n:Int)).toNat=n % 2^64:=by
   rw[BitVec.ofInt_natCast,BitVec.toNat_ofNat];rfl
  rw[h1,h2,Nat.and_one_is_mod]
  omega
 rw[e,bV (by omega)]
 omega
def rsb(h:Int):Int:=h*h % 2147483647/512 % 2
theorem ZP{h:Int}(h0:0≤h)(h1:h<2147483647):IntKind.i64.wrap (BitVec.ofInt IntKind.i64.bits (((IntKind.i64.wrap (h*h)).tmod 2147483647).fdiv (2^(min (Int.toNat 9) IntKind.i64.bits)))&&&BitVec.ofInt IntKind.i64.bits 1).toNat=rsb h:=by
 have:=aco h0 h1
 have e:(2:Int)^(min (Int.toNat 9) IntKind.i64.bits)=512:=by decide
 rw[bV (a:=h*h) (by omega),ep (by omega),e,Int.fdiv_eq_ediv_of_nonneg _ (by decide)]
 have hm:0≤h*h % 2147483647:=Int.emod_nonneg _ (by decide)
 rw[ae7 (by omega)]
 rfl
theorem PT(h:Int):rsb h=0∨rsb h=1:=by unfold rsb;omega
def eG:List UInt8→List UInt8→List UInt8
 | [],b=>b
 |a,[]=>a
 |x::a,y::b=>(x^^^y)::eG a b
theorem kJ(a:List UInt8):eG a []=a:=by cases a<;>rfl
theorem qb(a:List UInt8):eG [] a=a:=by cases a<;>rfl
theorem dU: ∀a b:List UInt8,(eG a b).length=max a.length b.length
 | [],b=>by simp[eG]
 |x::a,[]=>by simp[eG]
 |x::a,y::b=>by simp[eG,dU a b]
theorem GC: ∀a b:List UInt8,eG a b=eG b a
 | [],b=>by rw[qb,kJ]
 |x::a,[]=>by rw[qb,kJ]
 |x::a,y::b=>by rw[eG,eG,GC a b,UInt8.xor_comm]
theorem SI(x y:UInt8):UInt8.ofNat (IntKind.u8.wrap ((BitVec.ofInt IntKind.u8.bits (x.toNat:Int)^^^BitVec.ofInt IntKind.u8.bits (y.toNat:Int)).toNat:Int)).toNat=x^^^y:=by
 have h:(BitVec.ofInt IntKind.u8.bits (x.toNat:Int)^^^BitVec.ofInt IntKind.u8.bits (y.toNat:Int)).toNat=(x^^^y).toNat:=by
  rw[BitVec.ofInt_natCast,BitVec.ofInt_natCast,BitVec.toNat_xor,BitVec.toNat_ofNat,BitVec.toNat_ofNat,UInt8.toNat_xor]
  have hx:=x.toNat_lt
  have hy:=y.toNat_lt
  show x.toNat % 2^8^^^y.toNat % 2^8=_
  rw[Nat.mod_eq_of_lt (by omega),Nat.mod_eq_of_lt (by omega)]
 rw[h,H7]
 apply ofNat_eq<;>have:=(x^^^y).toNat_lt<;>omega
def WM(l:List UInt8)(i:Nat):UInt8:=l.getD i 0
theorem qw: ∀(a b:List UInt8) (k:Nat),k<max a.length b.length→(eG a b).take (k+1)=(eG a b).take k++ [WM a k^^^WM b k]
 | [],b,k,h=>by
   rw[qb,bL b k 0 (by simpa using h)]
   simp[WM]
 |x::a,[],k,h=>by
  rw[kJ,bL (x::a) k 0 (by simpa using h)]
  simp[WM]
 |x::a,y::b,0,h=>by simp[eG,WM]
 |x::a,y::b,k+1,h=>by
  rw[eG,List.take_succ_cons,List.take_succ_cons,qw a b k (by simp at h;omega)]
  simp[WM]
theorem nB{α:Type}(l:List α)(k:Nat)(d:α)(h:k<l.length):l.drop k=l.getD k d::l.drop (k+1):=by
 rw[List.drop_eq_getElem_cons h,List.getD_eq_getElem?_getD,List.getElem?_eq_getElem h];rfl
theorem uC{α:Type}(f l:List α)(k:Nat)(d y:α)(h:k<l.length)(hf:k<f.length)(hy:f.getD k d=y):(f.take k++l.drop k).set k y=f.take (k+1)++l.drop (k+1):=by
 have hk:(f.take k).length=k:=by rw[List.length_take];omega
 rw[List.set_append_right _ _ (by omega),hk,Nat.sub_self,nB l k d h,List.set_cons_zero,bL f k d hf,List.append_assoc,hy]
 rfl
theorem kK{α:Type}(f l:List α)(k:Nat)(d:α)(hf:k≤f.length):(f.take k++l.drop k).getD k d=l.getD k d:=by
 have hk:(f.take k).length=k:=by rw[List.length_take];omega
 rw[List.getD_eq_getElem?_getD,List.getElem?_append_right (by omega),hk,Nat.sub_self,List.getElem?_drop,List.getD_eq_getElem?_getD,Nat.add_zero]
theorem kL{α:Type}(f l:List α)(k:Nat)(hf:f.length=l.length)(h:k≤l.length):(f.take k++l.drop k).length=l.length:=by
 rw[List.length_append,List.length_take,List.length_drop];omega
theorem mu{α β:Type}(f:α→β)(l:List α)(k:Nat)(d:α)(h:k<l.length):(l.take (k+1)).map f=(l.take k).map f++ [f (l.getD k d)]:=by
 rw[bL l k d h,List.map_append];rfl
theorem xy{β:Type}(f:Nat→β)(k:Nat):(List.range (k+1)).map f=(List.range k).map f++ [f k]:=by
 rw[List.range_succ,List.map_append];rfl
theorem Ew{α:Type}(p:α→Bool)(l:List α)(k:Nat)(d:α)(h:k<l.length):(l.take (k+1)).all p=((l.take k).all p&&p (l.getD k d)):=by
 rw[bL l k d h,List.all_append];simp
theorem SJ{α:Type}(p:α→Bool)(l:List α)(k:Nat)(d:α)(h:k<l.length):(l.take (k+1)).any p=((l.take k).any p||p (l.getD k d)):=by
 rw[bL l k d h,List.any_append];simp
theorem CX{α:Type}(l:List α)(p:α→Bool)(d:α)(k:Nat)(h:k<l.length)(h2:p (l.getD k d)=true):l.any p=true:=by
 rw[List.any_eq_true]
 refine⟨l.getD k d,?_,h2⟩
 rw[List.getD_eq_getElem?_getD,List.getElem?_eq_getElem h];simp
theorem Mi{α:Type}(l:List α)(p:α→Bool)(d:α)(k:Nat)(h:k<l.length)(h2:p (l.getD k d)=false):l.all p=false:=by
 rw[List.all_eq_false]
 refine⟨l.getD k d,?_,by rw[h2];decide⟩
 rw[List.getD_eq_getElem?_getD,List.getElem?_eq_getElem h];simp
theorem Mj{α:Type}(l:List α)(k:Nat)(d:α)(h:k<l.length):l[k]? =some (l.getD k d):=by
 rw[List.getD_eq_getElem?_getD,List.getElem?_eq_getElem h];rfl
theorem bD{α:Type}(l:List α)(k:Nat):(l.take k).length≤k:=by rw[List.length_take];omega
def inr(x lo hi:Int):Bool:=if decide (x≥lo)then decide (x≤hi)else false
theorem cL{x lo hi:Int}:(inr x lo hi=true)=(lo≤x∧x≤hi):=by simp[inr]
theorem X9{x lo hi:Int}:(inr x lo hi=false)= ¬(lo≤x∧x≤hi):=by rw[←cL];simp
theorem PU{α:Type}{l:List α}:(l.isEmpty=true)=(l= []):=by simp
theorem aP:((∀(p:Prop) [Decidable p],(decide p=true)=p)∧(∀(p:Prop) [Decidable p],(decide p=false)= ¬p)∧(∀b:Bool,((!b)=true)=(b=false))∧(∀b:Bool,((!b)=false)=(b=true))∧(∀(α:Type) [BEq α] [LawfulBEq α] (a b:α),((a==b)=true)=(a=b))∧(∀(α:Type) [BEq α] [LawfulBEq α] (a b:α),((a !=b)=true)=(¬a=b))∧(∀(α:Type) [BEq α] [LawfulBEq α] (a b:α),((a==b)=false)=(¬a=b))∧(∀(α:Type) [BEq α] [LawfulBEq α] (a b:α),((a !=b)=false)=(a=b))∧(∀(α:Type) (a b:α),(a≠b)= ¬a=b)∧(∀a b:Int,(a>b)=(b<a))∧(∀a b:Int,(a≥b)=(b≤a))∧(∀a b:Nat,(a>b)=(b<a))∧(∀a b:Nat,(a≥b)=(b≤a))∧(∀a b:Int,(¬a<b)=(b≤a))∧(∀a b:Int,(¬a≤b)=(b<a))∧(∀(p:Prop) [Decidable p],(¬ ¬p)=p)∧(∀n:Nat,(n:Int).toNat=n)∧(∀m n:Nat,((m:Int)<n)=(m<n))∧(∀m n:Nat,((m:Int)≤n)=(m≤n))∧(∀a b:Nat,(¬a<b)=(b≤a))∧(∀a b:Nat,(¬a≤b)=(b<a))∧(∀(p:Prop) [Decidable p] (b:Bool),(if p then b else false)=(decide p&&b))∧(∀(p:Prop) [Decidable p] (b:Bool),(if p then true else b)=(decide p||b))∧(∀(p:Prop) [Decidable p] (b:Bool),(if p then false else b)=(!decide p&&b))∧(∀(p:Prop) [Decidable p] (b:Bool),(if p then b else true)=(!decide p||b))∧(∀a b:Bool,((a&&b)=true)=(a=true∧b=true))∧(∀a b:Bool,((a||b)=true)=(a=true∨b=true))∧(∀a b:Bool,((a&&b)=false)=(a=false∨b=false))∧(∀a b:Bool,((a||b)=false)=(a=false∧b=false))∧(∀(b:Bool),decide (b=true)=b))∧(∀x lo hi:Int,(inr x lo hi=true)=(lo≤x∧x≤hi))∧(∀x lo hi:Int,(inr x lo hi=false)= ¬(lo≤x∧x≤hi))∧(∀(α:Type) (l:List α),(l.isEmpty=true)=(l= [])):=⟨nb,fun _ _ _=>cL,fun _ _ _=>X9,fun _ _=>PU⟩
theorem J1(l:List Int)(k:Nat)(h:k<l.length):hsh (l.take (k+1))=(IntKind.i64.wrap (IntKind.i64.wrap (IntKind.i64.wrap (hsh (l.take k)*1000003)+(l.getD k (aI .int))% 2147483647)+13)).tmod 2147483647:=by
 rw[ZO (AP _).1 (AP _).2]
 exact rW hs1 11 l k _ h
def FI(l:List UInt8):List Int:=(l.length:Int)::l.map fun c=>(c.toNat:Int)
theorem J2(l:List UInt8)(k:Nat)(h:k<l.length):(l.length:Int)::(l.take (k+1)).map (fun c=>(c.toNat:Int))=((l.length:Int)::(l.take k).map (fun c=>(c.toNat:Int)))++ [IntKind.i64.wrap ((l.getD k (aI .u8)).toNat:Int)]:=by
 have:=(l.getD k (aI .u8)).toNat_lt
 rw[bV (by omega),mu (fun c:UInt8=>(c.toNat:Int)) l k (aI .u8) h]
 rfl
def stream(s:Int)(n:Nat):List UInt8:=(List.range n).map fun i:Nat=>b8 (cs s (100+(i:Int))/256)
theorem fB(s:Int)(n:Nat):(stream s n).length=n:=by simp[stream]
theorem BT(s:Int)(k:Nat)(h:k≤1000):stream s (k+1)=stream s k++ [UInt8.ofNat (IntKind.u8.wrap (IntKind.i64.wrap ((cs s (IntKind.i64.wrap (100+(k:Int)))).tdiv 256))).toNat]:=by
 have h1:=uB s (100+(k:Int))
 rw[bV (a:=100+(k:Int)) (by omega),uA h1.1,bV (by omega)]
 exact xy (fun i:Nat=>b8 (cs s (100+(i:Int))/256)) k
theorem BU{α:Type}(l:List (List α))(d:List α)(k:Nat)(h:k<l.length):((l.take (k+1)).map List.length).sum=((l.take k).map List.length).sum+(l.getD k d).length:=SH List.length l d k h
theorem zh{α:Type}(l:List (List α))(d:List α)(k:Nat)(h:k<l.length):(l.take (k+1)).flatten=(l.take k).flatten++l.getD k d:=by
 rw[bL l k d h,List.flatten_append];simp
theorem pz{α:Type}(l:List (List α))(k:Nat):(l.take k).flatten.length≤(l.map List.length).sum:=by
 rw[List.length_flatten];exact iy l List.length k
end
section
theorem rY{α:Type}(f l:List α)(k:Nat)(d y:α)(h:k<l.length)(hf:f.length=l.length)(hy:f.getD k d=y):f.take (k+1)++l.drop (k+1)=(f.take k++l.drop k).set k y:=(uC f l k d y h (by omega) hy).symm
theorem BV{α:Type}(f:List α)(k:Nat)(d y:α)(h:k<f.length)(hy:f.getD k d=y):f.take (k+1)=f.take k++ [y]:=by rw[bL f k d h,hy]
theorem nh{α:Type}(f l:List α)(k:Nat)(hf:f.length=l.length)(h:l.length≤k):f.take k++l.drop k=f:=by
 rw[List.take_of_length_le (by omega),List.drop_eq_nil_of_le h,List.append_nil]
theorem eT{β:Type}(n:Nat)(g:Nat→β)(k:Nat)(d:β)(h:k<n):((List.range n).map g).getD k d=g k:=by
 rw[List.getD_eq_getElem?_getD,List.getElem?_map,List.getElem?_range h];rfl
def mO(s:Int)(l:List UInt8):List UInt8:=(List.range l.length).map fun i:Nat=>b8 ((l.getD i (aI .u8)).toNat+kh s [(i:Int)]% 256)
theorem jA(s:Int)(l:List UInt8):(mO s l).length=l.length:=by simp[mO]
theorem J9(s:Int)(l:List UInt8)(k:Nat)(h:k<l.length):(mO s l).getD k (aI .u8)=b8 ((l.getD k (aI .u8)).toNat+kh s [(k:Int)]% 256):=eT _ _ k _ h
theorem PV(s:Int)(l:List UInt8)(k:Nat)(h:k<l.length):(mO s l).take (k+1)++l.drop (k+1)=((mO s l).take k++l.drop k).set k (UInt8.ofNat (IntKind.u8.wrap ((((mO s l).take k++l.drop k).getD k (aI .u8)).toNat+IntKind.u8.wrap ((kh s [(k:Int)]).tmod 256))).toNat):=by
 refine rY _ _ k (aI .u8) _ h (jA s l) ?_
 rw[J9 s l k h,kK _ _ _ _ (by rw[jA];omega)]
 refine zg ?_
 have:=dS s [(k:Int)]
 rw[H7 ((kh s [(k:Int)]).tmod 256),ep this.1]
 omega
theorem PW(s:Int)(l:List UInt8)(k:Nat)(h:k<l.length):(mO s l).take (k+1)=(mO s l).take k++ [UInt8.ofNat (IntKind.u8.wrap ((IntKind.i64.wrap (IntKind.i64.wrap ((l.getD k (aI .u8)).toNat:Int)+(kh s [(k:Int)]).tmod 256)).tmod 256)).toNat]:=by
 refine BV _ k (aI .u8) _ (by rw[jA];exact h) ?_
 rw[J9 s l k h]
 refine zg ?_
 have:=dS s [(k:Int)]
 have hx:=(l.getD k (aI .u8)).toNat_lt
 rw[ep this.1,bV (a:=((l.getD k (aI .u8)).toNat:Int)) (by omega),bV (by omega),ep (by omega)]
 omega
def decr(s:Int)(l:List UInt8):List UInt8:=(List.range l.length).map fun i:Nat=>b8 ((l.getD i (aI .u8)).toNat-kh s [(i:Int)]% 256)
theorem nV(s:Int)(l:List UInt8):(decr s l).length=l.length:=by simp[decr]
theorem Ka(s:Int)(l:List UInt8)(k:Nat)(h:k<l.length):(decr s l).getD k (aI .u8)=b8 ((l.getD k (aI .u8)).toNat-kh s [(k:Int)]% 256):=eT _ _ k _ h
theorem PX(s:Int)(l:List UInt8)(k:Nat)(h:k<l.length):(decr s l).take (k+1)++l.drop (k+1)=((decr s l).take k++l.drop k).set k (UInt8.ofNat (IntKind.u8.wrap ((((decr s l).take k++l.drop k).getD k (aI .u8)).toNat-IntKind.u8.wrap ((kh s [(k:Int)]).tmod 256))).toNat):=by
 refine rY _ _ k (aI .u8) _ h (nV s l) ?_
 rw[Ka s l k h,kK _ _ _ _ (by rw[nV];omega)]
 refine zg ?_
 have:=dS s [(k:Int)]
 rw[H7 ((kh s [(k:Int)]).tmod 256),ep this.1]
 omega
theorem PY(s:Int)(l:List UInt8)(k:Nat)(h:k<l.length):(decr s l).take (k+1)=(decr s l).take k++ [UInt8.ofNat (IntKind.u8.wrap ((IntKind.i64.wrap (IntKind.i64.wrap ((l.getD k (aI .u8)).toNat:Int)-(kh s [(k:Int)]).tmod 256))% 256)).toNat]:=by
 refine BV _ k (aI .u8) _ (by rw[nV];exact h) ?_
 rw[Ka s l k h]
 refine zg ?_
 have:=dS s [(k:Int)]
 have hx:=(l.getD k (aI .u8)).toNat_lt
 rw[ep this.1,bV (a:=((l.getD k (aI .u8)).toNat:Int)) (by omega),bV (by omega)]
 omega
theorem SM(a b:List UInt8)(k:Nat)(h:k<max a.length b.length):(eG a b).getD k (aI .u8)=a.getD k 0^^^b.getD k 0:=by
 have h1:=qw a b k h
 have h2:=bL (eG a b) k (aI .u8) (by rw[dU];exact h)
 rw[h1]at h2
 have:=List.append_inj_right h2 rfl
 simp only[List.cons.injEq,and_true]at this
 rw[←this];rfl
theorem Kb(p q:List UInt8)(k:Nat)(h:k<q.length)(hl:q.length≤p.length):(eG p q).take (k+1)++p.drop (k+1)=((eG p q).take k++p.drop k).set k (UInt8.ofNat (IntKind.u8.wrap ((BitVec.ofInt IntKind.u8.bits ((((eG p q).take k++p.drop k).getD k (aI .u8)).toNat:Int)^^^BitVec.ofInt IntKind.u8.bits ((q.getD k (aI .u8)).toNat:Int)).toNat:Int)).toNat):=by
 refine rY _ _ k (aI .u8) _ (by omega) (by rw[dU];omega) ?_
 rw[SM p q k (by omega),kK _ _ _ _ (by rw[dU];omega),SI]
 rfl
theorem Kc(p q:List UInt8)(k:Nat)(h:q.length≤k)(hl:q.length≤p.length)(hk:k≤q.length):(eG p q).take k++p.drop k=eG p q:=by
 have hk:k=q.length:=by omega
 subst hk
 have key: ∀p q:List UInt8,q.length≤p.length→(eG p q).take q.length++p.drop q.length=eG p q:=by
  intro p
  induction p with
  |nil=>intro q h;cases q with|nil=>rfl|cons _ _=>simp at h
  |cons x p ih=>intro q h;cases q with
   |nil=>rw[kJ];rfl
   |cons y q=>simp only[eG,List.length_cons,List.take_succ_cons,List.drop_succ_cons,List.cons_append];rw[ih q (by simpa using h)]
 exact key p q hl
theorem ZR(a b:List UInt8)(k:Nat)(ha:k<a.length)(hb:k<b.length):(eG a b).take (k+1)=(eG a b).take k++ [UInt8.ofNat (IntKind.u8.wrap ((BitVec.ofInt IntKind.u8.bits ((a.getD k (aI .u8)).toNat:Int)^^^BitVec.ofInt IntKind.u8.bits ((b.getD k (aI .u8)).toNat:Int)).toNat:Int)).toNat]:=by
 rw[qw a b k (by omega),SI];rfl
theorem Ke{α:Type}(l:List α)(k:Nat)(d:α)(h:l.length≤k):l.getD k d=d:=by
 rw[List.getD_eq_getElem?_getD,List.getElem?_eq_none h];rfl
theorem acq(a b:List UInt8)(k:Nat)(ha:k<a.length)(hb:b.length≤k):(eG a b).take (k+1)=(eG a b).take k++ [UInt8.ofNat (((a.getD k (aI .u8)).toNat:Int)).toNat]:=by
 rw[qw a b k (by omega),WL]
 have:WM b k=0:=Ke b k 0 hb
 rw[this];simp;rfl
theorem acr(a b:List UInt8)(k:Nat)(ha:a.length≤k)(hb:k<b.length):(eG a b).take (k+1)=(eG a b).take k++ [UInt8.ofNat (IntKind.u8.wrap ((BitVec.ofInt IntKind.u8.bits (0:Int)^^^BitVec.ofInt IntKind.u8.bits ((b.getD k (aI .u8)).toNat:Int)).toNat:Int)).toNat]:=by
 rw[qw a b k (by omega)]
 have:WM a k=0:=Ke a k 0 ha
 rw[this]
 have:=SI 0 (b.getD k (aI .u8))
 rw[show((0:UInt8).toNat:Int)=0 from rfl]at this
 rw[this];rfl
theorem SN{l:List (List UInt8)}(h:dL List.length l≤1048576)(k:Nat)(hk:k<l.length):(l.getD k (aI (.sl .u8))).length≤1048576:=l8 h (Mj l k _ hk)
def iX(key round dir rows:Int):Int:=if(1≤rows∧rows≤64)∧0≤round∧round≤1000000000000 then cs (kh key [79,round,dir]) 0 % rows else-1
def Cg(seed round rows:Int):Int:=if 1≤rows∧rows≤64 then cs (kh seed [157,round]) 0 % rows else-1
def nW(key counter:Int)(data:List UInt8):Int:=kh key ([71,counter]++data.map fun c=>(c.toNat:Int))
theorem N0(l:List UInt8)(counter:Int)(k:Nat)(h:k<l.length): [71,counter]++(l.take (k+1)).map (fun c=>(c.toNat:Int))=([71,counter]++(l.take k).map (fun c=>(c.toNat:Int)))++ [IntKind.i64.wrap ((l.getD k (aI .u8)).toNat:Int)]:=by
 have:=(l.getD k (aI .u8)).toNat_lt
 rw[bV (by omega),mu (fun c:UInt8=>(c.toNat:Int)) l k (aI .u8) h,List.append_assoc]
def four(n:Int):List UInt8:= [b8 n,b8 (n/256),b8 (n/65536),b8 (n/16777216)]
theorem N1(n:Int): [UInt8.ofNat (IntKind.u8.wrap n).toNat,UInt8.ofNat (IntKind.u8.wrap (n.fdiv (2^(min (Int.toNat 8) IntKind.i64.bits)))).toNat,UInt8.ofNat (IntKind.u8.wrap (n.fdiv (2^(min (Int.toNat 16) IntKind.i64.bits)))).toNat,UInt8.ofNat (IntKind.u8.wrap (n.fdiv (2^(min (Int.toNat 24) IntKind.i64.bits)))).toNat]=four n:=by
 have e1:(2:Int)^(min (Int.toNat 8) IntKind.i64.bits)=256:=by decide
 have e2:(2:Int)^(min (Int.toNat 16) IntKind.i64.bits)=65536:=by decide
 have e3:(2:Int)^(min (Int.toNat 24) IntKind.i64.bits)=16777216:=by decide
 rw[e1,e2,e3,Int.fdiv_eq_ediv_of_nonneg _ (by decide),Int.fdiv_eq_ediv_of_nonneg _ (by decide),Int.fdiv_eq_ediv_of_nonneg _ (by decide)]
 rfl
def jG(p:Plain):Bool:=(inr p.kind 0 3)&&decide ((p.body.length:Int)≤14)
def fK(k:Int):Bool:=inr k 1 2147483646
def jT(key counter:Int)(p:Plain):Bool:=fK key&&(inr counter 0 1000000000000)&&jG p
def gb(key counter:Int)(p:Plain):List UInt8:= [b8 p.kind,b8 p.body.length]++p.body++(stream (kh key [61,counter]) 18).drop p.body.length
def nX(key counter:Int):Int:=Eu (kh key [67,counter])
def sR(key counter:Int)(p:Plain):List UInt8:=if jT key counter p then mO (nX key counter) (gb key counter p)++four (nW key counter (mO (nX key counter) (gb key counter p)))else []
def nY(key dir:Int):Int:=Eu (kh key [83,dir])
def cover(seed:Int):List UInt8:=stream (kh seed [73]) 24
end
section
theorem ZS(b c:Bool):(if b=true then true else c)=(b||c):=by cases b<;>rfl
theorem SP(b c:Bool):(if b=true then c else false)=(b&&c):=by cases b<;>rfl
theorem WN(a b:Int):(!decide (a<b))=decide (b≤a):=by rw[←decide_not];congr 1;exact propext Int.not_lt
theorem WO(a b:Int):(!decide (a≤b))=decide (b<a):=by rw[←decide_not];congr 1;exact propext Int.not_le
theorem bne_not(a b:Int):(a !=b)= !(a==b):=rfl
theorem deq(a b:Int):decide (a=b)=(a==b):=rfl
theorem aU:(∀b c:Bool,(if b=true then true else c)=(b||c))∧(∀b c:Bool,(if b=true then c else false)=(b&&c))∧(∀a b:Int,a>b↔b<a)∧(∀a b:Nat,a>b↔b<a)∧(∀a b:Int,a≥b↔b≤a)∧(∀a b:Nat,a≥b↔b≤a)∧(∀a b:Int,(!decide (a<b))=decide (b≤a))∧(∀a b:Int,(!decide (a≤b))=decide (b<a))∧(∀a b:Int,(a !=b)= !(a==b))∧(∀a b:Int,decide (a=b)=(a==b))∧(∀(p:Prop) [Decidable p] [Decidable (¬p)],decide (¬p)= !decide p)∧(∀(α:Type) (a b:α),(a≠b)= ¬a=b)∧(∀a b:Bool,(!(a&&b))=(!a|| !b))∧(∀a b:Bool,(!(a||b))=(!a&& !b))∧(∀b:Bool,(!!b)=b)∧(∀b:Bool,(b&&true)=b)∧(∀b:Bool,(true&&b)=b)∧(∀b:Bool,(b||false)=b)∧(∀b:Bool,(false||b)=b)∧(∀n:Nat,(n:Int).toNat=n):=⟨ZS,SP,fun _ _=>Iff.rfl,fun _ _=>Iff.rfl,fun _ _=>Iff.rfl,fun _ _=>Iff.rfl,WN,WO,bne_not,deq,fun _=>decide_not,fun _ _ _=>rfl,Bool.not_and,Bool.not_or,Bool.not_not,Bool.and_true,Bool.true_and,Bool.or_false,Bool.false_or,Int.toNat_natCast⟩
theorem acs{E R S:Bool}(h:E=true)(he:E= !R):(R&&S)=false:=by
 rw[h]at he
 cases R with
 |false=>rfl
 |true=>exact absurd he (by decide)
theorem b9{E R:Bool}(h:E=true)(he:E= !R):R=false:=by
 rw[h]at he
 cases R with
 |false=>rfl
 |true=>exact absurd he (by decide)
theorem bX{E R:Bool}(h:E=false)(he:E= !R):R=true:=by
 rw[h]at he
 cases R with
 |true=>rfl
 |false=>exact absurd he (by decide)
def cT(d:DB):Bool:=decide ((d.rows.length:Int)≤64)&&d.rows.all fun r=>decide ((r.length:Int)=24)
def nZ(rows:Int)(l:List aR)(i:Nat):Bool:=inr (l.getD i (aI .aR)).client 0 7&& !(decide ((0:Int)<i)&&decide ((l.getD i (aI .aR)).client≤(l.getD (i-1) (aI .aR)).client))&&cT (l.getD i (aI .aR)).share&&(((l.getD i (aI .aR)).share.rows.length:Int)==rows)
def wV(s:bw):Bool:=inr s.id 0 3&&inr s.rows 1 64&&inr s.behavior 0 3&&inr s.round 0 100000&&decide ((s.received.length:Int)≤8)
def cm(s:bw):Bool:=wV s&&(List.range s.received.length).all (nZ s.rows s.received)
def rZ(rows:Int)(l:List aN)(i:Nat):Bool:=inr (l.getD i (aI .aN)).round 0 100000&& !(decide ((0:Int)<i)&&decide ((l.getD i (aI .aN)).round≤(l.getD (i-1) (aI .aN)).round))&&cT (l.getD i (aI .aN)).db&&(((l.getD i (aI .aN)).db.rows.length:Int)==rows)
def EC(a:iP):Bool:=inr a.rows 1 64&&decide ((a.rounds.length:Int)≤8)
def eW(a:iP):Bool:=EC a&&(List.range a.rounds.length).all (rZ a.rows a.rounds)
def dh(a:iP):Int:=if a.rounds.length=0 then-1 else(a.rounds.getD (a.rounds.length-1) (aI .aN)).round
def AU(b:List UInt8):Bool:=decide ((14:Int)<b.length)
def dy(c:eg):Bool:=inr c.id 0 7&&inr c.ct 0 7&& !(c.id==c.ct)&&fK c.key&&decide ((c.aJ.length:Int)≤16)&&decide ((c.inbox.length:Int)≤16)&& !c.aJ.any AU&& !c.inbox.any AU&&inr c.sent 0 c.aJ.length&&inr c.next 0 100000
def iY(a b:eg):Bool:=(a.id==b.id)&&(a.ct==b.ct)&&(a.key==b.key)&&(a.seed==b.seed)&&(a.aJ==b.aJ)
def AV(a b:List (List UInt8)):Bool:=decide ((a.length:Int)≤b.length)&&(a==b.take a.length)
def c9(d:bC):Bool:=dy d.live&&dy d.saved&&iY d.live d.saved&&decide (d.saved.sent≤d.live.sent)&&decide (d.saved.next≤d.live.next)&&AV d.saved.inbox d.live.inbox
def cM(n:Int):Bool:=inr n 2 4
def GD(x:bp)(i:Nat):Bool:=cm (x.av.getD i (aI .bw))&&((x.av.getD i (aI .bw)).id==(i:Int))&&((x.av.getD i (aI .bw)).rows==x.rows)&&((x.av.getD i (aI .bw)).round==x.round)&&decide (((x.av.getD i (aI .bw)).received.length:Int)≤0)
def okD(x:bp)(i:Nat):Bool:=c9 (x.ak.getD i (aI .bC))&&((x.ak.getD i (aI .bC)).live.id==(i:Int))&&((x.ak.getD i (aI .bC)).live.ct==((i^^^1:Nat):Int))&&((x.ak.getD i (aI .bC)).live.key==(x.ak.getD (i^^^1) (aI .bC)).live.key)&&decide ((x.ak.getD i (aI .bC)).live.next≤x.round)
def Kf(x:bp):Bool:=inr x.rows 1 64&&cM x.av.length&&inr x.ak.length 2 8&&((x.ak.length:Int).tmod 2==0)&&eW x.aB&&(x.aB.rows==x.rows)&&decide (dh x.aB<x.round)&&fK x.aX&&inr x.round 0 100000&&decide (0≤x.cancelled)
def okW(x:bp):Bool:=Kf x&&(List.range x.av.length).all (GD x)&&(List.range x.ak.length).all (okD x)
theorem ke{p:Nat→Bool}{k:Nat}(h:(List.range k).all p=true)(hk:p k=true):(List.range (k+1)).all p=true:=by
 rw[List.range_succ,List.all_append,h];simp[hk]
theorem mw{p:Nat→Bool}{k n:Nat}(h:k<n)(hk:p k=false):(List.range n).all p=false:=by
 rw[List.all_eq_false]
 exact⟨k,List.mem_range.2 h,by rw[hk];decide⟩
def fidx{α:Type}(p:α→Bool)(l:List α):Int:=if l.any p then(l.findIdx p:Int)else-1
theorem zi{α:Type}{p:α→Bool}{l:List α}{k:Nat}(d:α)(h:k<l.length)(h1:(l.take k).any p=false)(h2:p (l.getD k d)=true):fidx p l=k:=by
 have ha:l.any p=true:=CX l p d k h h2
 have e:l=l.take k++l.getD k d::l.drop (k+1):=by rw[←nB l k d h,List.take_append_drop]
 unfold fidx
 rw[if_pos ha]
 have hf:l.findIdx p=k:=by
  rw[List.findIdx_eq h]
  refine⟨?_,fun j hj=> ?_⟩
  ·rw[List.getD_eq_getElem?_getD,List.getElem?_eq_getElem h]at h2;exact h2
  ·rw[List.any_eq_false]at h1
   have:=h1 l[j] (by rw[List.mem_take_iff_getElem];exact⟨j,by omega,rfl⟩)
   simpa using this
 rw[hf]
theorem GF{α:Type}{p:α→Bool}{l:List α}(h:l.any p=false):fidx p l= -1:=by unfold fidx;rw[if_neg (by rw[h];decide)]
theorem N2{α:Type}(p:α→Bool)(l:List α):decide (fidx p l≥0)=l.any p:=by
 unfold fidx
 cases h:l.any p
 ·rw[if_neg (by decide)];rfl
 ·rw[if_pos rfl];simp
theorem xz{α:Type}{p:α→Bool}{l:List α}{k:Nat}(d:α)(h:k<l.length)(h1:(l.take k).any p=false)(h2:p (l.getD k d)=false):(l.take (k+1)).any p=false:=by
 rw[SJ p l k d h,h1,h2];rfl
theorem uG{α:Type}(l:List α)(p:α→Bool):l.all p= !(l.any fun b=> !p b):=by
 induction l with
 |nil=>rfl
 |cons a r ih=>simp[ih]
end
section
theorem xA(k n:Nat)(h:k<n)(he:n % 2=0):k^^^1<n:=by
 have h1:(k^^^1)/2=k/2:=by
  have:=Nat.xor_div_two (a:=k) (b:=1)
  simpa using this
 have h2:k^^^1<2*(k/2)+2:=by
  have:=Nat.div_add_mod (k^^^1) 2
  have:=Nat.mod_lt (k^^^1) (show 0<2 by decide)
  omega
 omega
theorem SQ(k:Nat)(h:k<2^62):IntKind.i64.wrap (BitVec.ofInt IntKind.i64.bits (k:Int)^^^BitVec.ofInt IntKind.i64.bits 1).toNat=((k^^^1:Nat):Int):=by
 have h2:(BitVec.ofInt IntKind.i64.bits (k:Int)^^^BitVec.ofInt IntKind.i64.bits 1).toNat=k^^^1:=by
  rw[BitVec.toNat_xor]
  have h1:(BitVec.ofInt IntKind.i64.bits 1).toNat=1:=by decide
  have h2:(BitVec.ofInt IntKind.i64.bits (k:Int)).toNat=k % 2^64:=by rw[BitVec.ofInt_natCast,BitVec.toNat_ofNat];rfl
  rw[h1,h2,Nat.mod_eq_of_lt (by omega)]
 have hx:=Nat.xor_lt_two_pow (n:=62) h (show 1<2^62 by decide)
 rw[h2,bV (by omega)]
theorem ni{x:bp}(h:Kf x=true):x.ak.length % 2=0∧x.ak.length≤8∧2≤x.ak.length:=by
 simp only[Kf,cL,Bool.and_eq_true,beq_iff_eq]at h
 have h1:=h.1.1.1.1.1.1.2
 have h2:=h.1.1.1.1.1.1.1.2
 rw[ep (by omega)]at h1
 omega
theorem kR{x:bp}(h:okW x=true):Kf x=true:=by simp only[okW,Bool.and_eq_true]at h;exact h.1.1
theorem ef{x:bp}(h:okW x=true):x.av.length≤4∧2≤x.av.length:=by
 have:=kR h
 simp only[Kf,cM,cL,Bool.and_eq_true,beq_iff_eq]at this
 have h1:=this.1.1.1.1.1.1.1.1.2
 omega
def svW(x:bp):Bool:=(List.range x.av.length).all (GD x)&&cM x.av.length
def Ya(x:bp):Bool:=((x.ak.length:Int).tmod 2==0)&&inr x.ak.length 2 8&&(List.range x.ak.length).all (okD x)
def ku(x:bp)(c:Int):Bool:=inr c 0 (x.ak.length-1)
def cU(c:eg):Int:=if c.id<c.ct then 0 else 1
def n8(c:eg)(at':Int):List UInt8:=sR (nY c.key (cU c)) at' ⟨1,c.aJ.getD at'.toNat (aI (.sl .u8))⟩
def oS(c:eg)(r n:Int):Bool:=dy c&&inr r 0 100000&&inr n 1 64
def n9(c:eg)(r n:Int):Int:=if oS c r n=true then(if c.sent<c.aJ.length then iX c.key r (cU c) n else Cg c.seed r n)else 0
def gV(c:eg)(r n:Int):List UInt8:=if oS c r n=true then(if c.sent<c.aJ.length then n8 c c.sent else cover (kh c.seed [r]))else []
theorem AW{c:eg}{r n:Int}(h:oS c r n=true):0≤c.sent∧c.sent≤c.aJ.length:=by
 simp only[oS,dy,cL,Bool.and_eq_true]at h
 exact h.1.1.1.2
theorem pF{k c:Int}{p:Plain}(h:jT k c p=true):p.body.length≤14:=by
 simp only[jT,jG,Bool.and_eq_true,decide_eq_true_eq]at h
 omega
end
section
def ZT(s:Int)(i:Nat):Int:=rsb (kh s [(i:Int),41])
def cA(s rows:Int):List Int:=if 0≤rows∧rows≤64 then(List.range rows.toNat).map (ZT s)else []
theorem iH(s rows:Int):(cA s rows).length≤64:=by
 unfold cA
 split
 ·simp;omega
 ·simp
theorem EE(s rows:Int)(k:Nat)(h0:(k:Int)<rows)(h1:rows≤64):k<(cA s rows).length:=by
 rw[cA,if_pos (by omega)];simp;omega
theorem zm(s rows:Int)(k:Nat)(h0:(k:Int)<rows)(h1:rows≤64):(cA s rows).take (k+1)=(cA s rows).take k++ [IntKind.i64.wrap (BitVec.ofInt IntKind.i64.bits (((IntKind.i64.wrap (kh s [(k:Int),41]*kh s [(k:Int),41])).tmod 2147483647).fdiv (2^(min (Int.toNat 9) IntKind.i64.bits)))&&&BitVec.ofInt IntKind.i64.bits 1).toNat]:=by
 rw[ZP (dS _ _).1 (dS _ _).2,bL _ _ 0 (EE s rows k h0 h1)]
 congr 2
 rw[cA,if_pos (by omega),eT _ _ _ _ (by omega)]
 rfl
theorem BX(s rows:Int)(k:Nat)(h:rows≤64→rows≤k):(cA s rows).take k=cA s rows:=by
 refine List.take_of_length_le ?_
 unfold cA
 split
 ·simp;omega
 ·simp
def gz(v:List Int)(rows:Int):Bool:=(decide ((v.length:Int)=rows)&&decide (rows≤64))&&v.all fun x=>inr x 0 1
theorem Ml(v:List Int)(rows:Int):gz v rows=((inr rows 0 64&&decide ((v.length:Int)=rows))&& !(v.any fun x=> !inr x 0 1)):=by
 have e:(v.all fun x=>inr x 0 1)= !(v.any fun x=> !inr x 0 1):=by rw[List.not_any_eq_all_not];simp
 rw[gz,e]
 by_cases h:(v.length:Int)=rows
 ·subst h;simp[inr]
 ·simp[h]
theorem GG{v:List Int}{r:Int}(h:gz v r=true):(v.length:Int)=r∧r≤64:=by
 simp only[gz,Bool.and_eq_true,decide_eq_true_eq]at h
 exact h.1
theorem GH{v:List Int}{r:Int}(h:gz v r=true)(k:Nat)(hk:k<v.length):v.getD k (aI .int)=0∨v.getD k (aI .int)=1:=by
 simp only[gz,Bool.and_eq_true,List.all_eq_true,cL]at h
 have:=h.2 (v.getD k (aI .int)) (by rw[List.getD_eq_getElem?_getD,List.getElem?_eq_getElem hk];exact List.getElem_mem _)
 omega
def xb(x y:Int):Int:=if x=y then 0 else 1
theorem acu{x y:Int}(hx:x=0∨x=1)(hy:y=0∨y=1):IntKind.i64.wrap (BitVec.ofInt IntKind.i64.bits x^^^BitVec.ofInt IntKind.i64.bits y).toNat=xb x y:=by
 rcases hx with rfl|rfl<;>rcases hy with rfl|rfl<;>decide
def lF(a b:List Int):Bool:=gz a a.length&&gz b a.length
def qg(a b:List Int):List Int:=if lF a b then List.zipWith xb a b else []
theorem nC{a b:List Int}(h:lF a b=true):b.length=a.length∧a.length≤64:=by
 simp only[lF,Bool.and_eq_true]at h
 have h1:=GG h.1
 have h2:=GG h.2
 omega
theorem xE{a b:List Int}(h:lF a b=true):qg a b=List.zipWith xb a b:=by rw[qg,if_pos h]
theorem zn{a b:List Int}(h:lF a b=true):(List.zipWith xb a b).length=a.length:=by
 have:=nC h
 rw[List.length_zipWith];omega
theorem Mm(a b:List Int):(qg a b).length≤64:=by
 cases h:lF a b with
 |true=>rw[xE h,zn h];exact(nC h).2
 |false=>rw[qg,if_neg (by rw[h];decide)];simp
theorem N3{a b:List Int}(h:lF a b=true)(k:Nat)(hk:k<a.length):(List.zipWith xb a b).getD k (aI .int)=IntKind.i64.wrap (BitVec.ofInt IntKind.i64.bits (a.getD k (aI .int))^^^BitVec.ofInt IntKind.i64.bits (b.getD k (aI .int))).toNat:=by
 have hl:=nC h
 have h':=h
 simp only[lF,Bool.and_eq_true]at h'
 rw[acu (GH h'.1 k hk) (GH h'.2 k (by omega))]
 rw[List.getD_eq_getElem?_getD,List.getD_eq_getElem?_getD,List.getD_eq_getElem?_getD,List.getElem?_zipWith,List.getElem?_eq_getElem hk,List.getElem?_eq_getElem (show k<b.length by omega)]
 rfl
theorem Kg{a b:List Int}(h:lF a b=true)(k:Nat)(hk:k<b.length):(List.zipWith xb a b).take (k+1)++a.drop (k+1)=((List.zipWith xb a b).take k++a.drop k).set k (IntKind.i64.wrap (BitVec.ofInt IntKind.i64.bits (((List.zipWith xb a b).take k++a.drop k).getD k (aI .int))^^^BitVec.ofInt IntKind.i64.bits (b.getD k (aI .int))).toNat):=by
 have hl:=nC h
 have hz:=zn h
 rw[uC _ _ k (aI .int) _ (by omega) (by omega)]
 rw[kK _ _ _ _ (by omega),N3 h k (by omega)]
theorem Kh{a b:List Int}(h:lF a b=true)(k:Nat)(hk:k<a.length):(List.zipWith xb a b).take (k+1)=(List.zipWith xb a b).take k++ [IntKind.i64.wrap (BitVec.ofInt IntKind.i64.bits (a.getD k (aI .int))^^^BitVec.ofInt IntKind.i64.bits (b.getD k (aI .int))).toNat]:=by
 rw[bL _ k (aI .int) (by rw[zn h];exact hk),N3 h k hk]
def kU(rows i:Int):Bool:=inr rows 1 64&&inr i 0 (IntKind.i64.wrap (rows-1))
def zo(rows i:Int):List Int:=if kU rows i then(List.replicate rows.toNat (aI .int)).set i.toNat 1 else []
theorem EF{rows i:Int}(h:kU rows i=true):1≤rows∧rows≤64∧0≤i∧i<rows:=by
 simp only[kU,Bool.and_eq_true,cL]at h
 rw[bV (by omega)]at h
 omega
theorem AX{rows i:Int}(h:kU rows i=true):zo rows i=(List.replicate rows.toNat (aI .int)).set i.toNat 1:=by rw[zo,if_pos h]
theorem AY{rows i:Int}(h:kU rows i=false):zo rows i= []:=by rw[zo,if_neg (by rw[h];decide)]
theorem AZ(rows i:Int):(zo rows i).length≤64:=by
 cases h:kU rows i with
 |true=>rw[AX h];have:=EF h;simp;omega
 |false=>rw[AY h];simp
def EG(rows i:Int)(sd:List Int):Bool:= !decide (((zo rows i).length:Int)=0)&&cM (IntKind.i64.wrap ((sd.length:Int)+1))
def zq(rows i:Int)(sd:List Int):List Int:=sd.foldl (fun l s=>qg l (cA s rows)) (zo rows i)
def qC(rows i:Int)(sd:List Int):List (List Int):=if EG rows i sd then sd.map (fun s=>cA s rows)++ [zq rows i sd]else []
theorem EH(rows i:Int)(sd:List Int)(k:Nat)(h:k<sd.length):zq rows i (sd.take (k+1))=qg (zq rows i (sd.take k)) (cA (sd.getD k (aI .int)) rows):=rW _ _ sd k _ h
theorem A0(rows i:Int)(sd:List Int):(zq rows i sd).length≤64:=by
 rcases List.eq_nil_or_concat sd with rfl| ⟨l,x,rfl⟩
 ·exact AZ _ _
 ·rw[List.concat_eq_append,zq,List.foldl_append];exact Mm _ _
theorem Ki{rows i:Int}{sd:List Int}(h:EG rows i sd=true)(hl:sd.length≤1048576):sd.length≤3:=by
 simp only[EG,cM,Bool.and_eq_true,cL]at h
 rw[bV (by omega)]at h
 omega
def gW(n:Nat)(r row s:Int):List Int:=(List.range (n-1)).map fun i:Nat=>kh s [229,r,row,(i:Int)]
theorem oo(n:Nat)(r row s:Int):(gW n r row s).length=n-1:=by simp[gW]
theorem BY(n:Nat)(r row s:Int)(k:Nat)(h:k<n-1):(gW n r row s).take (k+1)=(gW n r row s).take k++ [kh s [229,r,row,(k:Int)]]:=by
 rw[bL _ k (aI .int) (by rw[oo];exact h),gW,eT _ _ _ _ h]
theorem N4(n:Nat)(h:n≤1048576):VK 0 (IntKind.i64.wrap ((n:Int)-1))=((n-1:Nat):Int):=by
 rw[bV (by omega)];unfold VK;split<;>omega
end
section
set_option maxRecDepth 100000
theorem getD_some{α:Type}(l:List α)(d:α)(k:Nat)(h:k<l.length):l[k]? =some (l.getD k d):=by
 rw[List.getD_eq_getElem?_getD,List.getElem?_eq_getElem h];rfl
def N6(x:DB):Nat:=(dL List.length) x.rows
def uM(x:aR):Nat:=N6 x.share
def dJ(x:bw):Nat:=(dL uM) x.received
def cj(x:eg):Nat:=(dL List.length) x.aJ+(dL List.length) x.inbox
def bO(x:bC):Nat:=cj x.live+cj x.saved
def ez(x:aN):Nat:=N6 x.db
def eJ(x:iP):Nat:=(dL ez) x.rounds
end
section
def Vn:List UInt8:=List.replicate 24 (aI .u8)
def dz(rows:Int):DB:=⟨if 0≤rows∧rows≤64 then List.replicate rows.toNat Vn else []⟩
theorem SW{α:Type}(n k:Nat)(x:α)(h:k<n):(List.replicate n x).take (k+1)=(List.replicate n x).take k++ [x]:=by
 rw[List.take_replicate,List.take_replicate,Nat.min_eq_left (by omega),Nat.min_eq_left (by omega),List.replicate_succ']
theorem nE(rows:Int):(dz rows).rows.length≤64:=by
 unfold dz;dsimp only;split
 ·simp;omega
 ·simp
theorem nF{rows:Int}(h:0≤rows∧rows≤64):(dz rows).rows=List.replicate rows.toNat Vn:=by unfold dz;dsimp only;rw[if_pos h]
theorem EK(rows:Int)(k:Nat)(h0:(k:Int)<rows)(h1:rows≤64):(dz rows).rows.take (k+1)=(dz rows).rows.take k++ [Vn]:=by
 rw[nF (by omega)];exact SW _ _ _ (by omega)
theorem SX(rows:Int)(k:Nat)(h0:(k:Int)<rows)(h1:rows≤64):k<(dz rows).rows.length:=by
 rw[nF (by omega)];simp;omega
theorem GJ(rows:Int)(k:Nat)(h:rows≤64→rows≤k):(dz rows).rows.take k=(dz rows).rows:=by
 refine List.take_of_length_le ?_
 unfold dz;dsimp only;split
 ·simp;omega
 ·simp
def lG(d:DB)(i:Int)(c:List UInt8):Bool:=inr i 0 (IntKind.i64.wrap ((d.rows.length:Int)-1))&&decide ((c.length:Int)=24)
def BZ(d:DB)(i:Int)(c:List UInt8):DB:=if lG d i c then⟨d.rows.set i.toNat c⟩else d
theorem Ib{d:DB}{i:Int}{c:List UInt8}(hl:d.rows.length≤1048576)(h:lG d i c=true):0≤i∧i<d.rows.length∧c.length=24:=by
 simp only[lG,Bool.and_eq_true,cL,decide_eq_true_eq]at h
 rw[bV (by omega)]at h
 omega
theorem vR{d:DB}{i:Int}{c:List UInt8}(h:lG d i c=true):BZ d i c=⟨d.rows.set i.toNat c⟩:=by rw[BZ,if_pos h]
theorem GK{d:DB}{i:Int}{c:List UInt8}(h:lG d i c=false):BZ d i c=d:=by rw[BZ,if_neg (by rw[h];decide)]
def iZ(a b:DB):Bool:=(cT a&&cT b)&&decide ((a.rows.length:Int)=b.rows.length)
def gj(a b:DB):List (List UInt8):=List.zipWith eG a.rows b.rows
def gN(a b:DB):DB:=if iZ a b then⟨gj a b⟩else a
theorem EL{d:DB}(h:cT d=true):d.rows.length≤64:=by
 simp only[cT,Bool.and_eq_true,decide_eq_true_eq]at h;omega
theorem pG{d:DB}(h:cT d=true)(k:Nat)(hk:k<d.rows.length):(d.rows.getD k (aI (.sl .u8))).length=24:=by
 simp only[cT,Bool.and_eq_true,List.all_eq_true,decide_eq_true_eq]at h
 have:=h.2 (d.rows.getD k (aI (.sl .u8))) (by rw[List.getD_eq_getElem?_getD,List.getElem?_eq_getElem hk];exact List.getElem_mem _)
 omega
theorem uN{a b:DB}(h:iZ a b=true):cT a=true∧cT b=true∧a.rows.length=b.rows.length∧a.rows.length≤64:=by
 simp only[iZ,Bool.and_eq_true,decide_eq_true_eq]at h
 have:=EL h.1.1
 exact⟨h.1.1,h.1.2,by omega,this⟩
theorem jW{a b:DB}(h:iZ a b=true):(gj a b).length=a.rows.length:=by
 have:=uN h
 rw[gj,List.length_zipWith];omega
theorem xG{a b:DB}(h:iZ a b=true)(k:Nat)(hk:k<a.rows.length):(gj a b).getD k (aI (.sl .u8))=eG (a.rows.getD k (aI (.sl .u8))) (b.rows.getD k (aI (.sl .u8))):=by
 have hb:=uN h
 rw[gj,List.getD_eq_getElem?_getD,List.getD_eq_getElem?_getD,List.getD_eq_getElem?_getD,List.getElem?_zipWith,List.getElem?_eq_getElem hk,List.getElem?_eq_getElem (show k<b.rows.length by omega)]
 rfl
theorem Kk{a b:DB}(h:iZ a b=true)(k:Nat)(hk:k<a.rows.length):(gj a b).take (k+1)=(gj a b).take k++ [eG (a.rows.getD k (aI (.sl .u8))) (b.rows.getD k (aI (.sl .u8)))]:=by
 rw[bL _ k (aI (.sl .u8)) (by rw[jW h];exact hk),xG h k hk]
theorem Kl{a b:DB}(h:iZ a b=true)(k:Nat)(hk:k<b.rows.length):(gj a b).take (k+1)++a.rows.drop (k+1)=((gj a b).take k++a.rows.drop k).set k (eG (((gj a b).take k++a.rows.drop k).getD k (aI (.sl .u8))) (b.rows.getD k (aI (.sl .u8)))):=by
 have hb:=uN h
 have hl:=jW h
 rw[uC _ _ k (aI (.sl .u8)) _ (by omega) (by omega)]
 rw[kK _ _ _ _ (by omega),xG h k (by omega)]
theorem WS{a b:DB}(h:iZ a b=true)(k:Nat)(hk:k<b.rows.length):((gj a b).take k++a.rows.drop k).getD k (aI (.sl .u8))=a.rows.getD k (aI (.sl .u8)):=by
 have hb:=uN h
 have hl:=jW h
 rw[kK _ _ _ _ (by omega)]
theorem vS{a b:DB}(h:iZ a b=true):gN a b=⟨gj a b⟩:=by rw[gN,if_pos h]
theorem qD{a b:DB}(h:iZ a b=false):gN a b=a:=by rw[gN,if_neg (by rw[h];decide)]
def iI(x:bp)(c:Int):List Int:=(List.range (x.av.length-1)).map fun i:Nat=>kh x.seed [223,x.round,c,(i:Int)]
theorem jX(x:bp)(c:Int):(iI x c).length=x.av.length-1:=by simp[iI]
theorem B0(x:bp)(c:Int)(k:Nat)(h:k<x.av.length-1):(iI x c).take (k+1)=(iI x c).take k++ [kh x.seed [223,x.round,c,(k:Int)]]:=by
 rw[bL _ k (aI .int) (by rw[jX];exact h),iI,eT _ _ _ _ h]
def qE(rows i:Int)(c:List UInt8):Bool:=inr rows 1 64&&lG (dz rows) i c
def SY(rows i:Int)(c:List UInt8):DB:=if inr rows 1 64 then BZ (dz rows) i c else⟨[]⟩
theorem sk:Vn.length=24:=by simp[Vn]
theorem GL(rows:Int):dL List.length (dz rows).rows≤1048576:=by
 have h:=nE rows
 have h2:((dz rows).rows.map List.length).sum≤24*(dz rows).rows.length:=by
  unfold dz;dsimp only;split
  ·simp[sk];omega
  ·simp
 unfold dL;omega
end
section
theorem gO{d:DB}:cT d=true↔d.rows.length≤64∧ ∀r,r∈d.rows→r.length=24:=by
 simp only[cT,Bool.and_eq_true,decide_eq_true_eq,List.all_eq_true]
 constructor
 ·rintro⟨h1,h2⟩;exact⟨by omega,fun r hr=>by have:=h2 r hr;omega⟩
 ·rintro⟨h1,h2⟩;exact⟨by omega,fun r hr=>by have:=h2 r hr;omega⟩
theorem eu{d:DB}(h:cT d=true):dL List.length d.rows≤1048576:=by
 obtain⟨h1,h2⟩:=gO.1 h
 have h3: ∀l:List (List UInt8),(∀r,r∈l→r.length=24)→(l.map List.length).sum=24*l.length:=by
  intro l
  induction l with
  |nil=>intro _;rfl
  |cons x r ih=>intro hl;rw[List.map_cons,List.sum_cons,ih fun y hy=>hl y (by simp[hy]),hl x (by simp),List.length_cons];omega
 have:=h3 _ h2
 unfold dL;omega
theorem Ks{a b:DB}(ha:cT a=true)(hb:cT b=true):cT (gN a b)=true:=by
 cases h:iZ a b with
 |false=>rw[qD h];exact ha
 |true=>
  rw[vS h,gO]
  have hl:=jW h
  refine⟨by have:=EL ha;show(gj a b).length≤64;omega,fun r hr=> ?_⟩
  obtain⟨k,hk⟩:=List.getElem?_of_mem hr
  have hk2:k<(gj a b).length:=(List.getElem?_eq_some_iff.1 hk).1
  have hg:=xG h k (by omega)
  rw[List.getD_eq_getElem?_getD,hk]at hg
  have hx:=uN h
  rw[show r=_ from hg,dU,pG ha k (by omega),pG hb k (by omega)];rfl
def gF(s rows:Int):List (List UInt8):=(List.range rows.toNat).map fun r:Nat=>stream (IntKind.i64.wrap (s+IntKind.i64.wrap (1000*(r:Int)))) (24:Int).toNat
def QB(s rows:Int):DB:=⟨gF s rows⟩
theorem mA(s rows:Int):(gF s rows).length=rows.toNat:=by simp[gF]
theorem zA(s rows:Int)(k:Nat)(h:k<rows.toNat):(gF s rows).take (k+1)=(gF s rows).take k++ [stream (IntKind.i64.wrap (s+IntKind.i64.wrap (1000*(k:Int)))) (24:Int).toNat]:=by
 rw[bL _ k (aI (.sl .u8)) (by rw[mA];exact h),gF,eT _ _ _ _ h]
theorem Ih(s rows:Int)(h:rows≤64):cT (QB s rows)=true:=by
 rw[gO]
 refine⟨by show(gF s rows).length≤64;rw[mA];omega,fun r hr=> ?_⟩
 obtain⟨k,_,rfl⟩:=List.mem_map.1 (show r∈gF s rows from hr)
 exact fB _ _
def td(rows i:Int)(c:List UInt8)(sd:List Int):Bool:=qE rows i c&&cM (IntKind.i64.wrap ((sd.length:Int)+1))
def wX(rows i:Int)(c:List UInt8)(sd:List Int):DB:=sd.foldl (fun d s=>gN d (QB s rows)) (SY rows i c)
def qH(rows i:Int)(c:List UInt8)(sd:List Int):List DB:=if td rows i c sd then sd.map (fun s=>QB s rows)++ [wX rows i c sd]else []
theorem Ii{rows i:Int}{c:List UInt8}(h:qE rows i c=true):cT (SY rows i c)=true∧1≤rows∧rows≤64:=by
 simp only[qE,Bool.and_eq_true]at h
 obtain⟨h1,h2⟩:=h
 have hr:1≤rows∧rows≤64:=by rw[cL]at h1;exact h1
 have hb:=Ib (Nat.le_trans (nE rows) (by decide)) h2
 refine⟨?_,hr⟩
 rw[SY,if_pos h1,vR h2,gO,nF (by omega)]
 refine⟨by simp;omega,fun r hr=> ?_⟩
 rcases List.mem_or_eq_of_mem_set hr with h|rfl
 ·rw[(List.mem_replicate.1 h).2,sk]
 ·exact hb.2.2
theorem ES(rows i:Int)(c:List UInt8)(sd:List Int)(k:Nat)(h:k<sd.length):wX rows i c (sd.take (k+1))=gN (wX rows i c (sd.take k)) (QB (sd.getD k (aI .int)) rows):=rW _ _ sd k _ h
theorem ET{rows i:Int}{c:List UInt8}(h:qE rows i c=true)(sd:List Int):cT (wX rows i c sd)=true:=by
 have hu:=Ii h
 have g: ∀(l:List Int) (d:DB),cT d=true→cT (l.foldl (fun d s=>gN d (QB s rows)) d)=true:=by
  intro l
  induction l with
  |nil=>intro d hd;exact hd
  |cons x r ih=>intro d hd;exact ih _ (Ks hd (Ih x rows hu.2.2))
 exact g sd _ hu.1
theorem Kt{rows i:Int}{c:List UInt8}{sd:List Int}(h:td rows i c sd=true)(hl:sd.length≤1048576):qE rows i c=true∧sd.length≤3:=by
 simp only[td,cM,Bool.and_eq_true,cL]at h
 rw[bV (by omega)]at h
 exact⟨h.1,by omega⟩
theorem Ku(rows i:Int)(c:List UInt8):qE rows i c=(inr rows 1 64&&inr i 0 (IntKind.i64.wrap (rows-1))&&decide ((c.length:Int)=24)):=by
 unfold qE
 cases h:inr rows 1 64 with
 |false=>rfl
 |true=>
  rw[cL]at h
  have:((dz rows).rows.length:Int)=rows:=by rw[nF (by omega)];simp;omega
  rw[lG,this]
  simp
theorem WW{rows i:Int}{c:List UInt8}{sd:List Int}(h:td rows i c sd=true):BZ (dz rows) i c=SY rows i c:=by
 simp only[td,qE,Bool.and_eq_true]at h
 rw[SY,if_pos h.1.1]
end
section
theorem P2(k c:Int)(p:Plain):(sR k c p).length≤100:=by
 unfold sR
 split
 ·rename_i h
  have hb:=pF h
  have hp:(gb k c p).length≤40:=by
   unfold gb
   simp only[List.length_append,List.length_drop,List.length_cons,List.length_nil,fB];omega
  rw[List.length_append,jA]
  simp only[four,List.length_cons,List.length_nil];omega
 ·exact Nat.zero_le _
theorem EU(c:eg)(r n:Int):(gV c r n).length≤1048576:=by
 unfold gV
 split
 ·split
  ·exact Nat.le_trans (P2 _ _ _) (by decide)
  ·unfold cover;rw[fB];decide
 ·exact Nat.zero_le _
def Kv(x:bp)(c:Int):eg:=(x.ak.getD c.toNat (aI .bC)).live
def dB(x:bp)(c:Int):List DB:=qH x.rows (n9 (Kv x c) x.round x.rows) (gV (Kv x c) x.round x.rows) (iI x c)
theorem Kw{x:bp}{c:Int}(h:oS (Kv x c) x.round x.rows=false):dB x c= []:=by
 have hc:gV (Kv x c) x.round x.rows= []:=by rw[gV,if_neg (by rw[h];decide)]
 unfold dB qH
 rw[hc]
 rw[if_neg]
 simp[td,qE,lG]
def Kx(x:bp)(c:Int):Bool:=okW x&&ku x c
def kX(x:bp)(c:Int):List DB:=if Kx x c then dB x c else []
theorem Z2{x:bp}{c:Int}(h:Kx x c=true):0≤c∧c<x.ak.length:=by
 simp only[Kx,ku,cL,Bool.and_eq_true]at h
 omega
end
section
theorem jc{E R:Bool}(h:E=true)(he:E=R):R=true:=by rw[←he];exact h
theorem lV{E R:Bool}(h:E=false)(he:E=R):R=false:=by rw[←he];exact h
theorem sn{x:bp}(h:okW x=true){i:Nat}(hi:i<x.ak.length):okD x i=true:=by
 simp only[okW,Bool.and_eq_true,List.all_eq_true]at h
 exact h.2 i (List.mem_range.2 hi)
theorem Ij{x:bp}(h:okW x=true){i:Nat}(hi:i<x.av.length):GD x i=true:=by
 simp only[okW,Bool.and_eq_true,List.all_eq_true]at h
 exact h.1.2 i (List.mem_range.2 hi)
theorem S3{x:bp}{i:Nat}(h:okD x i=true):dy (x.ak.getD i (aI .bC)).live=true:=by
 simp only[okD,c9,Bool.and_eq_true]at h
 exact h.1.1.1.1.1.1.1.1.1
theorem ot{x:bp}(h:okW x=true):(1≤x.rows∧x.rows≤64)∧0≤x.round∧x.round≤100000:=by
 have h:=kR h
 simp only[Kf,Bool.and_eq_true,cL]at h
 omega
theorem Z3{x:bp}{c:Int}(h:okW x=true)(hc:0≤c∧c<x.ak.length):dy (Kv x c)=true:=S3 (sn h (by omega))
theorem Z4{x:bp}{c:Int}(h:okW x=true)(hc:0≤c∧c<x.ak.length):oS (Kv x c) x.round x.rows=true:=by
 have:=ot h
 simp only[oS,Z3 h hc,Bool.and_eq_true,cL]
 exact⟨⟨trivial,this.2⟩,this.1⟩
theorem Mw{key r d n:Int}(h:(1≤n∧n≤64)∧0≤r∧r≤1000000000000):0≤iX key r d n∧iX key r d n<n:=by
 unfold iX
 rw[if_pos h]
 exact⟨Int.emod_nonneg _ (by omega),Int.emod_lt_of_pos _ (by omega)⟩
theorem Mx{s r n:Int}(h:1≤n∧n≤64):0≤Cg s r n∧Cg s r n<n:=by
 unfold Cg
 rw[if_pos h]
 exact⟨Int.emod_nonneg _ (by omega),Int.emod_lt_of_pos _ (by omega)⟩
theorem Ky{c:eg}{r n:Int}(h:oS c r n=true):0≤n9 c r n∧n9 c r n<n:=by
 have hb:(0≤r∧r≤100000)∧1≤n∧n≤64:=by
  simp only[oS,Bool.and_eq_true,cL]at h;exact⟨h.1.2,h.2⟩
 rw[n9,if_pos h]
 split
 ·exact Mw (by omega)
 ·exact Mx (by omega)
theorem WX(k d:Int):fK (nY k d)=true:=by
 have:=vQ (dS k [83,d])
 simp only[fK,cL];unfold nY;omega
theorem qI{c:eg}(h:dy c=true):c.aJ.length≤16∧c.inbox.length≤16∧(∀b,b∈c.aJ→b.length≤14)∧(∀b,b∈c.inbox→b.length≤14)∧0≤c.sent∧c.sent≤c.aJ.length∧0≤c.next∧c.next≤100000:=by
 simp only[dy,Bool.and_eq_true,Bool.not_eq_true',List.any_eq_false,cL,decide_eq_true_eq]at h
 obtain⟨⟨⟨⟨⟨⟨_,h1⟩,h2⟩,h3⟩,h4⟩,h5⟩,h6⟩:=h
 refine⟨by omega,by omega,fun b hb=> ?_,fun b hb=> ?_,h5.1,h5.2,h6.1,h6.2⟩
 ·have:=h3 b hb;simp only[AU,decide_eq_true_eq]at this;omega
 ·have:=h4 b hb;simp only[AU,decide_eq_true_eq]at this;omega
theorem getD_in{α:Type}{l:List α}{k:Nat}(d:α)(h:k<l.length):l.getD k d∈l:=by
 rw[List.getD_eq_getElem?_getD,List.getElem?_eq_getElem h];exact List.getElem_mem h
theorem Kz{k c:Int}{p:Plain}(h:jT k c p=true):(sR k c p).length=24:=by
 have hb:=pF h
 rw[sR,if_pos h,List.length_append,jA]
 simp only[gb,four,List.length_append,List.length_drop,List.length_cons,List.length_nil,fB];omega
theorem P3{c:eg}(h:dy c=true){a:Int}(h0:0≤a)(h1:a<c.aJ.length):(n8 c a).length=24:=by
 obtain⟨q1,_,q2,_⟩:=qI h
 apply Kz
 simp only[jT,WX,jG,Bool.and_eq_true,cL,decide_eq_true_eq]
 have:=q2 _ (getD_in (aI (.sl .u8)) (show a.toNat<c.aJ.length by omega))
 refine⟨⟨trivial,by omega⟩,by omega,by omega⟩
theorem Ik{c:eg}{r n:Int}(h:oS c r n=true):(gV c r n).length=24:=by
 rw[gV,if_pos h]
 split
 ·rename_i hs
  have hc:dy c=true:=by simp only[oS,Bool.and_eq_true]at h;exact h.1.1
  exact P3 hc (AW h).1 hs
 ·rw[cover,fB]
theorem P4{x:bp}{c:Int}(h:okW x=true)(hc:0≤c∧c<x.ak.length):td x.rows (n9 (Kv x c) x.round x.rows) (gV (Kv x c) x.round x.rows) (iI x c)=true:=by
 have hw:=Z4 h hc
 have hr:=ot h
 have hs:=ef h
 have hrow:=Ky hw
 have hcell:=Ik hw
 simp only[td,Ku,cM,Bool.and_eq_true,cL,decide_eq_true_eq,jX]
 rw[bV (by omega),bV (by omega)]
 omega
theorem kg{x:bp}{c:Int}(h:okW x=true)(hc:0≤c∧c<x.ak.length):(dB x c).length=x.av.length:=by
 have hs:=ef h
 rw[dB,qH,if_pos (P4 h hc),List.length_append,List.length_map,jX]
 simp;omega
theorem EV{x:bp}{c:Int}(h:okW x=true)(hc:0≤c∧c<x.ak.length):kX x c=dB x c:=by
 rw[kX,if_pos]
 simp only[Kx,h,ku,Bool.true_and,cL]
 omega
end
section
theorem S4{rows i:Int}{c:List UInt8}{sd:List Int}(hr:rows≤64): ∀d,d∈qH rows i c sd→cT d=true:=by
 intro d hd
 unfold qH at hd
 split at hd
 ·rename_i hm
  have hu:qE rows i c=true:=by simp only[td,Bool.and_eq_true]at hm;exact hm.1
  rcases List.mem_append.1 hd with h|h
  ·obtain⟨s,_,rfl⟩:=List.mem_map.1 h
   exact Ih s rows hr
  ·rw[List.mem_singleton.1 h];exact ET hu _
 ·cases hd
def Z5(d:DB):Nat:=(d.rows.map List.length).sum
theorem WY{d:DB}(h:cT d=true):Z5 d≤1536:=by
 obtain⟨h1,h2⟩:=gO.1 h
 have h3: ∀l:List (List UInt8),(∀r,r∈l→r.length=24)→(l.map List.length).sum=24*l.length:=by
  intro l
  induction l with
  |nil=>intro _;rfl
  |cons x r ih=>intro hl;rw[List.map_cons,List.sum_cons,ih fun y hy=>hl y (by simp[hy]),hl x (by simp),List.length_cons];omega
 have:=h3 _ h2
 unfold Z5;omega
theorem Yd{α:Type}(f:α→Nat)(C:Nat): ∀(l:List α),(∀x,x∈l→f x≤C)→(l.map f).sum≤C*l.length
 | [],_=>by simp
 |x::r,h=>by
  have:=Yd f C r fun y hy=>h y (by simp[hy])
  have:=h x (by simp)
  rw[List.map_cons,List.sum_cons,List.length_cons,Nat.mul_add]
  omega
end
section
def ou(s:bw):Prop:=s.received.length≤1048576∧ ∀r,r∈s.received→dL List.length r.share.rows≤1048576
theorem GP{l:List bw}(h:dL dJ l≤1048576){i:Nat}{s:bw}(hs:l[i]? =some s):ou s:=by
 have h1:dL uM s.received≤1048576:=l8 h hs
 refine⟨ec h1,fun r hr=> ?_⟩
 obtain⟨j,hj⟩:=List.mem_iff_getElem?.1 hr
 exact l8 h1 hj
def wB(x:bp):Prop:=dL dJ x.av≤1048576∧dL bO x.ak≤1048576∧eJ x.aB≤1048576∧x.replaced.length≤4194304
theorem qJ{x:bp}(h:wB x):x.av.length≤1048576:=ec h.1
theorem wY{x:bp}(h:wB x):x.ak.length≤1048576:=ec h.2.1
def kY(s:bw)(c:Int)(d:DB):bw:=⟨s.id,s.rows,s.round,s.received++ [⟨c,d⟩],s.behavior⟩
def kZ(s:bw)(c:Int)(d:DB):Bool:=cm s&&cm (kY s c d)
def My(s:bw)(c:Int)(d:DB):bw:=if kZ s c d then kY s c d else s
def below(s:bw)(c:Int):Prop:= ∀r,r∈s.received→r.client<c
theorem P5{s:bw}{c e:Int}{d:DB}(h:below s c)(hc:c<e):below (My s c d) e:=by
 intro r hr
 unfold My at hr
 split at hr
 ·rcases List.mem_append.1 hr with h1|h1
  ·have:=h r h1;omega
  ·rw[List.mem_singleton.1 h1];exact hc
 ·have:=h r hr;omega
theorem P6{s:bw}{c:Int}{d:DB}(h:ou s)(hd:cT d=true):ou (My s c d):=by
 unfold My
 split
 ·rename_i hk
  have h1:(kY s c d).received.length≤8:=by
   simp only[kZ,cm,wV,Bool.and_eq_true,decide_eq_true_eq]at hk;omega
  refine⟨by omega,fun r hr=> ?_⟩
  rcases List.mem_append.1 hr with h2|h2
  ·exact h.2 r h2
  ·rw[List.mem_singleton.1 h2];exact eu hd
 ·exact h
def Vp(c:Int)(r:aR):Bool:=r.client==c
def mB(l:List aR)(c:Int):Bool:=l.any (Vp c)
def Bd(l:List aR)(c:Int):DB:=if mB l c then(l.getD (fidx (Vp c) l).toNat (aI .aR)).share else⟨[]⟩
theorem S5{l:List aR}{c:Int}{k:Nat}(h:k<l.length)(h1:(l.take k).any (Vp c)=false)(h2:Vp c (l.getD k (aI .aR))=true):mB l c=true∧Bd l c=(l.getD k (aI .aR)).share:=by
 have ha:mB l c=true:=CX l (Vp c) (aI .aR) k h h2
 exact⟨ha,by rw[Bd,if_pos ha,zi (aI .aR) h h1 h2];rfl⟩
theorem CZ{l:List aR}{c:Int}(h:l.any (Vp c)=false):mB l c=false∧Bd l c=⟨[]⟩:=⟨h,by rw[Bd,mB,h];rfl⟩
theorem S6{s:bw}{c:Int}(h:below s c):mB s.received c=false:=by
 unfold mB
 rw[List.any_eq_false]
 intro r hr
 have:=h r hr
 simp only[Vp,beq_iff_eq];omega
theorem EW{l:List aR}{c:Int}(h: ∀r,r∈l→dL List.length r.share.rows≤1048576):dL List.length (Bd l c).rows≤1048576:=by
 unfold Bd
 split
 ·rw[List.getD_eq_getElem?_getD]
  cases hq:l[(fidx (Vp c) l).toNat]? with
  |none=>exact by decide
  |some r=>exact h r (List.mem_of_getElem? hq)
 ·exact by decide
theorem Mz{s:bw}{c:Int}{d:DB}(h:kZ s c d=false):My s c d=s:=by rw[My,h];rfl
theorem Il{s:bw}{c:Int}{d:DB}(h:kZ s c d=true):My s c d=kY s c d:=by rw[My,h];rfl
theorem WZ{s:bw}{c:Int}{k:Nat}(hb: ∀r,r∈s.received→r.client<c)(hk:k≤s.received.length)(h:(if decide ((k:Int)<(s.received.length:Int))=true then decide ((s.received.getD k (aI .aR)).client<c)else false)=false):k=s.received.length:=by
 by_cases h1:k<s.received.length
 ·rw[if_pos (by simpa using h1)]at h
  have:=hb _ (getD_in (aI .aR) h1)
  simp only[decide_eq_false_iff_not]at h
  omega
 ·omega
theorem ins_eq(l:List aR)(y:aR): []++List.drop (Int.toNat 0) (List.take ((l.length:Int)).toNat l)++ [y]++ []=l++ [y]:=by simp
theorem acK{s:bw}{c:Int}{d:DB}(h:(if !cm s then true else !cm (kY s c d))=true):kZ s c d=false:=by
 unfold kZ
 cases h1:cm s<;>cases h2:cm (kY s c d)<;>simp_all
theorem acL{s:bw}{c:Int}{d:DB}(h:(if !cm s then true else !cm (kY s c d))=false):kZ s c d=true:=by
 unfold kZ
 cases h1:cm s<;>cases h2:cm (kY s c d)<;>simp_all
def Im(d:DB):Int:=hsh ((d.rows.length:Int)::d.rows.flatMap FI)
theorem so(l:List UInt8):(FI l).length=l.length+1:=by simp[FI]
theorem S7(l:List (List UInt8)): ∀k,((l.take k).flatMap FI).length≤dL List.length l:=by
 have key: ∀m:List (List UInt8),(m.flatMap FI).length=dL List.length m:=by
  intro m
  induction m with
  |nil=>rfl
  |cons x r ih=>rw[List.flatMap_cons,List.length_append,ih,so];unfold dL;simp only[List.length_cons,List.map_cons,List.sum_cons];omega
 intro k
 rw[key]
 have h1:=iy l List.length k
 unfold dL
 have:(l.take k).length≤l.length:=List.length_take_le' _ _
 omega
theorem Ob(l:List (List UInt8))(k:Nat)(h:k<l.length):(l.take (k+1)).flatMap FI=(l.take k).flatMap FI++FI (l.getD k (aI (.sl .u8))):=by
 rw[bL l k (aI (.sl .u8)) h,List.flatMap_append];simp
def jC(m s:Int):Int:=Eu (kh m [173,s])
theorem S8{m s:Int}:(if kh m [173,s]>1 then kh m [173,s]else 1)=jC m s:=by
 have:=dS m [173,s]
 unfold jC Eu
 split<;>split<;>omega
def EX(c r:Int)(d:DB):Int:=hsh [179,c,r,Im d]
def P7(key s c r g:Int):Int:=kh key [181,s,c,r,g]
def mkR(key s c r:Int)(d:DB):eD:=⟨s,c,r,EX c r d,P7 key s c r (EX c r d)⟩
def Oc(l:List bw)(c:Int)(ds:List DB):List bw:=List.zipWith (fun s d=>My s c d) l ds
def wk(x:bp):Nat→List bw
 |0=>x.av
 |k+1=>Oc (wk x k) (k:Int) (dB x (k:Int))
def acM(x:bp)(c:Nat)(i:Nat):List eD:= [mkR (jC x.aX (i:Int)) (i:Int) (c:Int) x.round ((dB x (c:Int)).getD i (aI .DB))]
def FT(x:bp)(c:Nat)(n:Nat):List eD:=(List.range n).flatMap (acM x c)
def FU(x:bp)(n:Nat):List eD:=(List.range n).flatMap fun c=>FT x c x.av.length
theorem Be(x:bp)(c n:Nat):FT x c (n+1)=FT x c n++ [mkR (jC x.aX (n:Int)) (n:Int) (c:Int) x.round ((dB x (c:Int)).getD n (aI .DB))]:=by
 unfold FT
 rw[List.range_succ,List.flatMap_append];simp[acM]
theorem Bf(x:bp)(n:Nat):FU x (n+1)=FU x n++FT x n x.av.length:=by
 unfold FU
 rw[List.range_succ,List.flatMap_append];simp
theorem zB(x:bp)(c:Nat): ∀n,(FT x c n).length=n
 |0=>rfl
 |n+1=>by rw[Be,List.length_append,zB x c n];rfl
theorem EY(x:bp): ∀n,(FU x n).length=n*x.av.length
 |0=>by simp[FU]
 |n+1=>by rw[Bf,List.length_append,EY x n,zB,Nat.add_mul];omega
structure Col(x:bp)(k:Nat):Prop where
 len:(wk x k).length=x.av.length
 Ye: ∀s,s∈wk x k→below s (k:Int)
 sml: ∀s,s∈wk x k→ou s
theorem nG{x:bp}(h:okW x=true): ∀s,s∈x.av→s.received= []:=by
 intro s hs
 obtain⟨i,hi,rfl⟩:=List.mem_iff_getElem.1 hs
 have h1:=Ij h hi
 have e:x.av.getD i (aI .bw)=x.av[i]:=by rw[List.getD_eq_getElem?_getD,List.getElem?_eq_getElem hi];rfl
 simp only[GD,e,Bool.and_eq_true,decide_eq_true_eq]at h1
 have h2:x.av[i].received.length=0:=by omega
 exact List.length_eq_zero_iff.1 h2
theorem xJ{x:bp}{c:Int}(h:okW x=true): ∀d,d∈dB x c→cT d=true:=by
 have:=ot h
 exact S4 (by omega)
theorem KA{l:List bw}{c:Int}{ds:List DB}{s:bw}(h:s∈Oc l c ds): ∃t d,t∈l∧d∈ds∧s=My t c d:=by
 induction l generalizing ds with
 |nil=>cases h
 |cons t l ih=>
  cases ds with
  |nil=>cases h
  |cons d ds=>
   rcases List.mem_cons.1 h with h1|h1
   ·exact⟨t,d,List.mem_cons_self ..,List.mem_cons_self ..,h1⟩
   ·obtain⟨t',d',q1,q2,q3⟩:=ih h1
    exact⟨t',d',List.mem_cons_of_mem _ q1,List.mem_cons_of_mem _ q2,q3⟩
theorem col{x:bp}(h:okW x=true): ∀k,k≤x.ak.length→Col x k
 |0,_=>by
  have he:=nG h
  refine⟨rfl,fun s hs=> ?_,fun s hs=> ?_⟩
  ·intro r hr;rw[he s hs]at hr;cases hr
  ·refine⟨by rw[he s hs];decide,fun r hr=> ?_⟩
   rw[he s hs]at hr;cases hr
 |k+1,hk=>by
  have ih:=col h k (by omega)
  have hl:(dB x (k:Int)).length=x.av.length:=kg h (by omega)
  refine⟨?_,fun s hs=> ?_,fun s hs=> ?_⟩
  ·show(List.zipWith _ _ _).length=_
   rw[List.length_zipWith,ih.len,hl];omega
  ·obtain⟨t,d,h1,h2,rfl⟩:=KA hs
   exact P5 (ih.Ye t h1) (by omega)
  ·obtain⟨t,d,h1,h2,rfl⟩:=KA hs
   exact P6 (ih.sml t h1) (xJ h d h2)
theorem k8{x:bp}(h:okW x=true){k:Nat}(hk:k≤x.ak.length):(wk x k).length=x.av.length:=(col h k hk).len
theorem KB{x:bp}(h:okW x=true){k i:Nat}(hk:k<x.ak.length)(hi:i<x.av.length):(wk x (k+1)).getD i (aI .bw)=My ((wk x k).getD i (aI .bw)) (k:Int) ((dB x (k:Int)).getD i (aI .DB)):=by
 have hl:(dB x (k:Int)).length=x.av.length:=kg h (by omega)
 have h2:=k8 h (k:=k) (by omega)
 show(List.zipWith _ _ _).getD i _=_
 rw[List.getD_eq_getElem?_getD,List.getD_eq_getElem?_getD,List.getD_eq_getElem?_getD,List.getElem?_zipWith,List.getElem?_eq_getElem (show i<(wk x k).length by omega),List.getElem?_eq_getElem (show i<(dB x (k:Int)).length by omega)]
 rfl
def wm(x:bp)(k i:Nat):List bw:=(wk x (k+1)).take i++(wk x k).drop i
theorem KC{x:bp}(h:okW x=true){k i:Nat}(hk:k<x.ak.length)(hi:i≤x.av.length):(wm x k i).length=x.av.length:=by
 have h1:=k8 h (k:=k) (by omega)
 have h2:=k8 h (k:=k+1) (by omega)
 unfold wm
 rw[kL _ _ _ (by omega) (by omega),h1]
theorem KD{x:bp}(h:okW x=true){k i:Nat}(hk:k<x.ak.length)(hi:i<x.av.length):(wm x k i).getD i (aI .bw)=(wk x k).getD i (aI .bw):=by
 have h2:=k8 h (k:=k+1) (by omega)
 exact kK _ _ _ _ (by omega)
theorem GQ{x:bp}(h:okW x=true){k i:Nat}(hk:k<x.ak.length)(hi:i<x.av.length):(wm x k i).set i (My ((wm x k i).getD i (aI .bw)) (k:Int) ((dB x (k:Int)).getD i (aI .DB)))=wm x k (i+1):=by
 have h1:=k8 h (k:=k) (by omega)
 have h2:=k8 h (k:=k+1) (by omega)
 rw[KD h hk hi]
 exact uC _ _ _ (aI .bw) _ (by omega) (by omega) (KB h hk hi)
theorem KE{x:bp}(h:okW x=true){k i:Nat}(hk:k<x.ak.length)(hi:x.av.length≤i):wm x k i=wk x (k+1):=by
 have h1:=k8 h (k:=k) (by omega)
 have h2:=k8 h (k:=k+1) (by omega)
 unfold wm
 rw[List.take_of_length_le (by omega),List.drop_of_length_le (by omega),List.append_nil]
theorem KF{x:bp}(h:okW x=true){k i:Nat}(hk:k<x.ak.length)(hi:i<x.av.length):below ((wm x k i).getD i (aI .bw)) (k:Int)∧ou ((wm x k i).getD i (aI .bw))∧dL List.length ((dB x (k:Int)).getD i (aI .DB)).rows≤1048576:=by
 rw[KD h hk hi]
 have c:=col h k (by omega)
 have hl:(dB x (k:Int)).length=x.av.length:=kg h (by omega)
 exact⟨c.Ye _ (getD_in _ (by rw[c.len];exact hi)),c.sml _ (getD_in _ (by rw[c.len];exact hi)),eu (xJ h _ (getD_in _ (by omega)))⟩
def bM(x:bp):List bw:=if okW x then wk x x.ak.length else []
def gG(x:bp):List eD:=if okW x then FU x x.ak.length else []
end
section
def gX(l:List aN)(f:Int):List Int:=(l.filter fun r=>decide (f≤r.round)).map aN.round
theorem E1(l:List aN)(f:Int)(k:Nat)(h:k<l.length)(h2:f≤(l.getD k (aI .aN)).round):gX (l.take (k+1)) f=gX (l.take k) f++ [(l.getD k (aI .aN)).round]:=by
 unfold gX
 rw[bL l k (aI .aN) h,List.filter_append,List.map_append]
 generalize l.getD k (aI .aN)=r at h2 ⊢
 simp[List.filter_cons,h2]
theorem B2(l:List aN)(f:Int)(k:Nat)(h:k<l.length)(h2: ¬f≤(l.getD k (aI .aN)).round):gX (l.take (k+1)) f=gX (l.take k) f:=by
 unfold gX
 rw[bL l k (aI .aN) h,List.filter_append,List.map_append]
 generalize l.getD k (aI .aN)=r at h2 ⊢
 simp[List.filter_cons,h2]
theorem xM(l:List aN)(f:Int):(gX l f).length≤l.length:=by
 unfold gX
 rw[List.length_map];exact List.length_filter_le _ _
theorem B3(l:List aN)(f:Int)(k:Nat):(gX (l.take k) f).length≤k:=by
 have h1:=xM (l.take k) f
 rw[List.length_take]at h1
 omega
end
section
def GS(key c:Int)(cell:List UInt8):List UInt8:=decr (nX key c) (cell.take 20)
def Lw(key c:Int)(cell:List UInt8):Bool:=fK key&&inr c 0 1000000000000&&decide ((cell.length:Int)=24)&&(cell.drop 20==four (nW key c (cell.take 20)))
def Yf(key c:Int)(cell:List UInt8):Bool:=inr ((GS key c cell).getD 0 (aI .u8)).toNat 0 3&&decide ((((GS key c cell).getD 1 (aI .u8)).toNat:Int)≤14)
def oT(key c:Int)(cell:List UInt8):Bool:=Lw key c cell&&Yf key c cell
def QC(key c:Int)(cell:List UInt8):Plain:=if oT key c cell then⟨((GS key c cell).getD 0 (aI .u8)).toNat,((GS key c cell).take (2+((GS key c cell).getD 1 (aI .u8)).toNat)).drop 2⟩else⟨0,[]⟩
theorem Iq{key c:Int}{cell:List UInt8}(h:Lw key c cell=true):(GS key c cell).length=20∧cell.length=24:=by
 simp only[Lw,Bool.and_eq_true,decide_eq_true_eq]at h
 have:cell.length=24:=by omega
 refine⟨?_,this⟩
 unfold GS
 rw[nV,List.length_take];omega
theorem mQ{key c:Int}{cell:List UInt8}(h:oT key c cell=false):QC key c cell=⟨0,[]⟩:=by rw[QC,h];rfl
theorem Tc(key c:Int)(cell:List UInt8):(QC key c cell).body.length≤14:=by
 unfold QC
 split
 ·rename_i h
  simp only[oT,Yf,Bool.and_eq_true,decide_eq_true_eq]at h
  simp only[List.length_drop,List.length_take];omega
 ·exact Nat.zero_le _
theorem Td(a b c d:UInt8)(n:Int)(h0:0≤n)(h1:n<4294967296):([a,b,c,d]==four n)=decide ((a.toNat:Int)+256*b.toNat+65536*c.toNat+16777216*d.toNat=n):=by
 have ha:=a.toNat_lt;have hb:=b.toNat_lt;have hc:=c.toNat_lt;have hd:=d.toNat_lt
 rw[Bool.eq_iff_iff,beq_iff_eq,decide_eq_true_eq]
 have key: ∀(x:UInt8) (m:Int),x=b8 m↔(x.toNat:Int)=m % 256:=by
  intro x m
  constructor
  ·rintro rfl;exact zf m
  ·intro h;apply Mh;rw[zf];exact h
 unfold four
 simp only[List.cons.injEq,and_true,key]
 constructor
 ·rintro⟨q1,q2,q3,q4⟩;omega
 ·intro h;omega
def Te(r:Int)(a:aN):Bool:=a.round==r
def lH(l:List aN)(r:Int):Bool:=l.any (Te r)
def iK(l:List aN)(r:Int):DB:=if lH l r then(l.getD (fidx (Te r) l).toNat (aI .aN)).db else⟨[]⟩
theorem Tf{l:List aN}{r:Int}{k:Nat}(h:k<l.length)(h1:(l.take k).any (Te r)=false)(h2:Te r (l.getD k (aI .aN))=true):lH l r=true∧iK l r=(l.getD k (aI .aN)).db:=by
 have ha:lH l r=true:=CX l (Te r) (aI .aN) k h h2
 exact⟨ha,by rw[iK,if_pos ha,zi (aI .aN) h h1 h2];rfl⟩
theorem C0{l:List aN}{r:Int}(h:l.any (Te r)=false):lH l r=false∧iK l r=⟨[]⟩:=⟨h,by rw[iK,lH,h];rfl⟩
def W0(rows:List (List UInt8))(v:List Int)(o:List UInt8)(k:Nat):List UInt8:=if decide ((k:Int)<v.length)&&(v.getD k (aI .int)==1)then eG o (rows.getD k (aI (.sl .u8)))else o
def sr(rows:List (List UInt8))(v:List Int)(k:Nat):List UInt8:=(List.range k).foldl (W0 rows v) []
def zC(rows:List (List UInt8))(v:List Int):List UInt8:=sr rows v rows.length
theorem GU(rows:List (List UInt8))(v:List Int)(k:Nat):sr rows v (k+1)=W0 rows v (sr rows v k) k:=by
 unfold sr
 rw[List.range_succ,List.foldl_append];rfl
theorem zD{rows:List (List UInt8)}{v:List Int}{k:Nat}(h:k<v.length)(h1:v.getD k (aI .int)=1):sr rows v (k+1)=eG (sr rows v k) (rows.getD k (aI (.sl .u8))):=by
 rw[GU,W0,if_pos]
 simp only[Bool.and_eq_true,decide_eq_true_eq,beq_iff_eq]
 exact⟨by omega,h1⟩
theorem qL{rows:List (List UInt8)}{v:List Int}{k:Nat}(h: ¬(k<v.length∧v.getD k (aI .int)=1)):sr rows v (k+1)=sr rows v k:=by
 rw[GU,W0,if_neg]
 simp only[Bool.and_eq_true,decide_eq_true_eq,beq_iff_eq]
 intro h2
 exact h ⟨by omega,h2.2⟩
theorem GV(rows:List (List UInt8))(v:List Int)(k:Nat)(h:v.length≤k): ∀n,sr rows v (k+n)=sr rows v k
 |0=>rfl
 |n+1=>by rw[←Nat.add_assoc,qL (by omega)];exact GV rows v k h n
theorem KH{rows:List (List UInt8)}{v:List Int}{k:Nat}(hk:k≤rows.length)(h:rows.length≤k∨v.length≤k):sr rows v k=zC rows v:=by
 unfold zC
 rcases h with h|h
 ·rw[show k=rows.length by omega]
 ·have:=GV rows v k h (rows.length-k)
  rw[show k+(rows.length-k)=rows.length by omega]at this
  exact this.symm
theorem uR{rows:List (List UInt8)}(v:List Int)(h: ∀r,r∈rows→r.length≤1048576): ∀k,k≤rows.length→(sr rows v k).length≤1048576
 |0,_=>Nat.zero_le _
 |k+1,hk=>by
  have ih:=uR v h k (by omega)
  by_cases hh:k<v.length∧v.getD k (aI .int)=1
  ·rw[zD hh.1 hh.2,dU]
   have:=h _ (getD_in (aI (.sl .u8)) (show k<rows.length by omega))
   omega
  ·rw[qL hh];exact ih
def gu(d:DB)(v:List Int):List UInt8:=if cT d&&gz v d.rows.length then eG Vn (zC d.rows v)else []
theorem uS(d:DB)(v:List Int):(gu d v).length=24∨gu d v= []:=by
 unfold gu
 split
 ·left
  rename_i h
  simp only[Bool.and_eq_true]at h
  have key: ∀k,k≤d.rows.length→(sr d.rows v k).length≤24:=by
   intro k
   induction k with
   |zero=>intro _;exact Nat.zero_le _
   |succ k ih=>
    intro hk
    by_cases hh:k<v.length∧v.getD k (aI .int)=1
    ·rw[zD hh.1 hh.2,dU,pG h.1 k (by omega)]
     have:=ih (by omega);omega
    ·rw[qL hh];exact ih (by omega)
  have:=key d.rows.length (Nat.le_refl _)
  unfold zC
  rw[dU,sk];omega
 ·right;rfl
def E2(key sv r:Int)(v:List Int)(b:List UInt8):Int:=kh key ([191,sv,r,(v.length:Int)]++v++FI b)
def mkA(key sv r:Int)(v:List Int)(b:List UInt8):cY:=⟨sv,r,v,b,E2 key sv r v b⟩
def ld(d:DB)(v:List Int):Bool:= !((gu d v).length==0)
def noA:cY:=⟨0,0,[],[],0⟩
def oP(key sv r:Int)(d:DB)(v:List Int):cY:=if ld d v then mkA key sv r v (gu d v)else noA
def Lx(b:List UInt8):List UInt8:=b.set 0 (b.getD 0 (aI .u8)^^^128)
def MA(s:bw)(key r:Int)(d:DB)(v:List Int):cY:=if ld d v then(if s.behavior=3 then mkA key s.id r v (Lx (gu d v))else mkA key s.id r v (gu d v))else noA
theorem Tg(s:bw)(key r:Int)(d:DB)(v:List Int):(MA s key r d v).data.length=24∨(ld d v=false∧(MA s key r d v).data= []):=by
 unfold MA
 cases h:ld d v with
 |false=>right;exact⟨rfl,rfl⟩
 |true=>
  left
  have h1:=uS d v
  have h2:(gu d v).length=24:=by
   rcases h1 with h1|h1
   ·exact h1
   ·rw[ld,h1]at h;cases h
  simp only[if_true]
  split
  ·show(Lx (gu d v)).length=24
   unfold Lx;rw[List.length_set];exact h2
  ·exact h2
def iL(l:List (List UInt8)):Bool:=cM l.length&&l.all fun a=>decide ((a.length:Int)=24)
def wo(l:List (List UInt8)):List UInt8:=l.foldl eG []
def Vq(l:List (List UInt8)):List UInt8:=if iL l then wo l else []
theorem Bh(l:List (List UInt8))(k:Nat)(h:k<l.length):wo (l.take (k+1))=eG (wo (l.take k)) (l.getD k (aI (.sl .u8))):=by
 unfold wo
 rw[bL l k (aI (.sl .u8)) h,List.foldl_append];rfl
theorem KI{l:List (List UInt8)}(h: ∀a,a∈l→a.length≤1048576): ∀k,(wo (l.take k)).length≤1048576:=by
 intro k
 induction k with
 |zero=>exact Nat.zero_le _
 |succ k ih=>
  by_cases hk:k<l.length
  ·rw[Bh l k hk,dU]
   have:=h _ (getD_in (aI (.sl .u8)) hk)
   omega
  ·rw[List.take_of_length_le (by omega)]at ih ⊢
   exact ih
def Th(x:bp)(r:Int)(d:DB)(q:List (List Int))(i:Nat):cY:=MA (x.av.getD i (aI .bw)) (jC x.aX (i:Int)) r d (q.getD i (aI (.sl .int)))
def uT(x:bp)(r:Int)(d:DB)(q:List (List Int))(n:Nat):List cY:=(List.range n).map (Th x r d q)
theorem E3(x:bp)(r:Int)(d:DB)(q:List (List Int))(n:Nat):uT x r d q (n+1)=uT x r d q n++ [Th x r d q n]:=by
 unfold uT
 rw[List.range_succ,List.map_append];rfl
theorem GW(x:bp)(r:Int)(d:DB)(q:List (List Int))(n:Nat):(uT x r d q n).length=n:=by simp[uT]
def query'(x:bp)(r row s:Int):List (List Int):=qC x.rows row (gW x.av.length r row s)
def B4(x:bp)(r row s:Int):List (List UInt8):=(uT x r (iK x.aB.rounds r) (query' x r row s) (query' x r row s).length).map cY.data
def GX(x:bp)(r row s:Int):Bool:=lH x.aB.rounds r&&iL (B4 x r row s)
def Ly(x:bp)(r row s:Int):List UInt8:=if lH x.aB.rounds r then Vq (B4 x r row s)else []
theorem Ti{x:bp}{r row s:Int}{k:Nat}(hk:k<(query' x r row s).length)(h:ld (iK x.aB.rounds r) ((query' x r row s).getD k (aI (.sl .int)))=false):iL (B4 x r row s)=false:=by
 unfold iL
 have h1:(Th x r (iK x.aB.rounds r) (query' x r row s) k).data∈B4 x r row s:=by
  unfold B4 uT
  rw[List.map_map]
  exact List.mem_map.2 ⟨k,List.mem_range.2 hk,rfl⟩
 have h2:(Th x r (iK x.aB.rounds r) (query' x r row s) k).data= []:=by
  rcases Tg (x.av.getD k (aI .bw)) (jC x.aX (k:Int)) r (iK x.aB.rounds r) ((query' x r row s).getD k (aI (.sl .int)))with h3|h3
  ·unfold Th;unfold MA;rw[h];rfl
  ·exact h3.2
 have h3:((B4 x r row s).all fun a=>decide ((a.length:Int)=24))=false:=by
  rw[List.all_eq_false]
  exact⟨_,h1,by rw[h2];decide⟩
 rw[h3,Bool.and_false]
def tq(c:eg)(r:Int):Bool:=dy c&&inr r c.next 99999
def sS(c:eg)(own:List UInt8):Bool:=decide (c.sent<(c.aJ.length:Int))&&(own==n8 c c.sent)
def E4(c:eg):Int:=nY c.key (1-cU c)
def kj(c:eg)(other:List UInt8):Bool:=(oT (E4 c) (c.inbox.length:Int) other&&((QC (E4 c) (c.inbox.length:Int) other).kind==1))&&decide ((c.inbox.length:Int)<16)
def fL(c:eg)(r:Int)(own other:List UInt8):eg:=if tq c r then⟨c.id,c.ct,c.key,c.seed,c.aJ,if sS c own then c.sent+1 else c.sent,if kj c other then c.inbox++ [(QC (E4 c) (c.inbox.length:Int) other).body]else c.inbox,r+1⟩else c
def wZ(d:bC):Bool:=c9 d&&decide (4≤IntKind.i64.wrap (d.live.next-d.saved.next))
def wq(d:bC)(r:Int):Bool:=tq d.live r&&c9 d
def mC(d:bC)(r:Int)(own other:List UInt8):bC:=⟨fL d.live r own other,d.saved⟩
def rdev(d:bC)(r:Int)(own other:List UInt8):bC:=if wq d r then(if wZ (mC d r own other)then⟨fL d.live r own other,fL d.live r own other⟩else mC d r own other)else d
def sU(a b:eg):Prop:=a.id=b.id∧a.ct=b.ct∧a.key=b.key∧a.seed=b.seed
theorem xP(c:eg)(r:Int)(own other:List UInt8):sU (fL c r own other) c:=by
 unfold fL
 split
 ·exact⟨rfl,rfl,rfl,rfl⟩
 ·exact⟨rfl,rfl,rfl,rfl⟩
theorem P9(d:bC)(r:Int)(own other:List UInt8):sU (rdev d r own other).live d.live:=by
 unfold rdev
 split
 ·split
  ·exact xP _ _ _ _
  ·exact xP _ _ _ _
 ·exact⟨rfl,rfl,rfl,rfl⟩
theorem MB{a b:eg}(h:sU a b):cU a=cU b:=by unfold cU;rw[h.1,h.2.1]
def MC(x:bp)(d0 d:bC)(r:Int):bC:=rdev d r (Ly x r (iX d0.live.key r (cU d0.live) x.rows) d0.live.seed) (Ly x r (iX d0.live.key r (1-cU d0.live) x.rows) d0.live.seed)
def KJ(x:bp)(d0:bC)(l:List Int):bC:=l.foldl (MC x d0) d0
theorem Qa(x:bp)(d0:bC)(l:List Int)(k:Nat)(h:k<l.length):KJ x d0 (l.take (k+1))=MC x d0 (KJ x d0 (l.take k)) (l.getD k (aI .int)):=by
 unfold KJ
 rw[bL l k (aI .int) h,List.foldl_append];rfl
theorem Bi(x:bp)(d0:bC): ∀(l:List Int) (d:bC),sU d.live d0.live→sU (l.foldl (MC x d0) d).live d0.live
 | [],_,h=>h
 |r::l,d,h=>by
  refine Bi x d0 l _ ?_
  have:=P9 d r (Ly x r (iX d0.live.key r (cU d0.live) x.rows) d0.live.seed) (Ly x r (iX d0.live.key r (1-cU d0.live) x.rows) d0.live.seed)
  exact⟨this.1.trans h.1,this.2.1.trans h.2.1,this.2.2.1.trans h.2.2.1,this.2.2.2.trans h.2.2.2⟩
def qM(x:bp)(d:bC):List Int:=gX x.aB.rounds d.live.next
def oC(x:bp)(d:bC):bC:=KJ x d (qM x d)
def rD(x:bp)(k i:Nat):List bC:=(x.ak.map (oC x)).take k++(KJ x (x.ak.getD k (aI .bC)) ((qM x (x.ak.getD k (aI .bC))).take i)::x.ak.drop (k+1))
def QD(x:bp)(k:Nat):List bC:=(x.ak.map (oC x)).take k++x.ak.drop k
theorem Tj(x:bp)(k:Nat)(h:k<x.ak.length):rD x k 0=QD x k:=by
 unfold rD QD
 rw[List.take_zero,List.drop_eq_getElem_cons h,show x.ak[k]=x.ak.getD k (aI .bC)by rw[List.getD_eq_getElem?_getD,List.getElem?_eq_getElem h];rfl];rfl
theorem zE(x:bp)(k:Nat)(h:k<x.ak.length):((x.ak.map (oC x)).take k).length=k:=by
 rw[List.length_take,List.length_map];omega
theorem Oe(x:bp)(k i:Nat)(h:k<x.ak.length):(rD x k i).length=x.ak.length:=by
 unfold rD
 rw[List.length_append,zE x k h,List.length_cons,List.length_drop];omega
theorem C1(x:bp)(k i:Nat)(h:k<x.ak.length):(rD x k i).getD k (aI .bC)=KJ x (x.ak.getD k (aI .bC)) ((qM x (x.ak.getD k (aI .bC))).take i):=by
 unfold rD
 rw[List.getD_eq_getElem?_getD,List.getElem?_append_right (by rw[zE x k h];omega),zE x k h,Nat.sub_self];rfl
theorem KK(x:bp)(k i:Nat)(h:k<x.ak.length)(hi:i<(qM x (x.ak.getD k (aI .bC))).length):(rD x k i).set k (MC x (x.ak.getD k (aI .bC)) ((rD x k i).getD k (aI .bC)) ((qM x (x.ak.getD k (aI .bC))).getD i (aI .int)))=rD x k (i+1):=by
 rw[C1 x k i h, ←Qa x _ _ i hi]
 unfold rD
 rw[List.set_append_right _ _ (by rw[zE x k h];omega),zE x k h,Nat.sub_self];rfl
theorem Of(x:bp)(k i:Nat)(h:k<x.ak.length)(hi:(qM x (x.ak.getD k (aI .bC))).length≤i):rD x k i=QD x (k+1):=by
 unfold rD QD
 rw[List.take_of_length_le hi,bL (x.ak.map (oC x)) k (aI .bC) (by rw[List.length_map];exact h),List.append_assoc]
 congr 1
 rw[show(x.ak.map (oC x)).getD k (aI .bC)=oC x (x.ak.getD k (aI .bC))by
  rw[List.getD_eq_getElem?_getD,List.getD_eq_getElem?_getD,List.getElem?_map,List.getElem?_eq_getElem h];rfl]
 rfl
theorem Og(x:bp)(k:Nat)(h:k<x.ak.length):(QD x k).getD k (aI .bC)=x.ak.getD k (aI .bC):=by rw[←Tj x k h,C1 x k 0 h];rfl
theorem Oh(x:bp)(k:Nat)(h:k≤x.ak.length):(QD x k).length=x.ak.length:=by
 unfold QD
 rw[kL _ _ _ (by rw[List.length_map]) h]
def FJ(x:bp):bp:=if okW x then⟨x.rows,x.av,x.ak.map (oC x),x.aB,x.aX,x.seed,x.round,x.replaced,x.cancelled⟩else x
theorem Oi(x:bp)(k:Nat)(hk:k≤x.ak.length)(h:x.ak.length≤k):QD x k=x.ak.map (oC x):=by
 unfold QD
 rw[List.take_of_length_le (by rw[List.length_map];exact h),List.drop_of_length_le h,List.append_nil]
end
section
theorem Qc(x:UInt8):IntKind.i64.wrap (x.toNat:Int)=x.toNat:=bV (by have:=x.toNat_lt;omega)
def Vr(key c:Int)(cell:List UInt8):Int:=((GS key c cell).getD 0 (aI .u8)).toNat
def FK(key c:Int)(cell:List UInt8):Nat:=((GS key c cell).getD 1 (aI .u8)).toNat
def Yg(key c:Int)(cell:List UInt8):List UInt8:=((GS key c cell).take (2+FK key c cell)).drop 2
theorem Z8(key c:Int)(cell:List UInt8):FK key c cell<256:=((GS key c cell).getD 1 (aI .u8)).toNat_lt
theorem Tk(key c:Int)(cell:List UInt8):decr (nX key c) ((cell.take (20:Int).toNat).drop (0:Int).toNat)=GS key c cell:=by unfold GS;simp
theorem MD(key c:Int)(cell:List UInt8):((GS key c cell).take (IntKind.i64.wrap (2+IntKind.i64.wrap (((GS key c cell).getD (Int.toNat 1) (aI .u8)).toNat:Int))).toNat).drop (Int.toNat 2)=Yg key c cell:=by
 have h:=Z8 key c cell
 rw[Qc,bV (by show _∧2+(FK key c cell:Int)≤_;show _≤2+(FK key c cell:Int)∧_;omega)]
 show((GS key c cell).take (2+(FK key c cell:Int)).toNat).drop 2=_
 rw[show(2+(FK key c cell:Int)).toNat=2+FK key c cell by omega];rfl
theorem Yh{key c:Int}{cell:List UInt8}(h:14<FK key c cell):oT key c cell=false:=by
 have:Yf key c cell=false:=by
  simp only[Yf,Bool.and_eq_false_iff,decide_eq_false_iff_not]
  right
  show¬((FK key c cell:Int)≤14)
  omega
 rw[oT,this,Bool.and_false]
theorem ME{key c:Int}{cell:List UInt8}(h:Lw key c cell=false):oT key c cell=false:=by rw[oT,h];rfl
theorem Ir{key c:Int}{cell:List UInt8}(hA:Lw key c cell=true)(h:FK key c cell≤14):(Yg key c cell).length=FK key c cell:=by
 have:=(Iq hA).1
 unfold Yg
 rw[List.length_drop,List.length_take];omega
theorem acP{key c:Int}{cell:List UInt8}(hA:Lw key c cell=true)(h:FK key c cell≤14):jG ⟨Vr key c cell,Yg key c cell⟩=oT key c cell:=by
 have hl:=Ir hA h
 rw[oT,hA,Bool.true_and,jG,Yf]
 show(inr (Vr key c cell) 0 3&&decide (((Yg key c cell).length:Int)≤14))=(inr (Vr key c cell) 0 3&&decide ((FK key c cell:Int)≤14))
 rw[hl]
theorem C2{key c:Int}{cell:List UInt8}(h:oT key c cell=true):QC key c cell=⟨Vr key c cell,Yg key c cell⟩:=by rw[QC,if_pos h];rfl
theorem acQ{key c:Int}{cell:List UInt8}(hA:Lw key c cell=true)(h:FK key c cell≤14)(hk:Vr key c cell≤3):oT key c cell=true:=by
 rw[oT,hA,Bool.true_and,Yf]
 simp only[Bool.and_eq_true,cL,decide_eq_true_eq]
 exact⟨⟨by omega,hk⟩,by show(FK key c cell:Int)≤14;omega⟩
theorem Z9{key c:Int}{cell:List UInt8}(h:3<Vr key c cell):oT key c cell=false:=by
 have:Yf key c cell=false:=by
  simp only[Yf,Bool.and_eq_false_iff]
  left
  rw[X9]
  show¬(0≤Vr key c cell∧Vr key c cell≤3)
  omega
 rw[oT,this,Bool.and_false]
theorem aaa(a b k:Nat)(h:a<2^k):a||| (b*2^k)=a+b*2^k:=by
 have:=Nat.two_pow_add_eq_or_of_lt h b
 rw[Nat.mul_comm b,Nat.or_comm, ←this,Nat.add_comm]
theorem aab{a:Nat}{b k:Nat}(ha:a<2^k)(hb:b<256)(hk:k=8∨k=16∨k=24):IntKind.i64.wrap (BitVec.ofInt IntKind.i64.bits (a:Int)|||BitVec.ofInt IntKind.i64.bits (IntKind.i64.wrap ((b:Int)*2^k))).toNat=((a+b*2^k:Nat):Int):=by
 have hp:b*2^k<2^32:=by
  rcases hk with rfl|rfl|rfl<;>omega
 have ha2:a<2^24:=by
  rcases hk with rfl|rfl|rfl<;>omega
 have e:((b:Int)*2^k)=((b*2^k:Nat):Int):=by push_cast;rfl
 rw[e,bV (a:=((b*2^k:Nat):Int)) (by omega),BitVec.ofInt_natCast,BitVec.ofInt_natCast,BitVec.toNat_or,BitVec.toNat_ofNat,BitVec.toNat_ofNat]
 show IntKind.i64.wrap (((a % 2^64|||b*2^k % 2^64:Nat)):Int)=_
 rw[Nat.mod_eq_of_lt (by omega),Nat.mod_eq_of_lt (by omega),aaa a b k ha,bV (by omega)]
def aac(cell:List UInt8):Int:=((cell.getD 20 (aI .u8)).toNat:Int)+256*(cell.getD 21 (aI .u8)).toNat+65536*(cell.getD 22 (aI .u8)).toNat+16777216*(cell.getD 23 (aI .u8)).toNat
theorem W1(cell:List UInt8):IntKind.i64.wrap (BitVec.ofInt IntKind.i64.bits (IntKind.i64.wrap (BitVec.ofInt IntKind.i64.bits (IntKind.i64.wrap (BitVec.ofInt IntKind.i64.bits (IntKind.i64.wrap ((cell.getD (Int.toNat 20) (aI .u8)).toNat:Int))|||BitVec.ofInt IntKind.i64.bits (IntKind.i64.wrap (IntKind.i64.wrap ((cell.getD (Int.toNat 21) (aI .u8)).toNat:Int)*2^(min (Int.toNat 8) IntKind.i64.bits)))).toNat)|||BitVec.ofInt IntKind.i64.bits (IntKind.i64.wrap (IntKind.i64.wrap ((cell.getD (Int.toNat 22) (aI .u8)).toNat:Int)*2^(min (Int.toNat 16) IntKind.i64.bits)))).toNat)|||BitVec.ofInt IntKind.i64.bits (IntKind.i64.wrap (IntKind.i64.wrap ((cell.getD (Int.toNat 23) (aI .u8)).toNat:Int)*2^(min (Int.toNat 24) IntKind.i64.bits)))).toNat=aac cell:=by
 have h0:=(cell.getD 20 (aI .u8)).toNat_lt
 have h1:=(cell.getD 21 (aI .u8)).toNat_lt
 have h2:=(cell.getD 22 (aI .u8)).toNat_lt
 have h3:=(cell.getD 23 (aI .u8)).toNat_lt
 rw[Qc,Qc,Qc,Qc]
 show IntKind.i64.wrap (BitVec.ofInt IntKind.i64.bits (IntKind.i64.wrap (BitVec.ofInt IntKind.i64.bits (IntKind.i64.wrap (BitVec.ofInt IntKind.i64.bits (((cell.getD 20 (aI .u8)).toNat:Nat):Int)|||BitVec.ofInt IntKind.i64.bits (IntKind.i64.wrap ((((cell.getD 21 (aI .u8)).toNat:Nat):Int)*2^8))).toNat)|||BitVec.ofInt IntKind.i64.bits (IntKind.i64.wrap ((((cell.getD 22 (aI .u8)).toNat:Nat):Int)*2^16))).toNat)|||BitVec.ofInt IntKind.i64.bits (IntKind.i64.wrap ((((cell.getD 23 (aI .u8)).toNat:Nat):Int)*2^24))).toNat=_
 rw[aab (k:=8) h0 h1 (by omega),aab (k:=16) (by omega) h2 (by omega),aab (k:=24) (by omega) h3 (by omega)]
 unfold aac
 omega
theorem aad{cell:List UInt8}(h:cell.length=24):cell.drop 20= [cell.getD 20 (aI .u8),cell.getD 21 (aI .u8),cell.getD 22 (aI .u8),cell.getD 23 (aI .u8)]:=by
 rw[nB cell 20 (aI .u8) (by omega),nB cell 21 (aI .u8) (by omega),nB cell 22 (aI .u8) (by omega),nB cell 23 (aI .u8) (by omega),List.drop_of_length_le (by omega)]
theorem W2{key c:Int}{cell:List UInt8}(h1:fK key=true)(h2:inr c 0 1000000000000=true)(h3:cell.length=24):Lw key c cell=decide (aac cell=nW key c (cell.take 20)):=by
 have hr:=dS key (71::c::(cell.take 20).map (fun x=>(x.toNat:Int)))
 have Nl:0≤nW key c (cell.take 20)∧nW key c (cell.take 20)<2147483647:=hr
 rw[Lw,h1,h2,show decide ((cell.length:Int)=24)=true by rw[decide_eq_true_eq];omega,Bool.true_and,Bool.true_and,Bool.true_and,aad h3,Td _ _ _ _ _ Nl.1 (by omega)]
 rfl
def Yi(key c:Int)(cell:List UInt8):Bool:=fK key&&inr c 0 1000000000000&&decide ((cell.length:Int)=24)
theorem aae{key c:Int}{cell:List UInt8}(h:Yi key c cell=false):oT key c cell=false:=by
 apply ME
 unfold Yi at h
 rw[Lw,h];rfl
theorem acR{key c:Int}{cell:List UInt8}(h:Yi key c cell=true):fK key=true∧inr c 0 1000000000000=true∧cell.length=24:=by
 simp only[Yi,Bool.and_eq_true,decide_eq_true_eq]at h
 exact⟨h.1.1,h.1.2,by omega⟩
theorem Tl(l:List UInt8):l.set (Int.toNat 0) (UInt8.ofNat (IntKind.u8.wrap ((BitVec.ofInt IntKind.u8.bits (((l.getD (Int.toNat 0) (aI .u8)).toNat:Nat):Int)^^^BitVec.ofInt IntKind.u8.bits 128).toNat:Int)).toNat)=Lx l:=by
 have:=SI (l.getD (Int.toNat 0) (aI .u8)) 128
 rw[show(((128:UInt8).toNat:Nat):Int)=128 from rfl]at this
 rw[this];rfl
theorem Oj{d:DB}{v:List Int}(h:(gu d v).length=0):ld d v=false:=by rw[ld,h];rfl
theorem E5{d:DB}{v:List Int}(h: ¬(gu d v).length=0):ld d v=true:=by
 rw[ld,Bool.not_eq_true']
 exact beq_eq_false_iff_ne.2 h
theorem Tm{key sv r:Int}{d:DB}{v:List Int}(h:ld d v=false):oP key sv r d v=noA:=by rw[oP,h];rfl
theorem C3{key sv r:Int}{d:DB}{v:List Int}(h:ld d v=true):oP key sv r d v=mkA key sv r v (gu d v):=by rw[oP,if_pos h]
theorem C4{d:DB}{v:List Int}(h:ld d v=true):(gu d v).length=24:=by
 rcases uS d v with h1|h1
 ·exact h1
 ·rw[ld,h1]at h;cases h
theorem Tn{s:bw}{key r:Int}{d:DB}{v:List Int}(h:(ld d v&&(s.behavior==3))=false):MA s key r d v=oP key s.id r d v:=by
 unfold MA oP
 cases hk:ld d v with
 |false=>rfl
 |true=>
  rw[hk,Bool.true_and,beq_eq_false_iff_ne]at h
  rw[if_pos rfl,if_pos rfl,if_neg h]
theorem Ok{s:bw}{key r:Int}{d:DB}{v:List Int}(h:(ld d v&&(s.behavior==3))=true):ld d v=true∧MA s key r d v=mkA key s.id r v (Lx (gu d v)):=by
 rw[Bool.and_eq_true,beq_iff_eq]at h
 exact⟨h.1,by rw[MA,if_pos h.1,if_pos h.2]⟩
theorem Is(b:List UInt8):(Lx b).length=b.length:=by unfold Lx;rw[List.length_set]
theorem Yj(s:bw)(key r:Int)(d:DB){v:List Int}(hv:v.length≤262144):(MA s key r d v).selection.length≤262144∧(MA s key r d v).data.length≤262144:=by
 have h:=uS d v
 have h2:(gu d v).length≤262144:=by
  rcases h with h|h
  ·omega
  ·rw[h];exact Nat.zero_le _
 unfold MA
 split
 ·split
  ·exact⟨hv,by show(Lx (gu d v)).length≤_;rw[Is];exact h2⟩
  ·exact⟨hv,h2⟩
 ·exact⟨Nat.zero_le _,Nat.zero_le _⟩
theorem Ol{l:List (List UInt8)}(h:iL l=true):Vq l=wo l:=by rw[Vq,if_pos h]
theorem C5{l:List (List UInt8)}(h:iL l=false):Vq l= []:=by rw[Vq,h];rfl
theorem KL{l:List (List UInt8)}(h:iL l=true): ∀a,a∈l→a.length≤1048576:=by
 intro a ha
 simp only[iL,Bool.and_eq_true,List.all_eq_true,decide_eq_true_eq]at h
 have:=h.2 a ha
 omega
theorem W3{l:List (List UInt8)}{k:Nat}(hk:k<l.length)(h: ¬(l.getD k (aI (.sl .u8))).length=24):iL l=false:=by
 have h2:(l.all fun a=>decide ((a.length:Int)=24))=false:=Mi _ _ (aI (.sl .u8)) k hk (by rw[decide_eq_false_iff_not];omega)
 rw[iL,h2,Bool.and_false]
theorem To(rows i:Int)(sd:List Int): ∀v,v∈qC rows i sd→v.length≤64:=by
 intro v hv
 unfold qC at hv
 split at hv
 ·rcases List.mem_append.1 hv with h|h
  ·obtain⟨s,_,rfl⟩:=List.mem_map.1 h
   exact iH _ _
  ·rw[List.mem_singleton.1 h]
   exact A0 rows i sd
 ·cases hv
theorem Tp(rows i:Int)(sd:List Int):(qC rows i sd).length≤sd.length+1:=by
 unfold qC
 split
 ·rw[List.length_append,List.length_map];simp
 ·exact Nat.zero_le _
theorem Om{x:bp}(r row s:Int)(h:okW x=true):(query' x r row s).length≤x.av.length:=by
 have h1:=Tp x.rows row (gW x.av.length r row s)
 have h2:=oo x.av.length r row s
 have h3:=(ef h).2
 unfold query'
 omega
theorem Tq(x:bp)(r row s:Int)(k:Nat):((query' x r row s).getD k (aI (.sl .int))).length≤64:=by
 rw[List.getD_eq_getElem?_getD]
 cases hq:(query' x r row s)[k]? with
 |none=>exact Nat.zero_le _
 |some v=>exact To _ _ _ v (List.mem_of_getElem? hq)
theorem It{x:bp}{r row s:Int}(h:lH x.aB.rounds r=false):Ly x r row s= []∧GX x r row s=false:=⟨by rw[Ly,h];rfl,by rw[GX,h];rfl⟩
theorem On{x:bp}{r row s:Int}(h:lH x.aB.rounds r=true):Ly x r row s=Vq (B4 x r row s)∧GX x r row s=iL (B4 x r row s):=⟨by rw[Ly,if_pos h],by rw[GX,h,Bool.true_and]⟩
theorem Iu{x:bp}(h:okW x=true):x.aB.rounds.length≤8∧ ∀y,y∈x.aB.rounds→dL List.length y.db.rows≤1048576:=by
 have ha:=kR h
 simp only[Kf,Bool.and_eq_true]at ha
 have ha:eW x.aB=true:=ha.1.1.1.1.1.2
 simp only[eW,EC,Bool.and_eq_true,List.all_eq_true,List.mem_range,decide_eq_true_eq]at ha
 refine⟨by omega,fun y hy=> ?_⟩
 obtain⟨i,hi,rfl⟩:=List.mem_iff_getElem.1 hy
 have h2:=ha.2 i hi
 have e:x.aB.rounds.getD i (aI .aN)=x.aB.rounds[i]:=by rw[List.getD_eq_getElem?_getD,List.getElem?_eq_getElem hi];rfl
 simp only[rZ,e,Bool.and_eq_true]at h2
 exact eu h2.1.2
end
section
def gH(rows:Int)(l:List aR):DB:=l.foldl (fun d r=>gN d r.share) (dz rows)
theorem GY(rows:Int)(l:List aR)(k:Nat)(h:k<l.length):gH rows (l.take (k+1))=gN (gH rows (l.take k)) (l.getD k (aI .aR)).share:=by
 unfold gH
 rw[bL l k (aI .aR) h,List.foldl_append];rfl
theorem KN(rows:Int):cT (dz rows)=true:=by
 rw[gO]
 refine⟨nE rows,fun r hr=> ?_⟩
 unfold dz at hr
 dsimp only at hr
 split at hr
 ·rw[(List.mem_replicate.1 hr).2];exact sk
 ·cases hr
theorem xQ(a b:DB):(gN a b).rows.length=a.rows.length:=by
 cases h:iZ a b with
 |true=>rw[vS h];exact jW h
 |false=>rw[qD h]
theorem vX{a b:DB}(ha:cT a=true):cT (gN a b)=true:=by
 cases h:iZ a b with
 |true=>exact Ks ha (uN h).2.1
 |false=>rw[qD h];exact ha
theorem Oq(rows:Int): ∀(l:List aR) (d:DB),cT d=true→cT (l.foldl (fun d r=>gN d r.share) d)=true∧(l.foldl (fun d r=>gN d r.share) d).rows.length=d.rows.length
 | [],d,h=>⟨h,rfl⟩
 |r::l,d,h=>by
  have ih:=Oq rows l (gN d r.share) (vX h)
  rw[xQ]at ih
  exact ih
theorem Bl(rows:Int)(l:List aR):cT (gH rows l)=true∧(gH rows l).rows.length=(dz rows).rows.length:=Oq rows l _ (KN rows)
theorem Ot(rows:Int)(l:List aR):dL List.length (gH rows l).rows≤1048576:=eu (Bl rows l).1
theorem Ou{s:bw}(h:cm s=true):(1≤s.rows∧s.rows≤64)∧s.received.length≤8:=by
 simp only[cm,wV,Bool.and_eq_true,cL,decide_eq_true_eq]at h
 omega
theorem zH{s:bw}(h:cm s=true): ∀r,r∈s.received→dL List.length r.share.rows≤1048576:=by
 intro r hr
 obtain⟨i,hi,rfl⟩:=List.mem_iff_getElem.1 hr
 simp only[cm,Bool.and_eq_true,List.all_eq_true,List.mem_range]at h
 have h2:=h.2 i hi
 have e:s.received.getD i (aI .aR)=s.received[i]:=by rw[List.getD_eq_getElem?_getD,List.getElem?_eq_getElem hi];rfl
 simp only[nZ,e,Bool.and_eq_true]at h2
 exact eu h2.1.2
theorem Qe(rows:Int)(l:List aR)(f k:Nat)(h:k<l.length)(hf:f≤k):gH rows ((l.drop f).take (k+1-f))=gN (gH rows ((l.drop f).take (k-f))) (l.getD k (aI .aR)).share:=by
 rw[show k+1-f=(k-f)+1 by omega,GY _ _ _ (by rw[List.length_drop];omega)]
 congr 2
 rw[List.getD_eq_getElem?_getD,List.getElem?_drop,show f+(k-f)=k by omega];rfl
theorem Tw(rows:Int)(l:List aR)(f k:Nat)(h:l.length≤k):gH rows ((l.drop f).take (k-f))=gH rows (l.drop f):=by
 rw[List.take_of_length_le (by rw[List.length_drop];omega)]
def tw(s:bw):DB:=if cm s then gH s.rows s.received else⟨[]⟩
def alt(d:DB):DB:=⟨d.rows.set 0 ((d.rows.getD 0 (aI (.sl .u8))).set 0 ((d.rows.getD 0 (aI (.sl .u8))).getD 0 (aI .u8)^^^1))⟩
def rcvd(s:bw):List aR:=if s.behavior=1 then s.received.drop 1 else s.received
def sy(s:bw):DB:=if cm s then(if s.behavior=2 then alt (gH s.rows (rcvd s))else gH s.rows (rcvd s))else⟨[]⟩
theorem alt_eq(d:DB):d.rows.set (Int.toNat 0) ((d.rows.getD (Int.toNat 0) (aI (.sl .u8))).set (Int.toNat 0) (UInt8.ofNat (IntKind.u8.wrap ((BitVec.ofInt IntKind.u8.bits ((((d.rows.getD (Int.toNat 0) (aI (.sl .u8))).getD (Int.toNat 0) (aI .u8)).toNat:Nat):Int)^^^BitVec.ofInt IntKind.u8.bits 1).toNat:Int)).toNat))=(alt d).rows:=by
 have:=SI ((d.rows.getD (Int.toNat 0) (aI (.sl .u8))).getD (Int.toNat 0) (aI .u8)) 1
 rw[show(((1:UInt8).toNat:Nat):Int)=1 from rfl]at this
 rw[this];rfl
theorem Iv(a b:Int):DE a b≤a∧DE a b≤b∧(DE a b=a∨DE a b=b):=by unfold DE;split<;>omega
theorem Tx(l:List aR):l.drop (DE 1 (l.length:Int)).toNat=l.drop 1:=by
 have:=Iv 1 (l.length:Int)
 cases l with
 |nil=>simp
 |cons x r=>
  have h1:DE 1 (((x::r).length:Nat):Int)=1:=by rw[List.length_cons]at this ⊢;omega
  rw[h1];rfl
theorem Ty{s:bw}(h:cm s=true):0<(gH s.rows (rcvd s)).rows.length∧0<((gH s.rows (rcvd s)).rows.getD 0 (aI (.sl .u8))).length:=by
 have h1:=Ou h
 have h2:=Bl s.rows (rcvd s)
 have h3:(dz s.rows).rows.length=s.rows.toNat:=by rw[nF (by omega)];simp
 have h4:0<(gH s.rows (rcvd s)).rows.length:=by omega
 exact⟨h4,by rw[pG h2.1 0 h4];decide⟩
theorem GZ(s:bw):s.behavior=1→rcvd s=s.received.drop 1:=fun h=>if_pos h
theorem KO(s:bw): ¬s.behavior=1→rcvd s=s.received:=fun h=>if_neg h
theorem Tz{d:DB}(h:cT d=true):cT (alt d)=true:=by
 rw[gO]at h ⊢
 refine⟨by unfold alt;dsimp only;rw[List.length_set];exact h.1,fun r hr=> ?_⟩
 unfold alt at hr
 dsimp only at hr
 rcases List.mem_or_eq_of_mem_set hr with h1|h1
 ·exact h.2 r h1
 ·subst h1
  rw[List.length_set]
  cases hd:d.rows with
  |nil=>rw[hd]at hr;cases hr
  |cons b l=>exact h.2 b (by rw[hd];exact List.mem_cons_self ..)
theorem W7(s:bw):dL List.length (sy s).rows≤1048576:=by
 unfold sy
 split
 ·split
  ·exact eu (Tz (Bl _ _).1)
  ·exact eu (Bl _ _).1
 ·exact by decide
theorem TA(s:bw): ∀r,r∈rcvd s→r∈s.received:=by
 intro r hr
 unfold rcvd at hr
 split at hr
 ·exact List.mem_of_mem_drop hr
 ·exact hr
def MH(key:Int)(r:eD):Bool:=r.Ls==P7 key r.server r.client r.round r.nI
def qQ(key:Int)(s:bw)(r:eD):Bool:=(r.server !=s.id||r.round !=s.round)|| !MH key r
def MI(r:eD)(d:DB):Bool:=r.nI==EX r.client r.round d
def jl(key:Int)(s:bw)(r:eD):Int:=if qQ key s r then 0 else if mB s.received r.client then(if MI r (Bd s.received r.client)then 0 else 2)else 1
def Cm(key:Int)(s:bw)(p:DB):List eD→Int
 | []=>if cm s&&(p.rows==(tw s).rows)then 0 else 3
 |r::l=>if jl key s r=0 then Cm key s p l else jl key s r
theorem Bm(key:Int)(s:bw)(p:DB): ∀(l:List eD) (k:Nat),(∀j,j<k→jl key s (l.getD j (aI .eD))=0)→Cm key s p (l.drop k)=Cm key s p l
 |l,0,_=>by rw[List.drop_zero]
 | [],k+1,_=>by simp
 |r::l,k+1,h=>by
  have h0:=h 0 (by omega)
  rw[List.drop_succ_cons,Bm key s p l k fun j hj=>by simpa using h (j+1) (by omega)]
  show Cm key s p l=if jl key s r=0 then Cm key s p l else jl key s r
  rw[if_pos (by simpa using h0)]
theorem zI{key:Int}{s:bw}{p:DB}{l:List eD}{k:Nat}(h: ∀j,j<k→jl key s (l.getD j (aI .eD))=0)(hk:k<l.length)(hn:jl key s (l.getD k (aI .eD))≠0):Cm key s p l=jl key s (l.getD k (aI .eD)):=by
 rw[←Bm key s p l k h,List.drop_eq_getElem_cons hk,show l[k]=l.getD k (aI .eD)by rw[List.getD_eq_getElem?_getD,List.getElem?_eq_getElem hk];rfl]
 exact if_neg hn
theorem zJ{key:Int}{s:bw}{p:DB}{l:List eD}{k:Nat}(h: ∀j,j<k→jl key s (l.getD j (aI .eD))=0)(hk:l.length≤k):Cm key s p l=if cm s&&(p.rows==(tw s).rows)then 0 else 3:=by
 rw[←Bm key s p l k h,List.drop_of_length_le hk];rfl
theorem sA{key:Int}{s:bw}{l:List eD}{k:Nat}(h: ∀j,j<k→jl key s (l.getD j (aI .eD))=0)(hk:jl key s (l.getD k (aI .eD))=0): ∀j,j<k+1→jl key s (l.getD j (aI .eD))=0:=by
 intro j hj
 by_cases hjk:j=k
 ·subst hjk;exact hk
 ·exact h j (by omega)
def Cn(m:Int)(sv:List bw)(pb:List DB)(rc:List eD)(i:Nat):Bool:=decide ((pb.length:Int)≤(i:Int))|| !(Cm (jC m (sv.getD i (aI .bw)).id) (sv.getD i (aI .bw)) (pb.getD i (aI .DB)) rc==0)
def aag(m:Int)(sv:List bw)(pb:List DB)(rc:List eD)(i:Nat):List Int:=if Cn m sv pb rc i then [(sv.getD i (aI .bw)).id]else []
def jf(m:Int)(sv:List bw)(pb:List DB)(rc:List eD)(n:Nat):List Int:=(List.range n).flatMap (aag m sv pb rc)
theorem E6{m:Int}{sv:List bw}{pb:List DB}{rc:List eD}{n:Nat}(h:Cn m sv pb rc n=true):jf m sv pb rc (n+1)=jf m sv pb rc n++ [(sv.getD n (aI .bw)).id]:=by
 unfold jf
 rw[List.range_succ,List.flatMap_append];simp[aag,h]
theorem Bn{m:Int}{sv:List bw}{pb:List DB}{rc:List eD}{n:Nat}(h:Cn m sv pb rc n=false):jf m sv pb rc (n+1)=jf m sv pb rc n:=by
 unfold jf
 rw[List.range_succ,List.flatMap_append];simp[aag,h]
theorem oG(m:Int)(sv:List bw)(pb:List DB)(rc:List eD): ∀n,(jf m sv pb rc n).length≤n
 |0=>Nat.le_refl _
 |n+1=>by
  have ih:=oG m sv pb rc n
  cases h:Cn m sv pb rc n with
  |true=>rw[E6 h,List.length_append];simp;omega
  |false=>rw[Bn h];omega
def cZ(sv:List bw):List DB:=sv.map sy
theorem G0(sv:List bw)(k:Nat)(h:k<sv.length):(cZ sv).take (k+1)=(cZ sv).take k++ [sy (sv.getD k (aI .bw))]:=by
 rw[bL (cZ sv) k (aI .DB) (by unfold cZ;rw[List.length_map];exact h)]
 congr 2
 unfold cZ
 rw[List.getD_eq_getElem?_getD,List.getD_eq_getElem?_getD,List.getElem?_map,List.getElem?_eq_getElem h];rfl
theorem Iw(sv:List bw): ∀d,d∈cZ sv→dL List.length d.rows≤1048576:=by
 intro d hd
 obtain⟨s,_,rfl⟩:=List.mem_map.1 hd
 exact W7 s
theorem KP{pb:List DB}(h: ∀d,d∈pb→dL List.length d.rows≤1048576)(k:Nat):dL List.length (pb.getD k (aI .DB)).rows≤1048576:=by
 rw[List.getD_eq_getElem?_getD]
 cases hq:pb[k]? with
 |none=>exact by decide
 |some d=>exact h d (List.mem_of_getElem? hq)
theorem xR{x:bp}(h:okW x=true): ∀s,s∈bM x→ou s:=by
 rw[bM,if_pos h];exact(col h _ (Nat.le_refl _)).sml
theorem lf{x:bp}(h:okW x=true):(bM x).length=x.av.length:=by
 rw[bM,if_pos h];exact k8 h (Nat.le_refl _)
theorem acT{key:Int}{s:bw}{r:eD}(h:qQ key s r=false)(h1:mB s.received r.client=false):jl key s r=1:=by rw[jl,h,h1];rfl
theorem acU{key:Int}{s:bw}{r:eD}(h:qQ key s r=false)(h1:mB s.received r.client=true)(h2:MI r (Bd s.received r.client)=false):jl key s r=2:=by rw[jl,h,h1,h2];rfl
theorem acV{key:Int}{s:bw}{r:eD}(h:qQ key s r=false)(h1:mB s.received r.client=true)(h2:MI r (Bd s.received r.client)=true):jl key s r=0:=by rw[jl,h,h1,h2];rfl
theorem acW{key:Int}{s:bw}{r:eD}(h:qQ key s r=true):jl key s r=0:=by rw[jl,h];rfl
end
section
def Lz:DB→List DB→Option DB
 |a,[]=>some a
 |a,s::r=>if iZ a s then Lz (gN a s) r else none
def Ov(l:List DB):Option DB:=if cM l.length then Lz (l.getD 0 (aI .DB)) (l.drop 1)else none
def Co(l:List DB):Bool:=(Ov l).isSome
def jw(l:List DB):DB:=(Ov l).getD ⟨[]⟩
def Cp(l:List DB)(k:Nat):DB:=((l.drop 1).take k).foldl gN (l.getD 0 (aI .DB))
theorem zK(l:List DB)(k:Nat)(h:k<(l.drop 1).length):Cp l (k+1)=gN (Cp l k) ((l.drop 1).getD k (aI .DB)):=by
 unfold Cp
 rw[bL (l.drop 1) k (aI .DB) h,List.foldl_append];rfl
theorem KQ{α:Type}(l:List α)(k:Nat)(d:α)(h:k<l.length):l.drop k=l.getD k d::l.drop (k+1):=by
 rw[List.drop_eq_getElem_cons h,show l[k]=l.getD k d by rw[List.getD_eq_getElem?_getD,List.getElem?_eq_getElem h];rfl]
theorem KR(l:List DB)(k:Nat)(h:k<(l.drop 1).length)(hx:iZ (Cp l k) ((l.drop 1).getD k (aI .DB))=true):Lz (Cp l k) ((l.drop 1).drop k)=Lz (Cp l (k+1)) ((l.drop 1).drop (k+1)):=by
 rw[KQ _ k (aI .DB) h,Lz,if_pos hx,zK l k h]
theorem TB(l:List DB)(k:Nat)(h:k<(l.drop 1).length)(hx:iZ (Cp l k) ((l.drop 1).getD k (aI .DB))=false):Lz (Cp l k) ((l.drop 1).drop k)=none:=by
 rw[KQ _ k (aI .DB) h,Lz,hx];rfl
theorem Ox(l:List DB)(k:Nat)(h:(l.drop 1).length≤k):Lz (Cp l k) ((l.drop 1).drop k)=some (Cp l k):=by
 rw[List.drop_of_length_le h];rfl
def uX(l:List DB):Prop:= ∀d,d∈l→cT d=true
theorem lY{l:List DB}(h:uX l)(k:Nat):cT (l.getD k (aI .DB))=true:=by
 rw[List.getD_eq_getElem?_getD]
 cases hq:l[k]? with
 |none=>exact by decide
 |some d=>exact h d (List.mem_of_getElem? hq)
theorem TC{l:List DB}(h:uX l): ∀k,cT (Cp l k)=true:=by
 intro k
 induction k with
 |zero=>exact lY h 0
 |succ k ih=>
  by_cases hk:k<(l.drop 1).length
  ·rw[zK l k hk];exact vX ih
  ·have e:Cp l (k+1)=Cp l k:=by unfold Cp;rw[List.take_of_length_le (by omega),List.take_of_length_le (by omega)]
   rw[e];exact ih
theorem MJ{l:List DB}(h:uX l):uX (l.drop 1):=fun d hd=>h d (List.mem_of_mem_drop hd)
theorem E7{l:List DB}(h:Ov l=none):jw l=⟨[]⟩∧Co l=false:=by unfold jw Co;rw[h];exact⟨rfl,rfl⟩
theorem Ix{l:List DB}{d:DB}(h:Ov l=some d):jw l=d∧Co l=true:=by unfold jw Co;rw[h];exact⟨rfl,rfl⟩
theorem Oy{l:List DB}(h:cM l.length=false):Ov l=none:=by rw[Ov,h];rfl
theorem Oz{l:List DB}(h:cM l.length=true):Ov l=Lz (Cp l 0) ((l.drop 1).drop 0):=by rw[Ov,if_pos h];rfl
theorem E8{l:List DB}(h:cM l.length=true):2≤l.length∧l.length≤4:=by simp only[cM,cL]at h;omega
theorem W8(s:bw):cT (sy s)=true:=by
 unfold sy
 split
 ·split
  ·exact Tz (Bl _ _).1
  ·exact(Bl _ _).1
 ·exact by decide
theorem pO(sv:List bw):uX (cZ sv):=by
 intro d hd
 obtain⟨s,_,rfl⟩:=List.mem_map.1 hd
 exact W8 s
theorem G1(l:List DB)(h:uX l):cT (jw l)=true:=by
 cases hq:Ov l with
 |none=>rw[(E7 hq).1];decide
 |some d=>
  rw[(Ix hq).1]
  have key: ∀(r:List DB) (a:DB),cT a=true→Lz a r=some d→cT d=true:=by
   intro r
   induction r with
   |nil=>intro a ha hj;simp only[Lz,oI]at hj;exact hj▸ha
   |cons s r ih=>
    intro a ha hj
    simp only[Lz]at hj
    split at hj
    ·exact ih _ (vX ha) hj
    ·cases hj
  unfold Ov at hq
  split at hq
  ·exact key _ _ (lY h 0) hq
  ·cases hq
def oJ(a:iP)(r:Int)(d:DB):Bool:=(((eW a&&inr r 0 100000)&& !decide (r≤dh a))&&cT d)&&decide ((d.rows.length:Int)=a.rows)
def qh(a:iP)(r:Int)(d:DB):List aN:=a.rounds++ [⟨r,d⟩]
def C6(a:iP)(r:Int)(d:DB):List aN:=if oJ a r d then(if(8:Int)<(qh a r d).length then(qh a r d).drop 1 else qh a r d)else a.rounds
def Cq(id rows b:Int):Bool:=inr id 0 3&&inr rows 1 64&&inr b 0 3
def newS(id rows b:Int):bw:=if Cq id rows b then⟨id,rows,0,[],b⟩else⟨0,0,0,[],0⟩
def E9(s:bw):Bool:=cm s&& !(s.round==100000)
def jD(s:bw):bw:=if E9 s then⟨s.id,s.rows,IntKind.i64.wrap (s.round+1),[],s.behavior⟩else s
def zL(l:List bw)(id:Int):Bool:=inr id 0 (IntKind.i64.wrap ((l.length:Int)-1))
def Bo(rows rd:Int)(p:List bw×List Int)(id:Int):List bw×List Int:=if zL p.1 id then(p.1.set id.toNat ⟨id,rows,rd,[],0⟩,p.2++ [id])else p
def FL(rows rd:Int)(p:List bw×List Int)(g:List Int):List bw×List Int:=g.foldl (Bo rows rd) p
theorem Fa(rows rd:Int)(p:List bw×List Int)(g:List Int)(k:Nat)(h:k<g.length):FL rows rd p (g.take (k+1))=Bo rows rd (FL rows rd p (g.take k)) (g.getD k (aI .int)):=by
 unfold FL
 rw[bL g k (aI .int) h,List.foldl_append];rfl
theorem Iy(rows rd:Int)(p:List bw×List Int)(id:Int):(Bo rows rd p id).1.length=p.1.length∧(Bo rows rd p id).2.length≤p.2.length+1:=by
 unfold Bo
 split
 ·simp
 ·exact⟨rfl,Nat.le_succ _⟩
theorem Iz(rows rd:Int)(p:List bw×List Int)(g:List Int): ∀k,k≤g.length→(FL rows rd p (g.take k)).1.length=p.1.length∧(FL rows rd p (g.take k)).2.length≤p.2.length+k
 |0,_=>⟨rfl,Nat.le_refl _⟩
 |k+1,hk=>by
  have ih:=Iz rows rd p g k (by omega)
  rw[Fa _ _ _ _ k (by omega)]
  have:=Iy rows rd (FL rows rd p (g.take k)) (g.getD k (aI .int))
  omega
def Fb(rd:Int)(l:List bw):Prop:= ∀s,s∈l→s.round=rd∧ou s
theorem acX{rows rd:Int}{p:List bw×List Int}{id:Int}(h:Fb rd p.1):Fb rd (Bo rows rd p id).1:=by
 unfold Bo
 split
 ·intro s hs
  rcases List.mem_or_eq_of_mem_set hs with h1|h1
  ·exact h s h1
  ·subst h1
   exact⟨rfl,Nat.zero_le _,fun r hr=>by cases hr⟩
 ·exact h
theorem TD{rows rd:Int}{p:List bw×List Int}(g:List Int)(h:Fb rd p.1): ∀k,k≤g.length→Fb rd (FL rows rd p (g.take k)).1
 |0,_=>h
 |k+1,hk=>by
  rw[Fa _ _ _ _ k (by omega)]
  exact acX (TD g h k (by omega))
theorem TF(l:List bw)(k:Nat)(h:k<l.length):((l.map jD).take k++l.drop k).set k (jD (((l.map jD).take k++l.drop k).getD k (aI .bw)))=(l.map jD).take (k+1)++l.drop (k+1):=by
 rw[kK _ _ _ _ (by rw[List.length_map];omega)]
 refine uC _ _ _ (aI .bw) _ h (by rw[List.length_map];exact h) ?_
 rw[List.getD_eq_getElem?_getD,List.getD_eq_getElem?_getD,List.getElem?_map,List.getElem?_eq_getElem h];rfl
def gI(x:bp):Bool:=okW x&& !decide (x.round≥99999)
def sB(x:bp)(g:List Int):List bw×List Int:=FL x.rows x.round (x.av,x.replaced) g
def cP(x:bp)(g:List Int)(d:DB):bp:=if gI x then⟨x.rows,(sB x g).1.map jD,x.ak,⟨x.aB.rows,if g.length=0 then C6 x.aB x.round d else x.aB.rounds⟩,x.aX,x.seed,IntKind.i64.wrap (x.round+1),(sB x g).2,if g.length=0 then x.cancelled else IntKind.i64.wrap (x.cancelled+1)⟩else x
theorem Yk{x:bp}(h:okW x=true):Fb x.round x.av:=by
 intro s hs
 obtain⟨i,hi,rfl⟩:=List.mem_iff_getElem.1 hs
 have h1:=Ij h hi
 have e:x.av.getD i (aI .bw)=x.av[i]:=by rw[List.getD_eq_getElem?_getD,List.getElem?_eq_getElem hi];rfl
 have he:=nG h _ hs
 simp only[GD,e,Bool.and_eq_true,beq_iff_eq]at h1
 exact⟨h1.1.2,by rw[he];decide,fun r hr=>by rw[he]at hr;cases hr⟩
def TG(key:Int)(a:cY):Bool:=a.Ls==E2 key a.server a.round a.selection a.data
def fls(key:Int)(d:DB)(a:cY):Bool:=TG key a&& !(a.data==gu d a.selection)
def tsK(x:bp)(i:Nat):Int:=jC x.aX (i:Int)
def tsA(x:bp)(i:Nat):cY:=MA (x.av.getD i (aI .bw)) (tsK x i) (dh x.aB) (iK x.aB.rounds (dh x.aB)) (cA (kh x.seed [227,x.round,(i:Int)]) x.rows)
def Yl(x:bp)(i:Nat):Bool:=fls (tsK x i) (iK x.aB.rounds (dh x.aB)) (tsA x i)
def IA(x:bp)(n:Nat):List Int:=(List.range n).flatMap fun i=>if Yl x i then [(i:Int)]else []
theorem OA{x:bp}{n:Nat}(h:Yl x n=true):IA x (n+1)=IA x n++ [(n:Int)]:=by
 unfold IA
 rw[List.range_succ,List.flatMap_append];simp[h]
theorem KS{x:bp}{n:Nat}(h:Yl x n=false):IA x (n+1)=IA x n:=by
 unfold IA
 rw[List.range_succ,List.flatMap_append];simp[h]
def Cr(x:bp)(n:Nat):List bw×List Int:=FL x.rows x.round (x.av,x.replaced) (IA x n)
theorem OB{x:bp}{n:Nat}(h:Yl x n=true):Cr x (n+1)=Bo x.rows x.round (Cr x n) (n:Int):=by
 unfold Cr FL
 rw[OA h,List.foldl_append];rfl
theorem KT{x:bp}{n:Nat}(h:Yl x n=false):Cr x (n+1)=Cr x n:=by unfold Cr;rw[KS h]
def xS(x:bp):Bool:=okW x&&lH x.aB.rounds (dh x.aB)
def testW(x:bp):bp:=if xS x then⟨x.rows,(Cr x x.av.length).1,x.ak,x.aB,x.aX,x.seed,x.round,(Cr x x.av.length).2,x.cancelled⟩else x
def cR(x:bp):bp:=if gI x then FJ (testW (cP x (jf x.aX (bM x) (cZ (bM x)) (gG x) (bM x).length) (jw (cZ (bM x)))))else x
end
section
theorem qR{α:Type}(f:α→Nat)(C n:Nat)(l:List α)(h: ∀y,y∈l→f y≤C)(hl:l.length≤n):dL f l≤(C+1)*n:=by
 have h1:=Yd f C l h
 have h2:(C+1)*l.length≤(C+1)*n:=Nat.mul_le_mul_left _ hl
 unfold dL
 rw[Nat.add_mul,Nat.one_mul]at h2
 omega
theorem MK{d:DB}(h:cT d=true):dL List.length d.rows≤1600:=by
 have h1:=WY h
 have h2:=EL h
 unfold Z5 at h1;unfold dL;omega
def zM(c:eg):Prop:=c.aJ.length≤16∧c.inbox.length≤16∧(∀b,b∈c.aJ→b.length≤14)∧ ∀b,b∈c.inbox→b.length≤14
theorem vY{c:eg}(h:dy c=true):zM c:=by
 obtain⟨h1,h2,h3,h4,_⟩:=qI h
 exact⟨h1,h2,h3,h4⟩
theorem qT{c:eg}(h:zM c):cj c≤480:=by
 have h1:=qR List.length 14 16 c.aJ h.2.2.1 h.1
 have h2:=qR List.length 14 16 c.inbox h.2.2.2 h.2.1
 unfold cj;omega
theorem zN{c:eg}(h:zM c)(r:Int)(own other:List UInt8):zM (fL c r own other):=by
 unfold fL
 split
 ·refine⟨h.1,?_,h.2.2.1,?_⟩
  ·dsimp only
   split
   ·rename_i hg
    simp only[kj,Bool.and_eq_true,decide_eq_true_eq]at hg
    rw[List.length_append,List.length_singleton];omega
   ·exact h.2.1
  ·dsimp only
   split
   ·intro b hb
    rcases List.mem_append.1 hb with h1|h1
    ·exact h.2.2.2 b h1
    ·rw[List.mem_singleton.1 h1];exact Tc _ _ _
   ·exact h.2.2.2
 ·exact h
def uY(d:bC):Prop:=zM d.live∧zM d.saved
theorem TH{d:bC}(h:uY d)(r:Int)(own other:List UInt8):uY (rdev d r own other):=by
 unfold rdev
 split
 ·split
  ·exact⟨zN h.1 _ _ _,zN h.1 _ _ _⟩
  ·exact⟨zN h.1 _ _ _,h.2⟩
 ·exact h
theorem ML(x:bp)(d0:bC): ∀(l:List Int) (d:bC),uY d→uY (l.foldl (MC x d0) d)
 | [],_,h=>h
 |r::l,_,h=>ML x d0 l _ (TH h _ _ _)
theorem gR{d:bC}(h:uY d):bO d≤960:=by
 have h1:=qT h.1
 have h2:=qT h.2
 unfold bO;omega
theorem acZ{x:bp}{i:Nat}(h:okD x i=true):uY (x.ak.getD i (aI .bC)):=by
 simp only[okD,c9,Bool.and_eq_true]at h
 exact⟨vY h.1.1.1.1.1.1.1.1.1,vY h.1.1.1.1.1.1.1.1.2⟩
theorem Fc{x:bp}(h:okW x=true): ∀d,d∈x.ak→uY d:=by
 intro d hd
 obtain⟨i,hi,rfl⟩:=List.mem_iff_getElem.1 hd
 have h1:=acZ (sn h hi)
 rwa [List.getD_eq_getElem?_getD,List.getElem?_eq_getElem hi]at h1
def wC(x:bp)(n:Nat):Prop:=dL dJ x.av≤1048576∧dL bO x.ak≤1048576∧eJ x.aB≤1048576∧x.replaced.length≤n
theorem Fe{x:bp}{n:Nat}(h:wC x n)(hn:n≤4194304):wB x:=⟨h.1,h.2.1,h.2.2.1,Nat.le_trans h.2.2.2 hn⟩
theorem jK{x:bp}{n m:Nat}(h:wC x n)(hn:n≤m):wC x m:=⟨h.1,h.2.1,h.2.2.1,Nat.le_trans h.2.2.2 hn⟩
theorem ac0{x:bp}{n:Nat}(h:wC x n):wC (FJ x) n:=by
 unfold FJ
 split
 ·rename_i hk
  refine⟨h.1,?_,h.2.2.1,h.2.2.2⟩
  have h1:dL bO (x.ak.map (oC x))≤(960+1)*8:=by
   refine qR bO 960 8 _ (fun d hd=> ?_) (by rw[List.length_map];exact(ni (kR hk)).2.1)
   obtain⟨e,he,rfl⟩:=List.mem_map.1 hd
   exact gR (ML x e _ _ (Fc hk e he))
  exact Nat.le_trans h1 (by decide)
 ·exact h
theorem afq{s:bw}(h:s.received= []):dJ s=0:=by unfold dJ;rw[h];rfl
def B5(l:List bw):Prop:=l.length≤4∧ ∀s,s∈l→s.received= []
theorem sC{l:List bw}(h:B5 l):dL dJ l≤1048576:=
 Nat.le_trans (qR dJ 0 4 l (fun s hs=>by rw[afq (h.2 s hs)];exact Nat.le_refl 0) h.1) (by decide)
theorem ac1{rows rd:Int}{p:List bw×List Int}{id:Int}(h:B5 p.1):B5 (Bo rows rd p id).1:=by
 unfold Bo
 split
 ·refine⟨by rw[List.length_set];exact h.1,fun s hs=> ?_⟩
  rcases List.mem_or_eq_of_mem_set hs with h1|h1
  ·exact h.2 s h1
  ·subst h1;rfl
 ·exact h
theorem TI{rows rd:Int}: ∀(g:List Int) {p:List bw×List Int},B5 p.1→B5 (FL rows rd p g).1∧(FL rows rd p g).2.length≤p.2.length+g.length
 | [],_,h=>⟨h,Nat.le_refl _⟩
 |i::g,p,h=>by
  have h1:=TI (rows:=rows) (rd:=rd) g (ac1 (rows:=rows) (rd:=rd) (id:=i) h)
  have h2:=(Iy rows rd p i).2
  refine⟨h1.1,?_⟩
  have h3:(FL rows rd p (i::g)).2.length≤(Bo rows rd p i).2.length+g.length:=h1.2
  rw[List.length_cons];omega
theorem TJ{x:bp}(h:okW x=true):B5 x.av:=⟨(ef h).1,nG h⟩
theorem aah{l:List bw}(h:B5 l):B5 (l.map jD):=by
 refine⟨by rw[List.length_map];exact h.1,fun s hs=> ?_⟩
 obtain⟨t,ht,rfl⟩:=List.mem_map.1 hs
 unfold jD
 split
 ·rfl
 ·exact h.2 t ht
theorem ac2{a:iP}{r:Int}{d:DB}(ha:eW a=true)(hd:cT d=true):dL ez (C6 a r d)≤1048576:=by
 have h8:a.rounds.length≤8:=by simp only[eW,EC,Bool.and_eq_true,decide_eq_true_eq]at ha;omega
 have hm: ∀y,y∈a.rounds→ez y≤1600:=by
  intro y hy
  obtain⟨i,hi,rfl⟩:=List.mem_iff_getElem.1 hy
  simp only[eW,Bool.and_eq_true,List.all_eq_true,List.mem_range]at ha
  have h2:=ha.2 i hi
  have e:a.rounds.getD i (aI .aN)=a.rounds[i]:=by rw[List.getD_eq_getElem?_getD,List.getElem?_eq_getElem hi];rfl
  simp only[rZ,e,Bool.and_eq_true]at h2
  exact MK h2.1.2
 have hL: ∀y,y∈qh a r d→ez y≤1600:=by
  intro y hy
  rcases List.mem_append.1 hy with h1|h1
  ·exact hm y h1
  ·rw[List.mem_singleton.1 h1];exact MK hd
 have hl:(qh a r d).length≤9:=by unfold qh;rw[List.length_append,List.length_singleton];omega
 have key:dL ez (C6 a r d)≤(1600+1)*9:=by
  unfold C6
  split
  ·split
   ·exact qR _ _ _ _ (fun y hy=>hL y (List.mem_of_mem_drop hy)) (by rw[List.length_drop];omega)
   ·exact qR _ _ _ _ hL hl
  ·exact qR _ _ _ _ hm (by omega)
 exact Nat.le_trans key (by decide)
theorem W9{x:bp}(h:okW x=true):eW x.aB=true:=by
 have h:=kR h
 simp only[Kf,Bool.and_eq_true]at h
 exact h.1.1.1.1.1.2
theorem KU{x:bp}{g:List Int}{d:DB}{n:Nat}(h:wC x n)(hd:cT d=true):wC (cP x g d) (n+g.length):=by
 unfold cP
 split
 ·rename_i hk
  simp only[gI,Bool.and_eq_true]at hk
  have h0:=TI (rows:=x.rows) (rd:=x.round) g (p:=(x.av,x.replaced)) (TJ hk.1)
  refine⟨sC (aah h0.1),h.2.1,?_,?_⟩
  ·show dL ez _≤_
   dsimp only
   split
   ·exact ac2 (W9 hk.1) hd
   ·exact h.2.2.1
  ·have h1:=h0.2
   have h2:=h.2.2.2
   show(FL x.rows x.round (x.av,x.replaced) g).2.length≤_
   dsimp only at h1
   omega
 ·exact jK h (Nat.le_add_right _ _)
theorem IB(x:bp): ∀n,(IA x n).length≤n
 |0=>Nat.le_refl _
 |n+1=>by
  have ih:=IB x n
  cases h:Yl x n with
  |true=>rw[OA h,List.length_append];simp;omega
  |false=>rw[KS h];omega
theorem OC{x:bp}{n:Nat}(h:wC x n):wC (testW x) (n+4):=by
 unfold testW
 split
 ·rename_i hk
  simp only[xS,Bool.and_eq_true]at hk
  have h0:=TI (rows:=x.rows) (rd:=x.round) (IA x x.av.length) (p:=(x.av,x.replaced)) (TJ hk.1)
  have h4:=(ef hk.1).1
  have h5:=IB x x.av.length
  refine⟨sC h0.1,h.2.1,h.2.2.1,?_⟩
  have h1:=h0.2
  have h2:=h.2.2.2
  show(FL x.rows x.round (x.av,x.replaced) (IA x x.av.length)).2.length≤_
  dsimp only at h1
  omega
 ·exact jK h (Nat.le_add_right _ _)
theorem zO{x:bp}{n:Nat}(h:wC x n):wC (cR x) (n+8):=by
 unfold cR
 split
 ·rename_i hk
  simp only[gI,Bool.and_eq_true]at hk
  have h1:=oG x.aX (bM x) (cZ (bM x)) (gG x) (bM x).length
  rw[lf hk.1]at h1
  have h4:=(ef hk.1).1
  have h2:=OC (KU (g:=jf x.aX (bM x) (cZ (bM x)) (gG x) (bM x).length) (d:=jw (cZ (bM x))) h (G1 _ (pO _)))
  rw[lf hk.1]at h2 ⊢
  exact jK (ac0 h2) (by omega)
 ·exact jK h (Nat.le_add_right _ _)
end
section
def MN(c:eg)(b:List UInt8):eg:=⟨c.id,c.ct,c.key,c.seed,c.aJ++ [b],c.sent,c.inbox,c.next⟩
def qi(c:eg)(b:List UInt8):Bool:=dy c&&dy (MN c b)
def ir(c:eg)(b:List UInt8):eg:=if qi c b then MN c b else c
def uZ(d:bC)(b:List UInt8):Bool:=(c9 d&&qi d.live b)&&qi d.saved b
def qU(d:bC)(b:List UInt8):bC:=if uZ d b then⟨ir d.live b,ir d.saved b⟩else d
def B6(d:bC):bC:=if c9 d then⟨d.saved,d.saved⟩else d
def FX(d:bC):bC:=if c9 d then⟨d.live,d.live⟩else d
def IC(x:bp)(i:Nat)(d:bC):bp:=⟨x.rows,x.av,x.ak.set i d,x.aB,x.aX,x.seed,x.round,x.replaced,x.cancelled⟩
def ac3(x:bp)(i:Nat)(s:bw):bp:=⟨x.rows,x.av.set i s,x.ak,x.aB,x.aX,x.seed,x.round,x.replaced,x.cancelled⟩
def dm(x:bp)(c:Int):Bool:=okW x&&ku x c
def xT(x:bp)(c:Int):bC:=x.ak.getD c.toNat (aI .bC)
def KW(x:bp)(c:Int)(b:List UInt8):Bool:=dm x c&&uZ (xT x c) b
def KX(x:bp)(c:Int)(b:List UInt8):bp:=if dm x c then IC x c.toNat (qU (xT x c) b)else x
def Ja(x:bp)(c:Int):bp:=if dm x c then IC x c.toNat (B6 (xT x c))else x
def Bp(x:bp)(c:Int):bp:=if dm x c then IC x c.toNat (FX (xT x c))else x
def beh(s:bw)(b:Int):bw:=⟨s.id,s.rows,s.round,s.received,b⟩
def qV(x:bp)(i b:Int):Bool:=(okW x&&inr i 0 (IntKind.i64.wrap ((x.av.length:Int)-1)))&&inr b 0 3
def LA(x:bp)(i b:Int):bp:=if qV x i b then ac3 x i.toNat (beh (x.av.getD i.toNat (aI .bw)) b)else x
theorem jL{x:bp}{c:Int}(h:dm x c=true):okW x=true∧0≤c∧c<x.ak.length:=by
 simp only[dm,ku,Bool.and_eq_true,cL]at h
 exact⟨h.1,by omega⟩
theorem ID{x:bp}{c:Int}(h:dm x c=true):uY (xT x c):=by
 obtain⟨h1,h2⟩:=jL h
 exact Fc h1 _ (getD_in _ (by omega))
theorem TL{c:eg}{b:List UInt8}(h:zM c):zM (ir c b):=by
 unfold ir
 split
 ·rename_i hk
  simp only[qi,Bool.and_eq_true]at hk
  exact vY hk.2
 ·exact h
theorem TM{d:bC}{b:List UInt8}(h:uY d):uY (qU d b):=by
 unfold qU
 split
 ·exact⟨TL h.1,TL h.2⟩
 ·exact h
theorem Ym{d:bC}(h:uY d):uY (B6 d):=by
 unfold B6
 split
 ·exact⟨h.2,h.2⟩
 ·exact h
theorem IE{x:bp}{i b:Int}(h:qV x i b=true):okW x=true∧(0≤i∧i<x.av.length)∧0≤b∧b≤3:=by
 simp only[qV,Bool.and_eq_true,cL]at h
 have:=ef h.1.1
 rw[bV (a:=(x.av.length:Int)-1) (by omega)]at h
 exact⟨h.1.1,by omega,h.2⟩
end
section
theorem zP(c:eg):nY c.key (IntKind.i64.wrap (1-cU c))=E4 c:=by
 unfold E4
 rw[bV (by unfold cU;split<;>omega)]
theorem KZ{c:eg}{r:Int}{own other:List UInt8}(h:tq c r=false):fL c r own other=c:=by rw[fL,h];rfl
theorem TP{c:eg}{r:Int}(h:tq c r=true):dy c=true∧c.next≤r∧r≤99999∧0≤c.next:=by
 simp only[tq,Bool.and_eq_true,cL]at h
 have:=(qI h.1).2.2.2.2.2.2.1
 exact⟨h.1,h.2.1,h.2.2,this⟩
theorem OE{d:bC}{r:Int}{own other:List UInt8}(h:wq d r=false):rdev d r own other=d:=by rw[rdev,h];rfl
theorem OF{d:bC}{r:Int}{own other:List UInt8}(h:wq d r=true)(hn:wZ (mC d r own other)=true):rdev d r own other=FX (mC d r own other):=by
 have hk:c9 (mC d r own other)=true:=by
  simp only[wZ,Bool.and_eq_true]at hn;exact hn.1
 rw[rdev,if_pos h,if_pos hn,FX,if_pos hk];rfl
theorem OG{d:bC}{r:Int}{own other:List UInt8}(h:wq d r=true)(hn:wZ (mC d r own other)=false):rdev d r own other=mC d r own other:=by
 rw[rdev,if_pos h,hn];rfl
theorem K0{d:bC}{r:Int}{own other:List UInt8}(h:wq d r=true):bO (mC d r own other)≤1048576:=by
 simp only[wq,Bool.and_eq_true]at h
 have hd:=h.2
 simp only[c9,Bool.and_eq_true]at hd
 have hb:uY (mC d r own other):=⟨zN (vY hd.1.1.1.1.1) _ _ _,vY hd.1.1.1.1.2⟩
 have:=gR hb
 omega
theorem aaj{x:bp}(h:okW x=true){k:Nat}(hk:k<x.ak.length)(l:List Int):bO (KJ x (x.ak.getD k (aI .bC)) l)≤1048576:=by
 have:=gR (ML x (x.ak.getD k (aI .bC)) l _ (Fc h _ (getD_in (aI .bC) hk)))
 unfold KJ;omega
theorem TQ{x:bp}(h:okW x=true){k:Nat}(hk:k<x.ak.length)(i:Nat):bO ((rD x k i).getD k (aI .bC))≤1048576:=by
 rw[C1 x k i hk];exact aaj h hk _
theorem TR(x:bp)(k i:Nat)(hk:k<x.ak.length):sU ((rD x k i).getD k (aI .bC)).live (x.ak.getD k (aI .bC)).live:=by
 rw[C1 x k i hk]
 exact Bi x _ _ _ ⟨rfl,rfl,rfl,rfl⟩
theorem TS(x:bp)(k i:Nat)(h:k<x.ak.length)(hi:i<(qM x (x.ak.getD k (aI .bC))).length):
  (rD x k i).set k (rdev ((rD x k i).getD k (aI .bC)) ((qM x (x.ak.getD k (aI .bC))).getD i (aI .int))
   (Ly x ((qM x (x.ak.getD k (aI .bC))).getD i (aI .int)) (iX ((rD x k i).getD k (aI .bC)).live.key ((qM x (x.ak.getD k (aI .bC))).getD i (aI .int)) (cU ((rD x k i).getD k (aI .bC)).live) x.rows) ((rD x k i).getD k (aI .bC)).live.seed)
   (Ly x ((qM x (x.ak.getD k (aI .bC))).getD i (aI .int)) (iX ((rD x k i).getD k (aI .bC)).live.key ((qM x (x.ak.getD k (aI .bC))).getD i (aI .int)) (1-cU ((rD x k i).getD k (aI .bC)).live) x.rows) ((rD x k i).getD k (aI .bC)).live.seed))=rD x k (i+1):=by
 have hs:=TR x k i h
 rw[MB hs,hs.2.2.1,hs.2.2.2]
 exact KK x k i h hi
theorem TT{x:bp}(h:okW x=false):FJ x=x:=by rw[FJ,h];rfl
theorem OH{x:bp}(h:okW x=true):FJ x=⟨x.rows,x.av,x.ak.map (oC x),x.aB,x.aX,x.seed,x.round,x.replaced,x.cancelled⟩:=by rw[FJ,if_pos h]
theorem TU(c:eg):IntKind.i64.wrap (1-cU c)=1-cU c:=bV (by unfold cU;split<;>omega)
end
section
theorem ac9(l:List DB):(l.take ((l.length:Int)).toNat).drop (Int.toNat 1)=l.drop 1:=by simp
theorem K1{α:Type}(l:List α)(k:Nat)(d:α):(l.drop 1).getD k d=l.getD (k+1) d:=by
 rw[List.getD_eq_getElem?_getD,List.getD_eq_getElem?_getD,List.getElem?_drop,Nat.add_comm]
theorem afx{l:List DB}(ha:uX l)(h:(if(!cM l.length)=true then true else !cT (l.getD (Int.toNat 0) (aI .DB)))=true):cM l.length=false:=by
 cases hs:cM l.length with
 |false=>rfl
 |true=>
  rw[hs]at h
  have:=lY ha 0
  have h2:cT (l.getD (Int.toNat 0) (aI .DB))=true:=this
  rw[h2]at h
  cases h
theorem ada{l:List DB}(h:(if(!cM l.length)=true then true else !cT (l.getD (Int.toNat 0) (aI .DB)))=false):cM l.length=true:=by
 cases hs:cM l.length with
 |true=>rfl
 |false=>rw[hs]at h;cases h
theorem afy{l:List DB}(h:(!cM (l.length:Int))=false):(0:Int)≤0∧(0:Int)<(l.length:Int):=by
 have h2:cM (l.length:Int)=true:=by simpa using h
 have:=E8 h2
 omega
theorem OI{rows rd:Int}{p:List bw×List Int}{id:Int}(h:zL p.1 id=true):Bo rows rd p id=(p.1.set id.toNat ⟨id,rows,rd,[],0⟩,p.2++ [id]):=by rw[Bo,if_pos h]
theorem OJ{rows rd:Int}{p:List bw×List Int}{id:Int}(h:zL p.1 id=false):Bo rows rd p id=p:=by rw[Bo,h];rfl
theorem TW{l:List bw}{id:Int}(hl:l.length≤4)(h:zL l id=true):0≤id∧id<l.length:=by
 simp only[zL,cL]at h
 rw[bV (by omega)]at h
 omega
theorem Fg{id rows:Int}(h:0≤id∧id≤3)(hr:1≤rows∧rows≤64):newS id rows 0=⟨id,rows,0,[],0⟩:=by
 have:Cq id rows 0=true:=by simp only[Cq,Bool.and_eq_true,cL];omega
 rw[newS,if_pos this]
def Fh(x:bp)(g:List Int)(k:Nat):List bw×List Int:=FL x.rows x.round (x.av,x.replaced) (g.take k)
theorem K2{x:bp}{g:List Int}{k:Nat}(h:k<g.length):Bo x.rows x.round (Fh x g k) (g.getD k (aI .int))=Fh x g (k+1):=(Fa _ _ _ _ k h).symm
theorem vZ{x:bp}{g:List Int}{k:Nat}(h:g.length≤k):Fh x g k=sB x g:=by unfold Fh sB;rw[List.take_of_length_le h]
theorem zW{x:bp}{g:List Int}{k:Nat}(h:k≤g.length):(Fh x g k).1.length=x.av.length∧(Fh x g k).2.length≤x.replaced.length+k:=Iz _ _ _ g k h
theorem K3{x:bp}{g:List Int}{k:Nat}(hk:okW x=true)(h:k≤g.length):Fb x.round (Fh x g k).1:=TD g (Yk hk) k h
theorem Yn{x:bp}(g:List Int)(hk:okW x=true):Fb x.round (sB x g).1:=by
 have:=K3 (g:=g) hk (Nat.le_refl _)
 rwa [vZ (Nat.le_refl _)]at this
theorem IF(x:bp)(g:List Int):(sB x g).1.length=x.av.length∧(sB x g).2.length≤x.replaced.length+g.length:=by
 have:=zW (x:=x) (g:=g) (Nat.le_refl _)
 rwa [vZ (Nat.le_refl _)]at this
theorem qX{rd:Int}{l:List bw}(h:Fb rd l){k:Nat}(hk:k<l.length):(l.getD k (aI .bw)).round=rd∧ou (l.getD k (aI .bw)):=h _ (getD_in (aI .bw) hk)
def Cs(l:List bw)(k:Nat):List bw:=(l.map jD).take k++l.drop k
theorem OK(l:List bw):Cs l 0=l:=by unfold Cs;simp
theorem zX{l:List bw}{k:Nat}(h:k<l.length):(Cs l k).set k (jD ((Cs l k).getD k (aI .bw)))=Cs l (k+1):=TF l k h
theorem C7{l:List bw}{k:Nat}(h:k<l.length):(Cs l k).getD k (aI .bw)=l.getD k (aI .bw):=kK _ _ _ _ (by rw[List.length_map];omega)
theorem C8{l:List bw}{k:Nat}(h:k≤l.length):(Cs l k).length=l.length:=kL _ _ _ (by rw[List.length_map]) h
theorem C9{l:List bw}{k:Nat}(h:l.length≤k):Cs l k=l.map jD:=by
 unfold Cs
 rw[List.take_of_length_le (by rw[List.length_map];exact h),List.drop_of_length_le h,List.append_nil]
theorem G3{x:bp}{g:List Int}{d:DB}(h:gI x=false):cP x g d=x:=by rw[cP,h];rfl
theorem K4{x:bp}{g:List Int}{d:DB}(h:gI x=true)(hg:g.length=0):cP x g d=⟨x.rows,(sB x g).1.map jD,x.ak,⟨x.aB.rows,C6 x.aB x.round d⟩,x.aX,x.seed,IntKind.i64.wrap (x.round+1),(sB x g).2,x.cancelled⟩:=by
 rw[cP,if_pos h,if_pos hg,if_pos hg]
theorem K5{x:bp}{g:List Int}{d:DB}(h:gI x=true)(hg: ¬g.length=0):cP x g d=⟨x.rows,(sB x g).1.map jD,x.ak,x.aB,x.aX,x.seed,IntKind.i64.wrap (x.round+1),(sB x g).2,IntKind.i64.wrap (x.cancelled+1)⟩:=by
 rw[cP,if_pos h,if_neg hg,if_neg hg]
theorem IG{x:bp}(h:gI x=true):okW x=true∧x.round<99999:=by
 simp only[gI,Bool.and_eq_true,Bool.not_eq_true',decide_eq_false_iff_not]at h
 exact⟨h.1,by omega⟩
theorem MR{a:iP}{r:Int}{d:DB}(h:oJ a r d=false):C6 a r d=a.rounds:=by rw[C6,h];rfl
theorem II{a:iP}{r:Int}{d:DB}(h:oJ a r d=true):C6 a r d=if(8:Int)<(qh a r d).length then(qh a r d).drop 1 else qh a r d:=by rw[C6,if_pos h]
theorem IJ{a:iP}{r:Int}{d:DB}(h:oJ a r d=true):a.rounds.length≤8∧cT d=true:=by
 simp only[oJ,eW,EC,Bool.and_eq_true,decide_eq_true_eq]at h
 exact⟨by omega,h.1.2⟩
theorem K6{s rows:Int}(h:1≤rows∧rows≤64):gz (cA s rows) rows=true:=by
 have e:cA s rows=(List.range rows.toNat).map (ZT s):=by rw[cA,if_pos (by omega)]
 simp only[gz,Bool.and_eq_true,decide_eq_true_eq,List.all_eq_true,cL]
 refine⟨⟨by rw[e];simp;omega,h.2⟩,fun v hv=> ?_⟩
 rw[e]at hv
 obtain⟨i,_,rfl⟩:=List.mem_map.1 hv
 have:=PT (kh s [(i:Int),41])
 unfold ZT
 omega
theorem TX{x:bp}(h:okW x=true){r:Int}(hh:lH x.aB.rounds r=true):cT (iK x.aB.rounds r)=true∧((iK x.aB.rounds r).rows.length:Int)=x.rows:=by
 have ha:=kR h
 simp only[Kf,Bool.and_eq_true,beq_iff_eq]at ha
 have har:x.aB.rows=x.rows:=ha.1.1.1.1.2
 have hok:eW x.aB=true:=ha.1.1.1.1.1.2
 simp only[eW,Bool.and_eq_true,List.all_eq_true,List.mem_range]at hok
 have hi:(x.aB.rounds.findIdx (Te r))<x.aB.rounds.length:=by
  rw[List.findIdx_lt_length]
  obtain⟨y,h1,h2⟩:=List.any_eq_true.1 hh
  exact⟨y,h1,h2⟩
 have hd:=hok.2 _ hi
 simp only[rZ,Bool.and_eq_true,beq_iff_eq]at hd
 have e:iK x.aB.rounds r=(x.aB.rounds.getD (x.aB.rounds.findIdx (Te r)) (aI .aN)).db:=by
  rw[iK,if_pos hh]
  have hh2:x.aB.rounds.any (Te r)=true:=hh
  rw[fidx,if_pos hh2];rfl
 rw[e]
 exact⟨hd.1.2,by rw[←har];exact hd.2⟩
theorem Yo{x:bp}(h:okW x=true){r:Int}(hh:lH x.aB.rounds r=true)(s:Int):ld (iK x.aB.rounds r) (cA s x.rows)=true:=by
 obtain⟨h1,h2⟩:=TX h hh
 apply E5
 have hs:gz (cA s x.rows) ((iK x.aB.rounds r).rows.length:Int)=true:=by rw[h2];exact K6 (ot h).1
 rw[gu,h1,hs]
 simp only[Bool.and_self,if_true]
 rw[dU,sk]
 omega
theorem TY{x:bp}(h:okW x=true)(k:Nat)(hk:k≤x.av.length):Fb x.round (Cr x k).1∧(Cr x k).1.length=x.av.length∧(Cr x k).2.length≤x.replaced.length+k:=by
 have h1:=TD (rows:=x.rows) (rd:=x.round) (p:=(x.av,x.replaced)) (IA x k) (Yk h) (IA x k).length (Nat.le_refl _)
 have h2:=Iz x.rows x.round (x.av,x.replaced) (IA x k) (IA x k).length (Nat.le_refl _)
 rw[List.take_length]at h1 h2
 have h3:=IB x k
 exact⟨h1,h2.1,by have h4:=h2.2;show(FL x.rows x.round (x.av,x.replaced) (IA x k)).2.length≤_;dsimp only at h4;omega⟩
theorem K7{x:bp}(h:xS x=false):testW x=x:=by rw[testW,h];rfl
theorem G4{x:bp}(h:xS x=true):testW x=⟨x.rows,(Cr x x.av.length).1,x.ak,x.aB,x.aX,x.seed,x.round,(Cr x x.av.length).2,x.cancelled⟩:=by rw[testW,if_pos h]
theorem v5{x:bp}(h:gI x=false):cR x=x:=by rw[cR,h];rfl
theorem xZ{x:bp}(h:gI x=true):cR x=FJ (testW (cP x (jf x.aX (bM x) (cZ (bM x)) (gG x) (bM x).length) (jw (cZ (bM x))))):=by rw[cR,if_pos h]
theorem Yp{x:bp}(h:wB x):x.aB.rounds.length≤1048576∧ ∀y,y∈x.aB.rounds→dL List.length y.db.rows≤1048576:=by
 have h2:dL ez x.aB.rounds≤1048576:=h.2.2.1
 refine⟨ec h2,fun y hy=> ?_⟩
 obtain⟨i,hi⟩:=List.mem_iff_getElem?.1 hy
 exact l8 h2 hi
end
section
theorem OL{x:bp}(h:wB x)(hok:okW x=true)(hr:x.replaced.length≤4194000):wB (cP x (jf x.aX (bM x) (cZ (bM x)) (gG x) (bM x).length) (jw (cZ (bM x))))∧wB (testW (cP x (jf x.aX (bM x) (cZ (bM x)) (gG x) (bM x).length) (jw (cZ (bM x))))):=by
 have h1:=oG x.aX (bM x) (cZ (bM x)) (gG x) (bM x).length
 have h4:=(ef hok).1
 rw[lf hok]at h1
 have hc:wC x 4194000:=⟨h.1,h.2.1,h.2.2.1,hr⟩
 have h2:=KU (g:=jf x.aX (bM x) (cZ (bM x)) (gG x) (bM x).length) (d:=jw (cZ (bM x))) hc (G1 _ (pO _))
 rw[lf hok]at h2 ⊢
 exact⟨Fe h2 (by omega),Fe (OC h2) (by omega)⟩
def wR(x:bp):Prop:=wB x∧x.replaced.length≤4194000
theorem K8{x:bp}{n:Nat}(h:wC x n)(hn:n≤4194000):wR x:=⟨Fe h (by omega),Nat.le_trans h.2.2.2 hn⟩
end
section
def mx(a b:Int):Int:=if b>a then b else a
end
section
theorem OM{c:eg}{b:List UInt8}(h:qi c b=false):ir c b=c:=by rw[ir,h];rfl
theorem Ac{c:eg}{b:List UInt8}(h:qi c b=true):ir c b=MN c b:=by rw[ir,if_pos h]
theorem IL{d:bC}{b:List UInt8}(h:uZ d b=false):qU d b=d:=by rw[qU,h];rfl
theorem La{d:bC}{b:List UInt8}(h:uZ d b=true):qU d b=⟨ir d.live b,ir d.saved b⟩:=by rw[qU,if_pos h]
theorem Bv{x:bp}{c:Int}(h:dm x c=true):bO (x.ak.getD c.toNat (aI .bC))≤1048576:=by
 have:=gR (ID h)
 unfold xT at this
 omega
theorem MT{x:bp}{c:Int}{b:List UInt8}(h:dm x c=false):KX x c b=x∧KW x c b=false:=⟨by rw[KX,h];rfl,by rw[KW,h];rfl⟩
theorem Da{x:bp}{c:Int}{b:List UInt8}(h:dm x c=true):KX x c b=IC x c.toNat (qU (xT x c) b)∧KW x c b=uZ (xT x c) b:=⟨by rw[KX,if_pos h],by rw[KW,h,Bool.true_and]⟩
theorem MU{x:bp}{c:Int}(h:dm x c=false):Ja x c=x:=by rw[Ja,h];rfl
theorem ON{x:bp}{c:Int}(h:dm x c=true):Ja x c=IC x c.toNat (B6 (xT x c)):=by rw[Ja,if_pos h]
theorem MV{x:bp}{i b:Int}(h:qV x i b=false):LA x i b=x:=by rw[LA,h];rfl
theorem OO{x:bp}{i b:Int}(h:qV x i b=true):LA x i b=ac3 x i.toNat (beh (x.av.getD i.toNat (aI .bw)) b):=by rw[LA,if_pos h]
end
section
theorem Bx{α:Type}{l m:List α}{k:Nat}(d:α)(h:k<l.length):(l++m).getD k d=l.getD k d:=by
 rw[List.getD_eq_getElem?_getD,List.getD_eq_getElem?_getD,List.getElem?_append_left h]
theorem G5{α:Type}{l:List α}{y:α}(d:α):(l++ [y]).getD l.length d=y:=by
 rw[List.getD_eq_getElem?_getD,List.getElem?_append_right (Nat.le_refl _)];simp
theorem yg{α:Type}(l:List α)(k:Nat)(d:α):(l.drop 1).getD k d=l.getD (k+1) d:=by
 rw[List.getD_eq_getElem?_getD,List.getD_eq_getElem?_getD,List.getElem?_drop,Nat.add_comm]
theorem By{α:Type}{l:List α}{i k:Nat}(d y:α)(h:k<l.length):(l.set i y).getD k d=if i=k then y else l.getD k d:=by
 rw[List.getD_eq_getElem?_getD,List.getD_eq_getElem?_getD,List.getElem?_set]
 split
 ·rename_i e;subst e;simp[h]
 ·rfl
theorem getD_map{α β:Type}(f:α→β){l:List α}{k:Nat}(d:β)(e:α)(h:k<l.length):(l.map f).getD k d=f (l.getD k e):=by
 rw[List.getD_eq_getElem?_getD,List.getD_eq_getElem?_getD,List.getElem?_map,List.getElem?_eq_getElem h];rfl
def Yq(rows rd:Int)(i:Nat)(s:bw):Prop:=s.id=(i:Int)∧s.rows=rows∧s.round=rd∧s.received= []∧0≤s.behavior∧s.behavior≤3
def svs(rows rd:Int)(l:List bw):Prop:= ∀i,i<l.length→Yq rows rd i (l.getD i (aI .bw))
theorem T4{rows rd:Int}{i:Nat}{s:bw}(h:Yq rows rd i s)(hr:1≤rows∧rows≤64)(hd:0≤rd∧rd≤100000)(hi:i≤3):cm s=true:=by
 obtain⟨h1,h2,h3,h4,h5⟩:=h
 simp only[cm,wV,Bool.and_eq_true,cL,decide_eq_true_eq,h4,List.length_nil]
 refine⟨⟨⟨⟨⟨by omega,by omega⟩,by omega⟩,by omega⟩,by omega⟩,by simp⟩
theorem IM{x:bp}{i:Nat}(hr:1≤x.rows∧x.rows≤64)(hd:0≤x.round∧x.round≤100000)(hi:i≤3):GD x i=true↔Yq x.rows x.round i (x.av.getD i (aI .bw)):=by
 constructor
 ·intro h
  simp only[GD,Bool.and_eq_true,beq_iff_eq,decide_eq_true_eq]at h
  obtain⟨⟨⟨⟨h1,h2⟩,h3⟩,h4⟩,h5⟩:=h
  simp only[cm,wV,Bool.and_eq_true,cL]at h1
  exact⟨h2,h3,h4,List.length_eq_zero_iff.1 (by omega),h1.1.1.1.2⟩
 ·intro h
  have h1:=T4 h hr hd hi
  obtain⟨h2,h3,h4,h5,_⟩:=h
  simp only[GD,Bool.and_eq_true,beq_iff_eq,decide_eq_true_eq]
  exact⟨⟨⟨⟨h1,h2⟩,h3⟩,h4⟩,by rw[h5];decide⟩
def inc(rows:Int)(l:List aN):Prop:= ∀i,i<l.length→rZ rows l i=true
theorem nH{a:iP}:eW a=true↔((1≤a.rows∧a.rows≤64)∧a.rounds.length≤8)∧inc a.rows a.rounds:=by
 simp only[eW,EC,Bool.and_eq_true,cL,decide_eq_true_eq,List.all_eq_true,List.mem_range]
 constructor
 ·rintro⟨⟨h1,h2⟩,h3⟩;exact⟨⟨h1,by omega⟩,h3⟩
 ·rintro⟨⟨h1,h2⟩,h3⟩;exact⟨⟨h1,by omega⟩,h3⟩
theorem mH{rows:Int}{l:List aN}{i:Nat}:rZ rows l i=true↔(0≤(l.getD i (aI .aN)).round∧(l.getD i (aI .aN)).round≤100000)∧(0<i→(l.getD (i-1) (aI .aN)).round<(l.getD i (aI .aN)).round)∧cT (l.getD i (aI .aN)).db=true∧((l.getD i (aI .aN)).db.rows.length:Int)=rows:=by
 simp only[rZ,Bool.and_eq_true,cL,beq_iff_eq,Bool.not_eq_true',Bool.and_eq_false_iff,decide_eq_false_iff_not]
 constructor
 ·rintro⟨⟨⟨h1,h2⟩,h3⟩,h4⟩
  refine⟨h1,fun hi=> ?_,h3,h4⟩
  rcases h2 with h2|h2
  ·omega
  ·omega
 ·rintro⟨h1,h2,h3,h4⟩
  refine⟨⟨⟨h1,?_⟩,h3⟩,h4⟩
  by_cases hi:0<i
  ·right;have:=h2 hi;omega
  ·left;omega
theorem T5{rows:Int}{l:List aN}(h:inc rows l):inc rows (l.drop 1):=by
 intro i hi
 have hi:i+1<l.length:=by rw[List.length_drop]at hi;omega
 have h1:=mH.1 (h (i+1) hi)
 rw[mH,yg]
 refine⟨h1.1,fun hp=> ?_,h1.2.2⟩
 rw[yg,show i-1+1=i by omega]
 exact h1.2.1 (by omega)
theorem T6{rows:Int}{l:List aN}{r:Int}{d:DB}(h:inc rows l)(h0:0≤r∧r≤100000)(hl:0<l.length→(l.getD (l.length-1) (aI .aN)).round<r)(hd:cT d=true)(hr:(d.rows.length:Int)=rows):inc rows (l++ [⟨r,d⟩]):=by
 intro i hi
 rw[List.length_append,List.length_singleton]at hi
 by_cases hil:i<l.length
 ·have h1:=mH.1 (h i hil)
  rw[mH,Bx _ hil]
  refine⟨h1.1,fun hp=> ?_,h1.2.2⟩
  rw[Bx _ (by omega)]
  exact h1.2.1 hp
 ·obtain rfl:i=l.length:=by omega
  rw[mH,G5]
  refine⟨h0,fun hp=> ?_,hd,hr⟩
  rw[Bx _ (by omega)]
  exact hl hp
theorem T7{rows:Int}{l:List aN}(h:inc rows l): ∀(j i:Nat),i<j→j<l.length→(l.getD i (aI .aN)).round<(l.getD j (aI .aN)).round
 |0,i,h1,_=>by omega
 |j+1,i,h1,h2=>by
  have h3:=(mH.1 (h (j+1) h2)).2.1 (by omega)
  rw[show j+1-1=j by omega]at h3
  by_cases e:i=j
  ·subst e;exact h3
  ·have:=T7 h j i (by omega) (by omega);omega
theorem v7{a:iP}(h:0<a.rounds.length):dh a=(a.rounds.getD (a.rounds.length-1) (aI .aN)).round:=by rw[dh,if_neg (by omega)]
theorem MX{a:iP}(h:a.rounds= []):dh a= -1:=by rw[dh,h];rfl
theorem aau{a:iP}(h:eW a=true): ∀y,y∈a.rounds→0≤y.round∧y.round≤dh a:=by
 intro y hy
 have h2:=(nH.1 h).2
 obtain⟨i,hi,rfl⟩:=List.mem_iff_getElem.1 hy
 have e:a.rounds[i]=a.rounds.getD i (aI .aN):=by rw[List.getD_eq_getElem?_getD,List.getElem?_eq_getElem hi];rfl
 rw[v7 (by omega),e]
 refine⟨(mH.1 (h2 i hi)).1.1,?_⟩
 by_cases hl:i=a.rounds.length-1
 ·rw[hl];exact Int.le_refl _
 ·exact Int.le_of_lt (T7 h2 _ _ (by omega) (by omega))
theorem Xi{a:iP}{r:Int}{d:DB}(h:eW a=true)(h0:0≤r∧r≤100000)(hl:dh a<r)(hd:cT d=true)(hr:(d.rows.length:Int)=a.rows):oJ a r d=true:=by
 simp only[oJ,Bool.and_eq_true,h,hd,cL,h0,hr,Bool.not_eq_true',decide_eq_false_iff_not,decide_true]
 exact⟨⟨⟨⟨trivial,⟨trivial,trivial⟩⟩,by omega⟩,trivial⟩,trivial⟩
theorem Xj{a:iP}{r:Int}{d:DB}(h:oJ a r d=true):C6 a r d=if(8:Int)<(qh a r d).length then(qh a r d).drop 1 else qh a r d:=by rw[C6,if_pos h]
theorem T8{a:iP}{r:Int}{d:DB}:(qh a r d).length=a.rounds.length+1∧ ∀e,(qh a r d).getD a.rounds.length e=⟨r,d⟩:=by
 unfold qh
 exact⟨by rw[List.length_append];rfl,fun e=>G5 e⟩
theorem T9{a:iP}{r:Int}{d:DB}(h:eW a=true)(h0:0≤r∧r≤100000)(hl:dh a<r)(hd:cT d=true)(hr:(d.rows.length:Int)=a.rows):
  eW ⟨a.rows,C6 a r d⟩=true∧dh ⟨a.rows,C6 a r d⟩=r∧0<(C6 a r d).length∧(C6 a r d).getD ((C6 a r d).length-1) (aI .aN)=⟨r,d⟩:=by
 have ha:=nH.1 h
 have hi:inc a.rows (qh a r d):=T6 ha.2 h0 (fun hp=>by rw[v7 hp]at hl;exact hl) hd hr
 obtain⟨hL,hG⟩:=T8 (a:=a) (r:=r) (d:=d)
 rw[Xj (Xi h h0 hl hd hr)]
 split
 ·rename_i h8
  have hlen:((qh a r d).drop 1).length=a.rounds.length:=by rw[List.length_drop];omega
  have hg:((qh a r d).drop 1).getD (((qh a r d).drop 1).length-1) (aI .aN)=⟨r,d⟩:=by
   rw[hlen,yg,show a.rounds.length-1+1=a.rounds.length by omega];exact hG _
  refine⟨nH.2 ⟨⟨ha.1.1,by show((qh a r d).drop 1).length≤8;omega⟩,T5 hi⟩,?_,by omega,hg⟩
  rw[v7 (by show 0<((qh a r d).drop 1).length;omega)]
  exact congrArg aN.round hg
 ·rename_i h8
  have hg:(qh a r d).getD ((qh a r d).length-1) (aI .aN)=⟨r,d⟩:=by
   rw[hL,show a.rounds.length+1-1=a.rounds.length by omega];exact hG _
  refine⟨nH.2 ⟨⟨ha.1.1,by show(qh a r d).length≤8;omega⟩,hi⟩,?_,by omega,hg⟩
  rw[v7 (by show 0<(qh a r d).length;omega)]
  exact congrArg aN.round hg
structure G6(x:bp):Prop where
 rows:1≤x.rows∧x.rows≤64
 Yr:2≤x.av.length∧x.av.length≤4
 ndv:2≤x.ak.length∧x.ak.length≤8
 even:x.ak.length % 2=0
 Xk:eW x.aB=true
 Fk:x.aB.rows=x.rows
 last:dh x.aB<x.round
 key:fK x.aX=true
 round:0≤x.round∧x.round≤100000
 yh:0≤x.cancelled
 sv:svs x.rows x.round x.av
 dv: ∀i,i<x.ak.length→okD x i=true
theorem G6.of{x:bp}(h:okW x=true):G6 x:=by
 have hh:=kR h
 have he:=ni hh
 have hs:=ef h
 have hh2:=hh
 simp only[Kf,Bool.and_eq_true,cL,beq_iff_eq,decide_eq_true_eq]at hh
 obtain⟨⟨⟨⟨⟨⟨⟨⟨⟨h1,h2⟩,h3⟩,h4⟩,h5⟩,h6⟩,h7⟩,h8⟩,h9⟩,h10⟩:=hh
 exact⟨h1,⟨hs.2,hs.1⟩,⟨he.2.2,he.2.1⟩,he.1,h5,h6,h7,h8,h9,h10,fun i hi=>(IM h1 h9 (by omega)).1 (Ij h hi),fun i hi=>sn h hi⟩
theorem G6.ok{x:bp}(h:G6 x):okW x=true:=by
 obtain⟨h1,h2,h3,h4,h5,h6,h7,h8,h9,h10,h11,h12⟩:=h
 have ht:(x.ak.length:Int).tmod 2=0:=by rw[ep (by omega)];omega
 simp only[okW,Kf,cM,Bool.and_eq_true,cL,beq_iff_eq,decide_eq_true_eq,List.all_eq_true,List.mem_range]
 exact⟨⟨⟨⟨⟨⟨⟨⟨⟨⟨⟨h1,by omega⟩,by omega⟩,ht⟩,h5⟩,h6⟩,h7⟩,h8⟩,h9⟩,h10⟩,fun i hi=>(IM h1 h9 (by omega)).2 (h11 i hi)⟩,h12⟩
theorem Xl{rows rd:Int}{p:List bw×List Int}{id:Int}(hl:p.1.length≤4)(h:svs rows rd p.1):svs rows rd (Bo rows rd p id).1:=by
 unfold Bo
 split
 ·rename_i hk
  simp only[zL,cL]at hk
  rw[bV (by omega)]at hk
  intro i hi
  rw[List.length_set]at hi
  show Yq rows rd i ((p.1.set id.toNat ⟨id,rows,rd,[],0⟩).getD i (aI .bw))
  rw[By _ _ hi]
  split
  ·rename_i e
   exact⟨by show id=(i:Int);omega,rfl,rfl,rfl,Int.le_refl _,by show(0:Int)≤3;decide⟩
  ·exact h i hi
 ·exact h
theorem IN{rows rd:Int}: ∀(g:List Int) {p:List bw×List Int},p.1.length≤4→svs rows rd p.1→svs rows rd (FL rows rd p g).1∧(FL rows rd p g).1.length=p.1.length
 | [],_,_,h=>⟨h,rfl⟩
 |i::g,p,hl,h=>by
  have mo:=(Iy rows rd p i).1
  have:=IN g (p:=Bo rows rd p i) (by omega) (Xl (id:=i) hl h)
  exact⟨this.1,this.2.trans mo⟩
theorem Xm{rows rd:Int}{i:Nat}{s:bw}(h:Yq rows rd i s)(hr:1≤rows∧rows≤64)(hd:0≤rd∧rd<100000)(hi:i≤3):Yq rows (rd+1) i (jD s):=by
 have hk:=T4 h hr (by omega) hi
 obtain⟨h1,h2,h3,h4,h5⟩:=h
 have hb:E9 s=true:=by
  simp only[E9,hk,Bool.true_and,Bool.not_eq_true',beq_eq_false_iff_ne];omega
 rw[jD,if_pos hb]
 refine⟨h1,h2,?_,rfl,h5⟩
 show IntKind.i64.wrap (s.round+1)=rd+1
 rw[bV (by omega),h3]
theorem G7{x y:bp}{i:Nat}(hd:y.ak=x.ak)(hr:x.round≤y.round)(h:okD x i=true):okD y i=true:=by
 simp only[okD,Bool.and_eq_true,decide_eq_true_eq]at h ⊢
 rw[hd]
 exact⟨h.1,by omega⟩
theorem Fl{x:bp}(h:okW x=true)(hr:x.round<99999):gI x=true:=by
 simp only[gI,h,Bool.true_and,Bool.not_eq_true',decide_eq_false_iff_not];omega
theorem Qg{x:bp}{g:List Int}{d:DB}(h:okW x=true)(hr:x.round<99999)(hc:x.cancelled<9223372036854775807)(hd:g= []→cT d=true∧(d.rows.length:Int)=x.rows):okW (cP x g d)=true:=by
 have w:=G6.of h
 have hp:=IN (rows:=x.rows) (rd:=x.round) g (p:=(x.av,x.replaced)) w.Yr.2 w.sv
 have w1:=w.rows;have w2:=w.Yr;have w3:=w.round;have w4:=w.yh
 have hrd:IntKind.i64.wrap (x.round+1)=x.round+1:=bV (by omega)
 rw[cP,if_pos (Fl h hr)]
 have o7:svs x.rows (x.round+1) ((sB x g).1.map jD):=by
  intro i hi
  rw[List.length_map]at hi
  have hi4:i≤3:=by have:=hp.2;unfold sB at hi;dsimp only at this;omega
  rw[getD_map jD _ (aI .bw) hi]
  exact Xm (hp.1 i hi) w1 (by omega) hi4
 have hlen:((sB x g).1.map jD).length=x.av.length:=by rw[List.length_map];exact hp.2
 have adh:eW ⟨x.aB.rows,if g.length=0 then C6 x.aB x.round d else x.aB.rounds⟩=true∧dh ⟨x.aB.rows,if g.length=0 then C6 x.aB x.round d else x.aB.rounds⟩<x.round+1:=by
  by_cases hg:g.length=0
  ·obtain⟨q1,q2⟩:=hd (List.length_eq_zero_iff.1 hg)
   rw[if_pos hg]
   have:=T9 w.Xk (by omega:0≤x.round∧x.round≤100000) w.last q1 (by rw[w.Fk];exact q2)
   exact⟨this.1,by rw[this.2.1];omega⟩
  ·rw[if_neg hg]
   have:=w.last
   exact⟨w.Xk,by show dh x.aB<_;omega⟩
 refine G6.ok ⟨w1,by dsimp only;rw[hlen];exact w2,w.ndv,w.even,adh.1,w.Fk,?_,w.key,?_,?_,?_,fun i hi=> ?_⟩
 ·dsimp only;rw[hrd];exact adh.2
 ·dsimp only;rw[hrd];omega
 ·dsimp only
  split
  ·exact w4
  ·rw[bV (by omega)];omega
 ·dsimp only;rw[hrd];exact o7
 ·exact G7 (x:=x) rfl (by dsimp only;rw[hrd];omega) (w.dv i hi)
theorem Ua{x:bp}(h:okW x=true):okW (testW x)=true:=by
 unfold testW
 split
 ·have w:=G6.of h
  have hp:=IN (rows:=x.rows) (rd:=x.round) (IA x x.av.length) (p:=(x.av,x.replaced)) w.Yr.2 w.sv
  have w2:=w.Yr
  refine G6.ok ⟨w.rows,?_,w.ndv,w.even,w.Xk,w.Fk,w.last,w.key,w.round,w.yh,hp.1,fun i hi=>G7 (x:=x) rfl (Int.le_refl _) (w.dv i hi)⟩
  have hp2:(FL x.rows x.round (x.av,x.replaced) (IA x x.av.length)).1.length=x.av.length:=hp.2
  show 2≤(FL x.rows x.round (x.av,x.replaced) (IA x x.av.length)).1.length∧(FL x.rows x.round (x.av,x.replaced) (IA x x.av.length)).1.length≤4
  rw[hp2];exact w2
 ·exact h
theorem Fm{a b:List (List UInt8)}:AV a b=true↔a.length≤b.length∧a=b.take a.length:=by
 simp only[AV,Bool.and_eq_true,decide_eq_true_eq,beq_iff_eq]
 constructor
 ·rintro⟨h1,h2⟩;exact⟨by omega,h2⟩
 ·rintro⟨h1,h2⟩;exact⟨by omega,h2⟩
theorem Bz(a:List (List UInt8)):AV a a=true:=Fm.2 ⟨Nat.le_refl _,(List.take_length).symm⟩
theorem Ub{a b c:List (List UInt8)}(h:AV a b=true):AV a (b++c)=true:=by
 obtain⟨h1,h2⟩:=Fm.1 h
 refine Fm.2 ⟨by rw[List.length_append];omega,?_⟩
 rw[List.take_append_of_le_length h1];exact h2
theorem BA{c:eg}:dy c=true↔(((0≤c.id∧c.id≤7)∧(0≤c.ct∧c.ct≤7))∧c.id≠c.ct∧fK c.key=true)∧zM c∧(0≤c.sent∧c.sent≤c.aJ.length)∧0≤c.next∧c.next≤100000:=by
 simp only[dy,zM,Bool.and_eq_true,Bool.not_eq_true',List.any_eq_false,cL,decide_eq_true_eq,beq_eq_false_iff_ne]
 have hl: ∀b:List UInt8, ¬AU b=true↔b.length≤14:=by
  intro b;simp only[AU,decide_eq_true_eq];omega
 constructor
 ·rintro⟨⟨⟨⟨⟨⟨⟨⟨⟨h1,h2⟩,h3⟩,h4⟩,h5⟩,h6⟩,h7⟩,h8⟩,h9⟩,h10⟩
  exact⟨⟨⟨h1,h2⟩,h3,h4⟩,⟨by omega,by omega,fun b hb=>(hl b).1 (h7 b hb),fun b hb=>(hl b).1 (h8 b hb)⟩,h9,h10⟩
 ·rintro⟨⟨⟨h1,h2⟩,h3,h4⟩,⟨h5,h6,h7,h8⟩,h9,h10⟩
  exact⟨⟨⟨⟨⟨⟨⟨⟨⟨h1,h2⟩,h3⟩,h4⟩,by omega⟩,by omega⟩,fun b hb=>(hl b).2 (h7 b hb)⟩,fun b hb=>(hl b).2 (h8 b hb)⟩,h9⟩,h10⟩
theorem Uc{c:eg}{r:Int}{own other:List UInt8}(h:dy c=true):dy (fL c r own other)=true:=by
 by_cases hk:tq c r=true
 ·have hB:=zN (vY h) r own other
  rw[fL,if_pos hk]at hB ⊢
  obtain⟨h1,_,h3,h4⟩:=BA.1 h
  simp only[tq,Bool.and_eq_true,cL]at hk
  refine BA.2 ⟨h1,hB,?_,?_⟩
  ·dsimp only
   split
   ·rename_i hh
    simp only[sS,Bool.and_eq_true,decide_eq_true_eq]at hh
    omega
   ·exact h3
  ·dsimp only;omega
 ·rw[fL,if_neg hk];exact h
structure Ud(d:bC):Prop where
 live:dy d.live=true
 saved:dy d.saved=true
 same:iY d.live d.saved=true
 sent:d.saved.sent≤d.live.sent
 next:d.saved.next≤d.live.next
 pre:AV d.saved.inbox d.live.inbox=true
theorem Ud.iff{d:bC}:c9 d=true↔Ud d:=by
 simp only[c9,Bool.and_eq_true,decide_eq_true_eq]
 constructor
 ·rintro⟨⟨⟨⟨⟨h1,h2⟩,h3⟩,h4⟩,h5⟩,h6⟩;exact⟨h1,h2,h3,h4,h5,h6⟩
 ·rintro⟨h1,h2,h3,h4,h5,h6⟩;exact⟨⟨⟨⟨⟨h1,h2⟩,h3⟩,h4⟩,h5⟩,h6⟩
theorem gA{a b:eg}:iY a b=true↔sU a b∧a.aJ=b.aJ:=by
 simp only[iY,sU,Bool.and_eq_true,beq_iff_eq]
 constructor
 ·rintro⟨⟨⟨⟨h1,h2⟩,h3⟩,h4⟩,h5⟩;exact⟨⟨h1,h2,h3,h4⟩,h5⟩
 ·rintro⟨⟨h1,h2,h3,h4⟩,h5⟩;exact⟨⟨⟨⟨h1,h2⟩,h3⟩,h4⟩,h5⟩
theorem Qh(c:eg)(r:Int)(own other:List UInt8):(fL c r own other).aJ=c.aJ∧c.sent≤(fL c r own other).sent∧(fL c r own other).sent≤c.sent+1∧c.next≤(fL c r own other).next∧ ∃m,(fL c r own other).inbox=c.inbox++m:=by
 unfold fL
 split
 ·rename_i hk
  simp only[tq,Bool.and_eq_true,cL]at hk
  refine⟨rfl,?_,?_,?_,?_⟩
  ·dsimp only;split<;>omega
  ·dsimp only;split<;>omega
  ·dsimp only;omega
  ·dsimp only
   split
   ·exact⟨_,rfl⟩
   ·exact⟨[],(List.append_nil _).symm⟩
 ·exact⟨rfl,Int.le_refl _,by omega,Int.le_refl _,[],(List.append_nil _).symm⟩
theorem Xn{d:bC}{r:Int}{own other:List UInt8}(h:c9 d=true):c9 (rdev d r own other)=true:=by
 have hd:=Ud.iff.1 h
 unfold rdev
 split
 ·have hc:=Uc (r:=r) (own:=own) (other:=other) hd.live
  split
  ·exact Ud.iff.2 ⟨hc,hc,gA.2 ⟨⟨rfl,rfl,rfl,rfl⟩,rfl⟩,Int.le_refl _,Int.le_refl _,Bz _⟩
  ·obtain⟨q1,q2,_,q3,m,q4⟩:=Qh d.live r own other
   obtain⟨p1,p2⟩:=gA.1 hd.same
   have p3:=xP d.live r own other
   refine Ud.iff.2 ⟨hc,hd.saved,gA.2 ⟨⟨p3.1.trans p1.1,p3.2.1.trans p1.2.1,p3.2.2.1.trans p1.2.2.1,p3.2.2.2.trans p1.2.2.2⟩,q1.trans p2⟩,Int.le_trans hd.sent q2,Int.le_trans hd.next q3,?_⟩
   show AV d.saved.inbox (fL d.live r own other).inbox=true
   rw[q4]
   exact Ub hd.pre
 ·exact h
theorem Qi{d:bC}{r:Int}{own other:List UInt8}{R:Int}(h:d.live.next≤R)(hr:r+1≤R):(rdev d r own other).live.next≤R:=by
 have key:(fL d.live r own other).next≤R:=by
  unfold fL
  split
  ·exact hr
  ·exact h
 unfold rdev
 split
 ·split
  ·exact key
  ·exact key
 ·exact h
theorem OQ(x:bp)(d0:bC){R:Int}: ∀(l:List Int) (d:bC),(∀r,r∈l→r+1≤R)→c9 d=true→d.live.next≤R→c9 (l.foldl (MC x d0) d)=true∧(l.foldl (MC x d0) d).live.next≤R
 | [],_,_,h1,h2=>⟨h1,h2⟩
 |r::l,d,hl,h1,h2=>OQ x d0 l _ (fun q hq=>hl q (List.mem_cons_of_mem _ hq)) (Xn h1) (Qi h2 (hl r (List.mem_cons_self ..)))
theorem MY{l:List aN}{f r:Int}(h:r∈gX l f):f≤r∧ ∃y,y∈l∧y.round=r:=by
 unfold gX at h
 obtain⟨y,hy,rfl⟩:=List.mem_map.1 h
 rw[List.mem_filter]at hy
 exact⟨by simpa using hy.2,y,hy.1,rfl⟩
theorem Le{x:bp}{i:Nat}(h:okW x=true)(hi:i<x.ak.length):c9 (oC x (x.ak.getD i (aI .bC)))=true∧(oC x (x.ak.getD i (aI .bC))).live.next≤x.round∧sU (oC x (x.ak.getD i (aI .bC))).live (x.ak.getD i (aI .bC)).live:=by
 have w:=G6.of h
 have hd:=sn h hi
 simp only[okD,Bool.and_eq_true,decide_eq_true_eq]at hd
 have h1:=OQ x (x.ak.getD i (aI .bC)) (R:=x.round) (qM x (x.ak.getD i (aI .bC))) _ (fun r hr=>by
  obtain⟨_,y,hy,rfl⟩:=MY hr
  have:=(aau w.Xk y hy).2
  have:=w.last
  omega) hd.1.1.1.1 hd.2
 exact⟨h1.1,h1.2,Bi x _ _ _ ⟨rfl,rfl,rfl,rfl⟩⟩
theorem aax{x:bp}(h:okW x=true):okW (FJ x)=true:=by
 have w:=G6.of h
 rw[FJ,if_pos h]
 have hg: ∀i,i<x.ak.length→(x.ak.map (oC x)).getD i (aI .bC)=oC x (x.ak.getD i (aI .bC)):=fun i hi=>getD_map _ _ _ hi
 refine G6.ok ⟨w.rows,w.Yr,by dsimp only;rw[List.length_map];exact w.ndv,by dsimp only;rw[List.length_map];exact w.even,w.Xk,w.Fk,w.last,w.key,w.round,w.yh,w.sv,fun i hi=> ?_⟩
 have hi:i<x.ak.length:=by dsimp only at hi;rwa [List.length_map]at hi
 obtain⟨q1,q2,q3⟩:=Le h hi
 have hd:=sn h hi
 have hx:=xA i x.ak.length hi w.even
 obtain⟨_,_,p3⟩:=Le h hx
 simp only[okD,Bool.and_eq_true,decide_eq_true_eq,beq_iff_eq]at hd ⊢
 rw[hg i hi,hg _ hx]
 exact⟨⟨⟨⟨q1,q3.1.trans hd.1.1.1.2⟩,q3.2.1.trans hd.1.1.2⟩,by rw[q3.2.2.1,p3.2.2.1];exact hd.1.2⟩,q2⟩
end
section
theorem Fo{rows:Int}(h:0≤rows∧rows≤64):((dz rows).rows.length:Int)=rows:=by
 rw[nF h,List.length_replicate];omega
theorem Ue{rows i:Int}{c:List UInt8}(h:qE rows i c=true):((SY rows i c).rows.length:Int)=rows:=by
 have h':=h
 simp only[qE,Bool.and_eq_true]at h'
 have hr:1≤rows∧rows≤64:=by have:=h'.1;rw[cL]at this;exact this
 rw[SY,if_pos h'.1,vR h'.2]
 show(((dz rows).rows.set i.toNat c).length:Int)=rows
 rw[List.length_set];exact Fo (by omega)
theorem G8{α:Type}(f:α→DB): ∀(l:List α) (d:DB),(l.foldl (fun d s=>gN d (f s)) d).rows.length=d.rows.length:=by
 intro l
 induction l with
 |nil=>intro d;rfl
 |cons x r ih=>intro d;rw[List.foldl_cons,ih,xQ]
theorem MZ{rows i:Int}{c:List UInt8}(h:qE rows i c=true)(sd:List Int):((wX rows i c sd).rows.length:Int)=rows:=by
 unfold wX;rw[G8 (fun s=>QB s rows)];exact Ue h
theorem M0{rows i:Int}{c:List UInt8}{sd:List Int}: ∀d,d∈qH rows i c sd→(d.rows.length:Int)=rows:=by
 intro d hd
 unfold qH at hd
 split at hd
 ·rename_i h
  have hu:qE rows i c=true:=by simp only[td,Bool.and_eq_true]at h;exact h.1
  rcases List.mem_append.1 hd with h1|h1
  ·obtain⟨s,_,rfl⟩:=List.mem_map.1 h1
   have:=(Ii hu).2
   show((gF s rows).length:Int)=rows
   rw[mA];omega
  ·rw[List.mem_singleton.1 h1];exact MZ hu sd
 ·cases hd
def Uf(x:bp)(i:Nat)(c:Nat):DB:=(dB x (c:Int)).getD i (aI .DB)
def rcs(x:bp)(i n:Nat):List aR:=(List.range n).map fun c:Nat=>⟨(c:Int),Uf x i c⟩
theorem Ug(x:bp)(i n:Nat):rcs x i (n+1)=rcs x i n++ [⟨(n:Int),Uf x i n⟩]:=by
 unfold rcs;rw[List.range_succ,List.map_append];rfl
theorem Xo(x:bp)(i n:Nat):(rcs x i n).length=n:=by simp[rcs]
theorem OR(x:bp)(i n:Nat){k:Nat}(h:k<n):(rcs x i n).getD k (aI .aR)=⟨(k:Int),Uf x i k⟩:=eT _ _ _ _ h
def BB(x:bp)(k i:Nat):bw:=⟨(x.av.getD i (aI .bw)).id,(x.av.getD i (aI .bw)).rows,(x.av.getD i (aI .bw)).round,rcs x i k,(x.av.getD i (aI .bw)).behavior⟩
theorem adi{x:bp}(h:okW x=true):2≤x.ak.length∧x.ak.length≤8:=by
 have:=kR h
 simp only[Kf,Bool.and_eq_true,cL]at this
 omega
theorem aay{x:bp}(h:okW x=true){i c:Nat}(hi:i<x.av.length)(hc:c<x.ak.length):cT (Uf x i c)=true∧((Uf x i c).rows.length:Int)=x.rows:=by
 have hl:(dB x (c:Int)).length=x.av.length:=kg h (by omega)
 have hm:Uf x i c∈dB x (c:Int):=getD_in _ (by omega)
 exact⟨xJ h _ hm,M0 _ hm⟩
theorem Uh{x:bp}(h:okW x=true){i:Nat}(hi:i<x.av.length):(x.av.getD i (aI .bw)).id=(i:Int)∧(x.av.getD i (aI .bw)).rows=x.rows∧(x.av.getD i (aI .bw)).round=x.round∧(x.av.getD i (aI .bw)).received= []∧0≤(x.av.getD i (aI .bw)).behavior∧(x.av.getD i (aI .bw)).behavior≤3:=by
 have hs:=ef h
 have hr:=ot h
 exact(IM hr.1 hr.2 (by omega)).1 (Ij h hi)
theorem IP{x:bp}(h:okW x=true){k i:Nat}(hi:i<x.av.length)(hk:k≤x.ak.length):cm (BB x k i)=true:=by
 have hs:=ef h
 have hr:=ot h
 have hn:=adi h
 obtain⟨h1,h2,h3,h4,h5⟩:=Uh h hi
 have hl:(BB x k i).received.length=k:=Xo x i k
 simp only[cm,wV,Bool.and_eq_true,cL,decide_eq_true_eq,List.all_eq_true,hl]
 refine⟨⟨⟨⟨⟨?_,?_⟩,?_⟩,?_⟩,?_⟩,fun j hj=> ?_⟩
 ·show 0≤(x.av.getD i (aI .bw)).id∧(x.av.getD i (aI .bw)).id≤3
  omega
 ·show 1≤(x.av.getD i (aI .bw)).rows∧(x.av.getD i (aI .bw)).rows≤64
  omega
 ·exact h5
 ·show 0≤(x.av.getD i (aI .bw)).round∧(x.av.getD i (aI .bw)).round≤100000
  omega
 ·omega
 ·have hj':j<k:=List.mem_range.1 hj
  have e:(BB x k i).received.getD j (aI .aR)=⟨(j:Int),Uf x i j⟩:=OR x i k hj'
  have ho:=aay h hi (show j<x.ak.length by omega)
  have er:(BB x k i).rows=x.rows:=h2
  simp only[nZ,e,Bool.and_eq_true,cL,beq_iff_eq,Bool.not_eq_true',Bool.and_eq_false_iff,decide_eq_false_iff_not,er]
  refine⟨⟨⟨by omega,?_⟩,ho.1⟩,ho.2⟩
  by_cases hz:j=0
  ·left;omega
  ·right
   have e':(BB x k i).received.getD (j-1) (aI .aR)=⟨((j-1:Nat):Int),Uf x i (j-1)⟩:=OR x i k (by omega)
   rw[e']
   show¬(j:Int)≤((j-1:Nat):Int)
   omega
theorem OS{x:bp}(h:okW x=true){i:Nat}(hi:i<x.av.length): ∀k,k≤x.ak.length→(wk x k).getD i (aI .bw)=BB x k i
 |0,_=>by
  have h4:=(Uh h hi).2.2.2.1
  show x.av.getD i (aI .bw)=BB x 0 i
  unfold BB
  have e:rcs x i 0=(x.av.getD i (aI .bw)).received:=by rw[h4];rfl
  rw[e]
 |k+1,hk=>by
  have ha:kY (BB x k i) (k:Int) (Uf x i k)=BB x (k+1) i:=by
   unfold kY
   show(⟨_,_,_,rcs x i k++ [⟨(k:Int),Uf x i k⟩],_⟩:bw)=_
   rw[←Ug];rfl
  rw[KB h (by omega) hi,OS h hi k (by omega)]
  show My (BB x k i) (k:Int) (Uf x i k)=_
  rw[Il (by unfold kZ;rw[ha,IP h hi (by omega),IP h hi hk];rfl),ha]
theorem Xp{x:bp}(h:okW x=true){i:Nat}(hi:i<x.av.length):(bM x).getD i (aI .bw)=BB x x.ak.length i:=by
 rw[bM,if_pos h];exact OS h hi _ (Nat.le_refl _)
theorem G9(rows:Int)(l:List aR):(gH rows l).rows.length=(dz rows).rows.length:=G8 (fun r:aR=>r.share) l _
theorem Ui(d:DB):(alt d).rows.length=d.rows.length:=List.length_set ..
theorem Uj{x:bp}(h:okW x=true){d:DB}(hd:d∈cZ (bM x)):(d.rows.length:Int)=x.rows:=by
 obtain⟨s,hs,rfl⟩:=List.mem_map.1 hd
 obtain⟨i,hi⟩:=List.mem_iff_getElem?.1 hs
 have hl:i<x.av.length:=by
  have:=(List.getElem?_eq_some_iff.1 hi).1
  rw[lf h]at this;exact this
 have e:s=BB x x.ak.length i:=by
  rw[←Xp h hl,List.getD_eq_getElem?_getD,hi];rfl
 have hr:s.rows=x.rows:=by rw[e];exact(Uh h hl).2.1
 have hk:cm s=true:=by rw[e];exact IP h hl (Nat.le_refl _)
 have hw:=ot h
 have hn:((dz s.rows).rows.length:Int)=x.rows:=by rw[hr];exact Fo (by omega)
 unfold sy
 rw[if_pos hk]
 split
 ·rw[Ui,G9];exact hn
 ·rw[G9];exact hn
theorem Lf: ∀(l:List DB) (a:DB),cT a=true→(∀d,d∈l→cT d=true∧d.rows.length=a.rows.length)→ ∃d,Lz a l=some d∧d.rows.length=a.rows.length
 | [],a,_,_=>⟨a,rfl,rfl⟩
 |s::r,a,ha,hl=>by
  have hs:=hl s (List.mem_cons_self ..)
  have hx:iZ a s=true:=by
   simp only[iZ,Bool.and_eq_true,decide_eq_true_eq]
   exact⟨⟨ha,hs.1⟩,by omega⟩
  have he:=xQ a s
  obtain⟨d,h1,h2⟩:=Lf r (gN a s) (vX ha) (fun d hd=>by
   have:=hl d (List.mem_cons_of_mem _ hd)
   exact⟨this.1,by omega⟩)
  exact⟨d,by rw[Lz,if_pos hx,h1],by omega⟩
theorem Lg{x:bp}(h:okW x=true):Co (cZ (bM x))=true∧((jw (cZ (bM x))).rows.length:Int)=x.rows:=by
 have hs:=ef h
 have hl:(cZ (bM x)).length=x.av.length:=by rw[show(cZ (bM x)).length=(bM x).length from List.length_map ..,lf h]
 have h0:(cZ (bM x)).getD 0 (aI .DB)∈cZ (bM x):=getD_in _ (by omega)
 have e0:=Uj h h0
 obtain⟨d,h1,h2⟩:=Lf ((cZ (bM x)).drop 1) ((cZ (bM x)).getD 0 (aI .DB)) (pO (bM x) _ h0) (fun d hd=>by
  have hm:=List.mem_of_mem_drop hd
  have:=Uj h hm
  exact⟨pO (bM x) _ hm,by omega⟩)
 have e:Ov (cZ (bM x))=some d:=by
  rw[Ov,if_pos (by simp only[cM,cL];omega),h1]
 exact⟨by rw[Co,e];rfl,by rw[jw,e];show(d.rows.length:Int)=x.rows;omega⟩
end
section
structure cu where
 b:List UInt8
 i:Nat
 h:Int
def Qj(x:Int):Int:=IntKind.i64.wrap (BitVec.ofInt IntKind.i64.bits x&&&BitVec.ofInt IntKind.i64.bits 255).toNat
theorem Uk(x:Int):0≤Qj x∧Qj x≤255:=by
 have h:(BitVec.ofInt IntKind.i64.bits x&&&BitVec.ofInt IntKind.i64.bits 255).toNat≤255:=by
  rw[BitVec.toNat_and];exact Nat.le_trans Nat.and_le_right (by decide)
 unfold Qj
 rw[bV (by omega)];omega
def cu.h1(c:cu):Int:=IntKind.i64.wrap (IntKind.i64.wrap (c.h*6364136223846793005)+1442695040888963407)
def cu.x0(c:cu):Int:=Qj (IntKind.i64.wrap (BitVec.ofInt IntKind.i64.bits (c.h1.fdiv (2^(min (Int.toNat 33) IntKind.i64.bits)))^^^BitVec.ofInt IntKind.i64.bits (c.h1.fdiv (2^(min (Int.toNat 47) IntKind.i64.bits)))).toNat)
def cu.x(c:cu):Int:=if c.i<c.b.length then Qj (IntKind.i64.wrap (c.x0+IntKind.i64.wrap ((c.b.getD c.i (aI .u8)).toNat:Int)))else c.x0
def cu.n(c:cu):cu:=⟨c.b,if c.i<c.b.length then c.i+1 else c.i,c.h1⟩
theorem cu.x_b(c:cu):0≤c.x∧c.x≤255:=by
 unfold cu.x
 split
 ·exact Uk _
 ·exact Uk _
def aV(c:cu)(n:Int):Int:=if n≤0 then 0 else if n≤256 then c.x.tmod n else(IntKind.i64.wrap (IntKind.i64.wrap (IntKind.i64.wrap (c.x*65536)+IntKind.i64.wrap (c.n.x*256))+c.n.n.x)).tmod n
def aA(c:cu)(n:Int):cu:=if n≤0 then c else if n≤256 then c.n else c.n.n.n
theorem aQ(c:cu)(n:Int):(aA c n).b=c.b:=by
 unfold aA
 split
 ·rfl
 ·split<;>rfl
theorem cS(c:cu){n:Int}(h:0<n):0≤aV c n∧aV c n<n:=by
 have h1:=c.x_b;have h2:=c.n.x_b;have h3:=c.n.n.x_b
 unfold aV
 rw[if_neg (by omega)]
 split
 ·rw[ep h1.1];exact⟨Int.emod_nonneg _ (by omega),Int.emod_lt_of_pos _ h⟩
 ·rw[bV (a:=c.x*65536) (by omega),bV (a:=c.n.x*256) (by omega),bV (a:=c.x*65536+c.n.x*256) (by omega),bV (by omega),ep (by omega)]
  exact⟨Int.emod_nonneg _ (by omega),Int.emod_lt_of_pos _ h⟩
theorem BC(c:cu)(n:Int):0≤aV c n:=by
 by_cases h:0<n
 ·exact(cS c h).1
 ·rw[aV,if_pos (by omega)];exact Int.le_refl 0
def Ag(c:cu):Nat→cu
 |0=>c
 |k+1=>(Ag c k).n
def tG(c:cu):Nat→List UInt8
 |0=> []
 |k+1=>tG c k++ [b8 (Ag c k).x]
theorem qZ(c:cu): ∀k,(Ag c k).b=c.b
 |0=>rfl
 |k+1=>qZ c k
theorem iq(c:cu): ∀k,(tG c k).length=k
 |0=>rfl
 |k+1=>by rw[tG,List.length_append,iq c k];rfl
def adj(h:Int)(x:UInt8):Int:=IntKind.i64.wrap (BitVec.ofInt IntKind.i64.bits (IntKind.i64.wrap (IntKind.i64.wrap (IntKind.i64.wrap (h*137)+IntKind.i64.wrap (x.toNat:Int))+11))&&&BitVec.ofInt IntKind.i64.bits 1073741823).toNat
def Xq(l:List UInt8)(k:Nat):Int:=(l.take k).foldl adj (IntKind.i64.wrap (193017+(l.length:Int)))
theorem Qk{l:List UInt8}{k:Nat}(h:k<l.length):Xq l (k+1)=adj (Xq l k) (l.getD k (aI .u8)):=rW _ _ _ _ _ h
def Fp(l:List UInt8):Nat:=min l.length 4000
def Fq(l:List UInt8):cu:=⟨l,0,Xq l (Fp l)⟩
theorem aaz{l:List UInt8}{k:Nat}(h:(if decide ((k:Int)<(l.length:Int))=true then decide ((k:Int)<4000)else false)=true):k<Fp l:=by
 unfold Fp
 by_cases h1:(k:Int)<(l.length:Int)
 ·rw[if_pos (by simpa using h1),decide_eq_true_eq]at h;omega
 ·rw[if_neg (by simpa using h1)]at h;cases h
theorem Xr{l:List UInt8}{k:Nat}(hk:k≤Fp l)(h:(if decide ((k:Int)<(l.length:Int))=true then decide ((k:Int)<4000)else false)=false):k=Fp l:=by
 unfold Fp at hk ⊢
 by_cases h1:(k:Int)<(l.length:Int)
 ·rw[if_pos (by simpa using h1),decide_eq_false_iff_not]at h;omega
 ·omega
def nwC(seed:Int)(i:Nat):eg:=⟨(i:Int),((i^^^1:Nat):Int),Eu (kh seed [199,(i:Int).tdiv 2]),kh seed [211,(i:Int)],[],0,[],0⟩
def nwD(seed:Int)(i:Nat):bC:=⟨nwC seed i,nwC seed i⟩
def nwS(rows:Int)(i:Nat):bw:=⟨(i:Int),rows,0,[],0⟩
def Cx(rows:Int)(n:Nat):List bw:=(List.range n).map (nwS rows)
def tH(seed:Int)(n:Nat):List bC:=(List.range n).map (nwD seed)
def Xs(rows:Int)(s p:Nat)(seed:Int):bp:=⟨rows,Cx rows s,tH seed (2*p),⟨rows,[]⟩,Eu (kh seed [197]),seed,0,[],0⟩
theorem IQ(rows:Int)(n:Nat):(Cx rows n).length=n:=by simp[Cx]
theorem IS(seed:Int)(n:Nat):(tH seed n).length=n:=by simp[tH]
theorem Ul(rows:Int)(k:Nat):Cx rows (k+1)=Cx rows k++ [nwS rows k]:=xy _ k
theorem Um(seed:Int)(k:Nat):tH seed (k+1)=tH seed k++ [nwD seed k]:=xy _ k
theorem Ql(i:Nat):((i^^^1:Nat):Int).tdiv 2=(i:Int).tdiv 2:=by
 have h:(i^^^1)/2=i/2:=by
  rw[Nat.xor_div_two]
  simp
 rw[uA (by omega),uA (by omega)]
 omega
theorem OT(i:Nat):i^^^1≠i:=by
 intro h
 have h2:(i^^^1)^^^i=i^^^i:=by rw[h]
 rw[Nat.xor_comm i 1,Nat.xor_assoc,Nat.xor_self,Nat.xor_zero]at h2
 cases h2
theorem aaA{seed:Int}{i:Nat}(hi:i<8):dy (nwC seed i)=true:=by
 have hk:=vQ (dS seed [199,(i:Int).tdiv 2])
 have hx:i^^^1<8:=xA i 8 hi (by decide)
 have hn:=OT i
 have hB:zM (nwC seed i):=by
  refine⟨Nat.zero_le _,Nat.zero_le _,?_,?_⟩<;>(intro b hb;cases hb)
 refine BA.2 ⟨⟨⟨by show 0≤(i:Int)∧(i:Int)≤7;omega,by show 0≤((i^^^1:Nat):Int)∧((i^^^1:Nat):Int)≤7;omega⟩,by show(i:Int)≠((i^^^1:Nat):Int);omega,?_⟩,hB,by show(0:Int)≤0∧(0:Int)≤0;omega,by show(0:Int)≤0;omega,by show(0:Int)≤100000;omega⟩
 show fK (Eu _)=true
 unfold fK
 rw[cL];omega
theorem Xt{rows seed:Int}{s p:Nat}(hr:1≤rows∧rows≤64)(hs:2≤s∧s≤4)(hp:1≤p∧p≤4):okW (Xs rows s p seed)=true:=by
 have nv:=IQ rows s
 have mo:=IS seed (2*p)
 have hk:=vQ (dS seed [197])
 refine G6.ok ⟨hr,by show 2≤(Cx rows s).length∧(Cx rows s).length≤4;omega,by show 2≤(tH seed (2*p)).length∧(tH seed (2*p)).length≤8;omega,by show(tH seed (2*p)).length % 2=0;omega,nH.2 ⟨⟨hr,by show 0≤8;omega⟩,fun i hi=>by cases hi⟩,rfl,?_,?_,by show(0:Int)≤0∧(0:Int)≤100000;omega,by show(0:Int)≤0;omega,fun i hi=> ?_,fun i hi=> ?_⟩
 ·show dh ⟨rows,[]⟩<0
  rw[MX rfl];decide
 ·show fK (Eu _)=true
  unfold fK
  rw[cL];omega
 ·have hi':i<s:=by have:i<(Cx rows s).length:=hi;omega
  have e:(Cx rows s).getD i (aI .bw)=nwS rows i:=eT _ _ _ _ hi'
  show Yq rows 0 i ((Cx rows s).getD i (aI .bw))
  rw[e]
  exact⟨rfl,rfl,rfl,rfl,by show(0:Int)≤0;omega,by show(0:Int)≤3;omega⟩
 ·have hi':i<2*p:=by have:i<(tH seed (2*p)).length:=hi;omega
  have hx:=xA i (2*p) hi' (by omega)
  have e: ∀j,j<2*p→(tH seed (2*p)).getD j (aI .bC)=nwD seed j:=fun j hj=>eT _ _ _ _ hj
  have hc:=aaA (seed:=seed) (i:=i) (by omega)
  have afK:c9 (nwD seed i)=true:=Ud.iff.2 ⟨hc,hc,gA.2 ⟨⟨rfl,rfl,rfl,rfl⟩,rfl⟩,Int.le_refl _,Int.le_refl _,Bz _⟩
  show(c9 ((tH seed (2*p)).getD i (aI .bC))&&(((tH seed (2*p)).getD i (aI .bC)).live.id==(i:Int))&&(((tH seed (2*p)).getD i (aI .bC)).live.ct==((i^^^1:Nat):Int))&&(((tH seed (2*p)).getD i (aI .bC)).live.key==((tH seed (2*p)).getD (i^^^1) (aI .bC)).live.key)&&decide (((tH seed (2*p)).getD i (aI .bC)).live.next≤0))=true
  rw[e i hi',e _ hx,afK]
  simp only[Bool.and_eq_true,beq_iff_eq,decide_eq_true_eq]
  refine⟨⟨⟨⟨trivial,rfl⟩,rfl⟩,?_⟩,Int.le_refl _⟩
  show Eu (kh seed [199,(i:Int).tdiv 2])=Eu (kh seed [199,((i^^^1:Nat):Int).tdiv 2])
  rw[Ql]
theorem adk{x:bp}{n:Nat}(h:okW x=true)(hr:x.replaced.length≤n):wC x n:=by
 have w:=G6.of h
 refine⟨sC (TJ h),?_,?_,hr⟩
 ·exact Nat.le_trans (qR bO 960 8 _ (fun d hd=>gR (Fc h d hd)) w.ndv.2) (by decide)
 ·have ha:=nH.1 w.Xk
  refine Nat.le_trans (qR ez 1600 8 _ (fun y hy=> ?_) ha.1.2) (by decide)
  obtain⟨i,hi,rfl⟩:=List.mem_iff_getElem.1 hy
  have h2:=mH.1 (ha.2 i hi)
  have e:x.aB.rounds.getD i (aI .aN)=x.aB.rounds[i]:=by rw[List.getD_eq_getElem?_getD,List.getElem?_eq_getElem hi];rfl
  rw[e]at h2
  exact MK h2.2.2.1
theorem IT{x:bp}{i:Nat}{d:bC}(h:okW x=true)(hi:i<x.ak.length)(hd:c9 d=true)(hs:sU d.live (x.ak.getD i (aI .bC)).live)(hn:d.live.next≤x.round):okW (IC x i d)=true:=by
 have w:=G6.of h
 have hg: ∀j,j<x.ak.length→(x.ak.set i d).getD j (aI .bC)=if i=j then d else x.ak.getD j (aI .bC):=fun j hj=>By _ _ hj
 refine G6.ok ⟨w.rows,w.Yr,by show 2≤(x.ak.set i d).length∧(x.ak.set i d).length≤8;rw[List.length_set];exact w.ndv,by show(x.ak.set i d).length % 2=0;rw[List.length_set];exact w.even,w.Xk,w.Fk,w.last,w.key,w.round,w.yh,w.sv,fun j hj=> ?_⟩
 have hj:j<x.ak.length:=by have:j<(x.ak.set i d).length:=hj;rwa [List.length_set]at this
 have hx:=xA j x.ak.length hj w.even
 have hq:=sn h hj
 have key: ∀m,m<x.ak.length→((x.ak.set i d).getD m (aI .bC)).live.key=(x.ak.getD m (aI .bC)).live.key:=by
  intro m hm
  rw[hg m hm]
  split
  ·rename_i e;subst e;exact hs.2.2.1
  ·rfl
 simp only[okD,Bool.and_eq_true,decide_eq_true_eq,beq_iff_eq]at hq ⊢
 show(((c9 ((x.ak.set i d).getD j (aI .bC))=true∧((x.ak.set i d).getD j (aI .bC)).live.id=(j:Int))∧((x.ak.set i d).getD j (aI .bC)).live.ct=((j^^^1:Nat):Int))∧((x.ak.set i d).getD j (aI .bC)).live.key=((x.ak.set i d).getD (j^^^1) (aI .bC)).live.key)∧((x.ak.set i d).getD j (aI .bC)).live.next≤x.round
 rw[key j hj,key _ hx,hg j hj]
 split
 ·rename_i e
  subst e
  exact⟨⟨⟨⟨hd,hs.1.trans hq.1.1.1.2⟩,hs.2.1.trans hq.1.1.2⟩,hq.1.2⟩,hn⟩
 ·exact hq
theorem Un{x:bp}{c:Int}(h:dm x c=true):c.toNat<x.ak.length∧c9 (xT x c)=true∧(xT x c).live.next≤x.round:=by
 obtain⟨h1,h2,h3⟩:=jL h
 have hi:c.toNat<x.ak.length:=by omega
 have hq:=sn h1 hi
 simp only[okD,Bool.and_eq_true,decide_eq_true_eq]at hq
 exact⟨hi,hq.1.1.1.1,hq.2⟩
theorem OU{c:eg}{b:List UInt8}(h:dy c=true):dy (ir c b)=true:=by
 unfold ir
 split
 ·rename_i hk;simp only[qi,Bool.and_eq_true]at hk;exact hk.2
 ·exact h
theorem BD(c:eg)(b:List UInt8):sU (ir c b) c∧(ir c b).next=c.next∧(ir c b).sent=c.sent∧(ir c b).inbox=c.inbox:=by
 unfold ir
 split
 ·exact⟨⟨rfl,rfl,rfl,rfl⟩,rfl,rfl,rfl⟩
 ·exact⟨⟨rfl,rfl,rfl,rfl⟩,rfl,rfl,rfl⟩
theorem Xu{d:bC}{b:List UInt8}(h:c9 d=true):c9 (qU d b)=true∧sU (qU d b).live d.live∧(qU d b).live.next=d.live.next:=by
 unfold qU
 split
 ·rename_i hk
  simp only[uZ,Bool.and_eq_true]at hk
  have hd:=Ud.iff.1 h
  obtain⟨p1,p2⟩:=gA.1 hd.same
  obtain⟨a1,a2,a3,a4⟩:=BD d.live b
  obtain⟨b1,b2,b3,b4⟩:=BD d.saved b
  refine⟨Ud.iff.2 ⟨OU hd.live,OU hd.saved,gA.2 ⟨⟨a1.1.trans (p1.1.trans b1.1.symm),a1.2.1.trans (p1.2.1.trans b1.2.1.symm),a1.2.2.1.trans (p1.2.2.1.trans b1.2.2.1.symm),a1.2.2.2.trans (p1.2.2.2.trans b1.2.2.2.symm)⟩,?_⟩,?_,?_,?_⟩,a1,a2⟩
  ·show(ir d.live b).aJ=(ir d.saved b).aJ
   rw[Ac hk.1.2,Ac hk.2]
   show d.live.aJ++ [b]=d.saved.aJ++ [b]
   rw[p2]
  ·show(ir d.saved b).sent≤(ir d.live b).sent
   rw[a3,b3];exact hd.sent
  ·show(ir d.saved b).next≤(ir d.live b).next
   rw[a2,b2];exact hd.next
  ·show AV (ir d.saved b).inbox (ir d.live b).inbox=true
   rw[a4,b4];exact hd.pre
 ·exact⟨h,⟨rfl,rfl,rfl,rfl⟩,rfl⟩
theorem Uo{x:bp}{c:Int}{b:List UInt8}(h:okW x=true):okW (KX x c b)=true:=by
 unfold KX
 split
 ·rename_i hk
  obtain⟨h1,h2,h3⟩:=Un hk
  obtain⟨q1,q2,q3⟩:=Xu (b:=b) h2
  exact IT h h1 q1 q2 (by rw[q3];exact h3)
 ·exact h
theorem OV{c:eg}(h:dy c=true):c9 ⟨c,c⟩=true:=Ud.iff.2 ⟨h,h,gA.2 ⟨⟨rfl,rfl,rfl,rfl⟩,rfl⟩,Int.le_refl _,Int.le_refl _,Bz _⟩
theorem Up{x:bp}{c:Int}(h:okW x=true):okW (Ja x c)=true:=by
 unfold Ja
 split
 ·rename_i hk
  obtain⟨h1,h2,h3⟩:=Un hk
  have hd:=Ud.iff.1 h2
  obtain⟨p1,p2⟩:=gA.1 hd.same
  have hn:=hd.next
  rw[B6,if_pos h2]
  exact IT h h1 (OV hd.saved) ⟨p1.1.symm,p1.2.1.symm,p1.2.2.1.symm,p1.2.2.2.symm⟩ (by show(xT x c).saved.next≤x.round;omega)
 ·exact h
theorem Uq{x:bp}{c:Int}(h:okW x=true):okW (Bp x c)=true:=by
 unfold Bp
 split
 ·rename_i hk
  obtain⟨h1,h2,h3⟩:=Un hk
  rw[FX,if_pos h2]
  exact IT h h1 (OV (Ud.iff.1 h2).live) ⟨rfl,rfl,rfl,rfl⟩ h3
 ·exact h
theorem Ur{x:bp}{i b:Int}(h:okW x=true):okW (LA x i b)=true:=by
 unfold LA
 split
 ·rename_i hk
  obtain⟨_,h1,h2⟩:=IE hk
  have w:=G6.of h
  refine G6.ok ⟨w.rows,by show 2≤(x.av.set i.toNat (beh (x.av.getD i.toNat (aI .bw)) b)).length∧(x.av.set i.toNat (beh (x.av.getD i.toNat (aI .bw)) b)).length≤4;rw[List.length_set];exact w.Yr,w.ndv,w.even,w.Xk,w.Fk,w.last,w.key,w.round,w.yh,fun j hj=> ?_,w.dv⟩
  have hj:j<x.av.length:=by have:j<(x.av.set i.toNat (beh (x.av.getD i.toNat (aI .bw)) b)).length:=hj;rwa [List.length_set]at this
  show Yq x.rows x.round j ((x.av.set i.toNat (beh (x.av.getD i.toNat (aI .bw)) b)).getD j (aI .bw))
  rw[By _ _ hj]
  have hq:=w.sv j hj
  split
  ·rename_i e
   subst e
   obtain⟨q1,q2,q3,q4,_⟩:=hq
   exact⟨q1,q2,q3,q4,h2.1,h2.2⟩
  ·exact hq
 ·exact h
theorem Ys(x:bp):(FJ x).round=x.round∧(FJ x).cancelled=x.cancelled∧(FJ x).replaced=x.replaced∧(FJ x).rows=x.rows∧(FJ x).av=x.av∧(FJ x).aB=x.aB∧(FJ x).ak.length=x.ak.length∧(FJ x).aX=x.aX:=by
 unfold FJ
 split
 ·exact⟨rfl,rfl,rfl,rfl,rfl,rfl,List.length_map ..,rfl⟩
 ·exact⟨rfl,rfl,rfl,rfl,rfl,rfl,rfl,rfl⟩
theorem Xv(x:bp):(testW x).round=x.round∧(testW x).cancelled=x.cancelled∧(testW x).rows=x.rows∧(testW x).aB=x.aB∧(testW x).ak=x.ak∧(testW x).aX=x.aX:=by
 unfold testW
 split
 ·exact⟨rfl,rfl,rfl,rfl,rfl,rfl⟩
 ·exact⟨rfl,rfl,rfl,rfl,rfl,rfl⟩
theorem BF{x:bp}(h:okW x=true)(hc:x.cancelled<9223372036854775807):okW (cR x)=true:=by
 unfold cR
 split
 ·rename_i hk
  have hr:x.round<99999:=by simp only[gI,h,Bool.true_and,Bool.not_eq_true',decide_eq_false_iff_not]at hk;omega
  exact aax (Ua (Qg h hr hc fun _=>⟨G1 _ (pO _),(Lg h).2⟩))
 ·exact h
theorem Lh{x:bp}(h:okW x=true)(hr:x.round<99999)(hc:x.cancelled<9223372036854775807):(cR x).round=x.round+1∧(cR x).cancelled=(if(jf x.aX (bM x) (cZ (bM x)) (gG x) (bM x).length).length=0 then x.cancelled else x.cancelled+1)∧(cR x).rows=x.rows∧(cR x).ak.length=x.ak.length∧dh (cR x).aB=(if(jf x.aX (bM x) (cZ (bM x)) (gG x) (bM x).length).length=0 then x.round else dh x.aB):=by
 have w:=G6.of h
 have w3:=w.round;have w4:=w.yh
 have hk:=Fl h hr
 rw[cR,if_pos hk]
 obtain⟨a1,a2,_,a4,_,a6,a7,_⟩:=Ys (testW (cP x (jf x.aX (bM x) (cZ (bM x)) (gG x) (bM x).length) (jw (cZ (bM x)))))
 obtain⟨b1,b2,b3,b4,b5,_⟩:=Xv (cP x (jf x.aX (bM x) (cZ (bM x)) (gG x) (bM x).length) (jw (cZ (bM x))))
 have hj:=Lg h
 rw[a1,a2,a4,a6,a7,b1,b2,b3,b4,b5,cP,if_pos hk]
 refine⟨bV (by omega),?_,rfl,rfl,?_⟩
 ·dsimp only
  split
  ·rfl
  ·exact bV (by omega)
 ·dsimp only
  split
  ·exact(T9 w.Xk w3 w.last (G1 _ (pO _)) (by rw[w.Fk];exact hj.2)).2.1
  ·rfl
structure tI(x:bp)(n:Nat):Prop where
 ok:okW x=true
 round:x.round≤n
 yh:x.cancelled≤n
 Qm:x.replaced.length≤8*n
theorem tI.mono{x:bp}{n m:Nat}(h:tI x n)(hn:n≤m):tI x m:=⟨h.ok,by have:=h.round;omega,by have:=h.yh;omega,by have:=h.Qm;omega⟩
theorem tI.C{x:bp}{n:Nat}(h:tI x n):wC x (8*n):=adk h.ok h.Qm
theorem tI.B{x:bp}{n:Nat}(h:tI x n)(hn:n≤100000):wB x:=Fe h.C (by omega)
theorem tI.R{x:bp}{n:Nat}(h:tI x n)(hn:n≤100000):wR x:=K8 h.C (by omega)
theorem tI.sm{x:bp}{n:Nat}{c:Int}{b:List UInt8}(h:tI x n):tI (KX x c b) n:=by
 refine⟨Uo h.ok,?_,?_,?_⟩<;>(unfold KX;split)<;>first|exact h.round|exact h.yh|exact h.Qm
theorem tI.cc{x:bp}{n:Nat}{c:Int}(h:tI x n):tI (Ja x c) n:=by
 refine⟨Up h.ok,?_,?_,?_⟩<;>(unfold Ja;split)<;>first|exact h.round|exact h.yh|exact h.Qm
theorem tI.sv{x:bp}{n:Nat}{c:Int}(h:tI x n):tI (Bp x c) n:=by
 refine⟨Uq h.ok,?_,?_,?_⟩<;>(unfold Bp;split)<;>first|exact h.round|exact h.yh|exact h.Qm
theorem tI.co{x:bp}{n:Nat}{i b:Int}(h:tI x n):tI (LA x i b) n:=by
 refine⟨Ur h.ok,?_,?_,?_⟩<;>(unfold LA;split)<;>first|exact h.round|exact h.yh|exact h.Qm
theorem tI.rd{x:bp}{n:Nat}(h:tI x n)(hn:n≤99998):tI (cR x) (n+1):=by
 have h1:=h.round;have h2:=h.yh
 have hf:=Lh h.ok (by omega) (by omega)
 have hC:=zO h.C
 refine⟨BF h.ok (by omega),by omega,?_,by have:=hC.2.2.2;omega⟩
 rw[hf.2.1];split<;>omega
def sG(p:cu×bp):cu×bp:=
 (Ag (aA (aA p.1 p.2.ak.length) 4) (aV (aA p.1 p.2.ak.length) 4).toNat,KX p.2 (aV p.1 p.2.ak.length) (tG (aA (aA p.1 p.2.ak.length) 4) (aV (aA p.1 p.2.ak.length) 4).toNat))
def Ut(k:Int)(p:cu×bp):cu×bp:=
 if k=0 then sG p
 else if k=1 then(aA p.1 p.2.ak.length,Ja p.2 (aV p.1 p.2.ak.length))
 else if k=2 then(aA (aA p.1 p.2.av.length) 4,LA p.2 (aV p.1 p.2.av.length) (aV (aA p.1 p.2.av.length) 4))
 else(p.1,cR p.2)
def kA(p:cu×bp):cu×bp:=Ut (aV p.1 8) (aA p.1 8,p.2)
def fD{α:Type}(f:α→α)(a:α):Nat→α
 |0=>a
 |k+1=>f (fD f a k)
def Xw:List Int:= [12,16]
def Uu(c:cu):cu:=aA (aA (aA (aA c 2) 2) 2) 999
def nw0(c:cu):bp:=Xs (Xw.getD (aV c 2).toNat (aI .int)) (2+aV (aA c 2) 2).toNat (1+aV (aA (aA c 2) 2) 2).toNat (aV (aA (aA (aA c 2) 2) 2) 999)
def n32(c:cu):Nat:=(aV (Uu c) 5).toNat
def tR(c:cu):cu×bp:=(aA (Uu c) 5,nw0 c)
def Db(c:cu):cu×bp:=fD sG (tR c) (n32 c)
def Uv(c:cu)(s:Int):Nat:=(aV (Db c).1 s).toNat
def lC(c:cu)(s:Int):cu×bp:=(aA (Db c).1 s,(Db c).2)
def He(c:cu)(s:Int):cu×bp:=fD kA (lC c s) (Uv c s)
theorem Uw(p:cu×bp):(sG p).1.b=p.1.b:=by
 show(Ag _ _).b=_
 rw[qZ,aQ,aQ]
theorem Yt(p:cu×bp):(kA p).1.b=p.1.b:=by
 unfold kA Ut
 split
 ·rw[Uw];exact aQ _ _
 ·split
  ·show(aA (aA p.1 8) _).b=_;rw[aQ,aQ]
  ·split
   ·show(aA (aA (aA p.1 8) _) 4).b=_;rw[aQ,aQ,aQ]
   ·exact aQ _ _
theorem Li{f:cu×bp→cu×bp}(h: ∀p,(f p).1.b=p.1.b)(p:cu×bp): ∀k,(fD f p k).1.b=p.1.b
 |0=>rfl
 |k+1=>(h _).trans (Li h p k)
theorem Yu(c:cu):(Uu c).b=c.b:=by unfold Uu;rw[aQ,aQ,aQ,aQ]
theorem Ux(c:cu):(Db c).1.b=c.b:=by
 unfold Db
 rw[Li Uw]
 show(aA (Uu c) 5).b=c.b
 rw[aQ,Yu]
theorem Yv(c:cu)(s:Int):(He c s).1.b=c.b:=by
 unfold He
 rw[Li Yt]
 show(aA (Db c).1 s).b=c.b
 rw[aQ,Ux]
theorem OW{c:cu}:Xw.getD (aV c 2).toNat (aI .int)=12∨Xw.getD (aV c 2).toNat (aI .int)=16:=by
 have h:=cS c (n:=2) (by omega)
 rcases(show(aV c 2).toNat=0∨(aV c 2).toNat=1 by omega)with e|e<;>rw[e]
 ·exact Or.inl rfl
 ·exact Or.inr rfl
theorem Yw(c:cu):tI (nw0 c) 0∧(nw0 c).ak.length≤4∧(nw0 c).av.length≤3:=by
 have h1:=cS (aA c 2) (n:=2) (by omega)
 have h2:=cS (aA (aA c 2) 2) (n:=2) (by omega)
 have h3:=OW (c:=c)
 refine⟨⟨Xt (by omega) (by omega) (by omega),Int.le_refl 0,Int.le_refl 0,Nat.le_refl 0⟩,?_,?_⟩
 ·show(tH _ _).length≤4
  rw[IS];omega
 ·show(Cx _ _).length≤3
  rw[IQ];omega
theorem Uy{p:cu×bp}{n:Nat}(h:tI p.2 n):tI (sG p).2 n:=h.sm
theorem adm{p:cu×bp}{n:Nat}(h:tI p.2 n)(hn:n≤99998):tI (kA p).2 (n+1):=by
 unfold kA Ut
 split
 ·exact(Uy (p:=(aA p.1 8,p.2)) h).mono (by omega)
 ·split
  ·exact h.cc.mono (by omega)
  ·split
   ·exact h.co.mono (by omega)
   ·exact h.rd hn
theorem adn(c:cu):tI (Db c).2 0:=by
 have: ∀k,tI (fD sG (tR c) k).2 0:=by
  intro k
  induction k with
  |zero=>exact(Yw c).1
  |succ k ih=>exact Uy ih
 exact this _
theorem Uz(c:cu)(s:Int): ∀k,k≤99998→tI (fD kA (lC c s) k).2 k
 |0,_=>adn c
 |k+1,h=>adm (Uz c s k (by omega)) (by omega)
theorem Yx(c:cu){s:Int}(h:0<s):(Uv c s:Int)<s:=by
 have:=cS (Db c).1 h
 unfold Uv;omega
end
section
theorem Xx:(Tryz.prog.info? 119).map (fun i=>(i.zero,i.size,i.bytes))=some (some (.agg #[.slice none 0 0, .int .i64 0, .int .i64 0]),3,40):=by kernel_rfl
theorem UB:c8 Tryz.prog 119 (.st [.slice none 0 0, .int .i64 0, .int .i64 0] [some .u8,none,none] [0,1,2]):=pg Tryz.underlying119 Xx rfl (by kernel_rfl)
def aaB:List (Nat×TK):=(119, .st [.slice none 0 0, .int .i64 0, .int .i64 0] [some .u8,none,none] [0,1,2])::tys
def Γ2(t:Nat):TK:=match look aaB t with|some k=>k|none=> .other
theorem aaC: ∀e,e∈aaB→c8 Tryz.prog e.1 e.2:=by
 intro e he
 rcases List.mem_cons.1 he with rfl|he
 ·exact UB
 ·exact kinds e he
theorem ado: ∀e,e∈aaB→(∀z tg fo,e.2≠ .st z tg fo)→(Tryz.prog.info? e.1).map (·.size)=some 1:=by
 intro e he h
 rcases List.mem_cons.1 he with rfl|he
 ·exact absurd rfl (h _ _ _)
 ·exact acm e he h
theorem X2:Ctx Tryz.prog ty Γ2 where
 kind:=fun t=>by
  unfold Γ2
  split
  ·rename_i k hk;exact aaC (t,k) (eH hk)
  ·trivial
 one:=fun t h1 h2=>by
  unfold Γ2 at h1 h2
  split at h1
  ·rename_i k hk;exact ado (t,k) (eH hk) h1
  ·rename_i hk;rw[hk]at h2;exact absurd rfl h2
end
section
def k13:List Int:= [0, -1,2147483646,2147483647]
def M1(c:cu):Int:=if aV c 10=0 then k13.getD (aV (aA c 10) 4).toNat (aI .int)else 1+aV (aA c 10) 99999
def F0(c:cu):cu:=if aV c 10=0 then aA (aA c 10) 4 else aA (aA c 10) 99999
def Lj(c:cu):Nat→cu
 |0=>c
 |k+1=>Ag (Lj c k) 24
def FM(c:cu):Nat→List (List UInt8)
 |0=> []
 |k+1=>FM c k++ [tG (Lj c k) 24]
theorem Hf(c:cu): ∀k,(Lj c k).b=c.b
 |0=>rfl
 |k+1=>by rw[Lj,qZ,Hf c k]
theorem v8(c:cu): ∀k,(FM c k).length=k
 |0=>rfl
 |k+1=>by rw[FM,List.length_append,v8 c k];rfl
theorem IV(c:cu): ∀k, ∀r,r∈FM c k→r.length=24
 |0,r,h=>by cases h
 |k+1,r,h=>by
  rcases List.mem_append.1 h with h|h
  ·exact IV c k r h
  ·rw[List.mem_singleton.1 h];exact iq _ _
theorem UC(c:cu){k:Nat}(h:k≤64):cT ⟨FM c k⟩=true:=by
 rw[gO]
 exact⟨by show(FM c k).length≤64;rw[v8];exact h,IV c k⟩
def d8n(c:cu):Nat:=(aV c 7).toNat
def Fu(c:cu):cu:=Lj (aA c 7) (d8n c)
def UD(c:cu):DB:=
 if aV (Fu c) 10=0 then⟨FM (aA c 7) (d8n c)++ [tG (aA (aA (Fu c) 10) 3) (23+aV (aA (Fu c) 10) 3).toNat]⟩
 else if aV (Fu c) 10=1 then dz 64 else⟨FM (aA c 7) (d8n c)⟩
def Vv(c:cu):cu:=
 if aV (Fu c) 10=0 then Ag (aA (aA (Fu c) 10) 3) (23+aV (aA (Fu c) 10) 3).toNat else aA (Fu c) 10
theorem Ll(c:cu):(Fu c).b=c.b:=by rw[Fu,Hf,aQ]
theorem Yz(c:cu):d8n c≤6:=by
 have:=cS c (n:=7) (by decide)
 unfold d8n;omega
theorem UE(c:cu):(UD c).rows.length≤64∧ ∀r,r∈(UD c).rows→r.length≤25:=by
 have hn:=Yz c
 have hb:=cS (aA (Fu c) 10) (n:=3) (by decide)
 unfold UD
 split
 ·refine⟨?_,fun r h=> ?_⟩
  ·show(FM _ _++_).length≤64
   rw[List.length_append,v8];simp;omega
  ·rcases List.mem_append.1 h with h|h
   ·rw[IV _ _ r h];omega
   ·rw[List.mem_singleton.1 h,iq];omega
 ·split
  ·refine⟨nE 64,fun r h=> ?_⟩
   have:=(gO.1 (KN 64)).2 r h
   omega
  ·refine⟨?_,fun r h=>by rw[IV _ _ r h];omega⟩
   show(FM _ _).length≤64
   rw[v8];omega
def UF(l:List aN):Prop:=l.length≤8∧ ∀y,y∈l→cT y.db=true
theorem aaE{a:iP}{r:Int}{d:DB}(h:UF a.rounds)(hd:cT d=true):UF (C6 a r d):=by
 unfold C6
 split
 ·rename_i hk
  have hb:=IJ hk
  have hm: ∀y,y∈qh a r d→cT y.db=true:=by
   intro y hy
   rcases List.mem_append.1 hy with hy|hy
   ·exact h.2 y hy
   ·rw[List.mem_singleton.1 hy];exact hd
  have hl:(qh a r d).length=a.rounds.length+1:=by unfold qh;rw[List.length_append];rfl
  split
  ·exact⟨by rw[List.length_drop];omega,fun y hy=>hm y (List.mem_of_mem_drop hy)⟩
  ·exact⟨by omega,hm⟩
 ·exact h
structure YA where
 c:cu
 a:iP
 r:Int
def arS(p:YA):YA:=
 ⟨aA (Lj p.c p.a.rows.toNat) 2,⟨p.a.rows,C6 p.a p.r ⟨FM p.c p.a.rows.toNat⟩⟩,IntKind.i64.wrap (IntKind.i64.wrap (p.r+1)+aV (Lj p.c p.a.rows.toNat) 2)⟩
def B7(p:YA):Nat→YA
 |0=>p
 |k+1=>arS (B7 p k)
theorem UG(p:YA): ∀k,(B7 p k).c.b=p.c.b
 |0=>rfl
 |k+1=>by
  show(aA (Lj (B7 p k).c _) 2).b=p.c.b
  rw[aQ,Hf,UG p k]
theorem M3(p:YA)(hr:p.a.rows≤64)(h:UF p.a.rounds): ∀k,UF (B7 p k).a.rounds∧(B7 p k).a.rows=p.a.rows
 |0=>⟨h,rfl⟩
 |k+1=>by
  obtain⟨h1,h2⟩:=M3 p hr h k
  exact⟨aaE h1 (UC _ (by rw[h2];omega)),h2⟩
def k28:List Int:= [0,2,5,10]
def Cz(c:cu):Nat:=(k28.getD (aV (aA c 3) 4).toNat (aI .int)).toNat
def nk(c:cu):YA:=⟨aA (aA c 3) 4,⟨1+aV c 3,[]⟩,0⟩
def qm(c:cu):YA:=B7 (nk c) (Cz c)
theorem UH(c:cu):UF (qm c).a.rounds∧1≤(qm c).a.rows∧(qm c).a.rows≤3:=by
 have hb:=cS c (n:=3) (by decide)
 have hr:(nk c).a.rows=1+aV c 3:=rfl
 obtain⟨h1,h2⟩:=M3 (nk c) (by omega) ⟨Nat.zero_le _,fun y hy=>by cases hy⟩ (Cz c)
 refine⟨h1,?_,?_⟩<;>(show _≤_;unfold qm;omega)
theorem Fv(c:cu):(qm c).c.b=c.b:=by
 unfold qm
 rw[UG]
 show(aA (aA c 3) 4).b=c.b
 rw[aQ,aQ]
def Fw(c:cu):iP:=
 if aV (qm c).c 10=0 then⟨[0,IntKind.i64.wrap ((qm c).a.rows+1),65].getD (aV (aA (qm c).c 10) 3).toNat (aI .int),(qm c).a.rounds⟩
 else if aV (qm c).c 10=1 then⟨(qm c).a.rows,(qm c).a.rounds++ [⟨[-1,0,100000,100001].getD (aV (aA (qm c).c 10) 4).toNat (aI .int),UD (aA (aA (qm c).c 10) 4)⟩]⟩
 else(qm c).a
def IW(c:cu):cu:=
 if aV (qm c).c 10=0 then aA (aA (qm c).c 10) 3 else if aV (qm c).c 10=1 then Vv (aA (aA (qm c).c 10) 4)else aA (qm c).c 10
def M4(d:DB):Prop:=d.rows.length≤64∧ ∀r,r∈d.rows→r.length≤25
theorem Ai{d:DB}(h:cT d=true):M4 d:=by
 obtain⟨h1,h2⟩:=gO.1 h
 exact⟨h1,fun r hr=>by have:=h2 r hr;omega⟩
theorem Xy(c:cu):(Fw c).rounds.length≤9∧ ∀y,y∈(Fw c).rounds→M4 y.db:=by
 obtain⟨⟨h1,h2⟩,_,_⟩:=UH c
 unfold Fw
 split
 ·exact⟨Nat.le_trans h1 (by decide),fun y hy=>Ai (h2 y hy)⟩
 ·split
  ·refine⟨?_,fun y hy=> ?_⟩
   ·show((qm c).a.rounds++_).length≤9
    rw[List.length_append];simp;omega
   ·rcases List.mem_append.1 hy with hy|hy
    ·exact Ai (h2 y hy)
    ·rw[List.mem_singleton.1 hy];exact UE _
  ·exact⟨Nat.le_trans h1 (by decide),fun y hy=>Ai (h2 y hy)⟩
end
section
def n4(c:cu)(a b:Int):cu:=aA (aA (aA (aA c a) b) 99) 999
theorem UJ(c:cu)(a b:Int):(n4 c a b).b=c.b:=by unfold n4;rw[aQ,aQ,aQ,aQ]
def adp(c:cu):eg:=⟨aV c 4,4+aV (aA c 4) 3,1+aV (aA (aA c 4) 3) 99,aV (aA (aA (aA c 4) 3) 99) 999,[],0,[],0⟩
def adq(c:cu):eg:=⟨4+aV c 3,aV (aA c 3) 4,1+aV (aA (aA c 3) 4) 99,aV (aA (aA (aA c 3) 4) 99) 999,[],0,[],0⟩
structure XA where
 c:cu
 x:eg
def oN(c:cu):XA:=if aV (n4 c 4 3) 2=0 then⟨n4 (aA (n4 c 4 3) 2) 3 4,adq (aA (n4 c 4 3) 2)⟩else⟨aA (n4 c 4 3) 2,adp c⟩
theorem IX(c:cu):(oN c).c.b=c.b:=by
 unfold oN
 split
 ·show(n4 _ 3 4).b=_;rw[UJ,aQ,UJ]
 ·show(aA _ 2).b=_;rw[aQ,UJ]
def nx(x:eg)(n:Int):eg:=⟨x.id,x.ct,x.key,x.seed,x.aJ,x.sent,x.inbox,n⟩
def qS(p:XA):XA:=⟨Ag (aA p.c 5) (aV p.c 5).toNat,ir p.x (tG (aA p.c 5) (aV p.c 5).toNat)⟩
def qK(p:XA):Nat→XA
 |0=>p
 |k+1=>qS (qK p k)
theorem UK(p:XA): ∀k,(qK p k).c.b=p.c.b
 |0=>rfl
 |k+1=>by
  show(Ag _ _).b=_
  rw[qZ,aQ,UK p k]
def YC(n m:Nat)(l:List (List UInt8)):Prop:=l.length≤n∧ ∀b,b∈l→b.length≤m
theorem Lm{n m:Nat}{l:List (List UInt8)}{b:List UInt8}(h:YC n m l)(hb:b.length≤m):YC (n+1) m (l++ [b]):=
 ⟨by rw[List.length_append];have:=h.1;simp;omega,fun a ha=>by
  rcases List.mem_append.1 ha with ha|ha
  ·exact h.2 a ha
  ·rw[List.mem_singleton.1 ha];exact hb⟩
theorem YD(p:XA){n:Nat}(h:YC n 4 p.x.aJ): ∀k,YC (n+k) 4 (qK p k).x.aJ∧(qK p k).x.inbox=p.x.inbox
 |0=>⟨h,rfl⟩
 |k+1=>by
  obtain⟨h1,h2⟩:=YD p h k
  have hb:=cS (qK p k).c (n:=5) (by decide)
  show YC (n+(k+1)) 4 (ir (qK p k).x _).aJ∧(ir (qK p k).x _).inbox=p.x.inbox
  unfold ir
  split
  ·exact⟨Lm h1 (by rw[iq];omega),h2⟩
  ·exact⟨⟨by have:=h1.1;omega,h1.2⟩,h2⟩
def s6(c:cu):Nat→List (List UInt8)×cu
 |0=>([],c)
 |k+1=>((s6 c k).1++ [tG (aA (s6 c k).2 4) (aV (s6 c k).2 4).toNat],Ag (aA (s6 c k).2 4) (aV (s6 c k).2 4).toNat)
theorem OX(c:cu): ∀k,(s6 c k).2.b=c.b
 |0=>rfl
 |k+1=>by
  show(Ag _ _).b=_
  rw[qZ,aQ,OX c k]
theorem IY(c:cu): ∀k,YC k 3 (s6 c k).1
 |0=>⟨Nat.le_refl _,fun b hb=>by cases hb⟩
 |k+1=>Lm (IY c k) (by rw[iq];have:=cS (s6 c k).2 (n:=4) (by decide);omega)
def Vw:List Int:= [0,1,3,16]
def yj(c:cu):cu:=aA (oN c).c 9
def tJ(c:cu):Nat:=(Vw.getD (aV (yj c) 4).toNat (aI .int)).toNat
def fE(c:cu):XA:=⟨aA (yj c) 4,⟨(oN c).x.id,(oN c).x.ct,(oN c).x.key,(oN c).x.seed,[],0,[],aV (oN c).c 9⟩⟩
def gw(c:cu):XA:=qK (fE c) (tJ c)
def gm(c:cu):cu:=aA (gw c).c (IntKind.i64.wrap (((gw c).x.aJ.length:Int)+1))
def sH(c:cu):Nat:=(aV (gm c) 3).toNat
def ck(c:cu):eg:=⟨(gw c).x.id,(gw c).x.ct,(gw c).x.key,(gw c).x.seed,(gw c).x.aJ,aV (gw c).c (IntKind.i64.wrap (((gw c).x.aJ.length:Int)+1)),(gw c).x.inbox++(s6 (aA (gm c) 3) (sH c)).1,(gw c).x.next⟩
def yl(c:cu):cu:=(s6 (aA (gm c) 3) (sH c)).2
theorem IZ(c:cu):(yl c).b=c.b:=by
 unfold yl
 rw[OX,aQ]
 show(aA (gw c).c _).b=c.b
 rw[aQ]
 unfold gw
 rw[UK]
 show(aA (aA (oN c).c 9) 4).b=c.b
 rw[aQ,aQ,IX]
end
section
theorem Aj{α:Type}{P:α→Prop}{l:List α}{d:α}(h: ∀x,x∈l→P x)(hd:P d)(i:Nat):P (l.getD i d):=by
 rw[List.getD_eq_getElem?_getD]
 cases hq:l[i]? with
 |none=>exact hd
 |some x=>exact h x (List.mem_of_getElem? hq)
theorem UL(c:cu):tJ c≤16:=by
 have:0≤Vw.getD (aV (yj c) 4).toNat (aI .int)∧Vw.getD (aV (yj c) 4).toNat (aI .int)≤16:=
  Aj (P:=fun x:Int=>0≤x∧x≤16) (by decide) (by decide) _
 unfold tJ;omega
theorem UM(c:cu):sH c≤2:=by
 have:=cS (gm c) (n:=3) (by decide)
 unfold sH;omega
theorem OY(c:cu)(k:Nat):YC k 4 (qK (fE c) k).x.aJ∧(qK (fE c) k).x.inbox= []:=by
 have h:=YD (fE c) (n:=0) ⟨Nat.le_refl _,fun b hb=>by cases hb⟩ k
 exact⟨⟨by have:=h.1.1;omega,h.1.2⟩,h.2⟩
theorem Dc(c:cu):YC 16 4 (gw c).x.aJ∧(gw c).x.inbox= []:=by
 have h:=OY c (tJ c)
 have hn:=UL c
 exact⟨⟨Nat.le_trans h.1.1 hn,h.1.2⟩,h.2⟩
theorem UN(c:cu){k:Nat}(hk:k≤16):zM (qK (fE c) k).x:=by
 obtain⟨h1,h2⟩:=OY c k
 refine⟨Nat.le_trans h1.1 hk,by rw[h2];exact Nat.zero_le _,fun b hb=>Nat.le_trans (h1.2 b hb) (by decide),fun b hb=> ?_⟩
 rw[h2]at hb;cases hb
theorem ym(c:cu):zM (ck c)∧0≤(ck c).sent:=by
 obtain⟨h1,h2⟩:=Dc c
 have hi:=IY (aA (gm c) 3) (sH c)
 have hm:=UM c
 unfold ck
 generalize gw c=q at h1 h2 ⊢
 refine⟨⟨h1.1,?_,fun b hb=>Nat.le_trans (h1.2 b hb) (by decide),?_⟩,BC _ _⟩
 ·show(q.x.inbox++_).length≤16
  rw[h2,List.nil_append]
  have:=hi.1;omega
 ·show∀b,b∈q.x.inbox++_→b.length≤14
  rw[h2,List.nil_append]
  exact fun b hb=>Nat.le_trans (hi.2 b hb) (by decide)
def UO(c:eg):Prop:=c.aJ.length≤17∧c.inbox.length≤18∧(∀b,b∈c.aJ→b.length≤16)∧ ∀b,b∈c.inbox→b.length≤16
theorem M5{c:eg}(h:zM c):UO c:=⟨by have:=h.1;omega,by have:=h.2.1;omega,fun b hb=>Nat.le_trans (h.2.2.1 b hb) (by decide),fun b hb=>Nat.le_trans (h.2.2.2 b hb) (by decide)⟩
theorem Hg{c:eg}(h:UO c):cj c≤600:=by
 have h1:=qR List.length 16 17 c.aJ h.2.2.1 h.1
 have h2:=qR List.length 16 18 c.inbox h.2.2.2 h.2.1
 unfold cj;omega
def dF(c:cu):Int:=aV (yl c) 14
def fj(c:cu):cu:=aA (yl c) 14
theorem sI(c:cu):(fj c).b=c.b:=by unfold fj;rw[aQ,IZ]
def mJ(c:cu):eg:=
 if dF c=0 then⟨[-1,7,8,(ck c).ct].getD (aV (fj c) 4).toNat (aI .int),(ck c).ct,(ck c).key,(ck c).seed,(ck c).aJ,(ck c).sent,(ck c).inbox,(ck c).next⟩
 else if dF c=1 then⟨(ck c).id,(ck c).ct,M1 (fj c),(ck c).seed,(ck c).aJ,(ck c).sent,(ck c).inbox,(ck c).next⟩
 else if dF c=2 then⟨(ck c).id,(ck c).ct,(ck c).key,(ck c).seed,(ck c).aJ,[-1,((ck c).aJ.length:Int),IntKind.i64.wrap (((ck c).aJ.length:Int)+1)].getD (aV (fj c) 3).toNat (aI .int),(ck c).inbox,(ck c).next⟩
 else if dF c=3 then⟨(ck c).id,(ck c).ct,(ck c).key,(ck c).seed,(ck c).aJ,(ck c).sent,(ck c).inbox,[-1,99999,100000,100001].getD (aV (fj c) 4).toNat (aI .int)⟩
 else if dF c=4 then⟨(ck c).id,(ck c).ct,(ck c).key,(ck c).seed,(ck c).aJ,(ck c).sent,(ck c).inbox++ [List.replicate (IntKind.i64.wrap (14+aV (fj c) 2)).toNat (aI .u8)],(ck c).next⟩
 else if dF c=5 then⟨(ck c).id,(ck c).ct,(ck c).key,(ck c).seed,(ck c).aJ,(ck c).sent,List.replicate (IntKind.i64.wrap (16+aV (fj c) 2)).toNat (aI (.sl .u8)),(ck c).next⟩
 else ck c
def rj(c:cu):cu:=
 if dF c=0 then aA (fj c) 4 else if dF c=1 then F0 (fj c)else if dF c=2 then aA (fj c) 3 else if dF c=3 then aA (fj c) 4 else if dF c=4 then aA (fj c) 2 else if dF c=5 then aA (fj c) 2 else fj c
theorem aaH(c:cu):UO (mJ c):=by
 have h:=(ym c).1
 have hS:=M5 h
 have hb:=cS (fj c) (n:=2) (by decide)
 unfold mJ
 generalize ck c=x at h hS ⊢
 generalize fj c=o at hb ⊢
 split
 ·exact hS
 ·split
  ·exact hS
  ·split
   ·exact hS
   ·split
    ·exact hS
    ·split
     ·refine⟨hS.1,?_,hS.2.2.1,fun b hm=> ?_⟩
      ·show(x.inbox++_).length≤18
       rw[List.length_append]
       have:=h.2.1
       simp;omega
      ·rcases List.mem_append.1 hm with hm|hm
       ·exact hS.2.2.2 b hm
       ·rw[List.mem_singleton.1 hm,List.length_replicate,bV (by omega)];omega
     ·split
      ·refine⟨hS.1,?_,hS.2.2.1,fun b hm=> ?_⟩
       ·show(List.replicate _ _).length≤18
        rw[List.length_replicate,bV (by omega)];omega
       ·rw[List.eq_of_mem_replicate hm];exact Nat.zero_le _
      ·exact hS
structure Fx where
 c:cu
 d:bC
def QG(d:bC):Prop:=uY d∧0≤d.live.sent∧0≤d.saved.sent
theorem Hh(c:eg)(b:List UInt8):(ir c b).sent=c.sent:=(BD c b).2.2.1
theorem M6{c:eg}(h:0≤c.sent∧c.aJ.length≤16)(r:Int)(own other:List UInt8):0≤(fL c r own other).sent:=by
 unfold fL
 split
 ·dsimp only
  split
  ·omega
  ·omega
 ·omega
theorem adr{d:bC}(h:QG d):QG (B6 d):=by
 refine⟨Ym h.1,?_⟩
 unfold B6
 split
 ·exact⟨h.2.2,h.2.2⟩
 ·exact h.2
theorem aaI{d:bC}(b:List UInt8)(h:QG d):QG (qU d b):=by
 refine⟨TM h.1,?_⟩
 unfold qU
 split
 ·exact⟨by rw[Hh];exact h.2.1,by rw[Hh];exact h.2.2⟩
 ·exact h.2
theorem aaJ{d:bC}(h:QG d)(r:Int)(own other:List UInt8):QG (rdev d r own other):=by
 refine⟨TH h.1 _ _ _,?_⟩
 have h1:=M6 ⟨h.2.1,h.1.1.1⟩ r own other
 unfold rdev
 split
 ·split
  ·exact⟨h1,h1⟩
  ·exact⟨h1,h.2.2⟩
 ·exact h.2
def I0(p:Fx):Prop:=p.d.live.sent<(p.d.live.aJ.length:Int)
instance (p:Fx):Decidable (I0 p):=inferInstanceAs (Decidable (_<_))
def F1(p:Fx):cu:=Ag p.c 24
def oO(p:Fx):cu:=if I0 p then aA (F1 p) 2 else F1 p
def yp(p:Fx):List UInt8:=if I0 p then(if aV (F1 p) 2=0 then n8 p.d.live p.d.live.sent else tG p.c 24)else tG p.c 24
def XB(p:Fx):List UInt8:=tG (aA (oO p) 3) (aV (oO p) 3).toNat
def M7(p:Fx):cu:=Ag (aA (oO p) 3) (aV (oO p) 3).toNat
def M8(p:Fx):List UInt8:=sR (nY p.d.live.key (IntKind.i64.wrap (1-cU p.d.live))) (p.d.live.inbox.length:Int) ⟨1,XB p⟩
def vo(p:Fx):Int:=aV (M7 p) 6
def ji(p:Fx):cu:=aA (M7 p) 6
def nq(p:Fx):Fx:=
 if vo p=0 then⟨ji p,B6 p.d⟩
 else if vo p=1 then⟨Ag (ji p) 2,qU p.d (tG (ji p) 2)⟩
 else⟨aA (ji p) 2,rdev p.d (IntKind.i64.wrap (p.d.live.next+aV (ji p) 2)) (yp p) (M8 p)⟩
theorem yq(p:Fx):(oO p).b=p.c.b:=by
 unfold oO
 split
 ·rw[aQ];unfold F1;rw[qZ]
 ·unfold F1;rw[qZ]
theorem I1(p:Fx):(M7 p).b=p.c.b:=by unfold M7;rw[qZ,aQ,yq]
theorem sJ(p:Fx):(ji p).b=p.c.b:=by unfold ji;rw[aQ,I1]
theorem aaK(p:Fx):(nq p).c.b=p.c.b:=by
 unfold nq
 split
 ·exact sJ p
 ·split
  ·show(Ag _ _).b=_;rw[qZ,sJ]
  ·show(aA _ _).b=_;rw[aQ,sJ]
theorem aaL{p:Fx}(h:QG p.d):QG (nq p).d:=by
 unfold nq
 split
 ·exact adr h
 ·split
  ·exact aaI _ h
  ·exact aaJ h _ _ _
def bh(p:Fx):Nat→Fx
 |0=>p
 |k+1=>nq (bh p k)
theorem M9(p:Fx): ∀k,(bh p k).c.b=p.c.b
 |0=>rfl
 |k+1=>by show(nq (bh p k)).c.b=_;rw[aaK,M9 p k]
theorem Na{p:Fx}(h:QG p.d): ∀k,QG (bh p k).d
 |0=>h
 |k+1=>aaL (Na h k)
def bk(c:cu):Fx:=⟨aA (yl c) 5,⟨ck c,ck c⟩⟩
def Fy(c:cu):Nat:=(aV (yl c) 5).toNat
def fk(c:cu):Fx:=bh (bk c) (Fy c)
theorem UP(c:cu):QG (bk c).d:=⟨⟨(ym c).1,(ym c).1⟩,(ym c).2,(ym c).2⟩
theorem UQ(c:cu):(bk c).c.b=c.b:=by unfold bk;dsimp only;rw[aQ,IZ]
theorem UR(c:cu):QG (fk c).d:=Na (UP c) _
theorem US(c:cu):(fk c).c.b=c.b:=by unfold fk;rw[M9,UQ]
def Fz(x:eg)(n:Int):eg:=⟨x.id,x.ct,x.key,x.seed,x.aJ,n,x.inbox,x.next⟩
def Nb(x:eg)(l:List (List UInt8)):eg:=⟨x.id,x.ct,x.key,x.seed,x.aJ,x.sent,l,x.next⟩
def iO(c:cu):Int:=aV (fk c).c 10
def oU(c:cu):cu:=aA (fk c).c 10
theorem FA(c:cu):(oU c).b=c.b:=by unfold oU;rw[aQ,US]
def jF(c:cu):bC:=
 if iO c=0 then⟨mJ (oU c),(fk c).d.saved⟩
 else if iO c=1 then⟨(fk c).d.live,Fz (fk c).d.saved (IntKind.i64.wrap ((fk c).d.live.sent+1))⟩
 else if iO c=2 then⟨(fk c).d.live,nx (fk c).d.saved (IntKind.i64.wrap ((fk c).d.live.next+aV (oU c) 3))⟩
 else if iO c=3 then⟨(fk c).d.live,Nb (fk c).d.saved ((fk c).d.saved.inbox++ [[1]])⟩
 else(fk c).d
def wG(c:cu):cu:=if iO c=0 then rj (oU c)else if iO c=1 then oU c else if iO c=2 then aA (oU c) 3 else oU c
def dvL(d:bC):Prop:=UO d.live∧UO d.saved
theorem aaM(c:cu):dvL (jF c):=by
 have h:=(UR c).1
 unfold jF
 generalize fk c=p at h ⊢
 have h1:=M5 h.1
 have h2:=M5 h.2
 split
 ·unfold dvL
  dsimp only
  exact⟨aaH _,h2⟩
 ·split
  ·exact⟨h1,h2⟩
  ·split
   ·exact⟨h1,h2⟩
   ·split
    ·refine⟨h1,h2.1,?_,h2.2.2.1,fun b hm=> ?_⟩
     ·show(p.d.saved.inbox++_).length≤18
      rw[List.length_append]
      have:=h.2.2.1
      simp;omega
     ·rcases List.mem_append.1 hm with hm|hm
      ·exact h2.2.2.2 b hm
      ·rw[List.mem_singleton.1 hm];decide
    ·exact⟨h1,h2⟩
theorem Qn(c:cu):bO (jF c)≤1200:=by
 obtain⟨h1,h2⟩:=aaM c
 have:=Hg h1
 have:=Hg h2
 unfold bO;omega
def low(l:List aR)(c:Int):Nat:=(l.takeWhile fun r=>decide (r.client<c)).length
theorem OZ(l:List aR)(c:Int):low l c≤l.length:=by
 unfold low
 induction l with
 |nil=>exact Nat.le_refl _
 |cons r l ih=>
  rw[List.takeWhile_cons]
  split
  ·simp only[List.length_cons];omega
  ·exact Nat.zero_le _
theorem UT: ∀{l:List aR} {c:Int} {k:Nat},k<low l c→k<l.length∧(l.getD k (aI .aR)).client<c
 | [],_,_,h=>by simp[low]at h
 |r::l,c,k,h=>by
  unfold low at h
  rw[List.takeWhile_cons]at h
  split at h
  ·rename_i hr
   cases k with
   |zero=>exact⟨by simp,by simpa using hr⟩
   |succ k=>
    have h2:k<low l c:=by unfold low;simpa using h
    obtain⟨a,b⟩:=UT h2
    exact⟨by simpa using a,by simpa using b⟩
  ·simp at h
theorem O0: ∀{l:List aR} {c:Int},low l c<l.length→ ¬(l.getD (low l c) (aI .aR)).client<c
 | [],_,h=>by simp at h
 |r::l,c,h=>by
  unfold low at h ⊢
  rw[List.takeWhile_cons]at h ⊢
  split at h
  ·rename_i hr
   rw[if_pos hr]
   simp only[List.length_cons]at h ⊢
   have:=O0 (l:=l) (c:=c) (by unfold low;omega)
   unfold low at this
   simpa using this
  ·rename_i hr
   rw[if_neg hr]
   simpa using hr
theorem aaN{l:List aR}{c:Int}{k:Nat}(hk:k≤low l c)(h:(if decide ((k:Int)<(l.length:Int))then decide ((l.getD k (aI .aR)).client<c)else false)=true):k<low l c:=by
 split at h
 ·rename_i h1
  rw[decide_eq_true_eq]at h h1
  rcases Nat.lt_or_ge k (low l c)with h2|h2
  ·exact h2
  ·have e:k=low l c:=by omega
   subst e
   exact absurd h (O0 (by omega))
 ·cases h
theorem aaO{l:List aR}{c:Int}{k:Nat}(hk:k≤low l c)(h:(if decide ((k:Int)<(l.length:Int))then decide ((l.getD k (aI .aR)).client<c)else false)=false):k=low l c:=by
 rcases Nat.lt_or_ge k (low l c)with h2|h2
 ·obtain⟨a,b⟩:=UT h2
  rw[if_pos (by rw[decide_eq_true_eq];omega),decide_eq_false_iff_not]at h
  exact absurd b h
 ·omega
def CA(s:bw)(c:Int)(d:DB):bw:=⟨s.id,s.rows,s.round,(s.received.take (low s.received c)++ [⟨c,d⟩])++s.received.drop (low s.received c),s.behavior⟩
def xd(s:bw)(c:Int)(d:DB):Bool:=cm s&&cm (CA s c d)
def Vx(s:bw)(c:Int)(d:DB):bw:=if xd s c d then CA s c d else s
theorem aaP{s:bw}{c:Int}{d:DB}(h:xd s c d=false):Vx s c d=s:=by rw[Vx,h];rfl
theorem XC{s:bw}{c:Int}{d:DB}(h:xd s c d=true):Vx s c d=CA s c d:=by rw[Vx,h];rfl
theorem ads{s:bw}{c:Int}{d:DB}(h:(if !cm s then true else !cm (CA s c d))=true):xd s c d=false:=by
 unfold xd
 cases hs:cm s<;>cases hi:cm (CA s c d)<;>simp_all
theorem adt{s:bw}{c:Int}{d:DB}(h:(if !cm s then true else !cm (CA s c d))=false):xd s c d=true:=by
 unfold xd
 cases hs:cm s<;>cases hi:cm (CA s c d)<;>simp_all
def FB(s:bw)(n:Nat):Prop:=s.received.length≤n∧ ∀r,r∈s.received→M4 r.share
theorem UU(s:bw)(c:Int)(d:DB):(CA s c d).received.length=s.received.length+1:=by
 have:=OZ s.received c
 show((_++_)++_:List aR).length=_
 simp only[List.length_append,List.length_take,List.length_drop,List.length_singleton]
 omega
theorem UW{s:bw}{c:Int}{d:DB}{r:aR}(h:r∈(CA s c d).received):r∈s.received∨r=⟨c,d⟩:=by
 rcases List.mem_append.1 (show r∈(s.received.take _++ [(⟨c,d⟩:aR)])++s.received.drop _ from h)with h|h
 ·rcases List.mem_append.1 h with h|h
  ·exact Or.inl (List.mem_of_mem_take h)
  ·exact Or.inr (List.mem_singleton.1 h)
 ·exact Or.inl (List.mem_of_mem_drop h)
theorem aaQ{s:bw}{n:Nat}{c:Int}{d:DB}(h:FB s n)(hd:M4 d):FB (CA s c d) (n+1):=by
 refine⟨by rw[UU];have:=h.1;omega,fun r hr=> ?_⟩
 rcases UW hr with hr|rfl
 ·exact h.2 r hr
 ·exact hd
theorem adu{s:bw}{n:Nat}{c:Int}{d:DB}(h:FB s n)(hd:M4 d):FB (Vx s c d) (n+1):=by
 unfold Vx
 split
 ·exact aaQ h hd
 ·exact⟨by have:=h.1;omega,h.2⟩
theorem rm{d:DB}(h:M4 d):dL List.length d.rows≤1664:=qR List.length 25 64 d.rows h.2 h.1
theorem aaR{s:bw}{n:Nat}(h:FB s n)(hn:n≤1000):s.received.length≤1048576∧ ∀r,r∈s.received→dL List.length r.share.rows≤1048576:=
 ⟨by have:=h.1;omega,fun r hr=>Nat.le_trans (rm (h.2 r hr)) (by decide)⟩
theorem Qo{s:bw}(h:FB s 9):dJ s≤15000:=by
 have:=qR uM 1664 9 s.received (fun r hr=>rm (h.2 r hr)) h.1
 unfold dJ;omega
structure XD where
 c:cu
 s:bw
def adv(p:XD):Nat:=p.s.rows.toNat
def afM(p:XD):XD:=⟨Lj (aA p.c 6) (adv p),Vx p.s (aV p.c 6) ⟨FM (aA p.c 6) (adv p)⟩⟩
def kB(p:XD):Nat→XD
 |0=>p
 |k+1=>afM (kB p k)
theorem Nc(p:XD): ∀k,(kB p k).c.b=p.c.b
 |0=>rfl
 |k+1=>by show(Lj (aA (kB p k).c 6) _).b=_;rw[Hf,aQ,Nc p k]
theorem UX(s:bw)(c:Int)(d:DB):(Vx s c d).rows=s.rows:=by unfold Vx;split<;>rfl
theorem Nd(c:cu){k:Nat}(h:k≤64):M4 ⟨FM c k⟩:=Ai (UC c h)
theorem UY{p:XD}(h:p.s.received= [])(hr:p.s.rows≤64): ∀k,FB (kB p k).s k∧(kB p k).s.rows=p.s.rows
 |0=>⟨⟨by show p.s.received.length≤0;rw[h];exact Nat.le_refl _,fun r hr=>by rw[show(kB p 0).s.received= []from h]at hr;cases hr⟩,rfl⟩
 |k+1=>by
  obtain⟨h1,h2⟩:=UY h hr k
  refine⟨adu h1 (Nd _ ?_),(UX _ _ _).trans h2⟩
  show(kB p k).s.rows.toNat≤64
  rw[h2];omega
def QH:List Int:= [0,0,1,2,3]
def CB(c:cu):cu:=aA (aA (aA c 3) 4) 5
def l7(c:cu):XD:=⟨aA (aA (CB c) 9) 5,⟨aV c 3,1+aV (aA c 3) 4,aV (CB c) 9,[],QH.getD (aV (aA (aA c 3) 4) 5).toNat (aI .int)⟩⟩
def CC(c:cu):Nat:=(aV (aA (CB c) 9) 5).toNat
def dN(c:cu):XD:=kB (l7 c) (CC c)
theorem UZ(c:cu):CC c≤4:=by
 have:=cS (aA (CB c) 9) (n:=5) (by decide)
 unfold CC;omega
theorem U0(c:cu):(l7 c).c.b=c.b:=by show(aA (aA (CB c) 9) 5).b=_;rw[aQ,aQ];unfold CB;rw[aQ,aQ,aQ]
theorem U1(c:cu):(dN c).c.b=c.b:=by unfold dN;rw[Nc,U0]
theorem aaS(c:cu):1≤(l7 c).s.rows∧(l7 c).s.rows≤4:=by
 have:=cS (aA c 3) (n:=4) (by decide)
 show 1≤1+aV (aA c 3) 4∧1+aV (aA c 3) 4≤4
 omega
theorem U2(c:cu)(k:Nat):FB (kB (l7 c) k).s k∧1≤(kB (l7 c) k).s.rows∧(kB (l7 c) k).s.rows≤4:=by
 have hr:=aaS c
 obtain⟨h1,h2⟩:=UY (p:=l7 c) rfl (by omega) k
 exact⟨h1,by omega,by omega⟩
theorem U3(c:cu):FB (dN c).s 4:=by
 have h:=(U2 c (CC c)).1
 have:=UZ c
 exact⟨by have:=h.1;unfold dN;omega,h.2⟩
def eR(c:cu):Int:=aV (dN c).c 12
def gP(c:cu):cu:=aA (dN c).c 12
theorem sK(c:cu):(gP c).b=c.b:=by unfold gP;rw[aQ,U1]
def oV(c:cu):bw:=
 if eR c=0 then⟨[-1,3,4].getD (aV (gP c) 3).toNat (aI .int),(dN c).s.rows,(dN c).s.round,(dN c).s.received,(dN c).s.behavior⟩
 else if eR c=1 then⟨(dN c).s.id,[0,IntKind.i64.wrap ((dN c).s.rows+1),65].getD (aV (gP c) 3).toNat (aI .int),(dN c).s.round,(dN c).s.received,(dN c).s.behavior⟩
 else if eR c=2 then⟨(dN c).s.id,(dN c).s.rows,[-1,100000,100001].getD (aV (gP c) 3).toNat (aI .int),(dN c).s.received,(dN c).s.behavior⟩
 else if eR c=3 then⟨(dN c).s.id,(dN c).s.rows,(dN c).s.round,(dN c).s.received,[-1,4].getD (aV (gP c) 2).toNat (aI .int)⟩
 else if eR c=4 then⟨(dN c).s.id,(dN c).s.rows,(dN c).s.round,(dN c).s.received++ [⟨[-1,0,7,8].getD (aV (gP c) 4).toNat (aI .int),UD (aA (gP c) 4)⟩],(dN c).s.behavior⟩
 else(dN c).s
def tK(c:cu):cu:=
 if eR c=0 then aA (gP c) 3 else if eR c=1 then aA (gP c) 3 else if eR c=2 then aA (gP c) 3 else if eR c=3 then aA (gP c) 2 else if eR c=4 then Vv (aA (gP c) 4)else gP c
theorem aaT(c:cu):FB (oV c) 9:=by
 have h:=U3 c
 unfold oV
 generalize dN c=p at h ⊢
 have hS:FB p.s 9:=⟨by have:=h.1;omega,h.2⟩
 split
 ·exact hS
 ·split
  ·exact hS
  ·split
   ·exact hS
   ·split
    ·exact hS
    ·split
     ·refine⟨?_,fun r hr=> ?_⟩
      ·show(p.s.received++_).length≤9
       rw[List.length_append]
       have:=h.1
       simp;omega
      ·rcases List.mem_append.1 hr with hr|hr
       ·exact h.2 r hr
       ·rw[List.mem_singleton.1 hr];exact UE _
     ·exact hS
end
section
def sb(rows:List (List UInt8))(v:List Int)(i k:Nat):UInt8:=if k<v.length∧v.getD k (aI .int)=1 then WM (rows.getD k (aI (.sl .u8))) i else 0
def sx(rows:List (List UInt8))(v:List Int)(i:Nat):Nat→UInt8
 |0=>0
 |n+1=>sx rows v i n^^^sb rows v i n
end
section

end
section
def bY(c:cu):Int:=aV c 24
def eo(c:cu):cu:=aA c 24
def jv(c:cu)(w:bp):bp:=
 if bY c=0 then⟨[0,IntKind.i64.wrap (w.rows+1),65].getD (aV (eo c) 3).toNat (aI .int),w.av,w.ak,w.aB,w.aX,w.seed,w.round,w.replaced,w.cancelled⟩
 else if bY c=1 then⟨w.rows,w.av.drop 1,w.ak,w.aB,w.aX,w.seed,w.round,w.replaced,w.cancelled⟩
 else if bY c=2 then⟨w.rows,w.av,w.ak.drop 1,w.aB,w.aX,w.seed,w.round,w.replaced,w.cancelled⟩
 else if bY c=3 then⟨w.rows,w.av,w.ak,w.aB,w.aX,w.seed,[-1,IntKind.i64.wrap (w.round+1),100001].getD (aV (eo c) 3).toNat (aI .int),w.replaced,w.cancelled⟩
 else if bY c=4 then⟨w.rows,w.av,w.ak,Fw (eo c),w.aX,w.seed,w.round,w.replaced,w.cancelled⟩
 else if bY c=5 then⟨w.rows,w.av,w.ak,w.aB,M1 (eo c),w.seed,w.round,w.replaced,w.cancelled⟩
 else if bY c=6 then⟨w.rows,w.av,w.ak,w.aB,w.aX,w.seed,w.round,w.replaced, -1⟩
 else if bY c=7 then⟨w.rows,w.av.set 0 (oV (eo c)),w.ak,w.aB,w.aX,w.seed,w.round,w.replaced,w.cancelled⟩
 else if bY c=8 then⟨w.rows,w.av,w.ak.set 0 (jF (eo c)),w.aB,w.aX,w.seed,w.round,w.replaced,w.cancelled⟩
 else w
def mS(c:cu):cu:=
 if bY c=0 then aA (eo c) 3 else if bY c=1 then eo c else if bY c=2 then eo c else if bY c=3 then aA (eo c) 3 else if bY c=4 then IW (eo c)else if bY c=5 then F0 (eo c)
 else if bY c=6 then eo c else if bY c=7 then tK (eo c)else if bY c=8 then wG (eo c)else eo c
theorem mT(c:cu):(eo c).b=c.b:=aQ _ _
def bW(x:bp):Prop:=wC x 1000∧x.cancelled≤1000
theorem Qq(c:cu):eJ (Fw c)≤1048576:=by
 obtain⟨h1,h2⟩:=Xy c
 exact Nat.le_trans (qR ez 1664 9 _ (fun y hy=>rm (h2 y hy)) h1) (by decide)
theorem O1{x:bp}(h:okW x=true): ∀s,s∈x.av→dJ s≤15000:=by
 intro s hs
 have:=nG h s hs
 unfold dJ
 rw[this]
 exact Nat.zero_le _
theorem aaX{x:bp}{n:Nat}(h:tI x n)(hn:n≤100)(c:cu):bW (jv c x):=by
 have hC:=jK h.C (show 8*n≤1000 by omega)
 have hc:=h.yh
 have o7:=ef h.ok
 have Vt:=(ni (kR h.ok)).2.1
 have h0:bW x:=⟨hC,by omega⟩
 unfold jv
 generalize bY c=k
 generalize eo c=o
 split
 ·exact h0
 ·split
  ·exact⟨⟨Nat.le_trans (qR dJ 15000 4 _ (fun s hs=>O1 h.ok s (List.mem_of_mem_drop hs)) (by rw[List.length_drop];omega)) (by decide),hC.2.1,hC.2.2.1,hC.2.2.2⟩,h0.2⟩
  ·split
   ·exact⟨⟨hC.1,Nat.le_trans (qR bO 960 8 _ (fun d hd=>gR (Fc h.ok d (List.mem_of_mem_drop hd))) (by rw[List.length_drop];omega)) (by decide),hC.2.2.1,hC.2.2.2⟩,h0.2⟩
   ·split
    ·exact h0
    ·split
     ·exact⟨⟨hC.1,hC.2.1,Qq o,hC.2.2.2⟩,h0.2⟩
     ·split
      ·exact h0
      ·split
       ·exact⟨hC,by show(-1:Int)≤1000;decide⟩
       ·split
        ·refine⟨⟨Nat.le_trans (qR dJ 15000 4 _ (fun s hs=> ?_) (by rw[List.length_set];omega)) (by decide),hC.2.1,hC.2.2.1,hC.2.2.2⟩,h0.2⟩
         have hx:=Qo (aaT o)
         generalize oV o=q at hs hx
         rcases List.mem_or_eq_of_mem_set hs with h3|h3
         ·exact O1 h.ok s h3
         ·subst h3;exact hx
        ·split
         ·refine⟨⟨hC.1,Nat.le_trans (qR bO 1200 8 _ (fun d hd=> ?_) (by rw[List.length_set];omega)) (by decide),hC.2.2.1,hC.2.2.2⟩,h0.2⟩
          have hx:=Qn o
          generalize jF o=q at hd hx
          rcases List.mem_or_eq_of_mem_set hd with h3|h3
          ·exact Nat.le_trans (gR (Fc h.ok d h3)) (by decide)
          ·subst h3;exact hx
         ·exact h0
theorem YE(c:cu){s:Int}(h:1≤s∧s≤100):tI (He c s).2 100:=by
 have h2:=Yx c (s:=s) (by omega)
 exact(Uz c s _ (by omega)).mono (by omega)
def rrC(c:cu)(s:Int):cu:=mS (He c s).1
def Nf(c:cu)(s:Int):bp:=jv (He c s).1 (He c s).2
theorem U5(c:cu){s:Int}(h:1≤s∧s≤100):bW (Nf c s):=aaX (YE c h) (Nat.le_refl _) _
theorem adx{x:bp}(h:bW x):wR x:=K8 h.1 (by decide)
theorem ady{x:bp}(h:bW x):wB x:=Fe h.1 (by decide)
end
end Go.Proofs.YtcnomgcfijjkmaaGreat.G
