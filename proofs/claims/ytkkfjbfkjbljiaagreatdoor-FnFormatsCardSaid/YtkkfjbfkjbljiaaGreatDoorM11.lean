/-
  Contracts by the symbolic machine: a selection's text.
-/
import Derived.KernelRfl
import Derived.Test.YtkkfjbfkjbljiaaGreatDoorProg
import Derived.Test.YtkkfjbfkjbljiaaGreatDoorM10
namespace Go.Proofs.YtkkfjbfkjbljiaaGreatDoor.G
set_option linter.all false
open Go.RowKit L D
section
theorem Vv:(Tryz.prog.info? 3).map (fun i=>(i.zero,i.size,i.bytes))=some (some (.int .i64 0),1,8):=by kernel_rfl
theorem OF:(Tryz.prog.info? 5).map (fun i=>(i.zero,i.size,i.bytes))=some (some (.int .u8 0),1,1):=by kernel_rfl
theorem Vw:(Tryz.prog.info? 9).map (fun i=>(i.zero,i.size,i.bytes))=some (some (.string ⟨#[]⟩),1,16):=by kernel_rfl
theorem OG:(Tryz.prog.info? 22).map (fun i=>(i.zero,i.size,i.bytes))=some (some (.slice none 0 0),1,24):=by kernel_rfl
theorem OH:(Tryz.prog.info? 25).map (fun i=>(i.zero,i.size,i.bytes))=some (some (.slice none 0 0),1,24):=by kernel_rfl
theorem WX:(Tryz.prog.info? 37).map (fun i=>(i.zero,i.size,i.bytes))=some (some (.slice none 0 0),1,24):=by kernel_rfl
theorem Ie:(Tryz.prog.info? 64).map (fun i=>(i.zero,i.size,i.bytes))=some (some (.agg #[.slice none 0 0]),1,24):=by kernel_rfl
theorem Ig:(Tryz.prog.info? 95).map (fun i=>(i.zero,i.size,i.bytes))=some (some (.agg #[.int .i64 0, .slice none 0 0]),2,32):=by kernel_rfl
theorem Ih:(Tryz.prog.info? 35).map (fun i=>(i.zero,i.size,i.bytes))=some (some (.agg #[.int .i64 0, .int .i64 0, .int .i64 0, .slice none 0 0, .int .i64 0]),5,56):=by kernel_rfl
theorem Ii:(Tryz.prog.info? 66).map (fun i=>(i.zero,i.size,i.bytes))=some (some (.agg #[.int .i64 0, .slice none 0 0]),2,32):=by kernel_rfl
theorem OI:(Tryz.prog.info? 31).map (fun i=>(i.zero,i.size,i.bytes))=some (some (.agg #[.int .i64 0, .slice none 0 0]),2,32):=by kernel_rfl
theorem OJ:(Tryz.prog.info? 39).map (fun i=>(i.zero,i.size,i.bytes))=some (some (.agg #[.int .i64 0, .int .i64 0, .int .i64 0, .int .i64 0, .slice none 0 0, .int .i64 0, .slice none 0 0, .int .i64 0]),8,96):=by kernel_rfl
theorem Ij:(Tryz.prog.info? 87).map (fun i=>(i.zero,i.size,i.bytes))=some (some (.agg #[.int .i64 0, .int .i64 0, .int .i64 0, .int .i64 0, .slice none 0 0, .int .i64 0, .slice none 0 0, .int .i64 0, .int .i64 0, .int .i64 0, .int .i64 0, .int .i64 0, .slice none 0 0, .int .i64 0, .slice none 0 0, .int .i64 0]),16,192):=by kernel_rfl
theorem OK:(Tryz.prog.info? 44).map (fun i=>(i.zero,i.size,i.bytes))=some (some (.agg #[.int .i64 0, .slice none 0 0, .slice none 0 0, .int .i64 0, .slice none 0 0, .int .i64 0, .int .i64 0, .int .i64 0, .slice none 0 0, .int .i64 0]),10,144):=by kernel_rfl
theorem Ik:(Tryz.prog.info? 60).map (fun i=>(i.zero,i.size,i.bytes))=some (some (.agg #[.int .i64 0, .int .i64 0, .int .i64 0]),3,24):=by kernel_rfl
theorem Ek:(Tryz.prog.info? 176).map (fun i=>(i.zero,i.size,i.bytes))=some (some (.agg #[.int .i64 0, .int .i64 0, .int .i64 0, .int .i64 0, .int .i64 0]),5,40):=by kernel_rfl
theorem JW:(Tryz.prog.info? 171).map (fun i=>(i.zero,i.size,i.bytes))=some (some (.agg #[.int .i64 0, .slice none 0 0]),2,32):=by kernel_rfl
theorem Em:(Tryz.prog.info? 185).map (fun i=>(i.zero,i.size,i.bytes))=some (some (.agg #[.int .i64 0, .int .i64 0, .slice none 0 0, .slice none 0 0, .int .i64 0]),5,72):=by kernel_rfl
theorem nL{P:Program}{i:Nat}{z:Option Value}{k b:Nat}(h:(P.info? i).map (fun i=>(i.zero,i.size,i.bytes))=some (z,k,b)):(P.info? i).map (·.size)=some k:=by
 cases hq:P.info? i with
 |none=>simp[hq]at h
 |some x=>simp[hq]at h;simp[h]
theorem S4{P:Program}{i:Nat}{z:Option Value}{k b:Nat}(h:(P.info? i).map (fun i=>(i.zero,i.size,i.bytes))=some (z,k,b)):(P.info? i).map (fun i=>(i.size,i.zero))=some (k,z):=by
 cases hq:P.info? i with
 |none=>simp[hq]at h
 |some x=>simp[hq]at h;simp[h]
theorem nM{P:Program}{t:Nat}{z:List Value}{tg:List (Option Tag)}{fo:List Nat}{fs:Array Field}{b:Nat}(hu:P.underlying t=some (.struct fs))(hi:(P.info? t).map (fun i=>(i.zero,i.size,i.bytes))=some (some (.agg z.toArray),z.length,b))(hz:z.all (·.oneCell')=true)(hf:uK P z.length fs.toList fo=true):cV P t (.st z tg fo):=
 ⟨fs,hu,S4 hi,fun v hv=>List.all_eq_true.1 hz v hv,fun f k h=>by obtain⟨fd,h1,h2⟩:=(qB hf).1 f k h;exact⟨fd,by simpa using h1,h2⟩,(qB hf).2⟩
theorem eN{P:Program}{i:Nat}(h:(P.info? i).map (fun i=>Nat.beq i.size 1)=some true):(P.info? i).map (·.size)=some 1:=by
 cases hq:P.info? i with
 |none=>simp[hq]at h
 |some x=>simp[hq]at h;simp[h]
def tys:List (Nat×TK):= [(3, .int .i64),
 (2, .int .i64),
 (21, .int .i32),
 (5, .int .u8),
 (194, .int .u32),
 (71, .int .u64),
 (156, .int .u64),
 (12, .int .u64),
 (4, .bool),
 (9, .str),
 (64, .st [.slice none 0 0] [some (.sl .u8)] [0]),
 (95, .st [.int .i64 0, .slice none 0 0] [none,some (.sl .u8)] [0,1]),
 (35, .st [.int .i64 0, .int .i64 0, .int .i64 0, .slice none 0 0, .int .i64 0] [none,none,none,some .aX,none] [0,1,2,3,4]),
 (66, .st [.int .i64 0, .slice none 0 0] [none,some (.sl .u8)] [0,1]),
 (31, .st [.int .i64 0, .slice none 0 0] [none,some .aK] [0,1]),
 (39, .st [.int .i64 0, .int .i64 0, .int .i64 0, .int .i64 0, .slice none 0 0, .int .i64 0, .slice none 0 0, .int .i64 0] [none,none,none,none,some (.sl .u8),none,some (.sl .u8),none] [0,1,2,3,4,5,6,7]),
 (87, .st [.int .i64 0, .int .i64 0, .int .i64 0, .int .i64 0, .slice none 0 0, .int .i64 0, .slice none 0 0, .int .i64 0, .int .i64 0, .int .i64 0, .int .i64 0, .int .i64 0, .slice none 0 0, .int .i64 0, .slice none 0 0, .int .i64 0] [none,none,none,none,some (.sl .u8),none,some (.sl .u8),none,none,none,none,none,some (.sl .u8),none,some (.sl .u8),none] [0,8]),
 (44, .st [.int .i64 0, .slice none 0 0, .slice none 0 0, .int .i64 0, .slice none 0 0, .int .i64 0, .int .i64 0, .int .i64 0, .slice none 0 0, .int .i64 0] [none,some .bD,some .bP,none,some .aK,none,none,none,some .int,none] [0,1,2,3,5,6,7,8,9]),
 (60, .st [.int .i64 0, .int .i64 0, .int .i64 0] [none,none,none] [0,1,2]),
 (176, .st [.int .i64 0, .int .i64 0, .int .i64 0, .int .i64 0, .int .i64 0] [none,none,none,none,none] [0,1,2,3,4]),
 (171, .st [.int .i64 0, .slice none 0 0] [none,some .u8] [0,1]),
 (185, .st [.int .i64 0, .int .i64 0, .slice none 0 0, .slice none 0 0, .int .i64 0] [none,none,some .int,some .u8,none] [0,1,2,3,4]),
 (25, .sl .int 3),
 (22, .sl .u8 5),
 (58, .sl .str 9),
 (37, .sl (.sl .u8) 22),
 (212, .sl (.sl .int) 25),
 (149, .sl .DB 64),
 (33, .sl .aX 95),
 (41, .sl .bD 35),
 (29, .sl .aK 66),
 (42, .sl .bP 87),
 (27, .sl .iy 60),
 (146, .sl .fA 176),
 (214, .sl .dy 185)]
def Γ(t:Nat):TK:=match look tys t with|some k=>k|none=> .other
def ty:Tag→Nat
 | .int=>3
 | .u8=>5
 | .str=>9
 | (.sl .u8)=>22
 | (.sl .int)=>25
 | (.sl (.sl .u8))=>37
 | .DB=>64
 | .aX=>95
 | .bD=>35
 | .aK=>66
 | .iK=>31
 | .dN=>39
 | .bP=>87
 | .bw=>44
 | .iy=>60
 | .fA=>176
 | .Plain=>171
 | .dy=>185
 |_=>1000000000
theorem WY:cV Tryz.prog 3 (.int .i64):=Tryz.underlying3
theorem WZ:cV Tryz.prog 2 (.int .i64):=Tryz.underlying2
theorem S5:cV Tryz.prog 21 (.int .i32):=Tryz.underlying21
theorem W0:cV Tryz.prog 5 (.int .u8):=Tryz.underlying5
theorem OL:cV Tryz.prog 194 (.int .u32):=Tryz.underlying194
theorem S6:cV Tryz.prog 71 (.int .u64):=Tryz.underlying71
theorem OM:cV Tryz.prog 156 (.int .u64):=Tryz.underlying156
theorem S7:cV Tryz.prog 12 (.int .u64):=Tryz.underlying12
theorem W1:cV Tryz.prog 4 (.bool):=Tryz.underlying4
theorem W2:cV Tryz.prog 9 (.str):=Tryz.underlying9
theorem S8:cV Tryz.prog 64 (.st [.slice none 0 0] [some (.sl .u8)] [0]):=nM Tryz.underlying64 Ie rfl (by kernel_rfl)
theorem S9:cV Tryz.prog 95 (.st [.int .i64 0, .slice none 0 0] [none,some (.sl .u8)] [0,1]):=nM Tryz.underlying95 Ig rfl (by kernel_rfl)
theorem Ta:cV Tryz.prog 35 (.st [.int .i64 0, .int .i64 0, .int .i64 0, .slice none 0 0, .int .i64 0] [none,none,none,some .aX,none] [0,1,2,3,4]):=nM Tryz.underlying35 Ih rfl (by kernel_rfl)
theorem Tb:cV Tryz.prog 66 (.st [.int .i64 0, .slice none 0 0] [none,some (.sl .u8)] [0,1]):=nM Tryz.underlying66 Ii rfl (by kernel_rfl)
theorem Tc:cV Tryz.prog 31 (.st [.int .i64 0, .slice none 0 0] [none,some .aK] [0,1]):=nM Tryz.underlying31 OI rfl (by kernel_rfl)
theorem Td:cV Tryz.prog 39 (.st [.int .i64 0, .int .i64 0, .int .i64 0, .int .i64 0, .slice none 0 0, .int .i64 0, .slice none 0 0, .int .i64 0] [none,none,none,none,some (.sl .u8),none,some (.sl .u8),none] [0,1,2,3,4,5,6,7]):=nM Tryz.underlying39 OJ rfl (by kernel_rfl)
theorem Te:cV Tryz.prog 87 (.st [.int .i64 0, .int .i64 0, .int .i64 0, .int .i64 0, .slice none 0 0, .int .i64 0, .slice none 0 0, .int .i64 0, .int .i64 0, .int .i64 0, .int .i64 0, .int .i64 0, .slice none 0 0, .int .i64 0, .slice none 0 0, .int .i64 0] [none,none,none,none,some (.sl .u8),none,some (.sl .u8),none,none,none,none,none,some (.sl .u8),none,some (.sl .u8),none] [0,8]):=nM Tryz.underlying87 Ij rfl (by kernel_rfl)
theorem Tf:cV Tryz.prog 44 (.st [.int .i64 0, .slice none 0 0, .slice none 0 0, .int .i64 0, .slice none 0 0, .int .i64 0, .int .i64 0, .int .i64 0, .slice none 0 0, .int .i64 0] [none,some .bD,some .bP,none,some .aK,none,none,none,some .int,none] [0,1,2,3,5,6,7,8,9]):=nM Tryz.underlying44 OK rfl (by kernel_rfl)
theorem Tg:cV Tryz.prog 60 (.st [.int .i64 0, .int .i64 0, .int .i64 0] [none,none,none] [0,1,2]):=nM Tryz.underlying60 Ik rfl (by kernel_rfl)
theorem ON:cV Tryz.prog 176 (.st [.int .i64 0, .int .i64 0, .int .i64 0, .int .i64 0, .int .i64 0] [none,none,none,none,none] [0,1,2,3,4]):=nM Tryz.underlying176 Ek rfl (by kernel_rfl)
theorem OO:cV Tryz.prog 171 (.st [.int .i64 0, .slice none 0 0] [none,some .u8] [0,1]):=nM Tryz.underlying171 JW rfl (by kernel_rfl)
theorem OP:cV Tryz.prog 185 (.st [.int .i64 0, .int .i64 0, .slice none 0 0, .slice none 0 0, .int .i64 0] [none,none,some .int,some .u8,none] [0,1,2,3,4]):=nM Tryz.underlying185 Em rfl (by kernel_rfl)
theorem Th:cV Tryz.prog 25 (.sl .int 3):=⟨Tryz.underlying25,nL Vv⟩
theorem Ti:cV Tryz.prog 22 (.sl .u8 5):=⟨Tryz.underlying22,nL OF⟩
theorem Tj:cV Tryz.prog 58 (.sl .str 9):=⟨Tryz.underlying58,nL Vw⟩
theorem Tk:cV Tryz.prog 37 (.sl (.sl .u8) 22):=⟨Tryz.underlying37,nL OG⟩
theorem OQ:cV Tryz.prog 212 (.sl (.sl .int) 25):=⟨Tryz.underlying212,nL OH⟩
theorem OR:cV Tryz.prog 149 (.sl .DB 64):=⟨Tryz.underlying149,nL Ie⟩
theorem Tl:cV Tryz.prog 33 (.sl .aX 95):=⟨Tryz.underlying33,nL Ig⟩
theorem Tm:cV Tryz.prog 41 (.sl .bD 35):=⟨Tryz.underlying41,nL Ih⟩
theorem Tn:cV Tryz.prog 29 (.sl .aK 66):=⟨Tryz.underlying29,nL Ii⟩
theorem To:cV Tryz.prog 42 (.sl .bP 87):=⟨Tryz.underlying42,nL Ij⟩
theorem Tp:cV Tryz.prog 27 (.sl .iy 60):=⟨Tryz.underlying27,nL Ik⟩
theorem OS:cV Tryz.prog 146 (.sl .fA 176):=⟨Tryz.underlying146,nL Ek⟩
theorem OT:cV Tryz.prog 214 (.sl .dy 185):=⟨Tryz.underlying214,nL Em⟩
set_option maxRecDepth 100000 in
theorem kinds: ∀e,e∈tys→cV Tryz.prog e.1 e.2:=by
 simp only[tys,List.forall_mem_cons]
 exact⟨WY,WZ,S5,W0,OL,S6,OM,S7,W1,W2,S8,S9,Ta,Tb,Tc,Td,Te,Tf,Tg,ON,OO,OP,Th,Ti,Tj,Tk,OQ,OR,Tl,Tm,Tn,To,Tp,OS,OT,by simp⟩
set_option maxRecDepth 100000 in
theorem Z9: ∀e,e∈tys→(∀z tg fo,e.2≠ .st z tg fo)→(Tryz.prog.info? e.1).map (·.size)=some 1:=by
 simp only[tys,List.forall_mem_cons]
 refine⟨fun _=>eN (by kernel_rfl),fun _=>eN (by kernel_rfl),fun _=>eN (by kernel_rfl),fun _=>eN (by kernel_rfl),fun _=>eN (by kernel_rfl),fun _=>eN (by kernel_rfl),fun _=>eN (by kernel_rfl),fun _=>eN (by kernel_rfl),fun _=>eN (by kernel_rfl),fun _=>eN (by kernel_rfl),fun h=>absurd rfl (h _ _ _),fun h=>absurd rfl (h _ _ _),fun h=>absurd rfl (h _ _ _),fun h=>absurd rfl (h _ _ _),fun h=>absurd rfl (h _ _ _),fun h=>absurd rfl (h _ _ _),fun h=>absurd rfl (h _ _ _),fun h=>absurd rfl (h _ _ _),fun h=>absurd rfl (h _ _ _),fun h=>absurd rfl (h _ _ _),fun h=>absurd rfl (h _ _ _),fun h=>absurd rfl (h _ _ _),fun _=>eN (by kernel_rfl),fun _=>eN (by kernel_rfl),fun _=>eN (by kernel_rfl),fun _=>eN (by kernel_rfl),fun _=>eN (by kernel_rfl),fun _=>eN (by kernel_rfl),fun _=>eN (by kernel_rfl),fun _=>eN (by kernel_rfl),fun _=>eN (by kernel_rfl),fun _=>eN (by kernel_rfl),fun _=>eN (by kernel_rfl),fun _=>eN (by kernel_rfl),fun _=>eN (by kernel_rfl),by simp⟩
theorem X:Ctx Tryz.prog ty Γ where
 kind:=fun t=>by
  unfold Γ
  split
  ·rename_i k hk;exact kinds (t,k) (dZ hk)
  ·trivial
 one:=fun t h1 h2=>by
  unfold Γ at h1 h2
  split at h1
  ·rename_i k hk;exact Z9 (t,k) (dZ hk) h1
  ·rename_i hk;rw[hk]at h2;exact absurd rfl h2
theorem AT:El Tryz.prog ty (.u8):=OF
theorem aA(t:Tag)(h:ty t<1000000000):El Tryz.prog ty t:=by
 unfold ty at h
 split at h
 ·exact Vv
 ·exact OF
 ·exact Vw
 ·exact OG
 ·exact OH
 ·exact WX
 ·exact Ie
 ·exact Ig
 ·exact Ih
 ·exact Ii
 ·exact OI
 ·exact OJ
 ·exact Ij
 ·exact OK
 ·exact Ik
 ·exact Ek
 ·exact JW
 ·exact Em
 ·exact absurd h (by decide)
abbrev So:=Sound ty Tryz.prog
end
section
theorem MO:Tryz.prog.follows .mixedOrders=true:=by kernel_rfl
theorem nb:(∀(p:Prop) [Decidable p],(decide p=true)=p)∧(∀(p:Prop) [Decidable p],(decide p=false)= ¬p)∧(∀b:Bool,((!b)=true)=(b=false))∧(∀b:Bool,((!b)=false)=(b=true))∧
  (∀(α:Type) [BEq α] [LawfulBEq α] (a b:α),((a==b)=true)=(a=b))∧(∀(α:Type) [BEq α] [LawfulBEq α] (a b:α),((a !=b)=true)=(¬a=b))∧(∀(α:Type) [BEq α] [LawfulBEq α] (a b:α),((a==b)=false)=(¬a=b))∧(∀(α:Type) [BEq α] [LawfulBEq α] (a b:α),((a !=b)=false)=(a=b))∧
  (∀(α:Type) (a b:α),(a≠b)= ¬a=b)∧(∀a b:Int,(a>b)=(b<a))∧(∀a b:Int,(a≥b)=(b≤a))∧(∀a b:Nat,(a>b)=(b<a))∧(∀a b:Nat,(a≥b)=(b≤a))∧(∀a b:Int,(¬a<b)=(b≤a))∧(∀a b:Int,(¬a≤b)=(b<a))∧
  (∀(p:Prop) [Decidable p],(¬ ¬p)=p)∧(∀n:Nat,(n:Int).toNat=n)∧(∀m n:Nat,((m:Int)<n)=(m<n))∧(∀m n:Nat,((m:Int)≤n)=(m≤n))∧(∀a b:Nat,(¬a<b)=(b≤a))∧(∀a b:Nat,(¬a≤b)=(b<a))∧
  (∀(p:Prop) [Decidable p] (b:Bool),(if p then b else false)=(decide p&&b))∧(∀(p:Prop) [Decidable p] (b:Bool),(if p then true else b)=(decide p||b))∧(∀(p:Prop) [Decidable p] (b:Bool),(if p then false else b)=(!decide p&&b))∧(∀(p:Prop) [Decidable p] (b:Bool),(if p then b else true)=(!decide p||b))∧
  (∀a b:Bool,((a&&b)=true)=(a=true∧b=true))∧(∀a b:Bool,((a||b)=true)=(a=true∨b=true))∧(∀a b:Bool,((a&&b)=false)=(a=false∨b=false))∧(∀a b:Bool,((a||b)=false)=(a=false∧b=false))∧(∀(b:Bool),decide (b=true)=b):=by
 refine⟨by simp,by simp,by simp,by simp,fun _ _ _ a b=>propext beq_iff_eq,fun _ _ _ a b=>propext bne_iff_ne,fun _ _ _ a b=>propext beq_eq_false_iff_ne,fun _ _ _ a b=>propext bne_eq_false_iff_eq,by simp,by simp,by simp,by simp,by simp,by simp,by simp,by simp,by simp,by simp,by simp,by simp,by simp,by simp,by simp,by simp,by simp,by simp,by simp,by simp,by simp,by simp⟩
theorem lens:(∀n:Nat,(n:Int).toNat=n)∧(∀(α:Type) (a b:List α),(a++b).length=a.length+b.length)∧(∀(α:Type) (a:α),[a].length=1)∧(∀(α:Type) (a:α) (l:List α),(a::l).length=l.length+1)∧(∀(α:Type),([]:List α).length=0)∧(∀(α:Type) (n:Nat) (a:α),(List.replicate n a).length=n)∧
  (∀(α:Type) (l:List α) (n:Nat) (a:α),(l.set n a).length=l.length)∧(∀(α β:Type) (f:α→β) (l:List α),(l.map f).length=l.length)∧(∀(α:Type) (l:List α) (n:Nat),(l.take n).length=min n l.length)∧(∀(α:Type) (l:List α) (n:Nat),(l.drop n).length=l.length-n)∧(∀n:Nat,(List.range n).length=n):=by
 refine⟨by simp,by simp,by simp,by simp,by simp,by simp,by simp,by simp,by simp,by simp,by simp⟩
theorem aE{p:Prop}{l:List Prop}(h:p)(k:kW l):kW (p::l):=⟨h,k⟩
theorem aB:kW []:=True.intro
theorem bE{α:Type}(l:List α)(k:Nat)(d:α)(h:k<l.length):l.take (k+1)=l.take k++ [l.getD k d]:=by
 rw[List.take_add_one,List.getD_eq_getElem?_getD,List.getElem?_eq_getElem h];rfl
theorem cw(a:Int)(n:Nat)(h:a=n)(h2:n<9223372036854775807):IntKind.i64.wrap (a+1)=((n+1:Nat):Int):=by
 subst h;rw[IntWalk.i64_in _ (by omega)];omega
theorem OU{P:Program}{ty:Tag→Nat}{f:FuncId}{xs:List S1}{v:Value}(h:Sound ty P f xs [.a (.lit v)]){w:World}{us:List Value}(ha:bH (DS w) xs us)(hA:zj w:=by first|assumption|exact trivial):Calls P f us.toArray w (U4 w v):=by
 refine(h.2 w us hA ha).mono ?_
 rintro e w' ⟨u,fp,rfl,hb,_,f1,f2,⟨rfl,_⟩,_⟩
 exact⟨rfl,hb⟩
theorem eO{P:Program}{ty:Tag→Nat}{w0:cL}{c:Code}{Q:Post}{st:St}(d:Nat){t:Tag}{l:List (T t)}(h:look st.sl d=some (.one (.a (.sl t l))))(k:l.length≤9223372036854775807→W P ty w0 c Q st):W P ty w0 c Q st:=by
 intro a w iv
 obtain⟨env,g⟩:=iv.good
 obtain⟨fp,⟨oa,cap,_,h1,h2,_⟩,_⟩:=g.slot d _ h
 have e:maxLen=9223372036854775807:=by decide
 exact k (by omega) a w iv
theorem bV{P:Program}{ty:Tag→Nat}{w0:cL}{c:Code}{Q:Post}{st:St}(d i:Nat){cs:List V}{t:Tag}{l:List (T t)}(h:look st.sl d=some (.one (.agg cs)))(hc:cs[i]? =some (.sl t l))(k:l.length≤9223372036854775807→W P ty w0 c Q st):W P ty w0 c Q st:=by
 intro a w iv
 obtain⟨env,g⟩:=iv.good
 obtain⟨us,_,hr⟩:=g.slot d _ h
 obtain⟨u,_,fp,⟨oa,cap,_,h1,h2,_⟩,_⟩:=hr.at hc
 have e:maxLen=9223372036854775807:=by decide
 exact k (by omega) a w iv
theorem En{α:Type} [DecidableEq α](a b:List α)(d:α)(k:Nat)(ha:k<a.length)(hb:k<b.length)(h:a.take k=b.take k)(he:a.getD k d=b.getD k d):a.take (k+1)=b.take (k+1):=by
 rw[bE a k d ha,bE b k d hb,h,he]
theorem Il{α:Type} [BEq α] [LawfulBEq α](a b:List α)(d:α)(k:Nat)(he:a.getD k d≠b.getD k d):(a==b)=false:=by
 rw[beq_eq_false_iff_ne];rintro rfl;exact he rfl
theorem Im{α:Type} [BEq α] [LawfulBEq α](a b:List α)(k:Nat)(hk:k=a.length)(hl:a.length=b.length)(h:a.take k=b.take k):(a==b)=true:=by
 rw[List.take_of_length_le (by omega),List.take_of_length_le (by omega)]at h
 rw[h];simp
theorem LG{α:Type} [BEq α] [LawfulBEq α](a b:List α)(hl:(a.length:Int)≠b.length):(a==b)=false:=by
 rw[beq_eq_false_iff_ne];rintro rfl;exact hl rfl
theorem W3{x y:UInt8}(h:(x.toNat:Int)=y.toNat):x=y:=by
 have:x.toNat=y.toNat:=by omega
 exact UInt8.toNat_inj.1 this
theorem jJ(a b:List UInt8):bI a++bI b=bI (a++b):=by
 apply ByteArray.ext
 simp[bI]
theorem LH(a:List UInt8):(bI a).data.toList=a:=rfl
theorem dA(a:List UInt8):(bI a).size=a.length:=rfl
theorem F6(l:List (List UInt8)):l.map ((fun x:ByteArray=>x.data.toList)∘bI)=l:=List.map_id l
theorem cM:IntKind.i64.max=9223372036854775807:=by decide
end
section
theorem Tq(x:UInt8):UInt8.ofNat (Int.toNat ((x.toNat:Nat):Int))=x:=by simp
theorem cj(n:Int):0≤IntKind.u8.wrap n∧IntKind.u8.wrap n<256:=by
 unfold IntKind.wrap
 simp only[IntKind.signed,IntKind.bits]
 simp
 omega
theorem cG(x:UInt8):0≤((x.toNat:Nat):Int)∧((x.toNat:Nat):Int)<256:=by
 have:=x.toNat_lt
 omega
theorem aaa(n:Int):(((UInt8.ofNat (IntKind.u8.wrap n).toNat).toNat:Nat):Int)=IntKind.u8.wrap n:=by
 have h:=cj n
 generalize IntKind.u8.wrap n=m at h
 simp
 omega
section
variable{α:Type}{mk:Int→α→α}{mn:α→Nat}
end
theorem abY{P:Program}{ty:Tag→Nat}{zb:cL}{c:Code}{Q:Post}{st:St}(st':St)(h:st=st')(k:W P ty zb c Q st'):W P ty zb c Q st:=h▸k
end
section
theorem aM{a:Int}(h: -9223372036854775808≤a∧a≤9223372036854775807):IntKind.i64.wrap a=a:=IntWalk.i64_in _ (by omega)
theorem Eo(n:Int):IntKind.u8.wrap n=n % 256:=by
 unfold IntKind.wrap
 simp only[IntKind.signed,IntKind.bits]
 simp
def b8(n:Int):UInt8:=UInt8.ofNat (IntKind.u8.wrap n).toNat
theorem vr(n:Int):((b8 n).toNat:Int)=n % 256:=by unfold b8;rw[aaa,Eo]
theorem Io{x y:UInt8}(h:(x.toNat:Int)=y.toNat):x=y:=W3 h
theorem ofNat_toNat(n:Int)(h0:0≤n)(h1:n<256):((UInt8.ofNat n.toNat).toNat:Int)=n:=by
 simp;omega
theorem ofNat_eq{n:Int}{x:UInt8}(h0:0≤n)(h1:n<256)(h:n=x.toNat):UInt8.ofNat n.toNat=x:=by
 apply Io;rw[ofNat_toNat n h0 h1,h]
theorem F7{a b:Int}(h:a % 256=b % 256):b8 a=b8 b:=by
 apply Io;rw[vr,vr,h]
theorem eP{a b:Int}(h:0≤a):a.tmod b=a % b:=Int.tmod_eq_emod_of_nonneg h
theorem vu{a b:Int}(h:0≤a):a.tdiv b=a/b:=Int.tdiv_eq_ediv_of_nonneg h
theorem md_eq(p q:Int)(h1:1≤q)(h2:q≤1000000000000):(IntKind.i64.wrap (p.tmod q+q)).tmod q=p % q:=by
 have hb: -q<p.tmod q∧p.tmod q<q:=⟨Int.lt_tmod_of_pos p (by omega),Int.tmod_lt_of_pos p (by omega)⟩
 rw[aM (by omega),eP (by omega),Int.add_emod_right]
 rcases Int.le_total 0 p with h|h
 ·rw[eP h,Int.emod_emod_of_dvd _ (Int.dvd_refl q)]
 ·have e:p.tmod q=p-q*p.tdiv q:=by have:=Int.tmod_add_mul_tdiv p q;omega
  rw[e,Int.sub_mul_emod_self_left]
def hs1(h v:Int):Int:=(h*1000003+v % 2147483647+13)% 2147483647
def hsh(l:List Int):Int:=l.foldl hs1 11
def kh(k:Int)(l:List Int):Int:=hsh (k::(l++ [k]))
theorem LI(h v:Int):0≤hs1 h v∧hs1 h v<2147483647:=⟨Int.emod_nonneg _ (by decide),Int.emod_lt_of_pos _ (by decide)⟩
theorem oT{α β:Type}(f:β→α→β)(b:β)(l:List α)(k:Nat)(d:α)(h:k<l.length):(l.take (k+1)).foldl f b=f ((l.take k).foldl f b) (l.getD k d):=by
 rw[bE l k d h,List.foldl_append];rfl
theorem wZ: ∀l:List Int,0≤hsh l∧hsh l<2147483647:=by
 have g: ∀(l:List Int) (a:Int),(0≤a∧a<2147483647)→0≤l.foldl hs1 a∧l.foldl hs1 a<2147483647:=by
  intro l
  induction l with
  |nil=>intro a h;exact h
  |cons x r ih=>intro a _;exact ih _ (LI a x)
 exact fun l=>g l 11 (by decide)
theorem eB(k:Int)(l:List Int):0≤kh k l∧kh k l<2147483647:=wZ _
theorem W4{h v:Int}(h0:0≤h)(h1:h<2147483647):(IntKind.i64.wrap (IntKind.i64.wrap (IntKind.i64.wrap (h*1000003)+v % 2147483647)+13)).tmod 2147483647=hs1 h v:=by
 have hv:0≤v % 2147483647∧v % 2147483647<2147483647:=⟨Int.emod_nonneg _ (by decide),Int.emod_lt_of_pos _ (by decide)⟩
 rw[aM (a:=h*1000003) (by omega),aM (a:=h*1000003+v % 2147483647) (by omega),aM (by omega),eP (by omega)]
 rfl
def Ep(n:Int):Int:=if n=0 then 1 else n
theorem zw{n:Int}(h:0≤n):(if n>1 then n else 1)=Ep n:=by
 unfold Ep;split<;>split<;>omega
theorem rX{n:Int}(h:0≤n∧n<2147483647):1≤Ep n∧Ep n<2147483647:=by unfold Ep;split<;>omega
theorem aab{h:Int}(h0:0≤h)(h1:h<2147483647):0≤h*h∧h*h≤4611686009837453316:=by
 have:=Int.mul_le_mul (show h≤2147483646 by omega) (show h≤2147483646 by omega) h0 (by decide)
 exact⟨Int.mul_nonneg h0 h0,by omega⟩
def cs(s k:Int):Int:=(kh s [47,k]*kh s [47,k]+5)% 2147483647
theorem AU(s k:Int):0≤cs s k∧cs s k<2147483647:=⟨Int.emod_nonneg _ (by decide),Int.emod_lt_of_pos _ (by decide)⟩
theorem cs_eq{h:Int}(h0:0≤h)(h1:h<2147483647):(IntKind.i64.wrap (IntKind.i64.wrap (h*h)+5)).tmod 2147483647=(h*h+5)% 2147483647:=by
 have:=aab h0 h1
 rw[aM (a:=h*h) (by omega),aM (by omega),eP (by omega)]
theorem adb{x:Int}(h:0≤x):IntKind.i64.wrap (BitVec.ofInt IntKind.i64.bits x&&&BitVec.ofInt IntKind.i64.bits 1).toNat=x % 2:=by
 obtain⟨n,rfl⟩:=Int.eq_ofNat_of_zero_le h
 have e:(BitVec.ofInt IntKind.i64.bits (n:Int)&&&BitVec.ofInt IntKind.i64.bits 1).toNat=n % 2:=by
  rw[BitVec.toNat_and]
  have h1:(BitVec.ofInt IntKind.i64.bits 1).toNat=1:=by decide
  have h2:(BitVec.ofInt IntKind.i64.bits (n:Int)).toNat=n % 2^64:=by
   rw[BitVec.ofInt_natCast,BitVec.toNat_ofNat];rfl
  rw[h1,h2,Nat.and_one_is_mod]
  omega
 rw[e,aM (by omega)]
 omega
def rsb(h:Int):Int:=h*h % 2147483647/512 % 2
theorem W5{h:Int}(h0:0≤h)(h1:h<2147483647):IntKind.i64.wrap (BitVec.ofInt IntKind.i64.bits (((IntKind.i64.wrap (h*h)).tmod 2147483647).fdiv (2^(min (Int.toNat 9) IntKind.i64.bits)))&&&BitVec.ofInt IntKind.i64.bits 1).toNat=rsb h:=by
 have:=aab h0 h1
 have e:(2:Int)^(min (Int.toNat 9) IntKind.i64.bits)=512:=by decide
 rw[aM (a:=h*h) (by omega),eP (by omega),e,Int.fdiv_eq_ediv_of_nonneg _ (by decide)]
 have hm:0≤h*h % 2147483647:=Int.emod_nonneg _ (by decide)
 rw[adb (by omega)]
 rfl
theorem LJ(h:Int):rsb h=0∨rsb h=1:=by unfold rsb;omega
def jj:List UInt8→List UInt8→List UInt8
 | [],b=>b
 |a,[]=>a
 |x::a,y::b=>(x^^^y)::jj a b
theorem AV(a:List UInt8):jj a []=a:=by cases a<;>rfl
theorem Cd(a:List UInt8):jj [] a=a:=by cases a<;>rfl
theorem gm: ∀a b:List UInt8,(jj a b).length=max a.length b.length
 | [],b=>by simp[jj]
 |x::a,[]=>by simp[jj]
 |x::a,y::b=>by simp[jj,gm a b]
theorem Tr(x y:UInt8):UInt8.ofNat (IntKind.u8.wrap ((BitVec.ofInt IntKind.u8.bits (x.toNat:Int)^^^BitVec.ofInt IntKind.u8.bits (y.toNat:Int)).toNat:Int)).toNat=x^^^y:=by
 have h:(BitVec.ofInt IntKind.u8.bits (x.toNat:Int)^^^BitVec.ofInt IntKind.u8.bits (y.toNat:Int)).toNat=(x^^^y).toNat:=by
  rw[BitVec.ofInt_natCast,BitVec.ofInt_natCast,BitVec.toNat_xor,BitVec.toNat_ofNat,BitVec.toNat_ofNat,UInt8.toNat_xor]
  have hx:=x.toNat_lt
  have hy:=y.toNat_lt
  show x.toNat % 2^8^^^y.toNat % 2^8=_
  rw[Nat.mod_eq_of_lt (by omega),Nat.mod_eq_of_lt (by omega)]
 rw[h,Eo]
 apply ofNat_eq<;>have:=(x^^^y).toNat_lt<;>omega
def Tt(l:List UInt8)(i:Nat):UInt8:=l.getD i 0
theorem rY: ∀(a b:List UInt8) (k:Nat),k<max a.length b.length→(jj a b).take (k+1)=(jj a b).take k++ [Tt a k^^^Tt b k]
 | [],b,k,h=>by
   rw[Cd,bE b k 0 (by simpa using h)]
   simp[Tt]
 |x::a,[],k,h=>by
  rw[AV,bE (x::a) k 0 (by simpa using h)]
  simp[Tt]
 |x::a,y::b,0,h=>by simp[jj,Tt]
 |x::a,y::b,k+1,h=>by
  rw[jj,List.take_succ_cons,List.take_succ_cons,rY a b k (by simp at h;omega)]
  simp[Tt]
theorem getD_drop{α:Type}(l:List α)(k:Nat)(d:α)(h:k<l.length):l.drop k=l.getD k d::l.drop (k+1):=by
 rw[List.drop_eq_getElem_cons h,List.getD_eq_getElem?_getD,List.getElem?_eq_getElem h];rfl
theorem F8{α:Type}(f l:List α)(k:Nat)(d y:α)(h:k<l.length)(hf:k<f.length)(hy:f.getD k d=y):(f.take k++l.drop k).set k y=f.take (k+1)++l.drop (k+1):=by
 have hk:(f.take k).length=k:=by rw[List.length_take];omega
 rw[List.set_append_right _ _ (by omega),hk,Nat.sub_self,getD_drop l k d h,List.set_cons_zero,bE f k d hf,List.append_assoc,hy]
 rfl
theorem AW{α:Type}(f l:List α)(k:Nat)(d:α)(hf:k≤f.length):(f.take k++l.drop k).getD k d=l.getD k d:=by
 have hk:(f.take k).length=k:=by rw[List.length_take];omega
 rw[List.getD_eq_getElem?_getD,List.getElem?_append_right (by omega),hk,Nat.sub_self,List.getElem?_drop,List.getD_eq_getElem?_getD,Nat.add_zero]
theorem AX{α:Type}(f l:List α)(k:Nat)(hf:f.length=l.length)(h:k≤l.length):(f.take k++l.drop k).length=l.length:=by
 rw[List.length_append,List.length_take,List.length_drop];omega
theorem qN{α β:Type}(f:α→β)(l:List α)(k:Nat)(d:α)(h:k<l.length):(l.take (k+1)).map f=(l.take k).map f++ [f (l.getD k d)]:=by
 rw[bE l k d h,List.map_append];rfl
theorem tQ{β:Type}(f:Nat→β)(k:Nat):(List.range (k+1)).map f=(List.range k).map f++ [f k]:=by
 rw[List.range_succ,List.map_append];rfl
theorem AY{α:Type}(p:α→Bool)(l:List α)(k:Nat)(d:α)(h:k<l.length):(l.take (k+1)).all p=((l.take k).all p&&p (l.getD k d)):=by
 rw[bE l k d h,List.all_append];simp
theorem OV{α:Type}(p:α→Bool)(l:List α)(k:Nat)(d:α)(h:k<l.length):(l.take (k+1)).any p=((l.take k).any p||p (l.getD k d)):=by
 rw[bE l k d h,List.any_append];simp
theorem vv{α:Type}(l:List α)(p:α→Bool)(d:α)(k:Nat)(h:k<l.length)(h2:p (l.getD k d)=true):l.any p=true:=by
 rw[List.any_eq_true]
 refine⟨l.getD k d,?_,h2⟩
 rw[List.getD_eq_getElem?_getD,List.getElem?_eq_getElem h];simp
theorem Ip{α:Type}(l:List α)(p:α→Bool)(d:α)(k:Nat)(h:k<l.length)(h2:p (l.getD k d)=false):l.all p=false:=by
 rw[List.all_eq_false]
 refine⟨l.getD k d,?_,by rw[h2];decide⟩
 rw[List.getD_eq_getElem?_getD,List.getElem?_eq_getElem h];simp
theorem Iq{α:Type}(l:List α)(k:Nat)(d:α)(h:k<l.length):l[k]? =some (l.getD k d):=by
 rw[List.getD_eq_getElem?_getD,List.getElem?_eq_getElem h];rfl
theorem cI{α:Type}(l:List α)(k:Nat):(l.take k).length≤k:=by rw[List.length_take];omega
def inr(x lo hi:Int):Bool:=if decide (x≥lo)then decide (x≤hi)else false
theorem cP{x lo hi:Int}:(inr x lo hi=true)=(lo≤x∧x≤hi):=by simp[inr]
theorem Vx{x lo hi:Int}:(inr x lo hi=false)= ¬(lo≤x∧x≤hi):=by rw[←cP];simp
theorem LK{α:Type}{l:List α}:(l.isEmpty=true)=(l= []):=by simp
theorem aP:((∀(p:Prop) [Decidable p],(decide p=true)=p)∧(∀(p:Prop) [Decidable p],(decide p=false)= ¬p)∧(∀b:Bool,((!b)=true)=(b=false))∧(∀b:Bool,((!b)=false)=(b=true))∧(∀(α:Type) [BEq α] [LawfulBEq α] (a b:α),((a==b)=true)=(a=b))∧(∀(α:Type) [BEq α] [LawfulBEq α] (a b:α),((a !=b)=true)=(¬a=b))∧(∀(α:Type) [BEq α] [LawfulBEq α] (a b:α),((a==b)=false)=(¬a=b))∧(∀(α:Type) [BEq α] [LawfulBEq α] (a b:α),((a !=b)=false)=(a=b))∧(∀(α:Type) (a b:α),(a≠b)= ¬a=b)∧(∀a b:Int,(a>b)=(b<a))∧(∀a b:Int,(a≥b)=(b≤a))∧(∀a b:Nat,(a>b)=(b<a))∧(∀a b:Nat,(a≥b)=(b≤a))∧(∀a b:Int,(¬a<b)=(b≤a))∧(∀a b:Int,(¬a≤b)=(b<a))∧(∀(p:Prop) [Decidable p],(¬ ¬p)=p)∧(∀n:Nat,(n:Int).toNat=n)∧(∀m n:Nat,((m:Int)<n)=(m<n))∧(∀m n:Nat,((m:Int)≤n)=(m≤n))∧(∀a b:Nat,(¬a<b)=(b≤a))∧(∀a b:Nat,(¬a≤b)=(b<a))∧(∀(p:Prop) [Decidable p] (b:Bool),(if p then b else false)=(decide p&&b))∧(∀(p:Prop) [Decidable p] (b:Bool),(if p then true else b)=(decide p||b))∧(∀(p:Prop) [Decidable p] (b:Bool),(if p then false else b)=(!decide p&&b))∧(∀(p:Prop) [Decidable p] (b:Bool),(if p then b else true)=(!decide p||b))∧(∀a b:Bool,((a&&b)=true)=(a=true∧b=true))∧(∀a b:Bool,((a||b)=true)=(a=true∨b=true))∧(∀a b:Bool,((a&&b)=false)=(a=false∨b=false))∧(∀a b:Bool,((a||b)=false)=(a=false∧b=false))∧(∀(b:Bool),decide (b=true)=b))∧(∀x lo hi:Int,(inr x lo hi=true)=(lo≤x∧x≤hi))∧(∀x lo hi:Int,(inr x lo hi=false)= ¬(lo≤x∧x≤hi))∧(∀(α:Type) (l:List α),(l.isEmpty=true)=(l= [])):=⟨nb,fun _ _ _=>cP,fun _ _ _=>Vx,fun _ _=>LK⟩
theorem OW(l:List Int)(k:Nat)(h:k<l.length):hsh (l.take (k+1))=(IntKind.i64.wrap (IntKind.i64.wrap (IntKind.i64.wrap (hsh (l.take k)*1000003)+(l.getD k (aI .int))% 2147483647)+13)).tmod 2147483647:=by
 rw[W4 (wZ _).1 (wZ _).2]
 exact oT hs1 11 l k _ h
def Ir(l:List UInt8):List Int:=(l.length:Int)::l.map fun c=>(c.toNat:Int)
theorem OX(l:List UInt8)(k:Nat)(h:k<l.length):(l.length:Int)::(l.take (k+1)).map (fun c=>(c.toNat:Int))=((l.length:Int)::(l.take k).map (fun c=>(c.toNat:Int)))++ [IntKind.i64.wrap ((l.getD k (aI .u8)).toNat:Int)]:=by
 have:=(l.getD k (aI .u8)).toNat_lt
 rw[aM (by omega),qN (fun c:UInt8=>(c.toNat:Int)) l k (aI .u8) h]
 rfl
def stream(s:Int)(n:Nat):List UInt8:=(List.range n).map fun i:Nat=>b8 (cs s (100+(i:Int))/256)
theorem gX(s:Int)(n:Nat):(stream s n).length=n:=by simp[stream]
theorem F9(s:Int)(k:Nat)(h:k≤1000):stream s (k+1)=stream s k++ [UInt8.ofNat (IntKind.u8.wrap (IntKind.i64.wrap ((cs s (IntKind.i64.wrap (100+(k:Int)))).tdiv 256))).toNat]:=by
 have h1:=AU s (100+(k:Int))
 rw[aM (a:=100+(k:Int)) (by omega),vu h1.1,aM (by omega)]
 exact tQ (fun i:Nat=>b8 (cs s (100+(i:Int))/256)) k
end
section
theorem yu{α:Type}(f:List α)(k:Nat)(d y:α)(h:k<f.length)(hy:f.getD k d=y):f.take (k+1)=f.take k++ [y]:=by rw[bE f k d h,hy]
theorem eG{β:Type}(n:Nat)(g:Nat→β)(k:Nat)(d:β)(h:k<n):((List.range n).map g).getD k d=g k:=by
 rw[List.getD_eq_getElem?_getD,List.getElem?_map,List.getElem?_range h];rfl
def tR(s:Int)(l:List UInt8):List UInt8:=(List.range l.length).map fun i:Nat=>b8 ((l.getD i (aI .u8)).toNat+kh s [(i:Int)]% 256)
theorem qP(s:Int)(l:List UInt8):(tR s l).length=l.length:=by simp[tR]
theorem OY(s:Int)(l:List UInt8)(k:Nat)(h:k<l.length):(tR s l).getD k (aI .u8)=b8 ((l.getD k (aI .u8)).toNat+kh s [(k:Int)]% 256):=eG _ _ k _ h
theorem LL(s:Int)(l:List UInt8)(k:Nat)(h:k<l.length):(tR s l).take (k+1)=(tR s l).take k++ [UInt8.ofNat (IntKind.u8.wrap ((IntKind.i64.wrap (IntKind.i64.wrap ((l.getD k (aI .u8)).toNat:Int)+(kh s [(k:Int)]).tmod 256)).tmod 256)).toNat]:=by
 refine yu _ k (aI .u8) _ (by rw[qP];exact h) ?_
 rw[OY s l k h]
 refine F7 ?_
 have:=eB s [(k:Int)]
 have hx:=(l.getD k (aI .u8)).toNat_lt
 rw[eP this.1,aM (a:=((l.getD k (aI .u8)).toNat:Int)) (by omega),aM (by omega),eP (by omega)]
 omega
def decr(s:Int)(l:List UInt8):List UInt8:=(List.range l.length).map fun i:Nat=>b8 ((l.getD i (aI .u8)).toNat-kh s [(i:Int)]% 256)
theorem A2(s:Int)(l:List UInt8):(decr s l).length=l.length:=by simp[decr]
theorem OZ(s:Int)(l:List UInt8)(k:Nat)(h:k<l.length):(decr s l).getD k (aI .u8)=b8 ((l.getD k (aI .u8)).toNat-kh s [(k:Int)]% 256):=eG _ _ k _ h
theorem LM(s:Int)(l:List UInt8)(k:Nat)(h:k<l.length):(decr s l).take (k+1)=(decr s l).take k++ [UInt8.ofNat (IntKind.u8.wrap ((IntKind.i64.wrap (IntKind.i64.wrap ((l.getD k (aI .u8)).toNat:Int)-(kh s [(k:Int)]).tmod 256))% 256)).toNat]:=by
 refine yu _ k (aI .u8) _ (by rw[A2];exact h) ?_
 rw[OZ s l k h]
 refine F7 ?_
 have:=eB s [(k:Int)]
 have hx:=(l.getD k (aI .u8)).toNat_lt
 rw[eP this.1,aM (a:=((l.getD k (aI .u8)).toNat:Int)) (by omega),aM (by omega)]
 omega
theorem W6(a b:List UInt8)(k:Nat)(ha:k<a.length)(hb:k<b.length):(jj a b).take (k+1)=(jj a b).take k++ [UInt8.ofNat (IntKind.u8.wrap ((BitVec.ofInt IntKind.u8.bits ((a.getD k (aI .u8)).toNat:Int)^^^BitVec.ofInt IntKind.u8.bits ((b.getD k (aI .u8)).toNat:Int)).toNat:Int)).toNat]:=by
 rw[rY a b k (by omega),Tr];rfl
theorem Ga{α:Type}(l:List α)(k:Nat)(d:α)(h:l.length≤k):l.getD k d=d:=by
 rw[List.getD_eq_getElem?_getD,List.getElem?_eq_none h];rfl
theorem aad(a b:List UInt8)(k:Nat)(ha:k<a.length)(hb:b.length≤k):(jj a b).take (k+1)=(jj a b).take k++ [UInt8.ofNat (((a.getD k (aI .u8)).toNat:Int)).toNat]:=by
 rw[rY a b k (by omega),Tq]
 have:Tt b k=0:=Ga b k 0 hb
 rw[this];simp;rfl
theorem aae(a b:List UInt8)(k:Nat)(ha:a.length≤k)(hb:k<b.length):(jj a b).take (k+1)=(jj a b).take k++ [UInt8.ofNat (IntKind.u8.wrap ((BitVec.ofInt IntKind.u8.bits (0:Int)^^^BitVec.ofInt IntKind.u8.bits ((b.getD k (aI .u8)).toNat:Int)).toNat:Int)).toNat]:=by
 rw[rY a b k (by omega)]
 have:Tt a k=0:=Ga a k 0 ha
 rw[this]
 have:=Tr 0 (b.getD k (aI .u8))
 rw[show((0:UInt8).toNat:Int)=0 from rfl]at this
 rw[this];rfl
theorem W7{l:List (List UInt8)}(h:eu List.length l≤1048576)(k:Nat)(hk:k<l.length):(l.getD k (aI (.sl .u8))).length≤1048576:=oz h (Iq l k _ hk)
def mG(key round dir rows:Int):Int:=if(1≤rows∧rows≤64)∧0≤round∧round≤1000000000000 then cs (kh key [79,round,dir]) 0 % rows else-1
def Gb(seed round rows:Int):Int:=if 1≤rows∧rows≤64 then cs (kh seed [157,round]) 0 % rows else-1
def tS(key counter:Int)(data:List UInt8):Int:=kh key ([71,counter]++data.map fun c=>(c.toNat:Int))
theorem Tu(l:List UInt8)(counter:Int)(k:Nat)(h:k<l.length): [71,counter]++(l.take (k+1)).map (fun c=>(c.toNat:Int))=([71,counter]++(l.take k).map (fun c=>(c.toNat:Int)))++ [IntKind.i64.wrap ((l.getD k (aI .u8)).toNat:Int)]:=by
 have:=(l.getD k (aI .u8)).toNat_lt
 rw[aM (by omega),qN (fun c:UInt8=>(c.toNat:Int)) l k (aI .u8) h,List.append_assoc]
def four(n:Int):List UInt8:= [b8 n,b8 (n/256),b8 (n/65536),b8 (n/16777216)]
theorem Tv(n:Int): [UInt8.ofNat (IntKind.u8.wrap n).toNat,UInt8.ofNat (IntKind.u8.wrap (n.fdiv (2^(min (Int.toNat 8) IntKind.i64.bits)))).toNat,UInt8.ofNat (IntKind.u8.wrap (n.fdiv (2^(min (Int.toNat 16) IntKind.i64.bits)))).toNat,UInt8.ofNat (IntKind.u8.wrap (n.fdiv (2^(min (Int.toNat 24) IntKind.i64.bits)))).toNat]=four n:=by
 have e1:(2:Int)^(min (Int.toNat 8) IntKind.i64.bits)=256:=by decide
 have e2:(2:Int)^(min (Int.toNat 16) IntKind.i64.bits)=65536:=by decide
 have e3:(2:Int)^(min (Int.toNat 24) IntKind.i64.bits)=16777216:=by decide
 rw[e1,e2,e3,Int.fdiv_eq_ediv_of_nonneg _ (by decide),Int.fdiv_eq_ediv_of_nonneg _ (by decide),Int.fdiv_eq_ediv_of_nonneg _ (by decide)]
 rfl
def rZ(p:Plain):Bool:=(inr p.kind 0 3)&&decide ((p.body.length:Int)≤14)
def gO(k:Int):Bool:=inr k 1 2147483646
def nv(key counter:Int)(p:Plain):Bool:=gO key&&(inr counter 0 1000000000000)&&rZ p
def kf(key counter:Int)(p:Plain):List UInt8:= [b8 p.kind,b8 p.body.length]++p.body++(stream (kh key [61,counter]) 18).drop p.body.length
def vA(key counter:Int):Int:=Ep (kh key [67,counter])
def vB(key counter:Int)(p:Plain):List UInt8:=if nv key counter p then tR (vA key counter) (kf key counter p)++four (tS key counter (tR (vA key counter) (kf key counter p)))else []
def sR(key dir:Int):Int:=Ep (kh key [83,dir])
def cover(seed:Int):List UInt8:=stream (kh seed [73]) 24
end
section
theorem W8(b c:Bool):(if b=true then true else c)=(b||c):=by cases b<;>rfl
theorem O0(b c:Bool):(if b=true then c else false)=(b&&c):=by cases b<;>rfl
theorem Tw(a b:Int):(!decide (a<b))=decide (b≤a):=by rw[←decide_not];congr 1;exact propext Int.not_lt
theorem Tx(a b:Int):(!decide (a≤b))=decide (b<a):=by rw[←decide_not];congr 1;exact propext Int.not_le
theorem bne_not(a b:Int):(a !=b)= !(a==b):=rfl
theorem deq(a b:Int):decide (a=b)=(a==b):=rfl
theorem bK:(∀b c:Bool,(if b=true then true else c)=(b||c))∧(∀b c:Bool,(if b=true then c else false)=(b&&c))∧(∀a b:Int,a>b↔b<a)∧(∀a b:Nat,a>b↔b<a)∧(∀a b:Int,a≥b↔b≤a)∧(∀a b:Nat,a≥b↔b≤a)∧(∀a b:Int,(!decide (a<b))=decide (b≤a))∧(∀a b:Int,(!decide (a≤b))=decide (b<a))∧(∀a b:Int,(a !=b)= !(a==b))∧(∀a b:Int,decide (a=b)=(a==b))∧(∀(p:Prop) [Decidable p] [Decidable (¬p)],decide (¬p)= !decide p)∧(∀(α:Type) (a b:α),(a≠b)= ¬a=b)∧(∀a b:Bool,(!(a&&b))=(!a|| !b))∧(∀a b:Bool,(!(a||b))=(!a&& !b))∧(∀b:Bool,(!!b)=b)∧(∀b:Bool,(b&&true)=b)∧(∀b:Bool,(true&&b)=b)∧(∀b:Bool,(b||false)=b)∧(∀b:Bool,(false||b)=b)∧(∀n:Nat,(n:Int).toNat=n):=⟨W8,O0,fun _ _=>Iff.rfl,fun _ _=>Iff.rfl,fun _ _=>Iff.rfl,fun _ _=>Iff.rfl,Tw,Tx,bne_not,deq,fun _=>decide_not,fun _ _ _=>rfl,Bool.not_and,Bool.not_or,Bool.not_not,Bool.and_true,Bool.true_and,Bool.or_false,Bool.false_or,Int.toNat_natCast⟩
theorem dG{E R:Bool}(h:E=true)(he:E= !R):R=false:=by
 rw[h]at he
 cases R with
 |false=>rfl
 |true=>exact absurd he (by decide)
theorem dH{E R:Bool}(h:E=false)(he:E= !R):R=true:=by
 rw[h]at he
 cases R with
 |true=>rfl
 |false=>exact absurd he (by decide)
def cR(d:DB):Bool:=decide ((d.rows.length:Int)≤64)&&d.rows.all fun r=>decide ((r.length:Int)=24)
def vC(rows:Int)(l:List aX)(i:Nat):Bool:=inr (l.getD i (aI .aX)).client 0 7&& !(decide ((0:Int)<i)&&decide ((l.getD i (aI .aX)).client≤(l.getD (i-1) (aI .aX)).client))&&cR (l.getD i (aI .aX)).share&&(((l.getD i (aI .aX)).share.rows.length:Int)==rows)
def A5(s:bD):Bool:=inr s.id 0 3&&inr s.rows 1 64&&inr s.behavior 0 3&&inr s.round 0 100000&&decide ((s.received.length:Int)≤8)
def cN(s:bD):Bool:=A5 s&&(List.range s.received.length).all (vC s.rows s.received)
def w6(rows:Int)(l:List aK)(i:Nat):Bool:=inr (l.getD i (aI .aK)).round 0 100000&& !(decide ((0:Int)<i)&&decide ((l.getD i (aI .aK)).round≤(l.getD (i-1) (aI .aK)).round))&&cR (l.getD i (aI .aK)).db&&(((l.getD i (aI .aK)).db.rows.length:Int)==rows)
def C2(a:iK):Bool:=inr a.rows 1 64&&decide ((a.rounds.length:Int)≤8)
def gq(a:iK):Bool:=C2 a&&(List.range a.rounds.length).all (w6 a.rows a.rounds)
def eC(a:iK):Int:=if a.rounds.length=0 then-1 else(a.rounds.getD (a.rounds.length-1) (aI .aK)).round
def Ce(b:List UInt8):Bool:=decide ((14:Int)<b.length)
def dR(c:dN):Bool:=inr c.id 0 7&&inr c.bG 0 7&& !(c.id==c.bG)&&gO c.key&&decide ((c.aF.length:Int)≤16)&&decide ((c.inbox.length:Int)≤16)&& !c.aF.any Ce&& !c.inbox.any Ce&&inr c.sent 0 c.aF.length&&inr c.next 0 100000
def mS(a b:dN):Bool:=(a.id==b.id)&&(a.bG==b.bG)&&(a.key==b.key)&&(a.seed==b.seed)&&(a.aF==b.aF)
def Cf(a b:List (List UInt8)):Bool:=decide ((a.length:Int)≤b.length)&&(a==b.take a.length)
def dL(d:bP):Bool:=dR d.live&&dR d.saved&&mS d.live d.saved&&decide (d.saved.sent≤d.live.sent)&&decide (d.saved.next≤d.live.next)&&Cf d.saved.inbox d.live.inbox
def cW(n:Int):Bool:=inr n 2 4
def JX(x:bw)(i:Nat):Bool:=cN (x.an.getD i (aI .bD))&&((x.an.getD i (aI .bD)).id==(i:Int))&&((x.an.getD i (aI .bD)).rows==x.rows)&&((x.an.getD i (aI .bD)).round==x.round)&&decide (((x.an.getD i (aI .bD)).received.length:Int)≤0)
def okD(x:bw)(i:Nat):Bool:=dL (x.af.getD i (aI .bP))&&((x.af.getD i (aI .bP)).live.id==(i:Int))&&((x.af.getD i (aI .bP)).live.bG==((i^^^1:Nat):Int))&&((x.af.getD i (aI .bP)).live.key==(x.af.getD (i^^^1) (aI .bP)).live.key)&&decide ((x.af.getD i (aI .bP)).live.next≤x.round)
def LN(x:bw):Bool:=inr x.rows 1 64&&cW x.an.length&&inr x.af.length 2 8&&((x.af.length:Int).tmod 2==0)&&gq x.aJ&&(x.aJ.rows==x.rows)&&decide (eC x.aJ<x.round)&&gO x.bq&&inr x.round 0 100000&&decide (0≤x.cancelled)
def okW(x:bw):Bool:=LN x&&(List.range x.an.length).all (JX x)&&(List.range x.af.length).all (okD x)
theorem sj{p:Nat→Bool}{k:Nat}(h:(List.range k).all p=true)(hk:p k=true):(List.range (k+1)).all p=true:=by
 rw[List.range_succ,List.all_append,h];simp[hk]
theorem vD{p:Nat→Bool}{k n:Nat}(h:k<n)(hk:p k=false):(List.range n).all p=false:=by
 rw[List.all_eq_false]
 exact⟨k,List.mem_range.2 h,by rw[hk];decide⟩
def fidx{α:Type}(p:α→Bool)(l:List α):Int:=if l.any p then(l.findIdx p:Int)else-1
theorem A6{α:Type}{p:α→Bool}{l:List α}{k:Nat}(d:α)(h:k<l.length)(h1:(l.take k).any p=false)(h2:p (l.getD k d)=true):fidx p l=k:=by
 have ha:l.any p=true:=vv l p d k h h2
 have e:l=l.take k++l.getD k d::l.drop (k+1):=by rw[←getD_drop l k d h,List.take_append_drop]
 unfold fidx
 rw[if_pos ha]
 have hf:l.findIdx p=k:=by
  rw[List.findIdx_eq h]
  refine⟨?_,fun j hj=> ?_⟩
  ·rw[List.getD_eq_getElem?_getD,List.getElem?_eq_getElem h]at h2;exact h2
  ·rw[List.any_eq_false]at h1
   have:=h1 l[j] (by rw[List.mem_take_iff_getElem];exact⟨j,by omega,rfl⟩)
   simpa using this
 rw[hf]
theorem LO{α:Type}{p:α→Bool}{l:List α}(h:l.any p=false):fidx p l= -1:=by unfold fidx;rw[if_neg (by rw[h];decide)]
theorem Ty{α:Type}(p:α→Bool)(l:List α):decide (fidx p l≥0)=l.any p:=by
 unfold fidx
 cases h:l.any p
 ·rw[if_neg (by decide)];rfl
 ·rw[if_pos rfl];simp
theorem A7{α:Type}{p:α→Bool}{l:List α}{k:Nat}(d:α)(h:k<l.length)(h1:(l.take k).any p=false)(h2:p (l.getD k d)=false):(l.take (k+1)).any p=false:=by
 rw[OV p l k d h,h1,h2];rfl
end
section
theorem w7(k n:Nat)(h:k<n)(he:n % 2=0):k^^^1<n:=by
 have h1:(k^^^1)/2=k/2:=by
  have:=Nat.xor_div_two (a:=k) (b:=1)
  simpa using this
 have h2:k^^^1<2*(k/2)+2:=by
  have:=Nat.div_add_mod (k^^^1) 2
  have:=Nat.mod_lt (k^^^1) (show 0<2 by decide)
  omega
 omega
theorem LP(k:Nat)(h:k<2^62):IntKind.i64.wrap (BitVec.ofInt IntKind.i64.bits (k:Int)^^^BitVec.ofInt IntKind.i64.bits 1).toNat=((k^^^1:Nat):Int):=by
 have h2:(BitVec.ofInt IntKind.i64.bits (k:Int)^^^BitVec.ofInt IntKind.i64.bits 1).toNat=k^^^1:=by
  rw[BitVec.toNat_xor]
  have h1:(BitVec.ofInt IntKind.i64.bits 1).toNat=1:=by decide
  have h2:(BitVec.ofInt IntKind.i64.bits (k:Int)).toNat=k % 2^64:=by rw[BitVec.ofInt_natCast,BitVec.toNat_ofNat];rfl
  rw[h1,h2,Nat.mod_eq_of_lt (by omega)]
 have hx:=Nat.xor_lt_two_pow (n:=62) h (show 1<2^62 by decide)
 rw[h2,aM (by omega)]
theorem vF{x:bw}(h:LN x=true):x.af.length % 2=0∧x.af.length≤8∧2≤x.af.length:=by
 simp only[LN,cP,Bool.and_eq_true,beq_iff_eq]at h
 have h1:=h.1.1.1.1.1.1.2
 have h2:=h.1.1.1.1.1.1.1.2
 rw[eP (by omega)]at h1
 omega
theorem lW{x:bw}(h:okW x=true):LN x=true:=by simp only[okW,Bool.and_eq_true]at h;exact h.1.1
theorem eX{x:bw}(h:okW x=true):x.an.length≤4∧2≤x.an.length:=by
 have:=lW h
 simp only[LN,cW,cP,Bool.and_eq_true,beq_iff_eq]at this
 have h1:=this.1.1.1.1.1.1.1.1.2
 omega
def Y7(x:bw):Bool:=(List.range x.an.length).all (JX x)&&cW x.an.length
def Vy(x:bw):Bool:=((x.af.length:Int).tmod 2==0)&&inr x.af.length 2 8&&(List.range x.af.length).all (okD x)
def sU(x:bw)(c:Int):Bool:=inr c 0 (x.af.length-1)
def tT(x:bw)(c:Int):Bool:=sU x c&&decide (((c.toNat^^^1:Nat):Int)<x.af.length)
def dS(c:dN):Int:=if c.id<c.bG then 0 else 1
def tq(c:dN)(at':Int):List UInt8:=vB (sR c.key (dS c)) at' ⟨1,c.aF.getD at'.toNat (aI (.sl .u8))⟩
def tU(c:dN)(r n:Int):Bool:=dR c&&inr r 0 100000&&inr n 1 64
def tu(c:dN)(r n:Int):Int:=if tU c r n=true then(if c.sent<c.aF.length then mG c.key r (dS c) n else Gb c.seed r n)else 0
def lX(c:dN)(r n:Int):List UInt8:=if tU c r n=true then(if c.sent<c.aF.length then tq c c.sent else cover (kh c.seed [r]))else []
theorem C3{c:dN}{r n:Int}(h:tU c r n=true):0≤c.sent∧c.sent≤c.aF.length:=by
 simp only[tU,dR,cP,Bool.and_eq_true]at h
 exact h.1.1.1.2
theorem qQ{k c:Int}{p:Plain}(h:nv k c p=true):p.body.length≤14:=by
 simp only[nv,rZ,Bool.and_eq_true,decide_eq_true_eq]at h
 omega
theorem LQ{x:bw}{c:Int}(hd:x.af.length≤1048576):(sU x c&&sU x (IntKind.i64.wrap (BitVec.ofInt IntKind.i64.bits c^^^BitVec.ofInt IntKind.i64.bits 1).toNat))=tT x c:=by
 by_cases hc:sU x c=true
 ·have hc2:0≤c∧c<x.af.length:=by simp only[sU,cP]at hc;omega
  obtain⟨n,rfl⟩:=Int.eq_ofNat_of_zero_le hc2.1
  rw[LP n (by omega),tT,hc]
  simp only[Bool.true_and,sU,Int.toNat_natCast]
  rw[Bool.eq_iff_iff,cP,decide_eq_true_eq]
  omega
 ·rw[Bool.not_eq_true]at hc
  rw[tT,hc];rfl
end
section
def W9(s:Int)(i:Nat):Int:=rsb (kh s [(i:Int),41])
def cO(s rows:Int):List Int:=if 0≤rows∧rows≤64 then(List.range rows.toNat).map (W9 s)else []
theorem kK(s rows:Int):(cO s rows).length≤64:=by
 unfold cO
 split
 ·simp;omega
 ·simp
theorem Ba(s rows:Int)(k:Nat)(h0:(k:Int)<rows)(h1:rows≤64):k<(cO s rows).length:=by
 rw[cO,if_pos (by omega)];simp;omega
theorem Er(s rows:Int)(k:Nat)(h0:(k:Int)<rows)(h1:rows≤64):(cO s rows).take (k+1)=(cO s rows).take k++ [IntKind.i64.wrap (BitVec.ofInt IntKind.i64.bits (((IntKind.i64.wrap (kh s [(k:Int),41]*kh s [(k:Int),41])).tmod 2147483647).fdiv (2^(min (Int.toNat 9) IntKind.i64.bits)))&&&BitVec.ofInt IntKind.i64.bits 1).toNat]:=by
 rw[W5 (eB _ _).1 (eB _ _).2,bE _ _ 0 (Ba s rows k h0 h1)]
 congr 2
 rw[cO,if_pos (by omega),eG _ _ _ _ (by omega)]
 rfl
theorem Gc(s rows:Int)(k:Nat)(h:rows≤64→rows≤k):(cO s rows).take k=cO s rows:=by
 refine List.take_of_length_le ?_
 unfold cO
 split
 ·simp;omega
 ·simp
def jW(v:List Int)(rows:Int):Bool:=(decide ((v.length:Int)=rows)&&decide (rows≤64))&&v.all fun x=>inr x 0 1
theorem C4{v:List Int}{r:Int}(h:jW v r=true):(v.length:Int)=r∧r≤64:=by
 simp only[jW,Bool.and_eq_true,decide_eq_true_eq]at h
 exact h.1
theorem C5{v:List Int}{r:Int}(h:jW v r=true)(k:Nat)(hk:k<v.length):v.getD k (aI .int)=0∨v.getD k (aI .int)=1:=by
 simp only[jW,Bool.and_eq_true,List.all_eq_true,cP]at h
 have:=h.2 (v.getD k (aI .int)) (by rw[List.getD_eq_getElem?_getD,List.getElem?_eq_getElem hk];exact List.getElem_mem _)
 omega
def xb(x y:Int):Int:=if x=y then 0 else 1
theorem aag{x y:Int}(hx:x=0∨x=1)(hy:y=0∨y=1):IntKind.i64.wrap (BitVec.ofInt IntKind.i64.bits x^^^BitVec.ofInt IntKind.i64.bits y).toNat=xb x y:=by
 rcases hx with rfl|rfl<;>rcases hy with rfl|rfl<;>decide
def nR(a b:List Int):Bool:=jW a a.length&&jW b a.length
def qR(a b:List Int):List Int:=if nR a b then List.zipWith xb a b else []
theorem sk{a b:List Int}(h:nR a b=true):b.length=a.length∧a.length≤64:=by
 simp only[nR,Bool.and_eq_true]at h
 have h1:=C4 h.1
 have h2:=C4 h.2
 omega
theorem Bb{a b:List Int}(h:nR a b=true):qR a b=List.zipWith xb a b:=by rw[qR,if_pos h]
theorem Es{a b:List Int}(h:nR a b=true):(List.zipWith xb a b).length=a.length:=by
 have:=sk h
 rw[List.length_zipWith];omega
theorem Is(a b:List Int):(qR a b).length≤64:=by
 cases h:nR a b with
 |true=>rw[Bb h,Es h];exact(sk h).2
 |false=>rw[qR,if_neg (by rw[h];decide)];simp
theorem Tz{a b:List Int}(h:nR a b=true)(k:Nat)(hk:k<a.length):(List.zipWith xb a b).getD k (aI .int)=IntKind.i64.wrap (BitVec.ofInt IntKind.i64.bits (a.getD k (aI .int))^^^BitVec.ofInt IntKind.i64.bits (b.getD k (aI .int))).toNat:=by
 have hl:=sk h
 have h':=h
 simp only[nR,Bool.and_eq_true]at h'
 rw[aag (C5 h'.1 k hk) (C5 h'.2 k (by omega))]
 rw[List.getD_eq_getElem?_getD,List.getD_eq_getElem?_getD,List.getD_eq_getElem?_getD,List.getElem?_zipWith,List.getElem?_eq_getElem hk,List.getElem?_eq_getElem (show k<b.length by omega)]
 rfl
theorem Gd{a b:List Int}(h:nR a b=true)(k:Nat)(hk:k<a.length):(List.zipWith xb a b).take (k+1)=(List.zipWith xb a b).take k++ [IntKind.i64.wrap (BitVec.ofInt IntKind.i64.bits (a.getD k (aI .int))^^^BitVec.ofInt IntKind.i64.bits (b.getD k (aI .int))).toNat]:=by
 rw[bE _ k (aI .int) (by rw[Es h];exact hk),Tz h k hk]
def nA(rows i:Int):Bool:=inr rows 1 64&&inr i 0 (IntKind.i64.wrap (rows-1))
def yx(rows i:Int):List Int:=if nA rows i then(List.replicate rows.toNat (aI .int)).set i.toNat 1 else []
theorem Ge{rows i:Int}(h:nA rows i=true):1≤rows∧rows≤64∧0≤i∧i<rows:=by
 simp only[nA,Bool.and_eq_true,cP]at h
 rw[aM (by omega)]at h
 omega
theorem C6{rows i:Int}(h:nA rows i=true):yx rows i=(List.replicate rows.toNat (aI .int)).set i.toNat 1:=by rw[yx,if_pos h]
theorem C7{rows i:Int}(h:nA rows i=false):yx rows i= []:=by rw[yx,if_neg (by rw[h];decide)]
theorem C8(rows i:Int):(yx rows i).length≤64:=by
 cases h:nA rows i with
 |true=>rw[C6 h];have:=Ge h;simp;omega
 |false=>rw[C7 h];simp
def It(rows i:Int)(sd:List Int):Bool:= !decide (((yx rows i).length:Int)=0)&&cW (IntKind.i64.wrap ((sd.length:Int)+1))
def Bc(rows i:Int)(sd:List Int):List Int:=sd.foldl (fun l s=>qR l (cO s rows)) (yx rows i)
def vI(rows i:Int)(sd:List Int):List (List Int):=if It rows i sd then sd.map (fun s=>cO s rows)++ [Bc rows i sd]else []
theorem Iu(rows i:Int)(sd:List Int)(k:Nat)(h:k<sd.length):Bc rows i (sd.take (k+1))=qR (Bc rows i (sd.take k)) (cO (sd.getD k (aI .int)) rows):=oT _ _ sd k _ h
theorem C9(rows i:Int)(sd:List Int):(Bc rows i sd).length≤64:=by
 rcases List.eq_nil_or_concat sd with rfl| ⟨l,x,rfl⟩
 ·exact C8 _ _
 ·rw[List.concat_eq_append,Bc,List.foldl_append];exact Is _ _
theorem O1{rows i:Int}{sd:List Int}(h:It rows i sd=true)(hl:sd.length≤1048576):sd.length≤3:=by
 simp only[It,cW,Bool.and_eq_true,cP]at h
 rw[aM (by omega)]at h
 omega
def kZ(n:Nat)(r row s:Int):List Int:=(List.range (n-1)).map fun i:Nat=>kh s [229,r,row,(i:Int)]
theorem tW(n:Nat)(r row s:Int):(kZ n r row s).length=n-1:=by simp[kZ]
theorem Gf(n:Nat)(r row s:Int)(k:Nat)(h:k<n-1):(kZ n r row s).take (k+1)=(kZ n r row s).take k++ [kh s [229,r,row,(k:Int)]]:=by
 rw[bE _ k (aI .int) (by rw[tW];exact h),kZ,eG _ _ _ _ h]
end
section
set_option maxRecDepth 100000
theorem getD_some{α:Type}(l:List α)(d:α)(k:Nat)(h:k<l.length):l[k]? =some (l.getD k d):=by
 rw[List.getD_eq_getElem?_getD,List.getElem?_eq_getElem h];rfl
def JY(x:DB):Nat:=(eu List.length) x.rows
def qV(x:aX):Nat:=JY x.share
def eg(x:bD):Nat:=(eu qV) x.received
def cT(x:dN):Nat:=(eu List.length) x.aF+(eu List.length) x.inbox
def cD(x:bP):Nat:=cT x.live+cT x.saved
def eo(x:aK):Nat:=JY x.db
def gY(x:iK):Nat:=(eu eo) x.rounds
end
section
def Vz:List UInt8:=List.replicate 24 (aI .u8)
def dO(rows:Int):DB:=⟨if 0≤rows∧rows≤64 then List.replicate rows.toNat Vz else []⟩
theorem O2{α:Type}(n k:Nat)(x:α)(h:k<n):(List.replicate n x).take (k+1)=(List.replicate n x).take k++ [x]:=by
 rw[List.take_replicate,List.take_replicate,Nat.min_eq_left (by omega),Nat.min_eq_left (by omega),List.replicate_succ']
theorem nS(rows:Int):(dO rows).rows.length≤64:=by
 unfold dO;dsimp only;split
 ·simp;omega
 ·simp
theorem lM{rows:Int}(h:0≤rows∧rows≤64):(dO rows).rows=List.replicate rows.toNat Vz:=by unfold dO;dsimp only;rw[if_pos h]
theorem Iz(rows:Int)(k:Nat)(h0:(k:Int)<rows)(h1:rows≤64):(dO rows).rows.take (k+1)=(dO rows).rows.take k++ [Vz]:=by
 rw[lM (by omega)];exact O2 _ _ _ (by omega)
theorem O3(rows:Int)(k:Nat)(h0:(k:Int)<rows)(h1:rows≤64):k<(dO rows).rows.length:=by
 rw[lM (by omega)];simp;omega
theorem LU(rows:Int)(k:Nat)(h:rows≤64→rows≤k):(dO rows).rows.take k=(dO rows).rows:=by
 refine List.take_of_length_le ?_
 unfold dO;dsimp only;split
 ·simp;omega
 ·simp
def pM(d:DB)(i:Int)(c:List UInt8):Bool:=inr i 0 (IntKind.i64.wrap ((d.rows.length:Int)-1))&&decide ((c.length:Int)=24)
def Bd(d:DB)(i:Int)(c:List UInt8):DB:=if pM d i c then⟨d.rows.set i.toNat c⟩else d
theorem JZ{d:DB}{i:Int}{c:List UInt8}(hl:d.rows.length≤1048576)(h:pM d i c=true):0≤i∧i<d.rows.length∧c.length=24:=by
 simp only[pM,Bool.and_eq_true,cP,decide_eq_true_eq]at h
 rw[aM (by omega)]at h
 omega
theorem xd{d:DB}{i:Int}{c:List UInt8}(h:pM d i c=true):Bd d i c=⟨d.rows.set i.toNat c⟩:=by rw[Bd,if_pos h]
theorem LV{d:DB}{i:Int}{c:List UInt8}(h:pM d i c=false):Bd d i c=d:=by rw[Bd,if_neg (by rw[h];decide)]
def lC(a b:DB):Bool:=(cR a&&cR b)&&decide ((a.rows.length:Int)=b.rows.length)
def k8(a b:DB):List (List UInt8):=List.zipWith jj a.rows b.rows
def gZ(a b:DB):DB:=if lC a b then⟨k8 a b⟩else a
theorem Be{d:DB}(h:cR d=true):d.rows.length≤64:=by
 simp only[cR,Bool.and_eq_true,decide_eq_true_eq]at h;omega
theorem sn{d:DB}(h:cR d=true)(k:Nat)(hk:k<d.rows.length):(d.rows.getD k (aI (.sl .u8))).length=24:=by
 simp only[cR,Bool.and_eq_true,List.all_eq_true,decide_eq_true_eq]at h
 have:=h.2 (d.rows.getD k (aI (.sl .u8))) (by rw[List.getD_eq_getElem?_getD,List.getElem?_eq_getElem hk];exact List.getElem_mem _)
 omega
theorem Bf{a b:DB}(h:lC a b=true):cR a=true∧cR b=true∧a.rows.length=b.rows.length∧a.rows.length≤64:=by
 simp only[lC,Bool.and_eq_true,decide_eq_true_eq]at h
 have:=Be h.1.1
 exact⟨h.1.1,h.1.2,by omega,this⟩
theorem oU{a b:DB}(h:lC a b=true):(k8 a b).length=a.rows.length:=by
 have:=Bf h
 rw[k8,List.length_zipWith];omega
theorem Bg{a b:DB}(h:lC a b=true)(k:Nat)(hk:k<a.rows.length):(k8 a b).getD k (aI (.sl .u8))=jj (a.rows.getD k (aI (.sl .u8))) (b.rows.getD k (aI (.sl .u8))):=by
 have hb:=Bf h
 rw[k8,List.getD_eq_getElem?_getD,List.getD_eq_getElem?_getD,List.getD_eq_getElem?_getD,List.getElem?_zipWith,List.getElem?_eq_getElem hk,List.getElem?_eq_getElem (show k<b.rows.length by omega)]
 rfl
theorem Gg{a b:DB}(h:lC a b=true)(k:Nat)(hk:k<a.rows.length):(k8 a b).take (k+1)=(k8 a b).take k++ [jj (a.rows.getD k (aI (.sl .u8))) (b.rows.getD k (aI (.sl .u8)))]:=by
 rw[bE _ k (aI (.sl .u8)) (by rw[oU h];exact hk),Bg h k hk]
theorem xe{a b:DB}(h:lC a b=true):gZ a b=⟨k8 a b⟩:=by rw[gZ,if_pos h]
theorem so{a b:DB}(h:lC a b=false):gZ a b=a:=by rw[gZ,if_neg (by rw[h];decide)]
def k9(x:bw)(c:Int):List Int:=(List.range (x.an.length-1)).map fun i:Nat=>kh x.seed [223,x.round,c,(i:Int)]
theorem lZ(x:bw)(c:Int):(k9 x c).length=x.an.length-1:=by simp[k9]
theorem Gh(x:bw)(c:Int)(k:Nat)(h:k<x.an.length-1):(k9 x c).take (k+1)=(k9 x c).take k++ [kh x.seed [223,x.round,c,(k:Int)]]:=by
 rw[bE _ k (aI .int) (by rw[lZ];exact h),k9,eG _ _ _ _ h]
def tY(rows i:Int)(c:List UInt8):Bool:=inr rows 1 64&&pM (dO rows) i c
def Xa(rows i:Int)(c:List UInt8):DB:=if inr rows 1 64 then Bd (dO rows) i c else⟨[]⟩
theorem sq:Vz.length=24:=by simp[Vz]
theorem LW(rows:Int):eu List.length (dO rows).rows≤1048576:=by
 have h:=nS rows
 have h2:((dO rows).rows.map List.length).sum≤24*(dO rows).rows.length:=by
  unfold dO;dsimp only;split
  ·simp[sq];omega
  ·simp
 unfold eu;omega
end
section
theorem hJ{d:DB}:cR d=true↔d.rows.length≤64∧ ∀r,r∈d.rows→r.length=24:=by
 simp only[cR,Bool.and_eq_true,decide_eq_true_eq,List.all_eq_true]
 constructor
 ·rintro⟨h1,h2⟩;exact⟨by omega,fun r hr=>by have:=h2 r hr;omega⟩
 ·rintro⟨h1,h2⟩;exact⟨by omega,fun r hr=>by have:=h2 r hr;omega⟩
theorem fT{d:DB}(h:cR d=true):eu List.length d.rows≤1048576:=by
 obtain⟨h1,h2⟩:=hJ.1 h
 have h3: ∀l:List (List UInt8),(∀r,r∈l→r.length=24)→(l.map List.length).sum=24*l.length:=by
  intro l
  induction l with
  |nil=>intro _;rfl
  |cons x r ih=>intro hl;rw[List.map_cons,List.sum_cons,ih fun y hy=>hl y (by simp[hy]),hl x (by simp),List.length_cons];omega
 have:=h3 _ h2
 unfold eu;omega
theorem Gp{a b:DB}(ha:cR a=true)(hb:cR b=true):cR (gZ a b)=true:=by
 cases h:lC a b with
 |false=>rw[so h];exact ha
 |true=>
  rw[xe h,hJ]
  have hl:=oU h
  refine⟨by have:=Be ha;show(k8 a b).length≤64;omega,fun r hr=> ?_⟩
  obtain⟨k,hk⟩:=List.getElem?_of_mem hr
  have hk2:k<(k8 a b).length:=(List.getElem?_eq_some_iff.1 hk).1
  have hg:=Bg h k (by omega)
  rw[List.getD_eq_getElem?_getD,hk]at hg
  have hx:=Bf h
  rw[show r=_ from hg,gm,sn ha k (by omega),sn hb k (by omega)];rfl
def jg(s rows:Int):List (List UInt8):=(List.range rows.toNat).map fun r:Nat=>stream (IntKind.i64.wrap (s+IntKind.i64.wrap (1000*(r:Int)))) (24:Int).toNat
def TF(s rows:Int):DB:=⟨jg s rows⟩
theorem mV(s rows:Int):(jg s rows).length=rows.toNat:=by simp[jg]
theorem Ey(s rows:Int)(k:Nat)(h:k<rows.toNat):(jg s rows).take (k+1)=(jg s rows).take k++ [stream (IntKind.i64.wrap (s+IntKind.i64.wrap (1000*(k:Int)))) (24:Int).toNat]:=by
 rw[bE _ k (aI (.sl .u8)) (by rw[mV];exact h),jg,eG _ _ _ _ h]
theorem IE(s rows:Int)(h:rows≤64):cR (TF s rows)=true:=by
 rw[hJ]
 refine⟨by show(jg s rows).length≤64;rw[mV];omega,fun r hr=> ?_⟩
 obtain⟨k,_,rfl⟩:=List.mem_map.1 (show r∈jg s rows from hr)
 exact gX _ _
def xk(rows i:Int)(c:List UInt8)(sd:List Int):Bool:=tY rows i c&&cW (IntKind.i64.wrap ((sd.length:Int)+1))
def yz(rows i:Int)(c:List UInt8)(sd:List Int):DB:=sd.foldl (fun d s=>gZ d (TF s rows)) (Xa rows i c)
def vN(rows i:Int)(c:List UInt8)(sd:List Int):List DB:=if xk rows i c sd then sd.map (fun s=>TF s rows)++ [yz rows i c sd]else []
theorem IF{rows i:Int}{c:List UInt8}(h:tY rows i c=true):cR (Xa rows i c)=true∧1≤rows∧rows≤64:=by
 simp only[tY,Bool.and_eq_true]at h
 obtain⟨h1,h2⟩:=h
 have hr:1≤rows∧rows≤64:=by rw[cP]at h1;exact h1
 have hb:=JZ (Nat.le_trans (nS rows) (by decide)) h2
 refine⟨?_,hr⟩
 rw[Xa,if_pos h1,xd h2,hJ,lM (by omega)]
 refine⟨by simp;omega,fun r hr=> ?_⟩
 rcases List.mem_or_eq_of_mem_set hr with h|rfl
 ·rw[(List.mem_replicate.1 h).2,sq]
 ·exact hb.2.2
theorem IG(rows i:Int)(c:List UInt8)(sd:List Int)(k:Nat)(h:k<sd.length):yz rows i c (sd.take (k+1))=gZ (yz rows i c (sd.take k)) (TF (sd.getD k (aI .int)) rows):=oT _ _ sd k _ h
theorem Gq{rows i:Int}{c:List UInt8}(h:tY rows i c=true)(sd:List Int):cR (yz rows i c sd)=true:=by
 have hu:=IF h
 have g: ∀(l:List Int) (d:DB),cR d=true→cR (l.foldl (fun d s=>gZ d (TF s rows)) d)=true:=by
  intro l
  induction l with
  |nil=>intro d hd;exact hd
  |cons x r ih=>intro d hd;exact ih _ (Gp hd (IE x rows hu.2.2))
 exact g sd _ hu.1
theorem O7{rows i:Int}{c:List UInt8}{sd:List Int}(h:xk rows i c sd=true)(hl:sd.length≤1048576):tY rows i c=true∧sd.length≤3:=by
 simp only[xk,cW,Bool.and_eq_true,cP]at h
 rw[aM (by omega)]at h
 exact⟨h.1,by omega⟩
theorem Gr(rows i:Int)(c:List UInt8):tY rows i c=(inr rows 1 64&&inr i 0 (IntKind.i64.wrap (rows-1))&&decide ((c.length:Int)=24)):=by
 unfold tY
 cases h:inr rows 1 64 with
 |false=>rfl
 |true=>
  rw[cP]at h
  have:((dO rows).rows.length:Int)=rows:=by rw[lM (by omega)];simp;omega
  rw[pM,this]
  simp
theorem TG{rows i:Int}{c:List UInt8}{sd:List Int}(h:xk rows i c sd=true):Bd (dO rows) i c=Xa rows i c:=by
 simp only[xk,tY,Bool.and_eq_true]at h
 rw[Xa,if_pos h.1.1]
end
section
theorem LX(k c:Int)(p:Plain):(vB k c p).length≤100:=by
 unfold vB
 split
 ·rename_i h
  have hb:=qQ h
  have hp:(kf k c p).length≤40:=by
   unfold kf
   simp only[List.length_append,List.length_drop,List.length_cons,List.length_nil,gX];omega
  rw[List.length_append,qP]
  simp only[four,List.length_cons,List.length_nil];omega
 ·exact Nat.zero_le _
theorem II(c:dN)(r n:Int):(lX c r n).length≤1048576:=by
 unfold lX
 split
 ·split
  ·exact Nat.le_trans (LX _ _ _) (by decide)
  ·unfold cover;rw[gX];decide
 ·exact Nat.zero_le _
def RY(x:bw)(c:Int):dN:=(x.af.getD c.toNat (aI .bP)).live
def dX(x:bw)(c:Int):List DB:=vN x.rows (tu (RY x c) x.round x.rows) (lX (RY x c) x.round x.rows) (k9 x c)
end
section
theorem sB{E R:Bool}(h:E=true)(he:E=R):R=true:=by rw[←he];exact h
theorem xm{E R:Bool}(h:E=false)(he:E=R):R=false:=by rw[←he];exact h
theorem oV{x:bw}(h:okW x=true){i:Nat}(hi:i<x.af.length):okD x i=true:=by
 simp only[okW,Bool.and_eq_true,List.all_eq_true]at h
 exact h.2 i (List.mem_range.2 hi)
theorem Ez{x:bw}(h:okW x=true){i:Nat}(hi:i<x.an.length):JX x i=true:=by
 simp only[okW,Bool.and_eq_true,List.all_eq_true]at h
 exact h.1.2 i (List.mem_range.2 hi)
theorem O8{x:bw}{i:Nat}(h:okD x i=true):dR (x.af.getD i (aI .bP)).live=true:=by
 simp only[okD,dL,Bool.and_eq_true]at h
 exact h.1.1.1.1.1.1.1.1.1
theorem oW{x:bw}(h:okW x=true):(1≤x.rows∧x.rows≤64)∧0≤x.round∧x.round≤100000:=by
 have h:=lW h
 simp only[LN,Bool.and_eq_true,cP]at h
 omega
theorem Xg{x:bw}{c:Int}(h:okW x=true)(hc:0≤c∧c<x.af.length):dR (RY x c)=true:=O8 (oV h (by omega))
theorem Xh{x:bw}{c:Int}(h:okW x=true)(hc:0≤c∧c<x.af.length):tU (RY x c) x.round x.rows=true:=by
 have:=oW h
 simp only[tU,Xg h hc,Bool.and_eq_true,cP]
 exact⟨⟨trivial,this.2⟩,this.1⟩
theorem IJ{key r d n:Int}(h:(1≤n∧n≤64)∧0≤r∧r≤1000000000000):0≤mG key r d n∧mG key r d n<n:=by
 unfold mG
 rw[if_pos h]
 exact⟨Int.emod_nonneg _ (by omega),Int.emod_lt_of_pos _ (by omega)⟩
theorem IK{s r n:Int}(h:1≤n∧n≤64):0≤Gb s r n∧Gb s r n<n:=by
 unfold Gb
 rw[if_pos h]
 exact⟨Int.emod_nonneg _ (by omega),Int.emod_lt_of_pos _ (by omega)⟩
theorem Gs{c:dN}{r n:Int}(h:tU c r n=true):0≤tu c r n∧tu c r n<n:=by
 have hb:(0≤r∧r≤100000)∧1≤n∧n≤64:=by
  simp only[tU,Bool.and_eq_true,cP]at h;exact⟨h.1.2,h.2⟩
 rw[tu,if_pos h]
 split
 ·exact IJ (by omega)
 ·exact IK (by omega)
theorem TI(k d:Int):gO (sR k d)=true:=by
 have:=rX (eB k [83,d])
 simp only[gO,cP];unfold sR;omega
theorem sC{c:dN}(h:dR c=true):c.aF.length≤16∧c.inbox.length≤16∧(∀b,b∈c.aF→b.length≤14)∧(∀b,b∈c.inbox→b.length≤14)∧0≤c.sent∧c.sent≤c.aF.length∧0≤c.next∧c.next≤100000:=by
 simp only[dR,Bool.and_eq_true,Bool.not_eq_true',List.any_eq_false,cP,decide_eq_true_eq]at h
 obtain⟨⟨⟨⟨⟨⟨_,h1⟩,h2⟩,h3⟩,h4⟩,h5⟩,h6⟩:=h
 refine⟨by omega,by omega,fun b hb=> ?_,fun b hb=> ?_,h5.1,h5.2,h6.1,h6.2⟩
 ·have:=h3 b hb;simp only[Ce,decide_eq_true_eq]at this;omega
 ·have:=h4 b hb;simp only[Ce,decide_eq_true_eq]at this;omega
theorem getD_in{α:Type}{l:List α}{k:Nat}(d:α)(h:k<l.length):l.getD k d∈l:=by
 rw[List.getD_eq_getElem?_getD,List.getElem?_eq_getElem h];exact List.getElem_mem h
theorem Gt{k c:Int}{p:Plain}(h:nv k c p=true):(vB k c p).length=24:=by
 have hb:=qQ h
 rw[vB,if_pos h,List.length_append,qP]
 simp only[kf,four,List.length_append,List.length_drop,List.length_cons,List.length_nil,gX];omega
theorem LY{c:dN}(h:dR c=true){a:Int}(h0:0≤a)(h1:a<c.aF.length):(tq c a).length=24:=by
 obtain⟨q1,_,q2,_⟩:=sC h
 apply Gt
 simp only[nv,TI,rZ,Bool.and_eq_true,cP,decide_eq_true_eq]
 have:=q2 _ (getD_in (aI (.sl .u8)) (show a.toNat<c.aF.length by omega))
 refine⟨⟨trivial,by omega⟩,by omega,by omega⟩
theorem EA{c:dN}{r n:Int}(h:tU c r n=true):(lX c r n).length=24:=by
 rw[lX,if_pos h]
 split
 ·rename_i hs
  have hc:dR c=true:=by simp only[tU,Bool.and_eq_true]at h;exact h.1.1
  exact LY hc (C3 h).1 hs
 ·rw[cover,gX]
theorem LZ{x:bw}{c:Int}(h:okW x=true)(hc:0≤c∧c<x.af.length):xk x.rows (tu (RY x c) x.round x.rows) (lX (RY x c) x.round x.rows) (k9 x c)=true:=by
 have hw:=Xh h hc
 have hr:=oW h
 have hs:=eX h
 have hrow:=Gs hw
 have hcell:=EA hw
 simp only[xk,Gr,cW,Bool.and_eq_true,cP,decide_eq_true_eq,lZ]
 rw[aM (by omega),aM (by omega)]
 omega
theorem kL{x:bw}{c:Int}(h:okW x=true)(hc:0≤c∧c<x.af.length):(dX x c).length=x.an.length:=by
 have hs:=eX h
 rw[dX,vN,if_pos (LZ h hc),List.length_append,List.length_map,lZ]
 simp;omega
end
section
theorem O9{rows i:Int}{c:List UInt8}{sd:List Int}(hr:rows≤64): ∀d,d∈vN rows i c sd→cR d=true:=by
 intro d hd
 unfold vN at hd
 split at hd
 ·rename_i hm
  have hu:tY rows i c=true:=by simp only[xk,Bool.and_eq_true]at hm;exact hm.1
  rcases List.mem_append.1 hd with h|h
  ·obtain⟨s,_,rfl⟩:=List.mem_map.1 h
   exact IE s rows hr
  ·rw[List.mem_singleton.1 h];exact Gq hu _
 ·cases hd
def Xi(d:DB):Nat:=(d.rows.map List.length).sum
theorem TJ{d:DB}(h:cR d=true):Xi d≤1536:=by
 obtain⟨h1,h2⟩:=hJ.1 h
 have h3: ∀l:List (List UInt8),(∀r,r∈l→r.length=24)→(l.map List.length).sum=24*l.length:=by
  intro l
  induction l with
  |nil=>intro _;rfl
  |cons x r ih=>intro hl;rw[List.map_cons,List.sum_cons,ih fun y hy=>hl y (by simp[hy]),hl x (by simp),List.length_cons];omega
 have:=h3 _ h2
 unfold Xi;omega
theorem VB{α:Type}(f:α→Nat)(C:Nat): ∀(l:List α),(∀x,x∈l→f x≤C)→(l.map f).sum≤C*l.length
 | [],_=>by simp
 |x::r,h=>by
  have:=VB f C r fun y hy=>h y (by simp[hy])
  have:=h x (by simp)
  rw[List.map_cons,List.sum_cons,List.length_cons,Nat.mul_add]
  omega
end
section
def oX(s:bD):Prop:=s.received.length≤1048576∧ ∀r,r∈s.received→eu List.length r.share.rows≤1048576
theorem L0{l:List bD}(h:eu eg l≤1048576){i:Nat}{s:bD}(hs:l[i]? =some s):oX s:=by
 have h1:eu qV s.received≤1048576:=oz h hs
 refine⟨gN h1,fun r hr=> ?_⟩
 obtain⟨j,hj⟩:=List.mem_iff_getElem?.1 hr
 exact oz h1 hj
def wB(x:bw):Prop:=eu eg x.an≤1048576∧eu cD x.af≤1048576∧gY x.aJ≤1048576∧x.replaced.length≤4194304
theorem Gu{x:bw}(h:wB x):x.an.length≤1048576:=gN h.1
theorem J4{x:bw}(h:wB x):x.af.length≤1048576:=gN h.2.1
def ld(s:bD)(c:Int)(d:DB):bD:=⟨s.id,s.rows,s.round,s.received++ [⟨c,d⟩],s.behavior⟩
def pN(s:bD)(c:Int)(d:DB):Bool:=cN s&&cN (ld s c d)
def J5(s:bD)(c:Int)(d:DB):bD:=if pN s c d then ld s c d else s
def below(s:bD)(c:Int):Prop:= ∀r,r∈s.received→r.client<c
theorem L1{s:bD}{c e:Int}{d:DB}(h:below s c)(hc:c<e):below (J5 s c d) e:=by
 intro r hr
 unfold J5 at hr
 split at hr
 ·rcases List.mem_append.1 hr with h1|h1
  ·have:=h r h1;omega
  ·rw[List.mem_singleton.1 h1];exact hc
 ·have:=h r hr;omega
theorem L2{s:bD}{c:Int}{d:DB}(h:oX s)(hd:cR d=true):oX (J5 s c d):=by
 unfold J5
 split
 ·rename_i hk
  have h1:(ld s c d).received.length≤8:=by
   simp only[pN,cN,A5,Bool.and_eq_true,decide_eq_true_eq]at hk;omega
  refine⟨by omega,fun r hr=> ?_⟩
  rcases List.mem_append.1 hr with h2|h2
  ·exact h.2 r h2
  ·rw[List.mem_singleton.1 h2];exact fT hd
 ·exact h
def VC(c:Int)(r:aX):Bool:=r.client==c
def pO(l:List aX)(c:Int):Bool:=l.any (VC c)
def Bl(l:List aX)(c:Int):DB:=if pO l c then(l.getD (fidx (VC c) l).toNat (aI .aX)).share else⟨[]⟩
theorem Xj{l:List aX}{c:Int}{k:Nat}(h:k<l.length)(h1:(l.take k).any (VC c)=false)(h2:VC c (l.getD k (aI .aX))=true):pO l c=true∧Bl l c=(l.getD k (aI .aX)).share:=by
 have ha:pO l c=true:=vv l (VC c) (aI .aX) k h h2
 exact⟨ha,by rw[Bl,if_pos ha,A6 (aI .aX) h h1 h2];rfl⟩
theorem J6{l:List aX}{c:Int}(h:l.any (VC c)=false):pO l c=false∧Bl l c=⟨[]⟩:=⟨h,by rw[Bl,pO,h];rfl⟩
theorem IL{l:List aX}{c:Int}(h: ∀r,r∈l→eu List.length r.share.rows≤1048576):eu List.length (Bl l c).rows≤1048576:=by
 unfold Bl
 split
 ·rw[List.getD_eq_getElem?_getD]
  cases hq:l[(fidx (VC c) l).toNat]? with
  |none=>exact by decide
  |some r=>exact h r (List.mem_of_getElem? hq)
 ·exact by decide
theorem Xk{s:bD}{c:Int}{d:DB}(h:pN s c d=false):J5 s c d=s:=by rw[J5,h];rfl
theorem J7{s:bD}{c:Int}{d:DB}(h:pN s c d=true):J5 s c d=ld s c d:=by rw[J5,h];rfl
theorem TL{s:bD}{c:Int}{k:Nat}(hb: ∀r,r∈s.received→r.client<c)(hk:k≤s.received.length)(h:(if decide ((k:Int)<(s.received.length:Int))=true then decide ((s.received.getD k (aI .aX)).client<c)else false)=false):k=s.received.length:=by
 by_cases h1:k<s.received.length
 ·rw[if_pos (by simpa using h1)]at h
  have:=hb _ (getD_in (aI .aX) h1)
  simp only[decide_eq_false_iff_not]at h
  omega
 ·omega
theorem ins_eq(l:List aX)(y:aX): []++List.drop (Int.toNat 0) (List.take ((l.length:Int)).toNat l)++ [y]++ []=l++ [y]:=by simp
theorem aap{s:bD}{c:Int}{d:DB}(h:(if !cN s then true else !cN (ld s c d))=true):pN s c d=false:=by
 unfold pN
 cases h1:cN s<;>cases h2:cN (ld s c d)<;>simp_all
theorem aaq{s:bD}{c:Int}{d:DB}(h:(if !cN s then true else !cN (ld s c d))=false):pN s c d=true:=by
 unfold pN
 cases h1:cN s<;>cases h2:cN (ld s c d)<;>simp_all
def Pc(d:DB):Int:=hsh ((d.rows.length:Int)::d.rows.flatMap Ir)
theorem zz(l:List UInt8):(Ir l).length=l.length+1:=by simp[Ir]
theorem Xl(l:List (List UInt8)): ∀k,((l.take k).flatMap Ir).length≤eu List.length l:=by
 have key: ∀m:List (List UInt8),(m.flatMap Ir).length=eu List.length m:=by
  intro m
  induction m with
  |nil=>rfl
  |cons x r ih=>rw[List.flatMap_cons,List.length_append,ih,zz];unfold eu;simp only[List.length_cons,List.map_cons,List.sum_cons];omega
 intro k
 rw[key]
 have h1:=qv l List.length k
 unfold eu
 have:(l.take k).length≤l.length:=List.length_take_le' _ _
 omega
theorem TM(l:List (List UInt8))(k:Nat)(h:k<l.length):(l.take (k+1)).flatMap Ir=(l.take k).flatMap Ir++Ir (l.getD k (aI (.sl .u8))):=by
 rw[bE l k (aI (.sl .u8)) h,List.flatMap_append];simp
def oY(m s:Int):Int:=Ep (kh m [173,s])
theorem Pd{m s:Int}:(if kh m [173,s]>1 then kh m [173,s]else 1)=oY m s:=by
 have:=eB m [173,s]
 unfold oY Ep
 split<;>split<;>omega
def IM(c r:Int)(d:DB):Int:=hsh [179,c,r,Pc d]
def TN(key s c r g:Int):Int:=kh key [181,s,c,r,g]
def mkR(key s c r:Int)(d:DB):fA:=⟨s,c,r,IM c r d,TN key s c r (IM c r d)⟩
def J8(l:List bD)(c:Int)(ds:List DB):List bD:=List.zipWith (fun s d=>J5 s c d) l ds
def uc(x:bw):Nat→List bD
 |0=>x.an
 |k+1=>J8 (uc x k) (k:Int) (dX x (k:Int))
def aar(x:bw)(c:Nat)(i:Nat):List fA:= [mkR (oY x.bq (i:Int)) (i:Int) (c:Int) x.round ((dX x (c:Int)).getD i (aI .DB))]
def Gv(x:bw)(c:Nat)(n:Nat):List fA:=(List.range n).flatMap (aar x c)
def Gw(x:bw)(n:Nat):List fA:=(List.range n).flatMap fun c=>Gv x c x.an.length
theorem Dd(x:bw)(c n:Nat):Gv x c (n+1)=Gv x c n++ [mkR (oY x.bq (n:Int)) (n:Int) (c:Int) x.round ((dX x (c:Int)).getD n (aI .DB))]:=by
 unfold Gv
 rw[List.range_succ,List.flatMap_append];simp[aar]
theorem De(x:bw)(n:Nat):Gw x (n+1)=Gw x n++Gv x n x.an.length:=by
 unfold Gw
 rw[List.range_succ,List.flatMap_append];simp
theorem Bm(x:bw)(c:Nat): ∀n,(Gv x c n).length=n
 |0=>rfl
 |n+1=>by rw[Dd,List.length_append,Bm x c n];rfl
theorem Gx(x:bw): ∀n,(Gw x n).length=n*x.an.length
 |0=>by simp[Gw]
 |n+1=>by rw[De,List.length_append,Gx x n,Bm,Nat.add_mul];omega
structure Col(x:bw)(k:Nat):Prop where
 len:(uc x k).length=x.an.length
 bel: ∀s,s∈uc x k→below s (k:Int)
 sml: ∀s,s∈uc x k→oX s
theorem sD{x:bw}(h:okW x=true): ∀s,s∈x.an→s.received= []:=by
 intro s hs
 obtain⟨i,hi,rfl⟩:=List.mem_iff_getElem.1 hs
 have h1:=Ez h hi
 have e:x.an.getD i (aI .bD)=x.an[i]:=by rw[List.getD_eq_getElem?_getD,List.getElem?_eq_getElem hi];rfl
 simp only[JX,e,Bool.and_eq_true,decide_eq_true_eq]at h1
 have h2:x.an[i].received.length=0:=by omega
 exact List.length_eq_zero_iff.1 h2
theorem ud{x:bw}{c:Int}(h:okW x=true): ∀d,d∈dX x c→cR d=true:=by
 have:=oW h
 exact O9 (by omega)
theorem Gy{l:List bD}{c:Int}{ds:List DB}{s:bD}(h:s∈J8 l c ds): ∃t d,t∈l∧d∈ds∧s=J5 t c d:=by
 induction l generalizing ds with
 |nil=>cases h
 |cons t l ih=>
  cases ds with
  |nil=>cases h
  |cons d ds=>
   rcases List.mem_cons.1 h with h1|h1
   ·exact⟨t,d,List.mem_cons_self ..,List.mem_cons_self ..,h1⟩
   ·obtain⟨t',d',q1,q2,q3⟩:=ih h1
    exact⟨t',d',List.mem_cons_of_mem _ q1,List.mem_cons_of_mem _ q2,q3⟩
theorem col{x:bw}(h:okW x=true): ∀k,k≤x.af.length→Col x k
 |0,_=>by
  have he:=sD h
  refine⟨rfl,fun s hs=> ?_,fun s hs=> ?_⟩
  ·intro r hr;rw[he s hs]at hr;cases hr
  ·refine⟨by rw[he s hs];decide,fun r hr=> ?_⟩
   rw[he s hs]at hr;cases hr
 |k+1,hk=>by
  have ih:=col h k (by omega)
  have hl:(dX x (k:Int)).length=x.an.length:=kL h (by omega)
  refine⟨?_,fun s hs=> ?_,fun s hs=> ?_⟩
  ·show(List.zipWith _ _ _).length=_
   rw[List.length_zipWith,ih.len,hl];omega
  ·obtain⟨t,d,h1,h2,rfl⟩:=Gy hs
   exact L1 (ih.bel t h1) (by omega)
  ·obtain⟨t,d,h1,h2,rfl⟩:=Gy hs
   exact L2 (ih.sml t h1) (ud h d h2)
theorem jO{x:bw}(h:okW x=true){k:Nat}(hk:k≤x.af.length):(uc x k).length=x.an.length:=(col h k hk).len
theorem Gz{x:bw}(h:okW x=true){k i:Nat}(hk:k<x.af.length)(hi:i<x.an.length):(uc x (k+1)).getD i (aI .bD)=J5 ((uc x k).getD i (aI .bD)) (k:Int) ((dX x (k:Int)).getD i (aI .DB)):=by
 have hl:(dX x (k:Int)).length=x.an.length:=kL h (by omega)
 have h2:=jO h (k:=k) (by omega)
 show(List.zipWith _ _ _).getD i _=_
 rw[List.getD_eq_getElem?_getD,List.getD_eq_getElem?_getD,List.getD_eq_getElem?_getD,List.getElem?_zipWith,List.getElem?_eq_getElem (show i<(uc x k).length by omega),List.getElem?_eq_getElem (show i<(dX x (k:Int)).length by omega)]
 rfl
def xq(x:bw)(k i:Nat):List bD:=(uc x (k+1)).take i++(uc x k).drop i
theorem Pe{x:bw}(h:okW x=true){k i:Nat}(hk:k<x.af.length)(hi:i≤x.an.length):(xq x k i).length=x.an.length:=by
 have h1:=jO h (k:=k) (by omega)
 have h2:=jO h (k:=k+1) (by omega)
 unfold xq
 rw[AX _ _ _ (by omega) (by omega),h1]
theorem GA{x:bw}(h:okW x=true){k i:Nat}(hk:k<x.af.length)(hi:i<x.an.length):(xq x k i).getD i (aI .bD)=(uc x k).getD i (aI .bD):=by
 have h2:=jO h (k:=k+1) (by omega)
 exact AW _ _ _ _ (by omega)
theorem L3{x:bw}(h:okW x=true){k i:Nat}(hk:k<x.af.length)(hi:i<x.an.length):(xq x k i).set i (J5 ((xq x k i).getD i (aI .bD)) (k:Int) ((dX x (k:Int)).getD i (aI .DB)))=xq x k (i+1):=by
 have h1:=jO h (k:=k) (by omega)
 have h2:=jO h (k:=k+1) (by omega)
 rw[GA h hk hi]
 exact F8 _ _ _ (aI .bD) _ (by omega) (by omega) (Gz h hk hi)
theorem Pf{x:bw}(h:okW x=true){k i:Nat}(hk:k<x.af.length)(hi:x.an.length≤i):xq x k i=uc x (k+1):=by
 have h1:=jO h (k:=k) (by omega)
 have h2:=jO h (k:=k+1) (by omega)
 unfold xq
 rw[List.take_of_length_le (by omega),List.drop_of_length_le (by omega),List.append_nil]
theorem Pg{x:bw}(h:okW x=true){k i:Nat}(hk:k<x.af.length)(hi:i<x.an.length):below ((xq x k i).getD i (aI .bD)) (k:Int)∧oX ((xq x k i).getD i (aI .bD))∧eu List.length ((dX x (k:Int)).getD i (aI .DB)).rows≤1048576:=by
 rw[GA h hk hi]
 have c:=col h k (by omega)
 have hl:(dX x (k:Int)).length=x.an.length:=kL h (by omega)
 exact⟨c.bel _ (getD_in _ (by rw[c.len];exact hi)),c.sml _ (getD_in _ (by rw[c.len];exact hi)),fT (ud h _ (getD_in _ (by omega)))⟩
def cz(x:bw):List bD:=if okW x then uc x x.af.length else []
def l5(x:bw):List fA:=if okW x then Gw x x.af.length else []
end
section
def jq(l:List aK)(f:Int):List Int:=(l.filter fun r=>decide (f≤r.round)).map aK.round
theorem IN(l:List aK)(f:Int)(k:Nat)(h:k<l.length)(h2:f≤(l.getD k (aI .aK)).round):jq (l.take (k+1)) f=jq (l.take k) f++ [(l.getD k (aI .aK)).round]:=by
 unfold jq
 rw[bE l k (aI .aK) h,List.filter_append,List.map_append]
 generalize l.getD k (aI .aK)=r at h2 ⊢
 simp[List.filter_cons,h2]
theorem GC(l:List aK)(f:Int)(k:Nat)(h:k<l.length)(h2: ¬f≤(l.getD k (aI .aK)).round):jq (l.take (k+1)) f=jq (l.take k) f:=by
 unfold jq
 rw[bE l k (aI .aK) h,List.filter_append,List.map_append]
 generalize l.getD k (aI .aK)=r at h2 ⊢
 simp[List.filter_cons,h2]
theorem Bp(l:List aK)(f:Int):(jq l f).length≤l.length:=by
 unfold jq
 rw[List.length_map];exact List.length_filter_le _ _
theorem GD(l:List aK)(f:Int)(k:Nat):(jq (l.take k) f).length≤k:=by
 have h1:=Bp (l.take k) f
 rw[List.length_take]at h1
 omega
end
section
def GF(key c:Int)(cell:List UInt8):List UInt8:=decr (vA key c) (cell.take 20)
def Pm(key c:Int)(cell:List UInt8):Bool:=gO key&&inr c 0 1000000000000&&decide ((cell.length:Int)=24)&&(cell.drop 20==four (tS key c (cell.take 20)))
def Xo(key c:Int)(cell:List UInt8):Bool:=inr ((GF key c cell).getD 0 (aI .u8)).toNat 0 3&&decide ((((GF key c cell).getD 1 (aI .u8)).toNat:Int)≤14)
def qZ(key c:Int)(cell:List UInt8):Bool:=Pm key c cell&&Xo key c cell
def RZ(key c:Int)(cell:List UInt8):Plain:=if qZ key c cell then⟨((GF key c cell).getD 0 (aI .u8)).toNat,((GF key c cell).take (2+((GF key c cell).getD 1 (aI .u8)).toNat)).drop 2⟩else⟨0,[]⟩
theorem Ka{key c:Int}{cell:List UInt8}(h:Pm key c cell=true):(GF key c cell).length=20∧cell.length=24:=by
 simp only[Pm,Bool.and_eq_true,decide_eq_true_eq]at h
 have:cell.length=24:=by omega
 refine⟨?_,this⟩
 unfold GF
 rw[A2,List.length_take];omega
theorem xw{key c:Int}{cell:List UInt8}(h:qZ key c cell=false):RZ key c cell=⟨0,[]⟩:=by rw[RZ,h];rfl
theorem Pn(key c:Int)(cell:List UInt8):(RZ key c cell).body.length≤14:=by
 unfold RZ
 split
 ·rename_i h
  simp only[qZ,Xo,Bool.and_eq_true,decide_eq_true_eq]at h
  simp only[List.length_drop,List.length_take];omega
 ·exact Nat.zero_le _
theorem Po(a b c d:UInt8)(n:Int)(h0:0≤n)(h1:n<4294967296):([a,b,c,d]==four n)=decide ((a.toNat:Int)+256*b.toNat+65536*c.toNat+16777216*d.toNat=n):=by
 have ha:=a.toNat_lt;have hb:=b.toNat_lt;have hc:=c.toNat_lt;have hd:=d.toNat_lt
 rw[Bool.eq_iff_iff,beq_iff_eq,decide_eq_true_eq]
 have key: ∀(x:UInt8) (m:Int),x=b8 m↔(x.toNat:Int)=m % 256:=by
  intro x m
  constructor
  ·rintro rfl;exact vr m
  ·intro h;apply Io;rw[vr];exact h
 unfold four
 simp only[List.cons.injEq,and_true,key]
 constructor
 ·rintro⟨q1,q2,q3,q4⟩;omega
 ·intro h;omega
def R1(r:Int)(a:aK):Bool:=a.round==r
def l9(l:List aK)(r:Int):Bool:=l.any (R1 r)
def mH(l:List aK)(r:Int):DB:=if l9 l r then(l.getD (fidx (R1 r) l).toNat (aI .aK)).db else⟨[]⟩
theorem Xp{l:List aK}{r:Int}{k:Nat}(h:k<l.length)(h1:(l.take k).any (R1 r)=false)(h2:R1 r (l.getD k (aI .aK))=true):l9 l r=true∧mH l r=(l.getD k (aI .aK)).db:=by
 have ha:l9 l r=true:=vv l (R1 r) (aI .aK) k h h2
 exact⟨ha,by rw[mH,if_pos ha,A6 (aI .aK) h h1 h2];rfl⟩
theorem Kb{l:List aK}{r:Int}(h:l.any (R1 r)=false):l9 l r=false∧mH l r=⟨[]⟩:=⟨h,by rw[mH,l9,h];rfl⟩
def TO(rows:List (List UInt8))(v:List Int)(o:List UInt8)(k:Nat):List UInt8:=if decide ((k:Int)<v.length)&&(v.getD k (aI .int)==1)then jj o (rows.getD k (aI (.sl .u8)))else o
def sV(rows:List (List UInt8))(v:List Int)(k:Nat):List UInt8:=(List.range k).foldl (TO rows v) []
def EE(rows:List (List UInt8))(v:List Int):List UInt8:=sV rows v rows.length
theorem Dg(rows:List (List UInt8))(v:List Int)(k:Nat):sV rows v (k+1)=TO rows v (sV rows v k) k:=by
 unfold sV
 rw[List.range_succ,List.foldl_append];rfl
theorem Bq{rows:List (List UInt8)}{v:List Int}{k:Nat}(h:k<v.length)(h1:v.getD k (aI .int)=1):sV rows v (k+1)=jj (sV rows v k) (rows.getD k (aI (.sl .u8))):=by
 rw[Dg,TO,if_pos]
 simp only[Bool.and_eq_true,decide_eq_true_eq,beq_iff_eq]
 exact⟨by omega,h1⟩
theorem sF{rows:List (List UInt8)}{v:List Int}{k:Nat}(h: ¬(k<v.length∧v.getD k (aI .int)=1)):sV rows v (k+1)=sV rows v k:=by
 rw[Dg,TO,if_neg]
 simp only[Bool.and_eq_true,decide_eq_true_eq,beq_iff_eq]
 intro h2
 exact h ⟨by omega,h2.2⟩
theorem Dh(rows:List (List UInt8))(v:List Int)(k:Nat)(h:v.length≤k): ∀n,sV rows v (k+n)=sV rows v k
 |0=>rfl
 |n+1=>by rw[←Nat.add_assoc,sF (by omega)];exact Dh rows v k h n
theorem Pp{rows:List (List UInt8)}{v:List Int}{k:Nat}(hk:k≤rows.length)(h:rows.length≤k∨v.length≤k):sV rows v k=EE rows v:=by
 unfold EE
 rcases h with h|h
 ·rw[show k=rows.length by omega]
 ·have:=Dh rows v k h (rows.length-k)
  rw[show k+(rows.length-k)=rows.length by omega]at this
  exact this.symm
theorem Br{rows:List (List UInt8)}(v:List Int)(h: ∀r,r∈rows→r.length≤1048576): ∀k,k≤rows.length→(sV rows v k).length≤1048576
 |0,_=>Nat.zero_le _
 |k+1,hk=>by
  have ih:=Br v h k (by omega)
  by_cases hh:k<v.length∧v.getD k (aI .int)=1
  ·rw[Bq hh.1 hh.2,gm]
   have:=h _ (getD_in (aI (.sl .u8)) (show k<rows.length by omega))
   omega
  ·rw[sF hh];exact ih
def jQ(d:DB)(v:List Int):List UInt8:=if cR d&&jW v d.rows.length then jj Vz (EE d.rows v)else []
theorem Bs(d:DB)(v:List Int):(jQ d v).length=24∨jQ d v= []:=by
 unfold jQ
 split
 ·left
  rename_i h
  simp only[Bool.and_eq_true]at h
  have key: ∀k,k≤d.rows.length→(sV d.rows v k).length≤24:=by
   intro k
   induction k with
   |zero=>intro _;exact Nat.zero_le _
   |succ k ih=>
    intro hk
    by_cases hh:k<v.length∧v.getD k (aI .int)=1
    ·rw[Bq hh.1 hh.2,gm,sn h.1 k (by omega)]
     have:=ih (by omega);omega
    ·rw[sF hh];exact ih (by omega)
  have:=key d.rows.length (Nat.le_refl _)
  unfold EE
  rw[gm,sq];omega
 ·right;rfl
def L5(key sv r:Int)(v:List Int)(b:List UInt8):Int:=kh key ([191,sv,r,(v.length:Int)]++v++Ir b)
def mkA(key sv r:Int)(v:List Int)(b:List UInt8):dy:=⟨sv,r,v,b,L5 key sv r v b⟩
def nV(d:DB)(v:List Int):Bool:= !((jQ d v).length==0)
def noA:dy:=⟨0,0,[],[],0⟩
def qi(key sv r:Int)(d:DB)(v:List Int):dy:=if nV d v then mkA key sv r v (jQ d v)else noA
def MN(b:List UInt8):List UInt8:=b.set 0 (b.getD 0 (aI .u8)^^^128)
def R2(s:bD)(key r:Int)(d:DB)(v:List Int):dy:=if nV d v then(if s.behavior=3 then mkA key s.id r v (MN (jQ d v))else mkA key s.id r v (jQ d v))else noA
def mg(l:List (List UInt8)):Bool:=cW l.length&&l.all fun a=>decide ((a.length:Int)=24)
def Bt(l:List (List UInt8)):List UInt8:=l.foldl jj []
def VD(l:List (List UInt8)):List UInt8:=if mg l then Bt l else []
theorem Di(l:List (List UInt8))(k:Nat)(h:k<l.length):Bt (l.take (k+1))=jj (Bt (l.take k)) (l.getD k (aI (.sl .u8))):=by
 unfold Bt
 rw[bE l k (aI (.sl .u8)) h,List.foldl_append];rfl
theorem Pq{l:List (List UInt8)}(h: ∀a,a∈l→a.length≤1048576): ∀k,(Bt (l.take k)).length≤1048576:=by
 intro k
 induction k with
 |zero=>exact Nat.zero_le _
 |succ k ih=>
  by_cases hk:k<l.length
  ·rw[Di l k hk,gm]
   have:=h _ (getD_in (aI (.sl .u8)) hk)
   omega
  ·rw[List.take_of_length_le (by omega)]at ih ⊢
   exact ih
def aau(x:bw)(r:Int)(d:DB)(q:List (List Int))(i:Nat):dy:=R2 (x.an.getD i (aI .bD)) (oY x.bq (i:Int)) r d (q.getD i (aI (.sl .int)))
def yA(x:bw)(r:Int)(d:DB)(q:List (List Int))(n:Nat):List dy:=(List.range n).map (aau x r d q)
theorem IP(x:bw)(r:Int)(d:DB)(q:List (List Int))(n:Nat):yA x r d q (n+1)=yA x r d q n++ [aau x r d q n]:=by
 unfold yA
 rw[List.range_succ,List.map_append];rfl
theorem L6(x:bw)(r:Int)(d:DB)(q:List (List Int))(n:Nat):(yA x r d q n).length=n:=by simp[yA]
def query'(x:bw)(r row s:Int):List (List Int):=vI x.rows row (kZ x.an.length r row s)
def Kc(x:bw)(r row s:Int):List (List UInt8):=(yA x r (mH x.aJ.rounds r) (query' x r row s) (query' x r row s).length).map dy.data
def GG(x:bw)(r row s:Int):Bool:=l9 x.aJ.rounds r&&mg (Kc x r row s)
def L7(x:bw)(r row s:Int):List UInt8:=if l9 x.aJ.rounds r then VD (Kc x r row s)else []
def xy(c:dN)(r:Int):Bool:=dR c&&inr r c.next 99999
def Bu(c:dN)(own:List UInt8):Bool:=decide (c.sent<(c.aF.length:Int))&&(own==tq c c.sent)
def Dj(c:dN):Int:=sR c.key (1-dS c)
def rj(c:dN)(other:List UInt8):Bool:=(qZ (Dj c) (c.inbox.length:Int) other&&((RZ (Dj c) (c.inbox.length:Int) other).kind==1))&&decide ((c.inbox.length:Int)<16)
def gr(c:dN)(r:Int)(own other:List UInt8):dN:=if xy c r then⟨c.id,c.bG,c.key,c.seed,c.aF,if Bu c own then c.sent+1 else c.sent,if rj c other then c.inbox++ [(RZ (Dj c) (c.inbox.length:Int) other).body]else c.inbox,r+1⟩else c
def Bv(d:bP):Bool:=dL d&&decide (4≤IntKind.i64.wrap (d.live.next-d.saved.next))
def Bw(d:bP)(r:Int):Bool:=xy d.live r&&dL d
def nW(d:bP)(r:Int)(own other:List UInt8):bP:=⟨gr d.live r own other,d.saved⟩
def rdev(d:bP)(r:Int)(own other:List UInt8):bP:=if Bw d r then(if Bv (nW d r own other)then⟨gr d.live r own other,gr d.live r own other⟩else nW d r own other)else d
def pP(a b:dN):Prop:=a.id=b.id∧a.bG=b.bG∧a.key=b.key∧a.seed=b.seed
theorem ug(c:dN)(r:Int)(own other:List UInt8):pP (gr c r own other) c:=by
 unfold gr
 split
 ·exact⟨rfl,rfl,rfl,rfl⟩
 ·exact⟨rfl,rfl,rfl,rfl⟩
theorem L8(d:bP)(r:Int)(own other:List UInt8):pP (rdev d r own other).live d.live:=by
 unfold rdev
 split
 ·split
  ·exact ug _ _ _ _
  ·exact ug _ _ _ _
 ·exact⟨rfl,rfl,rfl,rfl⟩
theorem IQ{a b:dN}(h:pP a b):dS a=dS b:=by unfold dS;rw[h.1,h.2.1]
def IS(x:bw)(d0 d:bP)(r:Int):bP:=rdev d r (L7 x r (mG d0.live.key r (dS d0.live) x.rows) d0.live.seed) (L7 x r (mG d0.live.key r (1-dS d0.live) x.rows) d0.live.seed)
def GH(x:bw)(d0:bP)(l:List Int):bP:=l.foldl (IS x d0) d0
theorem L9(x:bw)(d0:bP)(l:List Int)(k:Nat)(h:k<l.length):GH x d0 (l.take (k+1))=IS x d0 (GH x d0 (l.take k)) (l.getD k (aI .int)):=by
 unfold GH
 rw[bE l k (aI .int) h,List.foldl_append];rfl
theorem xz(x:bw)(d0:bP): ∀(l:List Int) (d:bP),pP d.live d0.live→pP (l.foldl (IS x d0) d).live d0.live
 | [],_,h=>h
 |r::l,d,h=>by
  refine xz x d0 l _ ?_
  have:=L8 d r (L7 x r (mG d0.live.key r (dS d0.live) x.rows) d0.live.seed) (L7 x r (mG d0.live.key r (1-dS d0.live) x.rows) d0.live.seed)
  exact⟨this.1.trans h.1,this.2.1.trans h.2.1,this.2.2.1.trans h.2.2.1,this.2.2.2.trans h.2.2.2⟩
def xA(x:bw)(d:bP):List Int:=jq x.aJ.rounds d.live.next
def mh(x:bw)(d:bP):bP:=GH x d (xA x d)
def pQ(x:bw)(k i:Nat):List bP:=(x.af.map (mh x)).take k++(GH x (x.af.getD k (aI .bP)) ((xA x (x.af.getD k (aI .bP))).take i)::x.af.drop (k+1))
def Pr(x:bw)(k:Nat):List bP:=(x.af.map (mh x)).take k++x.af.drop k
theorem VE(x:bw)(k:Nat)(h:k<x.af.length):pQ x k 0=Pr x k:=by
 unfold pQ Pr
 rw[List.take_zero,List.drop_eq_getElem_cons h,show x.af[k]=x.af.getD k (aI .bP)by rw[List.getD_eq_getElem?_getD,List.getElem?_eq_getElem h];rfl];rfl
theorem vO(x:bw)(k:Nat)(h:k<x.af.length):((x.af.map (mh x)).take k).length=k:=by
 rw[List.length_take,List.length_map];omega
theorem TP(x:bw)(k i:Nat)(h:k<x.af.length):(pQ x k i).length=x.af.length:=by
 unfold pQ
 rw[List.length_append,vO x k h,List.length_cons,List.length_drop];omega
theorem zA(x:bw)(k i:Nat)(h:k<x.af.length):(pQ x k i).getD k (aI .bP)=GH x (x.af.getD k (aI .bP)) ((xA x (x.af.getD k (aI .bP))).take i):=by
 unfold pQ
 rw[List.getD_eq_getElem?_getD,List.getElem?_append_right (by rw[vO x k h];omega),vO x k h,Nat.sub_self];rfl
theorem Pt(x:bw)(k i:Nat)(h:k<x.af.length)(hi:i<(xA x (x.af.getD k (aI .bP))).length):(pQ x k i).set k (IS x (x.af.getD k (aI .bP)) ((pQ x k i).getD k (aI .bP)) ((xA x (x.af.getD k (aI .bP))).getD i (aI .int)))=pQ x k (i+1):=by
 rw[zA x k i h, ←L9 x _ _ i hi]
 unfold pQ
 rw[List.set_append_right _ _ (by rw[vO x k h];omega),vO x k h,Nat.sub_self];rfl
theorem TQ(x:bw)(k i:Nat)(h:k<x.af.length)(hi:(xA x (x.af.getD k (aI .bP))).length≤i):pQ x k i=Pr x (k+1):=by
 unfold pQ Pr
 rw[List.take_of_length_le hi,bE (x.af.map (mh x)) k (aI .bP) (by rw[List.length_map];exact h),List.append_assoc]
 congr 1
 rw[show(x.af.map (mh x)).getD k (aI .bP)=mh x (x.af.getD k (aI .bP))by
  rw[List.getD_eq_getElem?_getD,List.getD_eq_getElem?_getD,List.getElem?_map,List.getElem?_eq_getElem h];rfl]
 rfl
theorem TR(x:bw)(k:Nat)(h:k<x.af.length):(Pr x k).getD k (aI .bP)=x.af.getD k (aI .bP):=by rw[←VE x k h,zA x k 0 h];rfl
theorem TS(x:bw)(k:Nat)(h:k≤x.af.length):(Pr x k).length=x.af.length:=by
 unfold Pr
 rw[AX _ _ _ (by rw[List.length_map]) h]
def B4(x:bw):bw:=if okW x then⟨x.rows,x.an,x.af.map (mh x),x.aJ,x.bq,x.seed,x.round,x.replaced,x.cancelled⟩else x
theorem TT(x:bw)(k:Nat)(hk:k≤x.af.length)(h:x.af.length≤k):Pr x k=x.af.map (mh x):=by
 unfold Pr
 rw[List.take_of_length_le (by rw[List.length_map];exact h),List.drop_of_length_le h,List.append_nil]
end
section
theorem R3(x:UInt8):IntKind.i64.wrap (x.toNat:Int)=x.toNat:=aM (by have:=x.toNat_lt;omega)
def opk(key c:Int)(cell:List UInt8):Int:=((GF key c cell).getD 0 (aI .u8)).toNat
def Hy(key c:Int)(cell:List UInt8):Nat:=((GF key c cell).getD 1 (aI .u8)).toNat
def opb(key c:Int)(cell:List UInt8):List UInt8:=((GF key c cell).take (2+Hy key c cell)).drop 2
theorem Xq(key c:Int)(cell:List UInt8):Hy key c cell<256:=((GF key c cell).getD 1 (aI .u8)).toNat_lt
theorem Xr(key c:Int)(cell:List UInt8):decr (vA key c) ((cell.take (20:Int).toNat).drop (0:Int).toNat)=GF key c cell:=by unfold GF;simp
theorem Xs(key c:Int)(cell:List UInt8):((GF key c cell).take (IntKind.i64.wrap (2+IntKind.i64.wrap (((GF key c cell).getD (Int.toNat 1) (aI .u8)).toNat:Int))).toNat).drop (Int.toNat 2)=opb key c cell:=by
 have h:=Xq key c cell
 rw[R3,aM (by show _∧2+(Hy key c cell:Int)≤_;show _≤2+(Hy key c cell:Int)∧_;omega)]
 show((GF key c cell).take (2+(Hy key c cell:Int)).toNat).drop 2=_
 rw[show(2+(Hy key c cell:Int)).toNat=2+Hy key c cell by omega];rfl
theorem aaw{key c:Int}{cell:List UInt8}(h:14<Hy key c cell):qZ key c cell=false:=by
 have:Xo key c cell=false:=by
  simp only[Xo,Bool.and_eq_false_iff,decide_eq_false_iff_not]
  right
  show¬((Hy key c cell:Int)≤14)
  omega
 rw[qZ,this,Bool.and_false]
theorem Pu{key c:Int}{cell:List UInt8}(h:Pm key c cell=false):qZ key c cell=false:=by rw[qZ,h];rfl
theorem TU{key c:Int}{cell:List UInt8}(hA:Pm key c cell=true)(h:Hy key c cell≤14):(opb key c cell).length=Hy key c cell:=by
 have:=(Ka hA).1
 unfold opb
 rw[List.length_drop,List.length_take];omega
theorem Ke{key c:Int}{cell:List UInt8}(h:qZ key c cell=true):RZ key c cell=⟨opk key c cell,opb key c cell⟩:=by rw[RZ,if_pos h];rfl
theorem aax{key c:Int}{cell:List UInt8}(hA:Pm key c cell=true)(h:Hy key c cell≤14)(hk:opk key c cell≤3):qZ key c cell=true:=by
 rw[qZ,hA,Bool.true_and,Xo]
 simp only[Bool.and_eq_true,cP,decide_eq_true_eq]
 exact⟨⟨by omega,hk⟩,by show(Hy key c cell:Int)≤14;omega⟩
theorem Xt{key c:Int}{cell:List UInt8}(h:3<opk key c cell):qZ key c cell=false:=by
 have:Xo key c cell=false:=by
  simp only[Xo,Bool.and_eq_false_iff]
  left
  rw[Vx]
  show¬(0≤opk key c cell∧opk key c cell≤3)
  omega
 rw[qZ,this,Bool.and_false]
theorem Xu(a b k:Nat)(h:a<2^k):a||| (b*2^k)=a+b*2^k:=by
 have:=Nat.two_pow_add_eq_or_of_lt h b
 rw[Nat.mul_comm b,Nat.or_comm, ←this,Nat.add_comm]
theorem Xv{a:Nat}{b k:Nat}(ha:a<2^k)(hb:b<256)(hk:k=8∨k=16∨k=24):IntKind.i64.wrap (BitVec.ofInt IntKind.i64.bits (a:Int)|||BitVec.ofInt IntKind.i64.bits (IntKind.i64.wrap ((b:Int)*2^k))).toNat=((a+b*2^k:Nat):Int):=by
 have hp:b*2^k<2^32:=by
  rcases hk with rfl|rfl|rfl<;>omega
 have Xw:a<2^24:=by
  rcases hk with rfl|rfl|rfl<;>omega
 have e:((b:Int)*2^k)=((b*2^k:Nat):Int):=by push_cast;rfl
 rw[e,aM (a:=((b*2^k:Nat):Int)) (by omega),BitVec.ofInt_natCast,BitVec.ofInt_natCast,BitVec.toNat_or,BitVec.toNat_ofNat,BitVec.toNat_ofNat]
 show IntKind.i64.wrap (((a % 2^64|||b*2^k % 2^64:Nat)):Int)=_
 rw[Nat.mod_eq_of_lt (by omega),Nat.mod_eq_of_lt (by omega),Xu a b k ha,aM (by omega)]
def Xx(cell:List UInt8):Int:=((cell.getD 20 (aI .u8)).toNat:Int)+256*(cell.getD 21 (aI .u8)).toNat+65536*(cell.getD 22 (aI .u8)).toNat+16777216*(cell.getD 23 (aI .u8)).toNat
theorem TV(cell:List UInt8):IntKind.i64.wrap (BitVec.ofInt IntKind.i64.bits (IntKind.i64.wrap (BitVec.ofInt IntKind.i64.bits (IntKind.i64.wrap (BitVec.ofInt IntKind.i64.bits (IntKind.i64.wrap ((cell.getD (Int.toNat 20) (aI .u8)).toNat:Int))|||BitVec.ofInt IntKind.i64.bits (IntKind.i64.wrap (IntKind.i64.wrap ((cell.getD (Int.toNat 21) (aI .u8)).toNat:Int)*2^(min (Int.toNat 8) IntKind.i64.bits)))).toNat)|||BitVec.ofInt IntKind.i64.bits (IntKind.i64.wrap (IntKind.i64.wrap ((cell.getD (Int.toNat 22) (aI .u8)).toNat:Int)*2^(min (Int.toNat 16) IntKind.i64.bits)))).toNat)|||BitVec.ofInt IntKind.i64.bits (IntKind.i64.wrap (IntKind.i64.wrap ((cell.getD (Int.toNat 23) (aI .u8)).toNat:Int)*2^(min (Int.toNat 24) IntKind.i64.bits)))).toNat=Xx cell:=by
 have h0:=(cell.getD 20 (aI .u8)).toNat_lt
 have h1:=(cell.getD 21 (aI .u8)).toNat_lt
 have h2:=(cell.getD 22 (aI .u8)).toNat_lt
 have h3:=(cell.getD 23 (aI .u8)).toNat_lt
 rw[R3,R3,R3,R3]
 show IntKind.i64.wrap (BitVec.ofInt IntKind.i64.bits (IntKind.i64.wrap (BitVec.ofInt IntKind.i64.bits (IntKind.i64.wrap (BitVec.ofInt IntKind.i64.bits (((cell.getD 20 (aI .u8)).toNat:Nat):Int)|||BitVec.ofInt IntKind.i64.bits (IntKind.i64.wrap ((((cell.getD 21 (aI .u8)).toNat:Nat):Int)*2^8))).toNat)|||BitVec.ofInt IntKind.i64.bits (IntKind.i64.wrap ((((cell.getD 22 (aI .u8)).toNat:Nat):Int)*2^16))).toNat)|||BitVec.ofInt IntKind.i64.bits (IntKind.i64.wrap ((((cell.getD 23 (aI .u8)).toNat:Nat):Int)*2^24))).toNat=_
 rw[Xv (k:=8) h0 h1 (by omega),Xv (k:=16) (by omega) h2 (by omega),Xv (k:=24) (by omega) h3 (by omega)]
 unfold Xx
 omega
theorem Xy{cell:List UInt8}(h:cell.length=24):cell.drop 20= [cell.getD 20 (aI .u8),cell.getD 21 (aI .u8),cell.getD 22 (aI .u8),cell.getD 23 (aI .u8)]:=by
 rw[getD_drop cell 20 (aI .u8) (by omega),getD_drop cell 21 (aI .u8) (by omega),getD_drop cell 22 (aI .u8) (by omega),getD_drop cell 23 (aI .u8) (by omega),List.drop_of_length_le (by omega)]
theorem TW{key c:Int}{cell:List UInt8}(h1:gO key=true)(h2:inr c 0 1000000000000=true)(h3:cell.length=24):Pm key c cell=decide (Xx cell=tS key c (cell.take 20)):=by
 have hr:=eB key (71::c::(cell.take 20).map (fun x=>(x.toNat:Int)))
 have yG:0≤tS key c (cell.take 20)∧tS key c (cell.take 20)<2147483647:=hr
 rw[Pm,h1,h2,show decide ((cell.length:Int)=24)=true by rw[decide_eq_true_eq];omega,Bool.true_and,Bool.true_and,Bool.true_and,Xy h3,Po _ _ _ _ _ yG.1 (by omega)]
 rfl
def VF(key c:Int)(cell:List UInt8):Bool:=gO key&&inr c 0 1000000000000&&decide ((cell.length:Int)=24)
theorem Xz{key c:Int}{cell:List UInt8}(h:VF key c cell=false):qZ key c cell=false:=by
 apply Pu
 unfold VF at h
 rw[Pm,h];rfl
theorem aay{key c:Int}{cell:List UInt8}(h:VF key c cell=true):gO key=true∧inr c 0 1000000000000=true∧cell.length=24:=by
 simp only[VF,Bool.and_eq_true,decide_eq_true_eq]at h
 exact⟨h.1.1,h.1.2,by omega⟩
theorem XA(l:List UInt8):l.set (Int.toNat 0) (UInt8.ofNat (IntKind.u8.wrap ((BitVec.ofInt IntKind.u8.bits (((l.getD (Int.toNat 0) (aI .u8)).toNat:Nat):Int)^^^BitVec.ofInt IntKind.u8.bits 128).toNat:Int)).toNat)=MN l:=by
 have:=Tr (l.getD (Int.toNat 0) (aI .u8)) 128
 rw[show(((128:UInt8).toNat:Nat):Int)=128 from rfl]at this
 rw[this];rfl
theorem TX{d:DB}{v:List Int}(h:(jQ d v).length=0):nV d v=false:=by rw[nV,h];rfl
theorem GI{d:DB}{v:List Int}(h: ¬(jQ d v).length=0):nV d v=true:=by
 rw[nV,Bool.not_eq_true']
 exact beq_eq_false_iff_ne.2 h
theorem XB{key sv r:Int}{d:DB}{v:List Int}(h:nV d v=false):qi key sv r d v=noA:=by rw[qi,h];rfl
theorem Kf{key sv r:Int}{d:DB}{v:List Int}(h:nV d v=true):qi key sv r d v=mkA key sv r v (jQ d v):=by rw[qi,if_pos h]
theorem Kg{d:DB}{v:List Int}(h:nV d v=true):(jQ d v).length=24:=by
 rcases Bs d v with h1|h1
 ·exact h1
 ·rw[nV,h1]at h;cases h
theorem XC{s:bD}{key r:Int}{d:DB}{v:List Int}(h:(nV d v&&(s.behavior==3))=false):R2 s key r d v=qi key s.id r d v:=by
 unfold R2 qi
 cases hk:nV d v with
 |false=>rfl
 |true=>
  rw[hk,Bool.true_and,beq_eq_false_iff_ne]at h
  rw[if_pos rfl,if_pos rfl,if_neg h]
theorem TY{s:bD}{key r:Int}{d:DB}{v:List Int}(h:(nV d v&&(s.behavior==3))=true):nV d v=true∧R2 s key r d v=mkA key s.id r v (MN (jQ d v)):=by
 rw[Bool.and_eq_true,beq_iff_eq]at h
 exact⟨h.1,by rw[R2,if_pos h.1,if_pos h.2]⟩
theorem Kh(b:List UInt8):(MN b).length=b.length:=by unfold MN;rw[List.length_set]
theorem aaz(s:bD)(key r:Int)(d:DB){v:List Int}(hv:v.length≤262144):(R2 s key r d v).selection.length≤262144∧(R2 s key r d v).data.length≤262144:=by
 have h:=Bs d v
 have h2:(jQ d v).length≤262144:=by
  rcases h with h|h
  ·omega
  ·rw[h];exact Nat.zero_le _
 unfold R2
 split
 ·split
  ·exact⟨hv,by show(MN (jQ d v)).length≤_;rw[Kh];exact h2⟩
  ·exact⟨hv,h2⟩
 ·exact⟨Nat.zero_le _,Nat.zero_le _⟩
theorem TZ{l:List (List UInt8)}(h:mg l=true):VD l=Bt l:=by rw[VD,if_pos h]
theorem Ki{l:List (List UInt8)}(h:mg l=false):VD l= []:=by rw[VD,h];rfl
theorem Pv{l:List (List UInt8)}(h:mg l=true): ∀a,a∈l→a.length≤1048576:=by
 intro a ha
 simp only[mg,Bool.and_eq_true,List.all_eq_true,decide_eq_true_eq]at h
 have:=h.2 a ha
 omega
theorem T0{l:List (List UInt8)}{k:Nat}(hk:k<l.length)(h: ¬(l.getD k (aI (.sl .u8))).length=24):mg l=false:=by
 have h2:(l.all fun a=>decide ((a.length:Int)=24))=false:=Ip _ _ (aI (.sl .u8)) k hk (by rw[decide_eq_false_iff_not];omega)
 rw[mg,h2,Bool.and_false]
theorem Pw(rows i:Int)(sd:List Int): ∀v,v∈vI rows i sd→v.length≤64:=by
 intro v hv
 unfold vI at hv
 split at hv
 ·rcases List.mem_append.1 hv with h|h
  ·obtain⟨s,_,rfl⟩:=List.mem_map.1 h
   exact kK _ _
  ·rw[List.mem_singleton.1 h]
   exact C9 rows i sd
 ·cases hv
theorem Px(rows i:Int)(sd:List Int):(vI rows i sd).length≤sd.length+1:=by
 unfold vI
 split
 ·rw[List.length_append,List.length_map];simp
 ·exact Nat.zero_le _
theorem T1{x:bw}(r row s:Int)(h:okW x=true):(query' x r row s).length≤x.an.length:=by
 have h1:=Px x.rows row (kZ x.an.length r row s)
 have h2:=tW x.an.length r row s
 have h3:=(eX h).2
 unfold query'
 omega
theorem XD(x:bw)(r row s:Int)(k:Nat):((query' x r row s).getD k (aI (.sl .int))).length≤64:=by
 rw[List.getD_eq_getElem?_getD]
 cases hq:(query' x r row s)[k]? with
 |none=>exact Nat.zero_le _
 |some v=>exact Pw _ _ _ v (List.mem_of_getElem? hq)
theorem Py{x:bw}{r row s:Int}(h:l9 x.aJ.rounds r=false):L7 x r row s= []∧GG x r row s=false:=⟨by rw[L7,h];rfl,by rw[GG,h];rfl⟩
theorem T2{x:bw}{r row s:Int}(h:l9 x.aJ.rounds r=true):L7 x r row s=VD (Kc x r row s)∧GG x r row s=mg (Kc x r row s):=⟨by rw[L7,if_pos h],by rw[GG,h,Bool.true_and]⟩
theorem Pz{x:bw}(h:okW x=true):x.aJ.rounds.length≤8∧ ∀y,y∈x.aJ.rounds→eu List.length y.db.rows≤1048576:=by
 have ha:=lW h
 simp only[LN,Bool.and_eq_true]at ha
 have ha:gq x.aJ=true:=ha.1.1.1.1.1.2
 simp only[gq,C2,Bool.and_eq_true,List.all_eq_true,List.mem_range,decide_eq_true_eq]at ha
 refine⟨by omega,fun y hy=> ?_⟩
 obtain⟨i,hi,rfl⟩:=List.mem_iff_getElem.1 hy
 have h2:=ha.2 i hi
 have e:x.aJ.rounds.getD i (aI .aK)=x.aJ.rounds[i]:=by rw[List.getD_eq_getElem?_getD,List.getElem?_eq_getElem hi];rfl
 simp only[w6,e,Bool.and_eq_true]at h2
 exact fT h2.1.2
end
section
def jD(rows:Int)(l:List aX):DB:=l.foldl (fun d r=>gZ d r.share) (dO rows)
theorem Mb(rows:Int)(l:List aX)(k:Nat)(h:k<l.length):jD rows (l.take (k+1))=gZ (jD rows (l.take k)) (l.getD k (aI .aX)).share:=by
 unfold jD
 rw[bE l k (aI .aX) h,List.foldl_append];rfl
theorem GJ(rows:Int):cR (dO rows)=true:=by
 rw[hJ]
 refine⟨nS rows,fun r hr=> ?_⟩
 unfold dO at hr
 dsimp only at hr
 split at hr
 ·rw[(List.mem_replicate.1 hr).2];exact sq
 ·cases hr
theorem uh(a b:DB):(gZ a b).rows.length=a.rows.length:=by
 cases h:lC a b with
 |true=>rw[xe h];exact oU h
 |false=>rw[so h]
theorem sG{a b:DB}(ha:cR a=true):cR (gZ a b)=true:=by
 cases h:lC a b with
 |true=>exact Gp ha (Bf h).2.1
 |false=>rw[so h];exact ha
theorem Kk(rows:Int): ∀(l:List aX) (d:DB),cR d=true→cR (l.foldl (fun d r=>gZ d r.share) d)=true∧(l.foldl (fun d r=>gZ d r.share) d).rows.length=d.rows.length
 | [],d,h=>⟨h,rfl⟩
 |r::l,d,h=>by
  have ih:=Kk rows l (gZ d r.share) (sG h)
  rw[uh]at ih
  exact ih
theorem xC(rows:Int)(l:List aX):cR (jD rows l)=true∧(jD rows l).rows.length=(dO rows).rows.length:=Kk rows l _ (GJ rows)
theorem T6(rows:Int)(l:List aX):eu List.length (jD rows l).rows≤1048576:=fT (xC rows l).1
theorem T7{s:bD}(h:cN s=true):(1≤s.rows∧s.rows≤64)∧s.received.length≤8:=by
 simp only[cN,A5,Bool.and_eq_true,cP,decide_eq_true_eq]at h
 omega
theorem GK{s:bD}(h:cN s=true): ∀r,r∈s.received→eu List.length r.share.rows≤1048576:=by
 intro r hr
 obtain⟨i,hi,rfl⟩:=List.mem_iff_getElem.1 hr
 simp only[cN,Bool.and_eq_true,List.all_eq_true,List.mem_range]at h
 have h2:=h.2 i hi
 have e:s.received.getD i (aI .aX)=s.received[i]:=by rw[List.getD_eq_getElem?_getD,List.getElem?_eq_getElem hi];rfl
 simp only[vC,e,Bool.and_eq_true]at h2
 exact fT h2.1.2
theorem Mc(rows:Int)(l:List aX)(f k:Nat)(h:k<l.length)(hf:f≤k):jD rows ((l.drop f).take (k+1-f))=gZ (jD rows ((l.drop f).take (k-f))) (l.getD k (aI .aX)).share:=by
 rw[show k+1-f=(k-f)+1 by omega,Mb _ _ _ (by rw[List.length_drop];omega)]
 congr 2
 rw[List.getD_eq_getElem?_getD,List.getElem?_drop,show f+(k-f)=k by omega];rfl
theorem PF(rows:Int)(l:List aX)(f k:Nat)(h:l.length≤k):jD rows ((l.drop f).take (k-f))=jD rows (l.drop f):=by
 rw[List.take_of_length_le (by rw[List.length_drop];omega)]
def Ci(s:bD):DB:=if cN s then jD s.rows s.received else⟨[]⟩
def alt(d:DB):DB:=⟨d.rows.set 0 ((d.rows.getD 0 (aI (.sl .u8))).set 0 ((d.rows.getD 0 (aI (.sl .u8))).getD 0 (aI .u8)^^^1))⟩
def rcvd(s:bD):List aX:=if s.behavior=1 then s.received.drop 1 else s.received
def xD(s:bD):DB:=if cN s then(if s.behavior=2 then alt (jD s.rows (rcvd s))else jD s.rows (rcvd s))else⟨[]⟩
theorem alt_eq(d:DB):d.rows.set (Int.toNat 0) ((d.rows.getD (Int.toNat 0) (aI (.sl .u8))).set (Int.toNat 0) (UInt8.ofNat (IntKind.u8.wrap ((BitVec.ofInt IntKind.u8.bits ((((d.rows.getD (Int.toNat 0) (aI (.sl .u8))).getD (Int.toNat 0) (aI .u8)).toNat:Nat):Int)^^^BitVec.ofInt IntKind.u8.bits 1).toNat:Int)).toNat))=(alt d).rows:=by
 have:=Tr ((d.rows.getD (Int.toNat 0) (aI (.sl .u8))).getD (Int.toNat 0) (aI .u8)) 1
 rw[show(((1:UInt8).toNat:Nat):Int)=1 from rfl]at this
 rw[this];rfl
theorem XE{s:bD}(h:cN s=true):0<(jD s.rows (rcvd s)).rows.length∧0<((jD s.rows (rcvd s)).rows.getD 0 (aI (.sl .u8))).length:=by
 have h1:=T7 h
 have h2:=xC s.rows (rcvd s)
 have h3:(dO s.rows).rows.length=s.rows.toNat:=by rw[lM (by omega)];simp
 have h4:0<(jD s.rows (rcvd s)).rows.length:=by omega
 exact⟨h4,by rw[sn h2.1 0 h4];decide⟩
theorem Md(s:bD):s.behavior=1→rcvd s=s.received.drop 1:=fun h=>if_pos h
theorem PG(s:bD): ¬s.behavior=1→rcvd s=s.received:=fun h=>if_neg h
theorem PI{d:DB}(h:cR d=true):cR (alt d)=true:=by
 rw[hJ]at h ⊢
 refine⟨by unfold alt;dsimp only;rw[List.length_set];exact h.1,fun r hr=> ?_⟩
 unfold alt at hr
 dsimp only at hr
 rcases List.mem_or_eq_of_mem_set hr with h1|h1
 ·exact h.2 r h1
 ·subst h1
  rw[List.length_set]
  cases hd:d.rows with
  |nil=>rw[hd]at hr;cases hr
  |cons b l=>exact h.2 b (by rw[hd];exact List.mem_cons_self ..)
theorem T8(s:bD):eu List.length (xD s).rows≤1048576:=by
 unfold xD
 split
 ·split
  ·exact fT (PI (xC _ _).1)
  ·exact fT (xC _ _).1
 ·exact by decide
def T9(key:Int)(r:fA):Bool:=r.Jv==TN key r.server r.client r.round r.qu
def vQ(key:Int)(s:bD)(r:fA):Bool:=(r.server !=s.id||r.round !=s.round)|| !T9 key r
def PJ(r:fA)(d:DB):Bool:=r.qu==IM r.client r.round d
def iZ(key:Int)(s:bD)(r:fA):Int:=if vQ key s r then 0 else if pO s.received r.client then(if PJ r (Bl s.received r.client)then 0 else 2)else 1
def Cj(key:Int)(s:bD)(p:DB):List fA→Int
 | []=>if cN s&&(p.rows==(Ci s).rows)then 0 else 3
 |r::l=>if iZ key s r=0 then Cj key s p l else iZ key s r
theorem xE(key:Int)(s:bD)(p:DB): ∀(l:List fA) (k:Nat),(∀j,j<k→iZ key s (l.getD j (aI .fA))=0)→Cj key s p (l.drop k)=Cj key s p l
 |l,0,_=>by rw[List.drop_zero]
 | [],k+1,_=>by simp
 |r::l,k+1,h=>by
  have h0:=h 0 (by omega)
  rw[List.drop_succ_cons,xE key s p l k fun j hj=>by simpa using h (j+1) (by omega)]
  show Cj key s p l=if iZ key s r=0 then Cj key s p l else iZ key s r
  rw[if_pos (by simpa using h0)]
theorem GL{key:Int}{s:bD}{p:DB}{l:List fA}{k:Nat}(h: ∀j,j<k→iZ key s (l.getD j (aI .fA))=0)(hk:k<l.length)(hn:iZ key s (l.getD k (aI .fA))≠0):Cj key s p l=iZ key s (l.getD k (aI .fA)):=by
 rw[←xE key s p l k h,List.drop_eq_getElem_cons hk,show l[k]=l.getD k (aI .fA)by rw[List.getD_eq_getElem?_getD,List.getElem?_eq_getElem hk];rfl]
 exact if_neg hn
theorem GM{key:Int}{s:bD}{p:DB}{l:List fA}{k:Nat}(h: ∀j,j<k→iZ key s (l.getD j (aI .fA))=0)(hk:l.length≤k):Cj key s p l=if cN s&&(p.rows==(Ci s).rows)then 0 else 3:=by
 rw[←xE key s p l k h,List.drop_of_length_le hk];rfl
theorem Bx{key:Int}{s:bD}{l:List fA}{k:Nat}(h: ∀j,j<k→iZ key s (l.getD j (aI .fA))=0)(hk:iZ key s (l.getD k (aI .fA))=0): ∀j,j<k+1→iZ key s (l.getD j (aI .fA))=0:=by
 intro j hj
 by_cases hjk:j=k
 ·subst hjk;exact hk
 ·exact h j (by omega)
def GN(m:Int)(sv:List bD)(pb:List DB)(rc:List fA)(i:Nat):Bool:=decide ((pb.length:Int)≤(i:Int))|| !(Cj (oY m (sv.getD i (aI .bD)).id) (sv.getD i (aI .bD)) (pb.getD i (aI .DB)) rc==0)
def XF(m:Int)(sv:List bD)(pb:List DB)(rc:List fA)(i:Nat):List Int:=if GN m sv pb rc i then [(sv.getD i (aI .bD)).id]else []
def lf(m:Int)(sv:List bD)(pb:List DB)(rc:List fA)(n:Nat):List Int:=(List.range n).flatMap (XF m sv pb rc)
theorem GO{m:Int}{sv:List bD}{pb:List DB}{rc:List fA}{n:Nat}(h:GN m sv pb rc n=true):lf m sv pb rc (n+1)=lf m sv pb rc n++ [(sv.getD n (aI .bD)).id]:=by
 unfold lf
 rw[List.range_succ,List.flatMap_append];simp[XF,h]
theorem Dk{m:Int}{sv:List bD}{pb:List DB}{rc:List fA}{n:Nat}(h:GN m sv pb rc n=false):lf m sv pb rc (n+1)=lf m sv pb rc n:=by
 unfold lf
 rw[List.range_succ,List.flatMap_append];simp[XF,h]
theorem ru(m:Int)(sv:List bD)(pb:List DB)(rc:List fA): ∀n,(lf m sv pb rc n).length≤n
 |0=>Nat.le_refl _
 |n+1=>by
  have ih:=ru m sv pb rc n
  cases h:GN m sv pb rc n with
  |true=>rw[GO h,List.length_append];simp;omega
  |false=>rw[Dk h];omega
def dU(sv:List bD):List DB:=sv.map xD
theorem Me(sv:List bD)(k:Nat)(h:k<sv.length):(dU sv).take (k+1)=(dU sv).take k++ [xD (sv.getD k (aI .bD))]:=by
 rw[bE (dU sv) k (aI .DB) (by unfold dU;rw[List.length_map];exact h)]
 congr 2
 unfold dU
 rw[List.getD_eq_getElem?_getD,List.getD_eq_getElem?_getD,List.getElem?_map,List.getElem?_eq_getElem h];rfl
theorem Ua(sv:List bD): ∀d,d∈dU sv→eu List.length d.rows≤1048576:=by
 intro d hd
 obtain⟨s,_,rfl⟩:=List.mem_map.1 hd
 exact T8 s
theorem PK{pb:List DB}(h: ∀d,d∈pb→eu List.length d.rows≤1048576)(k:Nat):eu List.length (pb.getD k (aI .DB)).rows≤1048576:=by
 rw[List.getD_eq_getElem?_getD]
 cases hq:pb[k]? with
 |none=>exact by decide
 |some d=>exact h d (List.mem_of_getElem? hq)
theorem IU{x:bw}(h:okW x=true): ∀s,s∈cz x→oX s:=by
 rw[cz,if_pos h];exact(col h _ (Nat.le_refl _)).sml
theorem mm{x:bw}(h:okW x=true):(cz x).length=x.an.length:=by
 rw[cz,if_pos h];exact jO h (Nat.le_refl _)
theorem adp{key:Int}{s:bD}{r:fA}(h:vQ key s r=false)(h1:pO s.received r.client=false):iZ key s r=1:=by rw[iZ,h,h1];rfl
theorem adq{key:Int}{s:bD}{r:fA}(h:vQ key s r=false)(h1:pO s.received r.client=true)(h2:PJ r (Bl s.received r.client)=false):iZ key s r=2:=by rw[iZ,h,h1,h2];rfl
theorem adr{key:Int}{s:bD}{r:fA}(h:vQ key s r=false)(h1:pO s.received r.client=true)(h2:PJ r (Bl s.received r.client)=true):iZ key s r=0:=by rw[iZ,h,h1,h2];rfl
theorem ads{key:Int}{s:bD}{r:fA}(h:vQ key s r=true):iZ key s r=0:=by rw[iZ,h];rfl
end
section
def IV:DB→List DB→Option DB
 |a,[]=>some a
 |a,s::r=>if lC a s then IV (gZ a s) r else none
def Mf(l:List DB):Option DB:=if cW l.length then IV (l.getD 0 (aI .DB)) (l.drop 1)else none
def EF(l:List DB):Bool:=(Mf l).isSome
def jw(l:List DB):DB:=(Mf l).getD ⟨[]⟩
def Dl(l:List DB)(k:Nat):DB:=((l.drop 1).take k).foldl gZ (l.getD 0 (aI .DB))
theorem By(l:List DB)(k:Nat)(h:k<(l.drop 1).length):Dl l (k+1)=gZ (Dl l k) ((l.drop 1).getD k (aI .DB)):=by
 unfold Dl
 rw[bE (l.drop 1) k (aI .DB) h,List.foldl_append];rfl
theorem GP{α:Type}(l:List α)(k:Nat)(d:α)(h:k<l.length):l.drop k=l.getD k d::l.drop (k+1):=by
 rw[List.drop_eq_getElem_cons h,show l[k]=l.getD k d by rw[List.getD_eq_getElem?_getD,List.getElem?_eq_getElem h];rfl]
theorem PL(l:List DB)(k:Nat)(h:k<(l.drop 1).length)(hx:lC (Dl l k) ((l.drop 1).getD k (aI .DB))=true):IV (Dl l k) ((l.drop 1).drop k)=IV (Dl l (k+1)) ((l.drop 1).drop (k+1)):=by
 rw[GP _ k (aI .DB) h,IV,if_pos hx,By l k h]
theorem XG(l:List DB)(k:Nat)(h:k<(l.drop 1).length)(hx:lC (Dl l k) ((l.drop 1).getD k (aI .DB))=false):IV (Dl l k) ((l.drop 1).drop k)=none:=by
 rw[GP _ k (aI .DB) h,IV,hx];rfl
theorem Ub(l:List DB)(k:Nat)(h:(l.drop 1).length≤k):IV (Dl l k) ((l.drop 1).drop k)=some (Dl l k):=by
 rw[List.drop_of_length_le h];rfl
def Bz(l:List DB):Prop:= ∀d,d∈l→cR d=true
theorem nY{l:List DB}(h:Bz l)(k:Nat):cR (l.getD k (aI .DB))=true:=by
 rw[List.getD_eq_getElem?_getD]
 cases hq:l[k]? with
 |none=>exact by decide
 |some d=>exact h d (List.mem_of_getElem? hq)
theorem XH{l:List DB}(h:Bz l): ∀k,cR (Dl l k)=true:=by
 intro k
 induction k with
 |zero=>exact nY h 0
 |succ k ih=>
  by_cases hk:k<(l.drop 1).length
  ·rw[By l k hk];exact sG ih
  ·have e:Dl l (k+1)=Dl l k:=by unfold Dl;rw[List.take_of_length_le (by omega),List.take_of_length_le (by omega)]
   rw[e];exact ih
theorem IW{l:List DB}(h:Mf l=none):jw l=⟨[]⟩∧EF l=false:=by unfold jw EF;rw[h];exact⟨rfl,rfl⟩
theorem Kl{l:List DB}{d:DB}(h:Mf l=some d):jw l=d∧EF l=true:=by unfold jw EF;rw[h];exact⟨rfl,rfl⟩
theorem Uc{l:List DB}(h:cW l.length=false):Mf l=none:=by rw[Mf,h];rfl
theorem Ud{l:List DB}(h:cW l.length=true):Mf l=IV (Dl l 0) ((l.drop 1).drop 0):=by rw[Mf,if_pos h];rfl
theorem GQ{l:List DB}(h:cW l.length=true):2≤l.length∧l.length≤4:=by simp only[cW,cP]at h;omega
theorem Ue(s:bD):cR (xD s)=true:=by
 unfold xD
 split
 ·split
  ·exact PI (xC _ _).1
  ·exact(xC _ _).1
 ·exact by decide
theorem o7(sv:List bD):Bz (dU sv):=by
 intro d hd
 obtain⟨s,_,rfl⟩:=List.mem_map.1 hd
 exact Ue s
theorem GR(l:List DB)(h:Bz l):cR (jw l)=true:=by
 cases hq:Mf l with
 |none=>rw[(IW hq).1];decide
 |some d=>
  rw[(Kl hq).1]
  have key: ∀(r:List DB) (a:DB),cR a=true→IV a r=some d→cR d=true:=by
   intro r
   induction r with
   |nil=>intro a ha hj;simp only[IV,oI]at hj;exact hj▸ha
   |cons s r ih=>
    intro a ha hj
    simp only[IV]at hj
    split at hj
    ·exact ih _ (sG ha) hj
    ·cases hj
  unfold Mf at hq
  split at hq
  ·exact key _ _ (nY h 0) hq
  ·cases hq
def o8(a:iK)(r:Int)(d:DB):Bool:=(((gq a&&inr r 0 100000)&& !decide (r≤eC a))&&cR d)&&decide ((d.rows.length:Int)=a.rows)
def o9(a:iK)(r:Int)(d:DB):List aK:=a.rounds++ [⟨r,d⟩]
def yS(a:iK)(r:Int)(d:DB):List aK:=if o8 a r d then(if(8:Int)<(o9 a r d).length then(o9 a r d).drop 1 else o9 a r d)else a.rounds
def GS(id rows b:Int):Bool:=inr id 0 3&&inr rows 1 64&&inr b 0 3
def newS(id rows b:Int):bD:=if GS id rows b then⟨id,rows,0,[],b⟩else⟨0,0,0,[],0⟩
def IX(s:bD):Bool:=cN s&& !(s.round==100000)
def lE(s:bD):bD:=if IX s then⟨s.id,s.rows,IntKind.i64.wrap (s.round+1),[],s.behavior⟩else s
def BA(l:List bD)(id:Int):Bool:=inr id 0 (IntKind.i64.wrap ((l.length:Int)-1))
def yT(rows rd:Int)(p:List bD×List Int)(id:Int):List bD×List Int:=if BA p.1 id then(p.1.set id.toNat ⟨id,rows,rd,[],0⟩,p.2++ [id])else p
def yU(rows rd:Int)(p:List bD×List Int)(g:List Int):List bD×List Int:=g.foldl (yT rows rd) p
theorem BB(rows rd:Int)(p:List bD×List Int)(g:List Int)(k:Nat)(h:k<g.length):yU rows rd p (g.take (k+1))=yT rows rd (yU rows rd p (g.take k)) (g.getD k (aI .int)):=by
 unfold yU
 rw[bE g k (aI .int) h,List.foldl_append];rfl
theorem EG(rows rd:Int)(p:List bD×List Int)(id:Int):(yT rows rd p id).1.length=p.1.length∧(yT rows rd p id).2.length≤p.2.length+1:=by
 unfold yT
 split
 ·simp
 ·exact⟨rfl,Nat.le_succ _⟩
theorem EH(rows rd:Int)(p:List bD×List Int)(g:List Int): ∀k,k≤g.length→(yU rows rd p (g.take k)).1.length=p.1.length∧(yU rows rd p (g.take k)).2.length≤p.2.length+k
 |0,_=>⟨rfl,Nat.le_refl _⟩
 |k+1,hk=>by
  have ih:=EH rows rd p g k (by omega)
  rw[BB _ _ _ _ k (by omega)]
  have:=EG rows rd (yU rows rd p (g.take k)) (g.getD k (aI .int))
  omega
def Ck(rd:Int)(l:List bD):Prop:= ∀s,s∈l→s.round=rd∧oX s
theorem aaB{rows rd:Int}{p:List bD×List Int}{id:Int}(h:Ck rd p.1):Ck rd (yT rows rd p id).1:=by
 unfold yT
 split
 ·intro s hs
  rcases List.mem_or_eq_of_mem_set hs with h1|h1
  ·exact h s h1
  ·subst h1
   exact⟨rfl,Nat.zero_le _,fun r hr=>by cases hr⟩
 ·exact h
theorem PM{rows rd:Int}{p:List bD×List Int}(g:List Int)(h:Ck rd p.1): ∀k,k≤g.length→Ck rd (yU rows rd p (g.take k)).1
 |0,_=>h
 |k+1,hk=>by
  rw[BB _ _ _ _ k (by omega)]
  exact aaB (PM g h k (by omega))
theorem PN(l:List bD)(k:Nat)(h:k<l.length):((l.map lE).take k++l.drop k).set k (lE (((l.map lE).take k++l.drop k).getD k (aI .bD)))=(l.map lE).take (k+1)++l.drop (k+1):=by
 rw[AW _ _ _ _ (by rw[List.length_map];omega)]
 refine F8 _ _ _ (aI .bD) _ h (by rw[List.length_map];exact h) ?_
 rw[List.getD_eq_getElem?_getD,List.getD_eq_getElem?_getD,List.getElem?_map,List.getElem?_eq_getElem h];rfl
def nZ(x:bw):Bool:=okW x&& !decide (x.round≥99999)
def yB(x:bw)(g:List Int):List bD×List Int:=yU x.rows x.round (x.an,x.replaced) g
def dh(x:bw)(g:List Int)(d:DB):bw:=if nZ x then⟨x.rows,(yB x g).1.map lE,x.af,⟨x.aJ.rows,if g.length=0 then yS x.aJ x.round d else x.aJ.rounds⟩,x.bq,x.seed,IntKind.i64.wrap (x.round+1),(yB x g).2,if g.length=0 then x.cancelled else IntKind.i64.wrap (x.cancelled+1)⟩else x
theorem VG{x:bw}(h:okW x=true):Ck x.round x.an:=by
 intro s hs
 obtain⟨i,hi,rfl⟩:=List.mem_iff_getElem.1 hs
 have h1:=Ez h hi
 have e:x.an.getD i (aI .bD)=x.an[i]:=by rw[List.getD_eq_getElem?_getD,List.getElem?_eq_getElem hi];rfl
 have he:=sD h _ hs
 simp only[JX,e,Bool.and_eq_true,beq_iff_eq]at h1
 exact⟨h1.1.2,by rw[he];decide,fun r hr=>by rw[he]at hr;cases hr⟩
def XI(key:Int)(a:dy):Bool:=a.Jv==L5 key a.server a.round a.selection a.data
def fls(key:Int)(d:DB)(a:dy):Bool:=XI key a&& !(a.data==jQ d a.selection)
def tsK(x:bw)(i:Nat):Int:=oY x.bq (i:Int)
def tsA(x:bw)(i:Nat):dy:=R2 (x.an.getD i (aI .bD)) (tsK x i) (eC x.aJ) (mH x.aJ.rounds (eC x.aJ)) (cO (kh x.seed [227,x.round,(i:Int)]) x.rows)
def VH(x:bw)(i:Nat):Bool:=fls (tsK x i) (mH x.aJ.rounds (eC x.aJ)) (tsA x i)
def Dm(x:bw)(n:Nat):List Int:=(List.range n).flatMap fun i=>if VH x i then [(i:Int)]else []
theorem Km{x:bw}{n:Nat}(h:VH x n=true):Dm x (n+1)=Dm x n++ [(n:Int)]:=by
 unfold Dm
 rw[List.range_succ,List.flatMap_append];simp[h]
theorem GU{x:bw}{n:Nat}(h:VH x n=false):Dm x (n+1)=Dm x n:=by
 unfold Dm
 rw[List.range_succ,List.flatMap_append];simp[h]
def EI(x:bw)(n:Nat):List bD×List Int:=yU x.rows x.round (x.an,x.replaced) (Dm x n)
theorem Uf{x:bw}{n:Nat}(h:VH x n=true):EI x (n+1)=yT x.rows x.round (EI x n) (n:Int):=by
 unfold EI yU
 rw[Km h,List.foldl_append];rfl
theorem PO{x:bw}{n:Nat}(h:VH x n=false):EI x (n+1)=EI x n:=by unfold EI;rw[GU h]
def EJ(x:bw):Bool:=okW x&&l9 x.aJ.rounds (eC x.aJ)
def testW(x:bw):bw:=if EJ x then⟨x.rows,(EI x x.an.length).1,x.af,x.aJ,x.bq,x.seed,x.round,(EI x x.an.length).2,x.cancelled⟩else x
def iQ(x:bw):bw:=if nZ x then B4 (testW (dh x (lf x.bq (cz x) (dU (cz x)) (l5 x) (cz x).length) (jw (dU (cz x)))))else x
end
section
theorem pe{α:Type}(f:α→Nat)(C n:Nat)(l:List α)(h: ∀y,y∈l→f y≤C)(hl:l.length≤n):eu f l≤(C+1)*n:=by
 have h1:=VB f C l h
 have h2:(C+1)*l.length≤(C+1)*n:=Nat.mul_le_mul_left _ hl
 unfold eu
 rw[Nat.add_mul,Nat.one_mul]at h2
 omega
theorem IY{d:DB}(h:cR d=true):eu List.length d.rows≤1600:=by
 have h1:=TJ h
 have h2:=Be h
 unfold Xi at h1;unfold eu;omega
def vR(c:dN):Prop:=c.aF.length≤16∧c.inbox.length≤16∧(∀b,b∈c.aF→b.length≤14)∧ ∀b,b∈c.inbox→b.length≤14
theorem sH{c:dN}(h:dR c=true):vR c:=by
 obtain⟨h1,h2,h3,h4,_⟩:=sC h
 exact⟨h1,h2,h3,h4⟩
theorem n7{c:dN}(h:vR c):cT c≤480:=by
 have h1:=pe List.length 14 16 c.aF h.2.2.1 h.1
 have h2:=pe List.length 14 16 c.inbox h.2.2.2 h.2.1
 unfold cT;omega
theorem vS{c:dN}(h:vR c)(r:Int)(own other:List UInt8):vR (gr c r own other):=by
 unfold gr
 split
 ·refine⟨h.1,?_,h.2.2.1,?_⟩
  ·dsimp only
   split
   ·rename_i hg
    simp only[rj,Bool.and_eq_true,decide_eq_true_eq]at hg
    rw[List.length_append,List.length_singleton];omega
   ·exact h.2.1
  ·dsimp only
   split
   ·intro b hb
    rcases List.mem_append.1 hb with h1|h1
    ·exact h.2.2.2 b h1
    ·rw[List.mem_singleton.1 h1];exact Pn _ _ _
   ·exact h.2.2.2
 ·exact h
def vT(d:bP):Prop:=vR d.live∧vR d.saved
theorem PR{d:bP}(h:vT d)(r:Int)(own other:List UInt8):vT (rdev d r own other):=by
 unfold rdev
 split
 ·split
  ·exact⟨vS h.1 _ _ _,vS h.1 _ _ _⟩
  ·exact⟨vS h.1 _ _ _,h.2⟩
 ·exact h
theorem IZ(x:bw)(d0:bP): ∀(l:List Int) (d:bP),vT d→vT (l.foldl (IS x d0) d)
 | [],_,h=>h
 |r::l,_,h=>IZ x d0 l _ (PR h _ _ _)
theorem jC{d:bP}(h:vT d):cD d≤960:=by
 have h1:=n7 h.1
 have h2:=n7 h.2
 unfold cD;omega
theorem aaC{x:bw}{i:Nat}(h:okD x i=true):vT (x.af.getD i (aI .bP)):=by
 simp only[okD,dL,Bool.and_eq_true]at h
 exact⟨sH h.1.1.1.1.1.1.1.1.1,sH h.1.1.1.1.1.1.1.1.2⟩
theorem Dn{x:bw}(h:okW x=true): ∀d,d∈x.af→vT d:=by
 intro d hd
 obtain⟨i,hi,rfl⟩:=List.mem_iff_getElem.1 hd
 have h1:=aaC (oV h hi)
 rwa [List.getD_eq_getElem?_getD,List.getElem?_eq_getElem hi]at h1
def wC(x:bw)(n:Nat):Prop:=eu eg x.an≤1048576∧eu cD x.af≤1048576∧gY x.aJ≤1048576∧x.replaced.length≤n
theorem PS{x:bw}{n:Nat}(h:wC x n)(hn:n≤4194304):wB x:=⟨h.1,h.2.1,h.2.2.1,Nat.le_trans h.2.2.2 hn⟩
theorem vU{x:bw}{n m:Nat}(h:wC x n)(hn:n≤m):wC x m:=⟨h.1,h.2.1,h.2.2.1,Nat.le_trans h.2.2.2 hn⟩
theorem aaD{x:bw}{n:Nat}(h:wC x n):wC (B4 x) n:=by
 unfold B4
 split
 ·rename_i hk
  refine⟨h.1,?_,h.2.2.1,h.2.2.2⟩
  have h1:eu cD (x.af.map (mh x))≤(960+1)*8:=by
   refine pe cD 960 8 _ (fun d hd=> ?_) (by rw[List.length_map];exact(vF (lW hk)).2.1)
   obtain⟨e,he,rfl⟩:=List.mem_map.1 hd
   exact jC (IZ x e _ _ (Dn hk e he))
  exact Nat.le_trans h1 (by decide)
 ·exact h
theorem adu{s:bD}(h:s.received= []):eg s=0:=by unfold eg;rw[h];rfl
def yC(l:List bD):Prop:=l.length≤4∧ ∀s,s∈l→s.received= []
theorem uj{l:List bD}(h:yC l):eu eg l≤1048576:=
 Nat.le_trans (pe eg 0 4 l (fun s hs=>by rw[adu (h.2 s hs)];exact Nat.le_refl 0) h.1) (by decide)
theorem aaE{rows rd:Int}{p:List bD×List Int}{id:Int}(h:yC p.1):yC (yT rows rd p id).1:=by
 unfold yT
 split
 ·refine⟨by rw[List.length_set];exact h.1,fun s hs=> ?_⟩
  rcases List.mem_or_eq_of_mem_set hs with h1|h1
  ·exact h.2 s h1
  ·subst h1;rfl
 ·exact h
theorem PT{rows rd:Int}: ∀(g:List Int) {p:List bD×List Int},yC p.1→yC (yU rows rd p g).1∧(yU rows rd p g).2.length≤p.2.length+g.length
 | [],_,h=>⟨h,Nat.le_refl _⟩
 |i::g,p,h=>by
  have h1:=PT (rows:=rows) (rd:=rd) g (aaE (rows:=rows) (rd:=rd) (id:=i) h)
  have h2:=(EG rows rd p i).2
  refine⟨h1.1,?_⟩
  have h3:(yU rows rd p (i::g)).2.length≤(yT rows rd p i).2.length+g.length:=h1.2
  rw[List.length_cons];omega
theorem PU{x:bw}(h:okW x=true):yC x.an:=⟨(eX h).1,sD h⟩
theorem XJ{l:List bD}(h:yC l):yC (l.map lE):=by
 refine⟨by rw[List.length_map];exact h.1,fun s hs=> ?_⟩
 obtain⟨t,ht,rfl⟩:=List.mem_map.1 hs
 unfold lE
 split
 ·rfl
 ·exact h.2 t ht
theorem aaF{a:iK}{r:Int}{d:DB}(ha:gq a=true)(hd:cR d=true):eu eo (yS a r d)≤1048576:=by
 have h8:a.rounds.length≤8:=by simp only[gq,C2,Bool.and_eq_true,decide_eq_true_eq]at ha;omega
 have hm: ∀y,y∈a.rounds→eo y≤1600:=by
  intro y hy
  obtain⟨i,hi,rfl⟩:=List.mem_iff_getElem.1 hy
  simp only[gq,Bool.and_eq_true,List.all_eq_true,List.mem_range]at ha
  have h2:=ha.2 i hi
  have e:a.rounds.getD i (aI .aK)=a.rounds[i]:=by rw[List.getD_eq_getElem?_getD,List.getElem?_eq_getElem hi];rfl
  simp only[w6,e,Bool.and_eq_true]at h2
  exact IY h2.1.2
 have hL: ∀y,y∈o9 a r d→eo y≤1600:=by
  intro y hy
  rcases List.mem_append.1 hy with h1|h1
  ·exact hm y h1
  ·rw[List.mem_singleton.1 h1];exact IY hd
 have hl:(o9 a r d).length≤9:=by unfold o9;rw[List.length_append,List.length_singleton];omega
 have key:eu eo (yS a r d)≤(1600+1)*9:=by
  unfold yS
  split
  ·split
   ·exact pe _ _ _ _ (fun y hy=>hL y (List.mem_of_mem_drop hy)) (by rw[List.length_drop];omega)
   ·exact pe _ _ _ _ hL hl
  ·exact pe _ _ _ _ hm (by omega)
 exact Nat.le_trans key (by decide)
theorem Ug{x:bw}(h:okW x=true):gq x.aJ=true:=by
 have h:=lW h
 simp only[LN,Bool.and_eq_true]at h
 exact h.1.1.1.1.1.2
theorem GV{x:bw}{g:List Int}{d:DB}{n:Nat}(h:wC x n)(hd:cR d=true):wC (dh x g d) (n+g.length):=by
 unfold dh
 split
 ·rename_i hk
  simp only[nZ,Bool.and_eq_true]at hk
  have h0:=PT (rows:=x.rows) (rd:=x.round) g (p:=(x.an,x.replaced)) (PU hk.1)
  refine⟨uj (XJ h0.1),h.2.1,?_,?_⟩
  ·show eu eo _≤_
   dsimp only
   split
   ·exact aaF (Ug hk.1) hd
   ·exact h.2.2.1
  ·have h1:=h0.2
   have h2:=h.2.2.2
   show(yU x.rows x.round (x.an,x.replaced) g).2.length≤_
   dsimp only at h1
   omega
 ·exact vU h (Nat.le_add_right _ _)
theorem EK(x:bw): ∀n,(Dm x n).length≤n
 |0=>Nat.le_refl _
 |n+1=>by
  have ih:=EK x n
  cases h:VH x n with
  |true=>rw[Km h,List.length_append];simp;omega
  |false=>rw[GU h];omega
theorem Kn{x:bw}{n:Nat}(h:wC x n):wC (testW x) (n+4):=by
 unfold testW
 split
 ·rename_i hk
  simp only[EJ,Bool.and_eq_true]at hk
  have h0:=PT (rows:=x.rows) (rd:=x.round) (Dm x x.an.length) (p:=(x.an,x.replaced)) (PU hk.1)
  have h4:=(eX hk.1).1
  have h5:=EK x x.an.length
  refine⟨uj h0.1,h.2.1,h.2.2.1,?_⟩
  have h1:=h0.2
  have h2:=h.2.2.2
  show(yU x.rows x.round (x.an,x.replaced) (Dm x x.an.length)).2.length≤_
  dsimp only at h1
  omega
 ·exact vU h (Nat.le_add_right _ _)
theorem PV{x:bw}{n:Nat}(h:wC x n):wC (iQ x) (n+8):=by
 unfold iQ
 split
 ·rename_i hk
  simp only[nZ,Bool.and_eq_true]at hk
  have h1:=ru x.bq (cz x) (dU (cz x)) (l5 x) (cz x).length
  rw[mm hk.1]at h1
  have h4:=(eX hk.1).1
  have h2:=Kn (GV (g:=lf x.bq (cz x) (dU (cz x)) (l5 x) (cz x).length) (d:=jw (dU (cz x))) h (GR _ (o7 _)))
  rw[mm hk.1]at h2 ⊢
  exact vU (aaD h2) (by omega)
 ·exact vU h (Nat.le_add_right _ _)
end
section
def PW(c:dN)(b:List UInt8):dN:=⟨c.id,c.bG,c.key,c.seed,c.aF++ [b],c.sent,c.inbox,c.next⟩
def vV(c:dN)(b:List UInt8):Bool:=dR c&&dR (PW c b)
def iR(c:dN)(b:List UInt8):dN:=if vV c b then PW c b else c
def BC(d:bP)(b:List UInt8):Bool:=(dL d&&vV d.live b)&&vV d.saved b
def pg(d:bP)(b:List UInt8):bP:=if BC d b then⟨iR d.live b,iR d.saved b⟩else d
def Dp(d:bP):bP:=if dL d then⟨d.saved,d.saved⟩else d
def R4(d:bP):bP:=if dL d then⟨d.live,d.live⟩else d
def Mg(x:bw)(i:Nat)(d:bP):bw:=⟨x.rows,x.an,x.af.set i d,x.aJ,x.bq,x.seed,x.round,x.replaced,x.cancelled⟩
def aaG(x:bw)(i:Nat)(s:bD):bw:=⟨x.rows,x.an.set i s,x.af,x.aJ,x.bq,x.seed,x.round,x.replaced,x.cancelled⟩
def iM(x:bw)(c:Int):Bool:=okW x&&sU x c
def yV(x:bw)(c:Int):bP:=x.af.getD c.toNat (aI .bP)
def PX(x:bw)(c:Int)(b:List UInt8):Bool:=iM x c&&BC (yV x c) b
def Ko(x:bw)(c:Int)(b:List UInt8):bw:=if iM x c then Mg x c.toNat (pg (yV x c) b)else x
def Mh(x:bw)(c:Int):bw:=if iM x c then Mg x c.toNat (Dp (yV x c))else x
def Uh(x:bw)(c:Int):bw:=if iM x c then Mg x c.toNat (R4 (yV x c))else x
def Za(s:bD)(b:Int):bD:=⟨s.id,s.rows,s.round,s.received,b⟩
def Cl(x:bw)(i b:Int):Bool:=(okW x&&inr i 0 (IntKind.i64.wrap ((x.an.length:Int)-1)))&&inr b 0 3
def Mi(x:bw)(i b:Int):bw:=if Cl x i b then aaG x i.toNat (Za (x.an.getD i.toNat (aI .bD)) b)else x
theorem zB{x:bw}{c:Int}(h:iM x c=true):okW x=true∧0≤c∧c<x.af.length:=by
 simp only[iM,sU,Bool.and_eq_true,cP]at h
 exact⟨h.1,by omega⟩
theorem XK{x:bw}{c:Int}(h:iM x c=true):vT (yV x c):=by
 obtain⟨h1,h2⟩:=zB h
 exact Dn h1 _ (getD_in _ (by omega))
theorem PY{c:dN}{b:List UInt8}(h:vR c):vR (iR c b):=by
 unfold iR
 split
 ·rename_i hk
  simp only[vV,Bool.and_eq_true]at hk
  exact sH hk.2
 ·exact h
theorem XL{d:bP}{b:List UInt8}(h:vT d):vT (pg d b):=by
 unfold pg
 split
 ·exact⟨PY h.1,PY h.2⟩
 ·exact h
theorem aaH{d:bP}(h:vT d):vT (Dp d):=by
 unfold Dp
 split
 ·exact⟨h.2,h.2⟩
 ·exact h
theorem PZ{x:bw}{i b:Int}(h:Cl x i b=true):okW x=true∧(0≤i∧i<x.an.length)∧0≤b∧b≤3:=by
 simp only[Cl,Bool.and_eq_true,cP]at h
 have:=eX h.1.1
 rw[aM (a:=(x.an.length:Int)-1) (by omega)]at h
 exact⟨h.1.1,by omega,h.2⟩
end
section
theorem GW(c:dN):sR c.key (IntKind.i64.wrap (1-dS c))=Dj c:=by
 unfold Dj
 rw[aM (by unfold dS;split<;>omega)]
theorem P0{c:dN}{r:Int}{own other:List UInt8}(h:xy c r=false):gr c r own other=c:=by rw[gr,h];rfl
theorem XM{c:dN}{r:Int}(h:xy c r=true):dR c=true∧c.next≤r∧r≤99999∧0≤c.next:=by
 simp only[xy,Bool.and_eq_true,cP]at h
 have:=(sC h.1).2.2.2.2.2.2.1
 exact⟨h.1,h.2.1,h.2.2,this⟩
theorem Ui{d:bP}{r:Int}{own other:List UInt8}(h:Bw d r=false):rdev d r own other=d:=by rw[rdev,h];rfl
theorem Uj{d:bP}{r:Int}{own other:List UInt8}(h:Bw d r=true)(hn:Bv (nW d r own other)=true):rdev d r own other=R4 (nW d r own other):=by
 have hk:dL (nW d r own other)=true:=by
  simp only[Bv,Bool.and_eq_true]at hn;exact hn.1
 rw[rdev,if_pos h,if_pos hn,R4,if_pos hk];rfl
theorem Uk{d:bP}{r:Int}{own other:List UInt8}(h:Bw d r=true)(hn:Bv (nW d r own other)=false):rdev d r own other=nW d r own other:=by
 rw[rdev,if_pos h,hn];rfl
theorem P1{d:bP}{r:Int}{own other:List UInt8}(h:Bw d r=true):cD (nW d r own other)≤1048576:=by
 simp only[Bw,Bool.and_eq_true]at h
 have hd:=h.2
 simp only[dL,Bool.and_eq_true]at hd
 have hb:vT (nW d r own other):=⟨vS (sH hd.1.1.1.1.1) _ _ _,sH hd.1.1.1.1.2⟩
 have:=jC hb
 omega
theorem XN{x:bw}(h:okW x=true){k:Nat}(hk:k<x.af.length)(l:List Int):cD (GH x (x.af.getD k (aI .bP)) l)≤1048576:=by
 have:=jC (IZ x (x.af.getD k (aI .bP)) l _ (Dn h _ (getD_in (aI .bP) hk)))
 unfold GH;omega
theorem XO{x:bw}(h:okW x=true){k:Nat}(hk:k<x.af.length)(i:Nat):cD ((pQ x k i).getD k (aI .bP))≤1048576:=by
 rw[zA x k i hk];exact XN h hk _
theorem P2(x:bw)(k i:Nat)(hk:k<x.af.length):pP ((pQ x k i).getD k (aI .bP)).live (x.af.getD k (aI .bP)).live:=by
 rw[zA x k i hk]
 exact xz x _ _ _ ⟨rfl,rfl,rfl,rfl⟩
theorem P3(x:bw)(k i:Nat)(h:k<x.af.length)(hi:i<(xA x (x.af.getD k (aI .bP))).length):
  (pQ x k i).set k (rdev ((pQ x k i).getD k (aI .bP)) ((xA x (x.af.getD k (aI .bP))).getD i (aI .int))
   (L7 x ((xA x (x.af.getD k (aI .bP))).getD i (aI .int)) (mG ((pQ x k i).getD k (aI .bP)).live.key ((xA x (x.af.getD k (aI .bP))).getD i (aI .int)) (dS ((pQ x k i).getD k (aI .bP)).live) x.rows) ((pQ x k i).getD k (aI .bP)).live.seed)
   (L7 x ((xA x (x.af.getD k (aI .bP))).getD i (aI .int)) (mG ((pQ x k i).getD k (aI .bP)).live.key ((xA x (x.af.getD k (aI .bP))).getD i (aI .int)) (1-dS ((pQ x k i).getD k (aI .bP)).live) x.rows) ((pQ x k i).getD k (aI .bP)).live.seed))=pQ x k (i+1):=by
 have hs:=P2 x k i h
 rw[IQ hs,hs.2.2.1,hs.2.2.2]
 exact Pt x k i h hi
theorem XP{x:bw}(h:okW x=false):B4 x=x:=by rw[B4,h];rfl
theorem Ul{x:bw}(h:okW x=true):B4 x=⟨x.rows,x.an,x.af.map (mh x),x.aJ,x.bq,x.seed,x.round,x.replaced,x.cancelled⟩:=by rw[B4,if_pos h]
theorem XQ(c:dN):IntKind.i64.wrap (1-dS c)=1-dS c:=aM (by unfold dS;split<;>omega)
end
section
theorem GX{α:Type}(l:List α)(k:Nat)(d:α):(l.drop 1).getD k d=l.getD (k+1) d:=by
 rw[List.getD_eq_getElem?_getD,List.getD_eq_getElem?_getD,List.getElem?_drop,Nat.add_comm]
theorem adv{l:List DB}(ha:Bz l)(h:(if(!cW l.length)=true then true else !cR (l.getD (Int.toNat 0) (aI .DB)))=true):cW l.length=false:=by
 cases hs:cW l.length with
 |false=>rfl
 |true=>
  rw[hs]at h
  have:=nY ha 0
  have h2:cR (l.getD (Int.toNat 0) (aI .DB))=true:=this
  rw[h2]at h
  cases h
theorem aaJ{l:List DB}(h:(if(!cW l.length)=true then true else !cR (l.getD (Int.toNat 0) (aI .DB)))=false):cW l.length=true:=by
 cases hs:cW l.length with
 |true=>rfl
 |false=>rw[hs]at h;cases h
theorem adw{l:List DB}(h:(!cW (l.length:Int))=false):(0:Int)≤0∧(0:Int)<(l.length:Int):=by
 have h2:cW (l.length:Int)=true:=by simpa using h
 have:=GQ h2
 omega
theorem Um{rows rd:Int}{p:List bD×List Int}{id:Int}(h:BA p.1 id=true):yT rows rd p id=(p.1.set id.toNat ⟨id,rows,rd,[],0⟩,p.2++ [id]):=by rw[yT,if_pos h]
theorem Un{rows rd:Int}{p:List bD×List Int}{id:Int}(h:BA p.1 id=false):yT rows rd p id=p:=by rw[yT,h];rfl
theorem XS{l:List bD}{id:Int}(hl:l.length≤4)(h:BA l id=true):0≤id∧id<l.length:=by
 simp only[BA,cP]at h
 rw[aM (by omega)]at h
 omega
theorem GY{id rows:Int}(h:0≤id∧id≤3)(hr:1≤rows∧rows≤64):newS id rows 0=⟨id,rows,0,[],0⟩:=by
 have:GS id rows 0=true:=by simp only[GS,Bool.and_eq_true,cP];omega
 rw[newS,if_pos this]
def I0(x:bw)(g:List Int)(k:Nat):List bD×List Int:=yU x.rows x.round (x.an,x.replaced) (g.take k)
theorem P4{x:bw}{g:List Int}{k:Nat}(h:k<g.length):yT x.rows x.round (I0 x g k) (g.getD k (aI .int))=I0 x g (k+1):=(BB _ _ _ _ k h).symm
theorem zC{x:bw}{g:List Int}{k:Nat}(h:g.length≤k):I0 x g k=yB x g:=by unfold I0 yB;rw[List.take_of_length_le h]
theorem EL{x:bw}{g:List Int}{k:Nat}(h:k≤g.length):(I0 x g k).1.length=x.an.length∧(I0 x g k).2.length≤x.replaced.length+k:=EH _ _ _ g k h
theorem P5{x:bw}{g:List Int}{k:Nat}(hk:okW x=true)(h:k≤g.length):Ck x.round (I0 x g k).1:=PM g (VG hk) k h
theorem aaK{x:bw}(g:List Int)(hk:okW x=true):Ck x.round (yB x g).1:=by
 have:=P5 (g:=g) hk (Nat.le_refl _)
 rwa [zC (Nat.le_refl _)]at this
theorem Uo(x:bw)(g:List Int):(yB x g).1.length=x.an.length∧(yB x g).2.length≤x.replaced.length+g.length:=by
 have:=EL (x:=x) (g:=g) (Nat.le_refl _)
 rwa [zC (Nat.le_refl _)]at this
theorem BF{rd:Int}{l:List bD}(h:Ck rd l){k:Nat}(hk:k<l.length):(l.getD k (aI .bD)).round=rd∧oX (l.getD k (aI .bD)):=h _ (getD_in (aI .bD) hk)
def GZ(l:List bD)(k:Nat):List bD:=(l.map lE).take k++l.drop k
theorem VI(l:List bD):GZ l 0=l:=by unfold GZ;simp
theorem G0{l:List bD}{k:Nat}(h:k<l.length):(GZ l k).set k (lE ((GZ l k).getD k (aI .bD)))=GZ l (k+1):=PN l k h
theorem Kp{l:List bD}{k:Nat}(h:k<l.length):(GZ l k).getD k (aI .bD)=l.getD k (aI .bD):=AW _ _ _ _ (by rw[List.length_map];omega)
theorem Kq{l:List bD}{k:Nat}(h:k≤l.length):(GZ l k).length=l.length:=AX _ _ _ (by rw[List.length_map]) h
theorem Kr{l:List bD}{k:Nat}(h:l.length≤k):GZ l k=l.map lE:=by
 unfold GZ
 rw[List.take_of_length_le (by rw[List.length_map];exact h),List.drop_of_length_le h,List.append_nil]
theorem Mj{x:bw}{g:List Int}{d:DB}(h:nZ x=false):dh x g d=x:=by rw[dh,h];rfl
theorem P6{x:bw}{g:List Int}{d:DB}(h:nZ x=true)(hg:g.length=0):dh x g d=⟨x.rows,(yB x g).1.map lE,x.af,⟨x.aJ.rows,yS x.aJ x.round d⟩,x.bq,x.seed,IntKind.i64.wrap (x.round+1),(yB x g).2,x.cancelled⟩:=by
 rw[dh,if_pos h,if_pos hg,if_pos hg]
theorem P7{x:bw}{g:List Int}{d:DB}(h:nZ x=true)(hg: ¬g.length=0):dh x g d=⟨x.rows,(yB x g).1.map lE,x.af,x.aJ,x.bq,x.seed,IntKind.i64.wrap (x.round+1),(yB x g).2,IntKind.i64.wrap (x.cancelled+1)⟩:=by
 rw[dh,if_pos h,if_neg hg,if_neg hg]
theorem XT{x:bw}(h:nZ x=true):okW x=true∧x.round<99999:=by
 simp only[nZ,Bool.and_eq_true,Bool.not_eq_true',decide_eq_false_iff_not]at h
 exact⟨h.1,by omega⟩
theorem P8{a:iK}{r:Int}{d:DB}(h:o8 a r d=false):yS a r d=a.rounds:=by rw[yS,h];rfl
theorem Ks{a:iK}{r:Int}{d:DB}(h:o8 a r d=true):yS a r d=if(8:Int)<(o9 a r d).length then(o9 a r d).drop 1 else o9 a r d:=by rw[yS,if_pos h]
theorem I1{a:iK}{r:Int}{d:DB}(h:o8 a r d=true):a.rounds.length≤8∧cR d=true:=by
 simp only[o8,gq,C2,Bool.and_eq_true,decide_eq_true_eq]at h
 exact⟨by omega,h.1.2⟩
theorem G1{s rows:Int}(h:1≤rows∧rows≤64):jW (cO s rows) rows=true:=by
 have e:cO s rows=(List.range rows.toNat).map (W9 s):=by rw[cO,if_pos (by omega)]
 simp only[jW,Bool.and_eq_true,decide_eq_true_eq,List.all_eq_true,cP]
 refine⟨⟨by rw[e];simp;omega,h.2⟩,fun v hv=> ?_⟩
 rw[e]at hv
 obtain⟨i,_,rfl⟩:=List.mem_map.1 hv
 have:=LJ (kh s [(i:Int),41])
 unfold W9
 omega
theorem P9{x:bw}(h:okW x=true){r:Int}(hh:l9 x.aJ.rounds r=true):cR (mH x.aJ.rounds r)=true∧((mH x.aJ.rounds r).rows.length:Int)=x.rows:=by
 have ha:=lW h
 simp only[LN,Bool.and_eq_true,beq_iff_eq]at ha
 have har:x.aJ.rows=x.rows:=ha.1.1.1.1.2
 have hok:gq x.aJ=true:=ha.1.1.1.1.1.2
 simp only[gq,Bool.and_eq_true,List.all_eq_true,List.mem_range]at hok
 have hi:(x.aJ.rounds.findIdx (R1 r))<x.aJ.rounds.length:=by
  rw[List.findIdx_lt_length]
  obtain⟨y,h1,h2⟩:=List.any_eq_true.1 hh
  exact⟨y,h1,h2⟩
 have hd:=hok.2 _ hi
 simp only[w6,Bool.and_eq_true,beq_iff_eq]at hd
 have e:mH x.aJ.rounds r=(x.aJ.rounds.getD (x.aJ.rounds.findIdx (R1 r)) (aI .aK)).db:=by
  rw[mH,if_pos hh]
  have hh2:x.aJ.rounds.any (R1 r)=true:=hh
  rw[fidx,if_pos hh2];rfl
 rw[e]
 exact⟨hd.1.2,by rw[←har];exact hd.2⟩
theorem aaL{x:bw}(h:okW x=true){r:Int}(hh:l9 x.aJ.rounds r=true)(s:Int):nV (mH x.aJ.rounds r) (cO s x.rows)=true:=by
 obtain⟨h1,h2⟩:=P9 h hh
 apply GI
 have hs:jW (cO s x.rows) ((mH x.aJ.rounds r).rows.length:Int)=true:=by rw[h2];exact G1 (oW h).1
 rw[jQ,h1,hs]
 simp only[Bool.and_self,if_true]
 rw[gm,sq]
 omega
theorem aaM{x:bw}(h:okW x=true)(k:Nat)(hk:k≤x.an.length):Ck x.round (EI x k).1∧(EI x k).1.length=x.an.length∧(EI x k).2.length≤x.replaced.length+k:=by
 have h1:=PM (rows:=x.rows) (rd:=x.round) (p:=(x.an,x.replaced)) (Dm x k) (VG h) (Dm x k).length (Nat.le_refl _)
 have h2:=EH x.rows x.round (x.an,x.replaced) (Dm x k) (Dm x k).length (Nat.le_refl _)
 rw[List.take_length]at h1 h2
 have h3:=EK x k
 exact⟨h1,h2.1,by have h4:=h2.2;show(yU x.rows x.round (x.an,x.replaced) (Dm x k)).2.length≤_;dsimp only at h4;omega⟩
theorem Qa{x:bw}(h:EJ x=false):testW x=x:=by rw[testW,h];rfl
theorem Mk{x:bw}(h:EJ x=true):testW x=⟨x.rows,(EI x x.an.length).1,x.af,x.aJ,x.bq,x.seed,x.round,(EI x x.an.length).2,x.cancelled⟩:=by rw[testW,if_pos h]
theorem I2{x:bw}(h:nZ x=true):iQ x=B4 (testW (dh x (lf x.bq (cz x) (dU (cz x)) (l5 x) (cz x).length) (jw (dU (cz x))))):=by rw[iQ,if_pos h]
theorem aaN{x:bw}(h:wB x):x.aJ.rounds.length≤1048576∧ ∀y,y∈x.aJ.rounds→eu List.length y.db.rows≤1048576:=by
 have h2:eu eo x.aJ.rounds≤1048576:=h.2.2.1
 refine⟨gN h2,fun y hy=> ?_⟩
 obtain⟨i,hi⟩:=List.mem_iff_getElem?.1 hy
 exact oz h2 hi
end
section
theorem Up{x:bw}(h:wB x)(hok:okW x=true)(hr:x.replaced.length≤4194000):wB (dh x (lf x.bq (cz x) (dU (cz x)) (l5 x) (cz x).length) (jw (dU (cz x))))∧wB (testW (dh x (lf x.bq (cz x) (dU (cz x)) (l5 x) (cz x).length) (jw (dU (cz x))))):=by
 have h1:=ru x.bq (cz x) (dU (cz x)) (l5 x) (cz x).length
 have h4:=(eX hok).1
 rw[mm hok]at h1
 have hc:wC x 4194000:=⟨h.1,h.2.1,h.2.2.1,hr⟩
 have h2:=GV (g:=lf x.bq (cz x) (dU (cz x)) (l5 x) (cz x).length) (d:=jw (dU (cz x))) hc (GR _ (o7 _))
 rw[mm hok]at h2 ⊢
 exact⟨PS h2 (by omega),PS (Kn h2) (by omega)⟩
def wR(x:bw):Prop:=wB x∧x.replaced.length≤4194000
theorem aaP{x:bw}{n:Nat}(h:wC x n)(hn:n≤4194000):wR x:=⟨PS h (by omega),Nat.le_trans h.2.2.2 hn⟩
end
section
theorem Kt(a:Int): -9223372036854775808≤IntKind.i64.wrap a∧IntKind.i64.wrap a≤9223372036854775807:=by
 rw[IntKind.wrap_i64];omega
theorem Qc(a b c:Int):IntKind.i64.wrap (a+IntKind.i64.wrap (b-c))=IntKind.i64.wrap (IntKind.i64.wrap (a+b)-c):=by
 simp only[IntKind.wrap_i64];omega
def waiting(c:dN):Int:=IntKind.i64.wrap ((c.aF.length:Int)-c.sent)
def mo(l:List bP):Nat→Int
 |0=>0
 |k+1=>IntKind.i64.wrap (mo l k+waiting (l.getD k (aI .bP)).live)
theorem Ku(l:List bP)(k:Nat): -9223372036854775808≤mo l k∧mo l k≤9223372036854775807:=by
 cases k with
 |zero=>exact⟨show(-9223372036854775808:Int)≤0 by decide,show(0:Int)≤9223372036854775807 by decide⟩
 |succ k=>exact Kt _
def wg(l:List bP):Nat→Int
 |0=>0
 |k+1=>if(k^^^1)<l.length then IntKind.i64.wrap (IntKind.i64.wrap (wg l k+((l.getD k (aI .bP)).live.aF.length:Int))-((l.getD (k^^^1) (aI .bP)).live.inbox.length:Int))else wg l k
theorem Qd(l:List bP)(k:Nat): -9223372036854775808≤wg l k∧wg l k≤9223372036854775807:=by
 induction k with
 |zero=>exact⟨show(-9223372036854775808:Int)≤0 by decide,show(0:Int)≤9223372036854775807 by decide⟩
 |succ k ih=>
  unfold wg
  split
  ·exact Kt _
  ·exact ih
theorem Kv{l:List bP}{k:Nat}(h:(k^^^1)<l.length):wg l (k+1)=IntKind.i64.wrap (IntKind.i64.wrap (wg l k+((l.getD k (aI .bP)).live.aF.length:Int))-((l.getD (k^^^1) (aI .bP)).live.inbox.length:Int)):=if_pos h
theorem G2{l:List bP}{k:Nat}(h: ¬(k^^^1)<l.length):wg l (k+1)=wg l k:=if_neg h
theorem BG{x:bw}{k:Nat}(h:k<x.af.length):tT x (k:Int)=decide ((k^^^1)<x.af.length):=by
 have:sU x (k:Int)=true:=by rw[sU,cP];omega
 rw[tT,this,Bool.true_and]
 simp only[Int.toNat_natCast,Int.ofNat_lt]
end
section
def mx(a b:Int):Int:=if b>a then b else a
end
section
theorem Uq{c:dN}{b:List UInt8}(h:vV c b=false):iR c b=c:=by rw[iR,h];rfl
theorem BH{c:dN}{b:List UInt8}(h:vV c b=true):iR c b=PW c b:=by rw[iR,if_pos h]
theorem Ur{d:bP}{b:List UInt8}(h:BC d b=false):pg d b=d:=by rw[pg,h];rfl
theorem Qe{d:bP}{b:List UInt8}(h:BC d b=true):pg d b=⟨iR d.live b,iR d.saved b⟩:=by rw[pg,if_pos h]
theorem Qf{x:bw}{c:Int}(h:iM x c=true):cD (x.af.getD c.toNat (aI .bP))≤1048576:=by
 have:=jC (XK h)
 unfold yV at this
 omega
theorem XU{x:bw}{c:Int}{b:List UInt8}(h:iM x c=false):Ko x c b=x∧PX x c b=false:=⟨by rw[Ko,h];rfl,by rw[PX,h];rfl⟩
theorem Ut{x:bw}{c:Int}{b:List UInt8}(h:iM x c=true):Ko x c b=Mg x c.toNat (pg (yV x c) b)∧PX x c b=BC (yV x c) b:=⟨by rw[Ko,if_pos h],by rw[PX,h,Bool.true_and]⟩
theorem XV{x:bw}{c:Int}(h:iM x c=false):Mh x c=x:=by rw[Mh,h];rfl
theorem Uu{x:bw}{c:Int}(h:iM x c=true):Mh x c=Mg x c.toNat (Dp (yV x c)):=by rw[Mh,if_pos h]
theorem XW{x:bw}{i b:Int}(h:Cl x i b=false):Mi x i b=x:=by rw[Mi,h];rfl
theorem Uv{x:bw}{i b:Int}(h:Cl x i b=true):Mi x i b=aaG x i.toNat (Za (x.an.getD i.toNat (aI .bD)) b):=by rw[Mi,if_pos h]
end
section
theorem xH{α:Type}{l m:List α}{k:Nat}(d:α)(h:k<l.length):(l++m).getD k d=l.getD k d:=by
 rw[List.getD_eq_getElem?_getD,List.getD_eq_getElem?_getD,List.getElem?_append_left h]
theorem Dq{α:Type}{l:List α}{y:α}(d:α):(l++ [y]).getD l.length d=y:=by
 rw[List.getD_eq_getElem?_getD,List.getElem?_append_right (Nat.le_refl _)];simp
theorem uu{α:Type}(l:List α)(k:Nat)(d:α):(l.drop 1).getD k d=l.getD (k+1) d:=by
 rw[List.getD_eq_getElem?_getD,List.getD_eq_getElem?_getD,List.getElem?_drop,Nat.add_comm]
theorem xI{α:Type}{l:List α}{i k:Nat}(d y:α)(h:k<l.length):(l.set i y).getD k d=if i=k then y else l.getD k d:=by
 rw[List.getD_eq_getElem?_getD,List.getD_eq_getElem?_getD,List.getElem?_set]
 split
 ·rename_i e;subst e;simp[h]
 ·rfl
theorem getD_map{α β:Type}(f:α→β){l:List α}{k:Nat}(d:β)(e:α)(h:k<l.length):(l.map f).getD k d=f (l.getD k e):=by
 rw[List.getD_eq_getElem?_getD,List.getD_eq_getElem?_getD,List.getElem?_map,List.getElem?_eq_getElem h];rfl
def VK(rows rd:Int)(i:Nat)(s:bD):Prop:=s.id=(i:Int)∧s.rows=rows∧s.round=rd∧s.received= []∧0≤s.behavior∧s.behavior≤3
def Zb(rows rd:Int)(l:List bD):Prop:= ∀i,i<l.length→VK rows rd i (l.getD i (aI .bD))
theorem Qg{rows rd:Int}{i:Nat}{s:bD}(h:VK rows rd i s)(hr:1≤rows∧rows≤64)(hd:0≤rd∧rd≤100000)(hi:i≤3):cN s=true:=by
 obtain⟨h1,h2,h3,h4,h5⟩:=h
 simp only[cN,A5,Bool.and_eq_true,cP,decide_eq_true_eq,h4,List.length_nil]
 refine⟨⟨⟨⟨⟨by omega,by omega⟩,by omega⟩,by omega⟩,by omega⟩,by simp⟩
theorem EM{x:bw}{i:Nat}(hr:1≤x.rows∧x.rows≤64)(hd:0≤x.round∧x.round≤100000)(hi:i≤3):JX x i=true↔VK x.rows x.round i (x.an.getD i (aI .bD)):=by
 constructor
 ·intro h
  simp only[JX,Bool.and_eq_true,beq_iff_eq,decide_eq_true_eq]at h
  obtain⟨⟨⟨⟨h1,h2⟩,h3⟩,h4⟩,h5⟩:=h
  simp only[cN,A5,Bool.and_eq_true,cP]at h1
  exact⟨h2,h3,h4,List.length_eq_zero_iff.1 (by omega),h1.1.1.1.2⟩
 ·intro h
  have h1:=Qg h hr hd hi
  obtain⟨h2,h3,h4,h5,_⟩:=h
  simp only[JX,Bool.and_eq_true,beq_iff_eq,decide_eq_true_eq]
  exact⟨⟨⟨⟨h1,h2⟩,h3⟩,h4⟩,by rw[h5];decide⟩
def inc(rows:Int)(l:List aK):Prop:= ∀i,i<l.length→w6 rows l i=true
theorem lN{a:iK}:gq a=true↔((1≤a.rows∧a.rows≤64)∧a.rounds.length≤8)∧inc a.rows a.rounds:=by
 simp only[gq,C2,Bool.and_eq_true,cP,decide_eq_true_eq,List.all_eq_true,List.mem_range]
 constructor
 ·rintro⟨⟨h1,h2⟩,h3⟩;exact⟨⟨h1,by omega⟩,h3⟩
 ·rintro⟨⟨h1,h2⟩,h3⟩;exact⟨⟨h1,by omega⟩,h3⟩
theorem kN{rows:Int}{l:List aK}{i:Nat}:w6 rows l i=true↔(0≤(l.getD i (aI .aK)).round∧(l.getD i (aI .aK)).round≤100000)∧(0<i→(l.getD (i-1) (aI .aK)).round<(l.getD i (aI .aK)).round)∧cR (l.getD i (aI .aK)).db=true∧((l.getD i (aI .aK)).db.rows.length:Int)=rows:=by
 simp only[w6,Bool.and_eq_true,cP,beq_iff_eq,Bool.not_eq_true',Bool.and_eq_false_iff,decide_eq_false_iff_not]
 constructor
 ·rintro⟨⟨⟨h1,h2⟩,h3⟩,h4⟩
  refine⟨h1,fun hi=> ?_,h3,h4⟩
  rcases h2 with h2|h2
  ·omega
  ·omega
 ·rintro⟨h1,h2,h3,h4⟩
  refine⟨⟨⟨h1,?_⟩,h3⟩,h4⟩
  by_cases hi:0<i
  ·right;have:=h2 hi;omega
  ·left;omega
theorem Qh{rows:Int}{l:List aK}(h:inc rows l):inc rows (l.drop 1):=by
 intro i hi
 have hi:i+1<l.length:=by rw[List.length_drop]at hi;omega
 have h1:=kN.1 (h (i+1) hi)
 rw[kN,uu]
 refine⟨h1.1,fun hp=> ?_,h1.2.2⟩
 rw[uu,show i-1+1=i by omega]
 exact h1.2.1 (by omega)
theorem Qi{rows:Int}{l:List aK}{r:Int}{d:DB}(h:inc rows l)(h0:0≤r∧r≤100000)(hl:0<l.length→(l.getD (l.length-1) (aI .aK)).round<r)(hd:cR d=true)(hr:(d.rows.length:Int)=rows):inc rows (l++ [⟨r,d⟩]):=by
 intro i hi
 rw[List.length_append,List.length_singleton]at hi
 by_cases hil:i<l.length
 ·have h1:=kN.1 (h i hil)
  rw[kN,xH _ hil]
  refine⟨h1.1,fun hp=> ?_,h1.2.2⟩
  rw[xH _ (by omega)]
  exact h1.2.1 hp
 ·obtain rfl:i=l.length:=by omega
  rw[kN,Dq]
  refine⟨h0,fun hp=> ?_,hd,hr⟩
  rw[xH _ (by omega)]
  exact hl hp
theorem Qj{rows:Int}{l:List aK}(h:inc rows l): ∀(j i:Nat),i<j→j<l.length→(l.getD i (aI .aK)).round<(l.getD j (aI .aK)).round
 |0,i,h1,_=>by omega
 |j+1,i,h1,h2=>by
  have h3:=(kN.1 (h (j+1) h2)).2.1 (by omega)
  rw[show j+1-1=j by omega]at h3
  by_cases e:i=j
  ·subst e;exact h3
  ·have:=Qj h j i (by omega) (by omega);omega
theorem sI{a:iK}(h:0<a.rounds.length):eC a=(a.rounds.getD (a.rounds.length-1) (aI .aK)).round:=by rw[eC,if_neg (by omega)]
theorem I3{a:iK}(h:a.rounds= []):eC a= -1:=by rw[eC,h];rfl
theorem XX{a:iK}(h:gq a=true): ∀y,y∈a.rounds→0≤y.round∧y.round≤eC a:=by
 intro y hy
 have h2:=(lN.1 h).2
 obtain⟨i,hi,rfl⟩:=List.mem_iff_getElem.1 hy
 have e:a.rounds[i]=a.rounds.getD i (aI .aK):=by rw[List.getD_eq_getElem?_getD,List.getElem?_eq_getElem hi];rfl
 rw[sI (by omega),e]
 refine⟨(kN.1 (h2 i hi)).1.1,?_⟩
 by_cases hl:i=a.rounds.length-1
 ·rw[hl];exact Int.le_refl _
 ·exact Int.le_of_lt (Qj h2 _ _ (by omega) (by omega))
theorem Uw{a:iK}{r:Int}{d:DB}(h:gq a=true)(h0:0≤r∧r≤100000)(hl:eC a<r)(hd:cR d=true)(hr:(d.rows.length:Int)=a.rows):o8 a r d=true:=by
 simp only[o8,Bool.and_eq_true,h,hd,cP,h0,hr,Bool.not_eq_true',decide_eq_false_iff_not,decide_true]
 exact⟨⟨⟨⟨trivial,⟨trivial,trivial⟩⟩,by omega⟩,trivial⟩,trivial⟩
theorem Ux{a:iK}{r:Int}{d:DB}(h:o8 a r d=true):yS a r d=if(8:Int)<(o9 a r d).length then(o9 a r d).drop 1 else o9 a r d:=by rw[yS,if_pos h]
theorem Qk{a:iK}{r:Int}{d:DB}:(o9 a r d).length=a.rounds.length+1∧ ∀e,(o9 a r d).getD a.rounds.length e=⟨r,d⟩:=by
 unfold o9
 exact⟨by rw[List.length_append];rfl,fun e=>Dq e⟩
theorem Ql{a:iK}{r:Int}{d:DB}(h:gq a=true)(h0:0≤r∧r≤100000)(hl:eC a<r)(hd:cR d=true)(hr:(d.rows.length:Int)=a.rows):
  gq ⟨a.rows,yS a r d⟩=true∧eC ⟨a.rows,yS a r d⟩=r∧0<(yS a r d).length∧(yS a r d).getD ((yS a r d).length-1) (aI .aK)=⟨r,d⟩:=by
 have ha:=lN.1 h
 have hi:inc a.rows (o9 a r d):=Qi ha.2 h0 (fun hp=>by rw[sI hp]at hl;exact hl) hd hr
 obtain⟨hL,hG⟩:=Qk (a:=a) (r:=r) (d:=d)
 rw[Ux (Uw h h0 hl hd hr)]
 split
 ·rename_i h8
  have hlen:((o9 a r d).drop 1).length=a.rounds.length:=by rw[List.length_drop];omega
  have hg:((o9 a r d).drop 1).getD (((o9 a r d).drop 1).length-1) (aI .aK)=⟨r,d⟩:=by
   rw[hlen,uu,show a.rounds.length-1+1=a.rounds.length by omega];exact hG _
  refine⟨lN.2 ⟨⟨ha.1.1,by show((o9 a r d).drop 1).length≤8;omega⟩,Qh hi⟩,?_,by omega,hg⟩
  rw[sI (by show 0<((o9 a r d).drop 1).length;omega)]
  exact congrArg aK.round hg
 ·rename_i h8
  have hg:(o9 a r d).getD ((o9 a r d).length-1) (aI .aK)=⟨r,d⟩:=by
   rw[hL,show a.rounds.length+1-1=a.rounds.length by omega];exact hG _
  refine⟨lN.2 ⟨⟨ha.1.1,by show(o9 a r d).length≤8;omega⟩,hi⟩,?_,by omega,hg⟩
  rw[sI (by show 0<(o9 a r d).length;omega)]
  exact congrArg aK.round hg
structure Dr(x:bw):Prop where
 rows:1≤x.rows∧x.rows≤64
 VL:2≤x.an.length∧x.an.length≤4
 XY:2≤x.af.length∧x.af.length≤8
 even:x.af.length % 2=0
 Uy:gq x.aJ=true
 BI:x.aJ.rows=x.rows
 last:eC x.aJ<x.round
 key:gO x.bq=true
 round:0≤x.round∧x.round≤100000
 sZ:0≤x.cancelled
 sv:Zb x.rows x.round x.an
 dv: ∀i,i<x.af.length→okD x i=true
theorem Dr.of{x:bw}(h:okW x=true):Dr x:=by
 have hh:=lW h
 have he:=vF hh
 have hs:=eX h
 have hh2:=hh
 simp only[LN,Bool.and_eq_true,cP,beq_iff_eq,decide_eq_true_eq]at hh
 obtain⟨⟨⟨⟨⟨⟨⟨⟨⟨h1,h2⟩,h3⟩,h4⟩,h5⟩,h6⟩,h7⟩,h8⟩,h9⟩,h10⟩:=hh
 exact⟨h1,⟨hs.2,hs.1⟩,⟨he.2.2,he.2.1⟩,he.1,h5,h6,h7,h8,h9,h10,fun i hi=>(EM h1 h9 (by omega)).1 (Ez h hi),fun i hi=>oV h hi⟩
theorem Dr.ok{x:bw}(h:Dr x):okW x=true:=by
 obtain⟨h1,h2,h3,h4,h5,h6,h7,h8,h9,h10,h11,h12⟩:=h
 have ht:(x.af.length:Int).tmod 2=0:=by rw[eP (by omega)];omega
 simp only[okW,LN,cW,Bool.and_eq_true,cP,beq_iff_eq,decide_eq_true_eq,List.all_eq_true,List.mem_range]
 exact⟨⟨⟨⟨⟨⟨⟨⟨⟨⟨⟨h1,by omega⟩,by omega⟩,ht⟩,h5⟩,h6⟩,h7⟩,h8⟩,h9⟩,h10⟩,fun i hi=>(EM h1 h9 (by omega)).2 (h11 i hi)⟩,h12⟩
theorem Uz{rows rd:Int}{p:List bD×List Int}{id:Int}(hl:p.1.length≤4)(h:Zb rows rd p.1):Zb rows rd (yT rows rd p id).1:=by
 unfold yT
 split
 ·rename_i hk
  simp only[BA,cP]at hk
  rw[aM (by omega)]at hk
  intro i hi
  rw[List.length_set]at hi
  show VK rows rd i ((p.1.set id.toNat ⟨id,rows,rd,[],0⟩).getD i (aI .bD))
  rw[xI _ _ hi]
  split
  ·rename_i e
   exact⟨by show id=(i:Int);omega,rfl,rfl,rfl,Int.le_refl _,by show(0:Int)≤3;decide⟩
  ·exact h i hi
 ·exact h
theorem EN{rows rd:Int}: ∀(g:List Int) {p:List bD×List Int},p.1.length≤4→Zb rows rd p.1→Zb rows rd (yU rows rd p g).1∧(yU rows rd p g).1.length=p.1.length
 | [],_,_,h=>⟨h,rfl⟩
 |i::g,p,hl,h=>by
  have lI:=(EG rows rd p i).1
  have:=EN g (p:=yT rows rd p i) (by omega) (Uz (id:=i) hl h)
  exact⟨this.1,this.2.trans lI⟩
theorem UA{rows rd:Int}{i:Nat}{s:bD}(h:VK rows rd i s)(hr:1≤rows∧rows≤64)(hd:0≤rd∧rd<100000)(hi:i≤3):VK rows (rd+1) i (lE s):=by
 have hk:=Qg h hr (by omega) hi
 obtain⟨h1,h2,h3,h4,h5⟩:=h
 have hb:IX s=true:=by
  simp only[IX,hk,Bool.true_and,Bool.not_eq_true',beq_eq_false_iff_ne];omega
 rw[lE,if_pos hb]
 refine⟨h1,h2,?_,rfl,h5⟩
 show IntKind.i64.wrap (s.round+1)=rd+1
 rw[aM (by omega),h3]
theorem Ds{x y:bw}{i:Nat}(hd:y.af=x.af)(hr:x.round≤y.round)(h:okD x i=true):okD y i=true:=by
 simp only[okD,Bool.and_eq_true,decide_eq_true_eq]at h ⊢
 rw[hd]
 exact⟨h.1,by omega⟩
theorem BJ{x:bw}(h:okW x=true)(hr:x.round<99999):nZ x=true:=by
 simp only[nZ,h,Bool.true_and,Bool.not_eq_true',decide_eq_false_iff_not];omega
theorem Ml{x:bw}{g:List Int}{d:DB}(h:okW x=true)(hr:x.round<99999)(hc:x.cancelled<9223372036854775807)(hd:g= []→cR d=true∧(d.rows.length:Int)=x.rows):okW (dh x g d)=true:=by
 have w:=Dr.of h
 have hp:=EN (rows:=x.rows) (rd:=x.round) g (p:=(x.an,x.replaced)) w.VL.2 w.sv
 have w1:=w.rows;have w2:=w.VL;have w3:=w.round;have w4:=w.sZ
 have hrd:IntKind.i64.wrap (x.round+1)=x.round+1:=aM (by omega)
 rw[dh,if_pos (BJ h hr)]
 have sP:Zb x.rows (x.round+1) ((yB x g).1.map lE):=by
  intro i hi
  rw[List.length_map]at hi
  have hi4:i≤3:=by have:=hp.2;unfold yB at hi;dsimp only at this;omega
  rw[getD_map lE _ (aI .bD) hi]
  exact UA (hp.1 i hi) w1 (by omega) hi4
 have hlen:((yB x g).1.map lE).length=x.an.length:=by rw[List.length_map];exact hp.2
 have aaQ:gq ⟨x.aJ.rows,if g.length=0 then yS x.aJ x.round d else x.aJ.rounds⟩=true∧eC ⟨x.aJ.rows,if g.length=0 then yS x.aJ x.round d else x.aJ.rounds⟩<x.round+1:=by
  by_cases hg:g.length=0
  ·obtain⟨q1,q2⟩:=hd (List.length_eq_zero_iff.1 hg)
   rw[if_pos hg]
   have:=Ql w.Uy (by omega:0≤x.round∧x.round≤100000) w.last q1 (by rw[w.BI];exact q2)
   exact⟨this.1,by rw[this.2.1];omega⟩
  ·rw[if_neg hg]
   have:=w.last
   exact⟨w.Uy,by show eC x.aJ<_;omega⟩
 refine Dr.ok ⟨w1,by dsimp only;rw[hlen];exact w2,w.XY,w.even,aaQ.1,w.BI,?_,w.key,?_,?_,?_,fun i hi=> ?_⟩
 ·dsimp only;rw[hrd];exact aaQ.2
 ·dsimp only;rw[hrd];omega
 ·dsimp only
  split
  ·exact w4
  ·rw[aM (by omega)];omega
 ·dsimp only;rw[hrd];exact sP
 ·exact Ds (x:=x) rfl (by dsimp only;rw[hrd];omega) (w.dv i hi)
theorem Qm{x:bw}(h:okW x=true):okW (testW x)=true:=by
 unfold testW
 split
 ·have w:=Dr.of h
  have hp:=EN (rows:=x.rows) (rd:=x.round) (Dm x x.an.length) (p:=(x.an,x.replaced)) w.VL.2 w.sv
  have w2:=w.VL
  refine Dr.ok ⟨w.rows,?_,w.XY,w.even,w.Uy,w.BI,w.last,w.key,w.round,w.sZ,hp.1,fun i hi=>Ds (x:=x) rfl (Int.le_refl _) (w.dv i hi)⟩
  have hp2:(yU x.rows x.round (x.an,x.replaced) (Dm x x.an.length)).1.length=x.an.length:=hp.2
  show 2≤(yU x.rows x.round (x.an,x.replaced) (Dm x x.an.length)).1.length∧(yU x.rows x.round (x.an,x.replaced) (Dm x x.an.length)).1.length≤4
  rw[hp2];exact w2
 ·exact h
theorem BK{a b:List (List UInt8)}:Cf a b=true↔a.length≤b.length∧a=b.take a.length:=by
 simp only[Cf,Bool.and_eq_true,decide_eq_true_eq,beq_iff_eq]
 constructor
 ·rintro⟨h1,h2⟩;exact⟨by omega,h2⟩
 ·rintro⟨h1,h2⟩;exact⟨by omega,h2⟩
theorem xJ(a:List (List UInt8)):Cf a a=true:=BK.2 ⟨Nat.le_refl _,(List.take_length).symm⟩
theorem Qn{a b c:List (List UInt8)}(h:Cf a b=true):Cf a (b++c)=true:=by
 obtain⟨h1,h2⟩:=BK.1 h
 refine BK.2 ⟨by rw[List.length_append];omega,?_⟩
 rw[List.take_append_of_le_length h1];exact h2
theorem xK{c:dN}:dR c=true↔(((0≤c.id∧c.id≤7)∧(0≤c.bG∧c.bG≤7))∧c.id≠c.bG∧gO c.key=true)∧vR c∧(0≤c.sent∧c.sent≤c.aF.length)∧0≤c.next∧c.next≤100000:=by
 simp only[dR,vR,Bool.and_eq_true,Bool.not_eq_true',List.any_eq_false,cP,decide_eq_true_eq,beq_eq_false_iff_ne]
 have hl: ∀b:List UInt8, ¬Ce b=true↔b.length≤14:=by
  intro b;simp only[Ce,decide_eq_true_eq];omega
 constructor
 ·rintro⟨⟨⟨⟨⟨⟨⟨⟨⟨h1,h2⟩,h3⟩,h4⟩,h5⟩,h6⟩,h7⟩,h8⟩,h9⟩,h10⟩
  exact⟨⟨⟨h1,h2⟩,h3,h4⟩,⟨by omega,by omega,fun b hb=>(hl b).1 (h7 b hb),fun b hb=>(hl b).1 (h8 b hb)⟩,h9,h10⟩
 ·rintro⟨⟨⟨h1,h2⟩,h3,h4⟩,⟨h5,h6,h7,h8⟩,h9,h10⟩
  exact⟨⟨⟨⟨⟨⟨⟨⟨⟨h1,h2⟩,h3⟩,h4⟩,by omega⟩,by omega⟩,fun b hb=>(hl b).2 (h7 b hb)⟩,fun b hb=>(hl b).2 (h8 b hb)⟩,h9⟩,h10⟩
theorem Qo{c:dN}{r:Int}{own other:List UInt8}(h:dR c=true):dR (gr c r own other)=true:=by
 by_cases hk:xy c r=true
 ·have hB:=vS (sH h) r own other
  rw[gr,if_pos hk]at hB ⊢
  obtain⟨h1,_,h3,h4⟩:=xK.1 h
  simp only[xy,Bool.and_eq_true,cP]at hk
  refine xK.2 ⟨h1,hB,?_,?_⟩
  ·dsimp only
   split
   ·rename_i hh
    simp only[Bu,Bool.and_eq_true,decide_eq_true_eq]at hh
    omega
   ·exact h3
  ·dsimp only;omega
 ·rw[gr,if_neg hk];exact h
structure Qp(d:bP):Prop where
 live:dR d.live=true
 saved:dR d.saved=true
 same:mS d.live d.saved=true
 sent:d.saved.sent≤d.live.sent
 next:d.saved.next≤d.live.next
 pre:Cf d.saved.inbox d.live.inbox=true
theorem Qp.iff{d:bP}:dL d=true↔Qp d:=by
 simp only[dL,Bool.and_eq_true,decide_eq_true_eq]
 constructor
 ·rintro⟨⟨⟨⟨⟨h1,h2⟩,h3⟩,h4⟩,h5⟩,h6⟩;exact⟨h1,h2,h3,h4,h5,h6⟩
 ·rintro⟨h1,h2,h3,h4,h5,h6⟩;exact⟨⟨⟨⟨⟨h1,h2⟩,h3⟩,h4⟩,h5⟩,h6⟩
theorem gu{a b:dN}:mS a b=true↔pP a b∧a.aF=b.aF:=by
 simp only[mS,pP,Bool.and_eq_true,beq_iff_eq]
 constructor
 ·rintro⟨⟨⟨⟨h1,h2⟩,h3⟩,h4⟩,h5⟩;exact⟨⟨h1,h2,h3,h4⟩,h5⟩
 ·rintro⟨⟨h1,h2,h3,h4⟩,h5⟩;exact⟨⟨⟨⟨h1,h2⟩,h3⟩,h4⟩,h5⟩
theorem Mm(c:dN)(r:Int)(own other:List UInt8):(gr c r own other).aF=c.aF∧c.sent≤(gr c r own other).sent∧(gr c r own other).sent≤c.sent+1∧c.next≤(gr c r own other).next∧ ∃m,(gr c r own other).inbox=c.inbox++m:=by
 unfold gr
 split
 ·rename_i hk
  simp only[xy,Bool.and_eq_true,cP]at hk
  refine⟨rfl,?_,?_,?_,?_⟩
  ·dsimp only;split<;>omega
  ·dsimp only;split<;>omega
  ·dsimp only;omega
  ·dsimp only
   split
   ·exact⟨_,rfl⟩
   ·exact⟨[],(List.append_nil _).symm⟩
 ·exact⟨rfl,Int.le_refl _,by omega,Int.le_refl _,[],(List.append_nil _).symm⟩
theorem UB{d:bP}{r:Int}{own other:List UInt8}(h:dL d=true):dL (rdev d r own other)=true:=by
 have hd:=Qp.iff.1 h
 unfold rdev
 split
 ·have hc:=Qo (r:=r) (own:=own) (other:=other) hd.live
  split
  ·exact Qp.iff.2 ⟨hc,hc,gu.2 ⟨⟨rfl,rfl,rfl,rfl⟩,rfl⟩,Int.le_refl _,Int.le_refl _,xJ _⟩
  ·obtain⟨q1,q2,_,q3,m,q4⟩:=Mm d.live r own other
   obtain⟨p1,p2⟩:=gu.1 hd.same
   have p3:=ug d.live r own other
   refine Qp.iff.2 ⟨hc,hd.saved,gu.2 ⟨⟨p3.1.trans p1.1,p3.2.1.trans p1.2.1,p3.2.2.1.trans p1.2.2.1,p3.2.2.2.trans p1.2.2.2⟩,q1.trans p2⟩,Int.le_trans hd.sent q2,Int.le_trans hd.next q3,?_⟩
   show Cf d.saved.inbox (gr d.live r own other).inbox=true
   rw[q4]
   exact Qn hd.pre
 ·exact h
theorem Mn{d:bP}{r:Int}{own other:List UInt8}{R:Int}(h:d.live.next≤R)(hr:r+1≤R):(rdev d r own other).live.next≤R:=by
 have key:(gr d.live r own other).next≤R:=by
  unfold gr
  split
  ·exact hr
  ·exact h
 unfold rdev
 split
 ·split
  ·exact key
  ·exact key
 ·exact h
theorem Kw(x:bw)(d0:bP){R:Int}: ∀(l:List Int) (d:bP),(∀r,r∈l→r+1≤R)→dL d=true→d.live.next≤R→dL (l.foldl (IS x d0) d)=true∧(l.foldl (IS x d0) d).live.next≤R
 | [],_,_,h1,h2=>⟨h1,h2⟩
 |r::l,d,hl,h1,h2=>Kw x d0 l _ (fun q hq=>hl q (List.mem_cons_of_mem _ hq)) (UB h1) (Mn h2 (hl r (List.mem_cons_self ..)))
theorem I4{l:List aK}{f r:Int}(h:r∈jq l f):f≤r∧ ∃y,y∈l∧y.round=r:=by
 unfold jq at h
 obtain⟨y,hy,rfl⟩:=List.mem_map.1 h
 rw[List.mem_filter]at hy
 exact⟨by simpa using hy.2,y,hy.1,rfl⟩
theorem G4{x:bw}{i:Nat}(h:okW x=true)(hi:i<x.af.length):dL (mh x (x.af.getD i (aI .bP)))=true∧(mh x (x.af.getD i (aI .bP))).live.next≤x.round∧pP (mh x (x.af.getD i (aI .bP))).live (x.af.getD i (aI .bP)).live:=by
 have w:=Dr.of h
 have hd:=oV h hi
 simp only[okD,Bool.and_eq_true,decide_eq_true_eq]at hd
 have h1:=Kw x (x.af.getD i (aI .bP)) (R:=x.round) (xA x (x.af.getD i (aI .bP))) _ (fun r hr=>by
  obtain⟨_,y,hy,rfl⟩:=I4 hr
  have:=(XX w.Uy y hy).2
  have:=w.last
  omega) hd.1.1.1.1 hd.2
 exact⟨h1.1,h1.2,xz x _ _ _ ⟨rfl,rfl,rfl,rfl⟩⟩
theorem XZ{x:bw}(h:okW x=true):okW (B4 x)=true:=by
 have w:=Dr.of h
 rw[B4,if_pos h]
 have hg: ∀i,i<x.af.length→(x.af.map (mh x)).getD i (aI .bP)=mh x (x.af.getD i (aI .bP)):=fun i hi=>getD_map _ _ _ hi
 refine Dr.ok ⟨w.rows,w.VL,by dsimp only;rw[List.length_map];exact w.XY,by dsimp only;rw[List.length_map];exact w.even,w.Uy,w.BI,w.last,w.key,w.round,w.sZ,w.sv,fun i hi=> ?_⟩
 have hi:i<x.af.length:=by dsimp only at hi;rwa [List.length_map]at hi
 obtain⟨q1,q2,q3⟩:=G4 h hi
 have hd:=oV h hi
 have hx:=w7 i x.af.length hi w.even
 obtain⟨_,_,p3⟩:=G4 h hx
 simp only[okD,Bool.and_eq_true,decide_eq_true_eq,beq_iff_eq]at hd ⊢
 rw[hg i hi,hg _ hx]
 exact⟨⟨⟨⟨q1,q3.1.trans hd.1.1.1.2⟩,q3.2.1.trans hd.1.1.2⟩,by rw[q3.2.2.1,p3.2.2.1];exact hd.1.2⟩,q2⟩
end
section
theorem BL{rows:Int}(h:0≤rows∧rows≤64):((dO rows).rows.length:Int)=rows:=by
 rw[lM h,List.length_replicate];omega
theorem Qq{rows i:Int}{c:List UInt8}(h:tY rows i c=true):((Xa rows i c).rows.length:Int)=rows:=by
 have h':=h
 simp only[tY,Bool.and_eq_true]at h'
 have hr:1≤rows∧rows≤64:=by have:=h'.1;rw[cP]at this;exact this
 rw[Xa,if_pos h'.1,xd h'.2]
 show(((dO rows).rows.set i.toNat c).length:Int)=rows
 rw[List.length_set];exact BL (by omega)
theorem Dt{α:Type}(f:α→DB): ∀(l:List α) (d:DB),(l.foldl (fun d s=>gZ d (f s)) d).rows.length=d.rows.length:=by
 intro l
 induction l with
 |nil=>intro d;rfl
 |cons x r ih=>intro d;rw[List.foldl_cons,ih,uh]
theorem I5{rows i:Int}{c:List UInt8}(h:tY rows i c=true)(sd:List Int):((yz rows i c sd).rows.length:Int)=rows:=by
 unfold yz;rw[Dt (fun s=>TF s rows)];exact Qq h
theorem I6{rows i:Int}{c:List UInt8}{sd:List Int}: ∀d,d∈vN rows i c sd→(d.rows.length:Int)=rows:=by
 intro d hd
 unfold vN at hd
 split at hd
 ·rename_i h
  have hu:tY rows i c=true:=by simp only[xk,Bool.and_eq_true]at h;exact h.1
  rcases List.mem_append.1 hd with h1|h1
  ·obtain⟨s,_,rfl⟩:=List.mem_map.1 h1
   have:=(IF hu).2
   show((jg s rows).length:Int)=rows
   rw[mV];omega
  ·rw[List.mem_singleton.1 h1];exact I5 hu sd
 ·cases hd
def Qr(x:bw)(i:Nat)(c:Nat):DB:=(dX x (c:Int)).getD i (aI .DB)
def rcs(x:bw)(i n:Nat):List aX:=(List.range n).map fun c:Nat=>⟨(c:Int),Qr x i c⟩
theorem Qs(x:bw)(i n:Nat):rcs x i (n+1)=rcs x i n++ [⟨(n:Int),Qr x i n⟩]:=by
 unfold rcs;rw[List.range_succ,List.map_append];rfl
theorem UC(x:bw)(i n:Nat):(rcs x i n).length=n:=by simp[rcs]
theorem Kx(x:bw)(i n:Nat){k:Nat}(h:k<n):(rcs x i n).getD k (aI .aX)=⟨(k:Int),Qr x i k⟩:=eG _ _ _ _ h
def xL(x:bw)(k i:Nat):bD:=⟨(x.an.getD i (aI .bD)).id,(x.an.getD i (aI .bD)).rows,(x.an.getD i (aI .bD)).round,rcs x i k,(x.an.getD i (aI .bD)).behavior⟩
theorem aaR{x:bw}(h:okW x=true):2≤x.af.length∧x.af.length≤8:=by
 have:=lW h
 simp only[LN,Bool.and_eq_true,cP]at this
 omega
theorem X0{x:bw}(h:okW x=true){i c:Nat}(hi:i<x.an.length)(hc:c<x.af.length):cR (Qr x i c)=true∧((Qr x i c).rows.length:Int)=x.rows:=by
 have hl:(dX x (c:Int)).length=x.an.length:=kL h (by omega)
 have hm:Qr x i c∈dX x (c:Int):=getD_in _ (by omega)
 exact⟨ud h _ hm,I6 _ hm⟩
theorem Qt{x:bw}(h:okW x=true){i:Nat}(hi:i<x.an.length):(x.an.getD i (aI .bD)).id=(i:Int)∧(x.an.getD i (aI .bD)).rows=x.rows∧(x.an.getD i (aI .bD)).round=x.round∧(x.an.getD i (aI .bD)).received= []∧0≤(x.an.getD i (aI .bD)).behavior∧(x.an.getD i (aI .bD)).behavior≤3:=by
 have hs:=eX h
 have hr:=oW h
 exact(EM hr.1 hr.2 (by omega)).1 (Ez h hi)
theorem EO{x:bw}(h:okW x=true){k i:Nat}(hi:i<x.an.length)(hk:k≤x.af.length):cN (xL x k i)=true:=by
 have hs:=eX h
 have hr:=oW h
 have hn:=aaR h
 obtain⟨h1,h2,h3,h4,h5⟩:=Qt h hi
 have hl:(xL x k i).received.length=k:=UC x i k
 simp only[cN,A5,Bool.and_eq_true,cP,decide_eq_true_eq,List.all_eq_true,hl]
 refine⟨⟨⟨⟨⟨?_,?_⟩,?_⟩,?_⟩,?_⟩,fun j hj=> ?_⟩
 ·show 0≤(x.an.getD i (aI .bD)).id∧(x.an.getD i (aI .bD)).id≤3
  omega
 ·show 1≤(x.an.getD i (aI .bD)).rows∧(x.an.getD i (aI .bD)).rows≤64
  omega
 ·exact h5
 ·show 0≤(x.an.getD i (aI .bD)).round∧(x.an.getD i (aI .bD)).round≤100000
  omega
 ·omega
 ·have hj':j<k:=List.mem_range.1 hj
  have e:(xL x k i).received.getD j (aI .aX)=⟨(j:Int),Qr x i j⟩:=Kx x i k hj'
  have ho:=X0 h hi (show j<x.af.length by omega)
  have er:(xL x k i).rows=x.rows:=h2
  simp only[vC,e,Bool.and_eq_true,cP,beq_iff_eq,Bool.not_eq_true',Bool.and_eq_false_iff,decide_eq_false_iff_not,er]
  refine⟨⟨⟨by omega,?_⟩,ho.1⟩,ho.2⟩
  by_cases hz:j=0
  ·left;omega
  ·right
   have e':(xL x k i).received.getD (j-1) (aI .aX)=⟨((j-1:Nat):Int),Qr x i (j-1)⟩:=Kx x i k (by omega)
   rw[e']
   show¬(j:Int)≤((j-1:Nat):Int)
   omega
theorem Ky{x:bw}(h:okW x=true){i:Nat}(hi:i<x.an.length): ∀k,k≤x.af.length→(uc x k).getD i (aI .bD)=xL x k i
 |0,_=>by
  have h4:=(Qt h hi).2.2.2.1
  show x.an.getD i (aI .bD)=xL x 0 i
  unfold xL
  have e:rcs x i 0=(x.an.getD i (aI .bD)).received:=by rw[h4];rfl
  rw[e]
 |k+1,hk=>by
  have ha:ld (xL x k i) (k:Int) (Qr x i k)=xL x (k+1) i:=by
   unfold ld
   show(⟨_,_,_,rcs x i k++ [⟨(k:Int),Qr x i k⟩],_⟩:bD)=_
   rw[←Qs];rfl
  rw[Gz h (by omega) hi,Ky h hi k (by omega)]
  show J5 (xL x k i) (k:Int) (Qr x i k)=_
  rw[J7 (by unfold pN;rw[ha,EO h hi (by omega),EO h hi hk];rfl),ha]
theorem UD{x:bw}(h:okW x=true){i:Nat}(hi:i<x.an.length):(cz x).getD i (aI .bD)=xL x x.af.length i:=by
 rw[cz,if_pos h];exact Ky h hi _ (Nat.le_refl _)
theorem Du(rows:Int)(l:List aX):(jD rows l).rows.length=(dO rows).rows.length:=Dt (fun r:aX=>r.share) l _
theorem Qu(d:DB):(alt d).rows.length=d.rows.length:=List.length_set ..
theorem Qv{x:bw}(h:okW x=true){d:DB}(hd:d∈dU (cz x)):(d.rows.length:Int)=x.rows:=by
 obtain⟨s,hs,rfl⟩:=List.mem_map.1 hd
 obtain⟨i,hi⟩:=List.mem_iff_getElem?.1 hs
 have hl:i<x.an.length:=by
  have:=(List.getElem?_eq_some_iff.1 hi).1
  rw[mm h]at this;exact this
 have e:s=xL x x.af.length i:=by
  rw[←UD h hl,List.getD_eq_getElem?_getD,hi];rfl
 have hr:s.rows=x.rows:=by rw[e];exact(Qt h hl).2.1
 have hk:cN s=true:=by rw[e];exact EO h hl (Nat.le_refl _)
 have hw:=oW h
 have hn:((dO s.rows).rows.length:Int)=x.rows:=by rw[hr];exact BL (by omega)
 unfold xD
 rw[if_pos hk]
 split
 ·rw[Qu,Du];exact hn
 ·rw[Du];exact hn
theorem G5: ∀(l:List DB) (a:DB),cR a=true→(∀d,d∈l→cR d=true∧d.rows.length=a.rows.length)→ ∃d,IV a l=some d∧d.rows.length=a.rows.length
 | [],a,_,_=>⟨a,rfl,rfl⟩
 |s::r,a,ha,hl=>by
  have hs:=hl s (List.mem_cons_self ..)
  have hx:lC a s=true:=by
   simp only[lC,Bool.and_eq_true,decide_eq_true_eq]
   exact⟨⟨ha,hs.1⟩,by omega⟩
  have he:=uh a s
  obtain⟨d,h1,h2⟩:=G5 r (gZ a s) (sG ha) (fun d hd=>by
   have:=hl d (List.mem_cons_of_mem _ hd)
   exact⟨this.1,by omega⟩)
  exact⟨d,by rw[IV,if_pos hx,h1],by omega⟩
theorem G6{x:bw}(h:okW x=true):EF (dU (cz x))=true∧((jw (dU (cz x))).rows.length:Int)=x.rows:=by
 have hs:=eX h
 have hl:(dU (cz x)).length=x.an.length:=by rw[show(dU (cz x)).length=(cz x).length from List.length_map ..,mm h]
 have h0:(dU (cz x)).getD 0 (aI .DB)∈dU (cz x):=getD_in _ (by omega)
 have e0:=Qv h h0
 obtain⟨d,h1,h2⟩:=G5 ((dU (cz x)).drop 1) ((dU (cz x)).getD 0 (aI .DB)) (o7 (cz x) _ h0) (fun d hd=>by
  have hm:=List.mem_of_mem_drop hd
  have:=Qv h hm
  exact⟨o7 (cz x) _ hm,by omega⟩)
 have e:Mf (dU (cz x))=some d:=by
  rw[Mf,if_pos (by simp only[cW,cP];omega),h1]
 exact⟨by rw[EF,e];rfl,by rw[jw,e];show(d.rows.length:Int)=x.rows;omega⟩
end
section
structure bR where
 b:List UInt8
 i:Nat
 h:Int
def Mo(x:Int):Int:=IntKind.i64.wrap (BitVec.ofInt IntKind.i64.bits x&&&BitVec.ofInt IntKind.i64.bits 255).toNat
theorem Qw(x:Int):0≤Mo x∧Mo x≤255:=by
 have h:(BitVec.ofInt IntKind.i64.bits x&&&BitVec.ofInt IntKind.i64.bits 255).toNat≤255:=by
  rw[BitVec.toNat_and];exact Nat.le_trans Nat.and_le_right (by decide)
 unfold Mo
 rw[aM (by omega)];omega
def bR.h1(c:bR):Int:=IntKind.i64.wrap (IntKind.i64.wrap (c.h*6364136223846793005)+1442695040888963407)
def bR.x0(c:bR):Int:=Mo (IntKind.i64.wrap (BitVec.ofInt IntKind.i64.bits (c.h1.fdiv (2^(min (Int.toNat 33) IntKind.i64.bits)))^^^BitVec.ofInt IntKind.i64.bits (c.h1.fdiv (2^(min (Int.toNat 47) IntKind.i64.bits)))).toNat)
def bR.x(c:bR):Int:=if c.i<c.b.length then Mo (IntKind.i64.wrap (c.x0+IntKind.i64.wrap ((c.b.getD c.i (aI .u8)).toNat:Int)))else c.x0
def bR.n(c:bR):bR:=⟨c.b,if c.i<c.b.length then c.i+1 else c.i,c.h1⟩
theorem bR.x_b(c:bR):0≤c.x∧c.x≤255:=by
 unfold bR.x
 split
 ·exact Qw _
 ·exact Qw _
def aO(c:bR)(n:Int):Int:=if n≤0 then 0 else if n≤256 then c.x.tmod n else(IntKind.i64.wrap (IntKind.i64.wrap (IntKind.i64.wrap (c.x*65536)+IntKind.i64.wrap (c.n.x*256))+c.n.n.x)).tmod n
def az(c:bR)(n:Int):bR:=if n≤0 then c else if n≤256 then c.n else c.n.n.n
theorem aT(c:bR)(n:Int):(az c n).b=c.b:=by
 unfold az
 split
 ·rfl
 ·split<;>rfl
theorem bZ(c:bR){n:Int}(h:0<n):0≤aO c n∧aO c n<n:=by
 have h1:=c.x_b;have h2:=c.n.x_b;have h3:=c.n.n.x_b
 unfold aO
 rw[if_neg (by omega)]
 split
 ·rw[eP h1.1];exact⟨Int.emod_nonneg _ (by omega),Int.emod_lt_of_pos _ h⟩
 ·rw[aM (a:=c.x*65536) (by omega),aM (a:=c.n.x*256) (by omega),aM (a:=c.x*65536+c.n.x*256) (by omega),aM (by omega),eP (by omega)]
  exact⟨Int.emod_nonneg _ (by omega),Int.emod_lt_of_pos _ h⟩
theorem xM(c:bR)(n:Int):0≤aO c n:=by
 by_cases h:0<n
 ·exact(bZ c h).1
 ·rw[aO,if_pos (by omega)];exact Int.le_refl 0
def yD(c:bR):Nat→bR
 |0=>c
 |k+1=>(yD c k).n
def n8(c:bR):Nat→List UInt8
 |0=> []
 |k+1=>n8 c k++ [b8 (yD c k).x]
theorem rD(c:bR): ∀k,(yD c k).b=c.b
 |0=>rfl
 |k+1=>rD c k
theorem gQ(c:bR): ∀k,(n8 c k).length=k
 |0=>rfl
 |k+1=>by rw[n8,List.length_append,gQ c k];rfl
def aaS(h:Int)(x:UInt8):Int:=IntKind.i64.wrap (BitVec.ofInt IntKind.i64.bits (IntKind.i64.wrap (IntKind.i64.wrap (IntKind.i64.wrap (h*137)+IntKind.i64.wrap (x.toNat:Int))+11))&&&BitVec.ofInt IntKind.i64.bits 1073741823).toNat
def UE(l:List UInt8)(k:Nat):Int:=(l.take k).foldl aaS (IntKind.i64.wrap (193017+(l.length:Int)))
theorem Mp{l:List UInt8}{k:Nat}(h:k<l.length):UE l (k+1)=aaS (UE l k) (l.getD k (aI .u8)):=oT _ _ _ _ _ h
def BM(l:List UInt8):Nat:=min l.length 4000
def cB(l:List UInt8):bR:=⟨l,0,UE l (BM l)⟩
theorem X1{l:List UInt8}{k:Nat}(h:(if decide ((k:Int)<(l.length:Int))=true then decide ((k:Int)<4000)else false)=true):k<BM l:=by
 unfold BM
 by_cases h1:(k:Int)<(l.length:Int)
 ·rw[if_pos (by simpa using h1),decide_eq_true_eq]at h;omega
 ·rw[if_neg (by simpa using h1)]at h;cases h
theorem UF{l:List UInt8}{k:Nat}(hk:k≤BM l)(h:(if decide ((k:Int)<(l.length:Int))=true then decide ((k:Int)<4000)else false)=false):k=BM l:=by
 unfold BM at hk ⊢
 by_cases h1:(k:Int)<(l.length:Int)
 ·rw[if_pos (by simpa using h1),decide_eq_false_iff_not]at h;omega
 ·omega
def nwC(seed:Int)(i:Nat):dN:=⟨(i:Int),((i^^^1:Nat):Int),Ep (kh seed [199,(i:Int).tdiv 2]),kh seed [211,(i:Int)],[],0,[],0⟩
def nwD(seed:Int)(i:Nat):bP:=⟨nwC seed i,nwC seed i⟩
def nwS(rows:Int)(i:Nat):bD:=⟨(i:Int),rows,0,[],0⟩
def yY(rows:Int)(n:Nat):List bD:=(List.range n).map (nwS rows)
def qa(seed:Int)(n:Nat):List bP:=(List.range n).map (nwD seed)
def UG(rows:Int)(s p:Nat)(seed:Int):bw:=⟨rows,yY rows s,qa seed (2*p),⟨rows,[]⟩,Ep (kh seed [197]),seed,0,[],0⟩
theorem EP(rows:Int)(n:Nat):(yY rows n).length=n:=by simp[yY]
theorem ES(seed:Int)(n:Nat):(qa seed n).length=n:=by simp[qa]
theorem Qx(rows:Int)(k:Nat):yY rows (k+1)=yY rows k++ [nwS rows k]:=tQ _ k
theorem Qy(seed:Int)(k:Nat):qa seed (k+1)=qa seed k++ [nwD seed k]:=tQ _ k
theorem Mq(i:Nat):((i^^^1:Nat):Int).tdiv 2=(i:Int).tdiv 2:=by
 have h:(i^^^1)/2=i/2:=by
  rw[Nat.xor_div_two]
  simp
 rw[vu (by omega),vu (by omega)]
 omega
theorem Kz(i:Nat):i^^^1≠i:=by
 intro h
 have h2:(i^^^1)^^^i=i^^^i:=by rw[h]
 rw[Nat.xor_comm i 1,Nat.xor_assoc,Nat.xor_self,Nat.xor_zero]at h2
 cases h2
theorem X3{seed:Int}{i:Nat}(hi:i<8):dR (nwC seed i)=true:=by
 have hk:=rX (eB seed [199,(i:Int).tdiv 2])
 have hx:i^^^1<8:=w7 i 8 hi (by decide)
 have hn:=Kz i
 have hB:vR (nwC seed i):=by
  refine⟨Nat.zero_le _,Nat.zero_le _,?_,?_⟩<;>(intro b hb;cases hb)
 refine xK.2 ⟨⟨⟨by show 0≤(i:Int)∧(i:Int)≤7;omega,by show 0≤((i^^^1:Nat):Int)∧((i^^^1:Nat):Int)≤7;omega⟩,by show(i:Int)≠((i^^^1:Nat):Int);omega,?_⟩,hB,by show(0:Int)≤0∧(0:Int)≤0;omega,by show(0:Int)≤0;omega,by show(0:Int)≤100000;omega⟩
 show gO (Ep _)=true
 unfold gO
 rw[cP];omega
theorem UH{rows seed:Int}{s p:Nat}(hr:1≤rows∧rows≤64)(hs:2≤s∧s≤4)(hp:1≤p∧p≤4):okW (UG rows s p seed)=true:=by
 have hl1:=EP rows s
 have lI:=ES seed (2*p)
 have hk:=rX (eB seed [197])
 refine Dr.ok ⟨hr,by show 2≤(yY rows s).length∧(yY rows s).length≤4;omega,by show 2≤(qa seed (2*p)).length∧(qa seed (2*p)).length≤8;omega,by show(qa seed (2*p)).length % 2=0;omega,lN.2 ⟨⟨hr,by show 0≤8;omega⟩,fun i hi=>by cases hi⟩,rfl,?_,?_,by show(0:Int)≤0∧(0:Int)≤100000;omega,by show(0:Int)≤0;omega,fun i hi=> ?_,fun i hi=> ?_⟩
 ·show eC ⟨rows,[]⟩<0
  rw[I3 rfl];decide
 ·show gO (Ep _)=true
  unfold gO
  rw[cP];omega
 ·have hi':i<s:=by have:i<(yY rows s).length:=hi;omega
  have e:(yY rows s).getD i (aI .bD)=nwS rows i:=eG _ _ _ _ hi'
  show VK rows 0 i ((yY rows s).getD i (aI .bD))
  rw[e]
  exact⟨rfl,rfl,rfl,rfl,by show(0:Int)≤0;omega,by show(0:Int)≤3;omega⟩
 ·have hi':i<2*p:=by have:i<(qa seed (2*p)).length:=hi;omega
  have hx:=w7 i (2*p) hi' (by omega)
  have e: ∀j,j<2*p→(qa seed (2*p)).getD j (aI .bP)=nwD seed j:=fun j hj=>eG _ _ _ _ hj
  have hc:=X3 (seed:=seed) (i:=i) (by omega)
  have adz:dL (nwD seed i)=true:=Qp.iff.2 ⟨hc,hc,gu.2 ⟨⟨rfl,rfl,rfl,rfl⟩,rfl⟩,Int.le_refl _,Int.le_refl _,xJ _⟩
  show(dL ((qa seed (2*p)).getD i (aI .bP))&&(((qa seed (2*p)).getD i (aI .bP)).live.id==(i:Int))&&(((qa seed (2*p)).getD i (aI .bP)).live.bG==((i^^^1:Nat):Int))&&(((qa seed (2*p)).getD i (aI .bP)).live.key==((qa seed (2*p)).getD (i^^^1) (aI .bP)).live.key)&&decide (((qa seed (2*p)).getD i (aI .bP)).live.next≤0))=true
  rw[e i hi',e _ hx,adz]
  simp only[Bool.and_eq_true,beq_iff_eq,decide_eq_true_eq]
  refine⟨⟨⟨⟨trivial,rfl⟩,rfl⟩,?_⟩,Int.le_refl _⟩
  show Ep (kh seed [199,(i:Int).tdiv 2])=Ep (kh seed [199,((i^^^1:Nat):Int).tdiv 2])
  rw[Mq]
theorem aaT{x:bw}{n:Nat}(h:okW x=true)(hr:x.replaced.length≤n):wC x n:=by
 have w:=Dr.of h
 refine⟨uj (PU h),?_,?_,hr⟩
 ·exact Nat.le_trans (pe cD 960 8 _ (fun d hd=>jC (Dn h d hd)) w.XY.2) (by decide)
 ·have ha:=lN.1 w.Uy
  refine Nat.le_trans (pe eo 1600 8 _ (fun y hy=> ?_) ha.1.2) (by decide)
  obtain⟨i,hi,rfl⟩:=List.mem_iff_getElem.1 hy
  have h2:=kN.1 (ha.2 i hi)
  have e:x.aJ.rounds.getD i (aI .aK)=x.aJ.rounds[i]:=by rw[List.getD_eq_getElem?_getD,List.getElem?_eq_getElem hi];rfl
  rw[e]at h2
  exact IY h2.2.2.1
theorem ET{x:bw}{i:Nat}{d:bP}(h:okW x=true)(hi:i<x.af.length)(hd:dL d=true)(hs:pP d.live (x.af.getD i (aI .bP)).live)(hn:d.live.next≤x.round):okW (Mg x i d)=true:=by
 have w:=Dr.of h
 have hg: ∀j,j<x.af.length→(x.af.set i d).getD j (aI .bP)=if i=j then d else x.af.getD j (aI .bP):=fun j hj=>xI _ _ hj
 refine Dr.ok ⟨w.rows,w.VL,by show 2≤(x.af.set i d).length∧(x.af.set i d).length≤8;rw[List.length_set];exact w.XY,by show(x.af.set i d).length % 2=0;rw[List.length_set];exact w.even,w.Uy,w.BI,w.last,w.key,w.round,w.sZ,w.sv,fun j hj=> ?_⟩
 have hj:j<x.af.length:=by have:j<(x.af.set i d).length:=hj;rwa [List.length_set]at this
 have hx:=w7 j x.af.length hj w.even
 have hq:=oV h hj
 have key: ∀m,m<x.af.length→((x.af.set i d).getD m (aI .bP)).live.key=(x.af.getD m (aI .bP)).live.key:=by
  intro m hm
  rw[hg m hm]
  split
  ·rename_i e;subst e;exact hs.2.2.1
  ·rfl
 simp only[okD,Bool.and_eq_true,decide_eq_true_eq,beq_iff_eq]at hq ⊢
 show(((dL ((x.af.set i d).getD j (aI .bP))=true∧((x.af.set i d).getD j (aI .bP)).live.id=(j:Int))∧((x.af.set i d).getD j (aI .bP)).live.bG=((j^^^1:Nat):Int))∧((x.af.set i d).getD j (aI .bP)).live.key=((x.af.set i d).getD (j^^^1) (aI .bP)).live.key)∧((x.af.set i d).getD j (aI .bP)).live.next≤x.round
 rw[key j hj,key _ hx,hg j hj]
 split
 ·rename_i e
  subst e
  exact⟨⟨⟨⟨hd,hs.1.trans hq.1.1.1.2⟩,hs.2.1.trans hq.1.1.2⟩,hq.1.2⟩,hn⟩
 ·exact hq
theorem Qz{x:bw}{c:Int}(h:iM x c=true):c.toNat<x.af.length∧dL (yV x c)=true∧(yV x c).live.next≤x.round:=by
 obtain⟨h1,h2,h3⟩:=zB h
 have hi:c.toNat<x.af.length:=by omega
 have hq:=oV h1 hi
 simp only[okD,Bool.and_eq_true,decide_eq_true_eq]at hq
 exact⟨hi,hq.1.1.1.1,hq.2⟩
theorem KA{c:dN}{b:List UInt8}(h:dR c=true):dR (iR c b)=true:=by
 unfold iR
 split
 ·rename_i hk;simp only[vV,Bool.and_eq_true]at hk;exact hk.2
 ·exact h
theorem n9(c:dN)(b:List UInt8):pP (iR c b) c∧(iR c b).next=c.next∧(iR c b).sent=c.sent∧(iR c b).inbox=c.inbox:=by
 unfold iR
 split
 ·exact⟨⟨rfl,rfl,rfl,rfl⟩,rfl,rfl,rfl⟩
 ·exact⟨⟨rfl,rfl,rfl,rfl⟩,rfl,rfl,rfl⟩
theorem UI{d:bP}{b:List UInt8}(h:dL d=true):dL (pg d b)=true∧pP (pg d b).live d.live∧(pg d b).live.next=d.live.next:=by
 unfold pg
 split
 ·rename_i hk
  simp only[BC,Bool.and_eq_true]at hk
  have hd:=Qp.iff.1 h
  obtain⟨p1,p2⟩:=gu.1 hd.same
  obtain⟨a1,a2,a3,a4⟩:=n9 d.live b
  obtain⟨b1,b2,b3,b4⟩:=n9 d.saved b
  refine⟨Qp.iff.2 ⟨KA hd.live,KA hd.saved,gu.2 ⟨⟨a1.1.trans (p1.1.trans b1.1.symm),a1.2.1.trans (p1.2.1.trans b1.2.1.symm),a1.2.2.1.trans (p1.2.2.1.trans b1.2.2.1.symm),a1.2.2.2.trans (p1.2.2.2.trans b1.2.2.2.symm)⟩,?_⟩,?_,?_,?_⟩,a1,a2⟩
  ·show(iR d.live b).aF=(iR d.saved b).aF
   rw[BH hk.1.2,BH hk.2]
   show d.live.aF++ [b]=d.saved.aF++ [b]
   rw[p2]
  ·show(iR d.saved b).sent≤(iR d.live b).sent
   rw[a3,b3];exact hd.sent
  ·show(iR d.saved b).next≤(iR d.live b).next
   rw[a2,b2];exact hd.next
  ·show Cf (iR d.saved b).inbox (iR d.live b).inbox=true
   rw[a4,b4];exact hd.pre
 ·exact⟨h,⟨rfl,rfl,rfl,rfl⟩,rfl⟩
theorem X4{x:bw}{c:Int}{b:List UInt8}(h:okW x=true):okW (Ko x c b)=true:=by
 unfold Ko
 split
 ·rename_i hk
  obtain⟨h1,h2,h3⟩:=Qz hk
  obtain⟨q1,q2,q3⟩:=UI (b:=b) h2
  exact ET h h1 q1 q2 (by rw[q3];exact h3)
 ·exact h
theorem KB{c:dN}(h:dR c=true):dL ⟨c,c⟩=true:=Qp.iff.2 ⟨h,h,gu.2 ⟨⟨rfl,rfl,rfl,rfl⟩,rfl⟩,Int.le_refl _,Int.le_refl _,xJ _⟩
theorem X5{x:bw}{c:Int}(h:okW x=true):okW (Mh x c)=true:=by
 unfold Mh
 split
 ·rename_i hk
  obtain⟨h1,h2,h3⟩:=Qz hk
  have hd:=Qp.iff.1 h2
  obtain⟨p1,p2⟩:=gu.1 hd.same
  have hn:=hd.next
  rw[Dp,if_pos h2]
  exact ET h h1 (KB hd.saved) ⟨p1.1.symm,p1.2.1.symm,p1.2.2.1.symm,p1.2.2.2.symm⟩ (by show(yV x c).saved.next≤x.round;omega)
 ·exact h
theorem X6{x:bw}{c:Int}(h:okW x=true):okW (Uh x c)=true:=by
 unfold Uh
 split
 ·rename_i hk
  obtain⟨h1,h2,h3⟩:=Qz hk
  rw[R4,if_pos h2]
  exact ET h h1 (KB (Qp.iff.1 h2).live) ⟨rfl,rfl,rfl,rfl⟩ h3
 ·exact h
theorem X7{x:bw}{i b:Int}(h:okW x=true):okW (Mi x i b)=true:=by
 unfold Mi
 split
 ·rename_i hk
  obtain⟨_,h1,h2⟩:=PZ hk
  have w:=Dr.of h
  refine Dr.ok ⟨w.rows,by show 2≤(x.an.set i.toNat (Za (x.an.getD i.toNat (aI .bD)) b)).length∧(x.an.set i.toNat (Za (x.an.getD i.toNat (aI .bD)) b)).length≤4;rw[List.length_set];exact w.VL,w.XY,w.even,w.Uy,w.BI,w.last,w.key,w.round,w.sZ,fun j hj=> ?_,w.dv⟩
  have hj:j<x.an.length:=by have:j<(x.an.set i.toNat (Za (x.an.getD i.toNat (aI .bD)) b)).length:=hj;rwa [List.length_set]at this
  show VK x.rows x.round j ((x.an.set i.toNat (Za (x.an.getD i.toNat (aI .bD)) b)).getD j (aI .bD))
  rw[xI _ _ hj]
  have hq:=w.sv j hj
  split
  ·rename_i e
   subst e
   obtain⟨q1,q2,q3,q4,_⟩:=hq
   exact⟨q1,q2,q3,q4,h2.1,h2.2⟩
  ·exact hq
 ·exact h
theorem aaU(x:bw):(B4 x).round=x.round∧(B4 x).cancelled=x.cancelled∧(B4 x).replaced=x.replaced∧(B4 x).rows=x.rows∧(B4 x).an=x.an∧(B4 x).aJ=x.aJ∧(B4 x).af.length=x.af.length∧(B4 x).bq=x.bq:=by
 unfold B4
 split
 ·exact⟨rfl,rfl,rfl,rfl,rfl,rfl,List.length_map ..,rfl⟩
 ·exact⟨rfl,rfl,rfl,rfl,rfl,rfl,rfl,rfl⟩
theorem UJ(x:bw):(testW x).round=x.round∧(testW x).cancelled=x.cancelled∧(testW x).rows=x.rows∧(testW x).aJ=x.aJ∧(testW x).af=x.af∧(testW x).bq=x.bq:=by
 unfold testW
 split
 ·exact⟨rfl,rfl,rfl,rfl,rfl,rfl⟩
 ·exact⟨rfl,rfl,rfl,rfl,rfl,rfl⟩
theorem Mr{x:bw}(h:okW x=true)(hc:x.cancelled<9223372036854775807):okW (iQ x)=true:=by
 unfold iQ
 split
 ·rename_i hk
  have hr:x.round<99999:=by simp only[nZ,h,Bool.true_and,Bool.not_eq_true',decide_eq_false_iff_not]at hk;omega
  exact XZ (Qm (Ml h hr hc fun _=>⟨GR _ (o7 _),(G6 h).2⟩))
 ·exact h
theorem QA{x:bw}(h:okW x=true)(hr:x.round<99999)(hc:x.cancelled<9223372036854775807):(iQ x).round=x.round+1∧(iQ x).cancelled=(if(lf x.bq (cz x) (dU (cz x)) (l5 x) (cz x).length).length=0 then x.cancelled else x.cancelled+1)∧(iQ x).rows=x.rows∧(iQ x).af.length=x.af.length∧eC (iQ x).aJ=(if(lf x.bq (cz x) (dU (cz x)) (l5 x) (cz x).length).length=0 then x.round else eC x.aJ):=by
 have w:=Dr.of h
 have w3:=w.round;have w4:=w.sZ
 have hk:=BJ h hr
 rw[iQ,if_pos hk]
 obtain⟨a1,a2,_,a4,_,a6,a7,_⟩:=aaU (testW (dh x (lf x.bq (cz x) (dU (cz x)) (l5 x) (cz x).length) (jw (dU (cz x)))))
 obtain⟨b1,b2,b3,b4,b5,_⟩:=UJ (dh x (lf x.bq (cz x) (dU (cz x)) (l5 x) (cz x).length) (jw (dU (cz x))))
 have hj:=G6 h
 rw[a1,a2,a4,a6,a7,b1,b2,b3,b4,b5,dh,if_pos hk]
 refine⟨aM (by omega),?_,rfl,rfl,?_⟩
 ·dsimp only
  split
  ·rfl
  ·exact aM (by omega)
 ·dsimp only
  split
  ·exact(Ql w.Uy w3 w.last (GR _ (o7 _)) (by rw[w.BI];exact hj.2)).2.1
  ·rfl
structure qb(x:bw)(n:Nat):Prop where
 ok:okW x=true
 round:x.round≤n
 sZ:x.cancelled≤n
 Ms:x.replaced.length≤8*n
theorem qb.mono{x:bw}{n m:Nat}(h:qb x n)(hn:n≤m):qb x m:=⟨h.ok,by have:=h.round;omega,by have:=h.sZ;omega,by have:=h.Ms;omega⟩
theorem qb.C{x:bw}{n:Nat}(h:qb x n):wC x (8*n):=aaT h.ok h.Ms
theorem qb.B{x:bw}{n:Nat}(h:qb x n)(hn:n≤100000):wB x:=PS h.C (by omega)
theorem qb.R{x:bw}{n:Nat}(h:qb x n)(hn:n≤100000):wR x:=aaP h.C (by omega)
theorem qb.sm{x:bw}{n:Nat}{c:Int}{b:List UInt8}(h:qb x n):qb (Ko x c b) n:=by
 refine⟨X4 h.ok,?_,?_,?_⟩<;>(unfold Ko;split)<;>first|exact h.round|exact h.sZ|exact h.Ms
theorem qb.cc{x:bw}{n:Nat}{c:Int}(h:qb x n):qb (Mh x c) n:=by
 refine⟨X5 h.ok,?_,?_,?_⟩<;>(unfold Mh;split)<;>first|exact h.round|exact h.sZ|exact h.Ms
theorem qb.sv{x:bw}{n:Nat}{c:Int}(h:qb x n):qb (Uh x c) n:=by
 refine⟨X6 h.ok,?_,?_,?_⟩<;>(unfold Uh;split)<;>first|exact h.round|exact h.sZ|exact h.Ms
theorem qb.co{x:bw}{n:Nat}{i b:Int}(h:qb x n):qb (Mi x i b) n:=by
 refine⟨X7 h.ok,?_,?_,?_⟩<;>(unfold Mi;split)<;>first|exact h.round|exact h.sZ|exact h.Ms
theorem qb.rd{x:bw}{n:Nat}(h:qb x n)(hn:n≤99998):qb (iQ x) (n+1):=by
 have h1:=h.round;have h2:=h.sZ
 have hf:=QA h.ok (by omega) (by omega)
 have hC:=PV h.C
 refine⟨Mr h.ok (by omega),by omega,?_,by have:=hC.2.2.2;omega⟩
 rw[hf.2.1];split<;>omega
def oc(p:bR×bw):bR×bw:=
 (yD (az (az p.1 p.2.af.length) 4) (aO (az p.1 p.2.af.length) 4).toNat,Ko p.2 (aO p.1 p.2.af.length) (n8 (az (az p.1 p.2.af.length) 4) (aO (az p.1 p.2.af.length) 4).toNat))
def Mt(k:Int)(p:bR×bw):bR×bw:=
 if k=0 then oc p
 else if k=1 then(az p.1 p.2.af.length,Mh p.2 (aO p.1 p.2.af.length))
 else if k=2 then(az (az p.1 p.2.an.length) 4,Mi p.2 (aO p.1 p.2.an.length) (aO (az p.1 p.2.an.length) 4))
 else(p.1,iQ p.2)
def jh(p:bR×bw):bR×bw:=Mt (aO p.1 8) (az p.1 8,p.2)
def eJ{α:Type}(f:α→α)(a:α):Nat→α
 |0=>a
 |k+1=>f (eJ f a k)
def UK:List Int:= [12,16]
def QB(c:bR):bR:=az (az (az (az c 2) 2) 2) 999
def nw0(c:bR):bw:=UG (UK.getD (aO c 2).toNat (aI .int)) (2+aO (az c 2) 2).toNat (1+aO (az (az c 2) 2) 2).toNat (aO (az (az (az c 2) 2) 2) 999)
def n32(c:bR):Nat:=(aO (QB c) 5).toNat
def pU(c:bR):bR×bw:=(az (QB c) 5,nw0 c)
def zD(c:bR):bR×bw:=eJ oc (pU c) (n32 c)
def QC(c:bR)(s:Int):Nat:=(aO (zD c).1 s).toNat
def jS(c:bR)(s:Int):bR×bw:=(az (zD c).1 s,(zD c).2)
def BN(c:bR)(s:Int):bR×bw:=eJ jh (jS c s) (QC c s)
theorem QD(p:bR×bw):(oc p).1.b=p.1.b:=by
 show(yD _ _).b=_
 rw[rD,aT,aT]
theorem VM(p:bR×bw):(jh p).1.b=p.1.b:=by
 unfold jh Mt
 split
 ·rw[QD];exact aT _ _
 ·split
  ·show(az (az p.1 8) _).b=_;rw[aT,aT]
  ·split
   ·show(az (az (az p.1 8) _) 4).b=_;rw[aT,aT,aT]
   ·exact aT _ _
theorem G7{f:bR×bw→bR×bw}(h: ∀p,(f p).1.b=p.1.b)(p:bR×bw): ∀k,(eJ f p k).1.b=p.1.b
 |0=>rfl
 |k+1=>(h _).trans (G7 h p k)
theorem VN(c:bR):(QB c).b=c.b:=by unfold QB;rw[aT,aT,aT,aT]
theorem QE(c:bR):(zD c).1.b=c.b:=by
 unfold zD
 rw[G7 QD]
 show(az (QB c) 5).b=c.b
 rw[aT,VN]
theorem aaW(c:bR)(s:Int):(BN c s).1.b=c.b:=by
 unfold BN
 rw[G7 VM]
 show(az (zD c).1 s).b=c.b
 rw[aT,QE]
theorem KC{c:bR}:UK.getD (aO c 2).toNat (aI .int)=12∨UK.getD (aO c 2).toNat (aI .int)=16:=by
 have h:=bZ c (n:=2) (by omega)
 rcases(show(aO c 2).toNat=0∨(aO c 2).toNat=1 by omega)with e|e<;>rw[e]
 ·exact Or.inl rfl
 ·exact Or.inr rfl
theorem VO(c:bR):qb (nw0 c) 0∧(nw0 c).af.length≤4∧(nw0 c).an.length≤3:=by
 have h1:=bZ (az c 2) (n:=2) (by omega)
 have h2:=bZ (az (az c 2) 2) (n:=2) (by omega)
 have h3:=KC (c:=c)
 refine⟨⟨UH (by omega) (by omega) (by omega),Int.le_refl 0,Int.le_refl 0,Nat.le_refl 0⟩,?_,?_⟩
 ·show(qa _ _).length≤4
  rw[ES];omega
 ·show(yY _ _).length≤3
  rw[EP];omega
theorem QF{p:bR×bw}{n:Nat}(h:qb p.2 n):qb (oc p).2 n:=h.sm
theorem aaX{p:bR×bw}{n:Nat}(h:qb p.2 n)(hn:n≤99998):qb (jh p).2 (n+1):=by
 unfold jh Mt
 split
 ·exact(QF (p:=(az p.1 8,p.2)) h).mono (by omega)
 ·split
  ·exact h.cc.mono (by omega)
  ·split
   ·exact h.co.mono (by omega)
   ·exact h.rd hn
theorem aaY(c:bR):qb (zD c).2 0:=by
 have: ∀k,qb (eJ oc (pU c) k).2 0:=by
  intro k
  induction k with
  |zero=>exact(VO c).1
  |succ k ih=>exact QF ih
 exact this _
theorem QG(c:bR)(s:Int): ∀k,k≤99998→qb (eJ jh (jS c s) k).2 k
 |0,_=>aaY c
 |k+1,h=>aaX (QG c s k (by omega)) (by omega)
theorem VP(c:bR){s:Int}(h:0<s):(QC c s:Int)<s:=by
 have:=bZ (zD c).1 h
 unfold QC;omega
end
section
theorem UL:(Tryz.prog.info? 73).map (fun i=>(i.zero,i.size,i.bytes))=some (some (.agg #[.slice none 0 0, .int .i64 0, .int .i64 0]),3,40):=by kernel_rfl
theorem QH:cV Tryz.prog 73 (.st [.slice none 0 0, .int .i64 0, .int .i64 0] [some .u8,none,none] [0,1,2]):=nM Tryz.underlying73 UL rfl (by kernel_rfl)
def X8:List (Nat×TK):=(73, .st [.slice none 0 0, .int .i64 0, .int .i64 0] [some .u8,none,none] [0,1,2])::tys
def Γ2(t:Nat):TK:=match look X8 t with|some k=>k|none=> .other
theorem X9: ∀e,e∈X8→cV Tryz.prog e.1 e.2:=by
 intro e he
 rcases List.mem_cons.1 he with rfl|he
 ·exact QH
 ·exact kinds e he
theorem aaZ: ∀e,e∈X8→(∀z tg fo,e.2≠ .st z tg fo)→(Tryz.prog.info? e.1).map (·.size)=some 1:=by
 intro e he h
 rcases List.mem_cons.1 he with rfl|he
 ·exact absurd rfl (h _ _ _)
 ·exact Z9 e he h
theorem X2:Ctx Tryz.prog ty Γ2 where
 kind:=fun t=>by
  unfold Γ2
  split
  ·rename_i k hk;exact X9 (t,k) (dZ hk)
  ·trivial
 one:=fun t h1 h2=>by
  unfold Γ2 at h1 h2
  split at h1
  ·rename_i k hk;exact aaZ (t,k) (dZ hk) h1
  ·rename_i hk;rw[hk]at h2;exact absurd rfl h2
end
section
def k13:List Int:= [0, -1,2147483646,2147483647]
def EU(c:bR):Int:=if aO c 10=0 then k13.getD (aO (az c 10) 4).toNat (aI .int)else 1+aO (az c 10) 99999
def G8(c:bR):bR:=if aO c 10=0 then az (az c 10) 4 else az (az c 10) 99999
def G9(c:bR):Nat→bR
 |0=>c
 |k+1=>yD (G9 c k) 24
def B5(c:bR):Nat→List (List UInt8)
 |0=> []
 |k+1=>B5 c k++ [n8 (G9 c k) 24]
theorem Dv(c:bR): ∀k,(G9 c k).b=c.b
 |0=>rfl
 |k+1=>by rw[G9,rD,Dv c k]
theorem sJ(c:bR): ∀k,(B5 c k).length=k
 |0=>rfl
 |k+1=>by rw[B5,List.length_append,sJ c k];rfl
theorem EV(c:bR): ∀k, ∀r,r∈B5 c k→r.length=24
 |0,r,h=>by cases h
 |k+1,r,h=>by
  rcases List.mem_append.1 h with h|h
  ·exact EV c k r h
  ·rw[List.mem_singleton.1 h];exact gQ _ _
theorem QJ(c:bR){k:Nat}(h:k≤64):cR ⟨B5 c k⟩=true:=by
 rw[hJ]
 exact⟨by show(B5 c k).length≤64;rw[sJ];exact h,EV c k⟩
def Ya(c:bR):Nat:=(aO c 7).toNat
def BP(c:bR):bR:=G9 (az c 7) (Ya c)
def QK(c:bR):DB:=
 if aO (BP c) 10=0 then⟨B5 (az c 7) (Ya c)++ [n8 (az (az (BP c) 10) 3) (23+aO (az (BP c) 10) 3).toNat]⟩
 else if aO (BP c) 10=1 then dO 64 else⟨B5 (az c 7) (Ya c)⟩
def VQ(c:bR):bR:=
 if aO (BP c) 10=0 then yD (az (az (BP c) 10) 3) (23+aO (az (BP c) 10) 3).toNat else az (BP c) 10
theorem QL(c:bR):(BP c).b=c.b:=by rw[BP,Dv,aT]
theorem VR(c:bR):Ya c≤6:=by
 have:=bZ c (n:=7) (by decide)
 unfold Ya;omega
theorem QM(c:bR):(QK c).rows.length≤64∧ ∀r,r∈(QK c).rows→r.length≤25:=by
 have hn:=VR c
 have hb:=bZ (az (BP c) 10) (n:=3) (by decide)
 unfold QK
 split
 ·refine⟨?_,fun r h=> ?_⟩
  ·show(B5 _ _++_).length≤64
   rw[List.length_append,sJ];simp;omega
  ·rcases List.mem_append.1 h with h|h
   ·rw[EV _ _ r h];omega
   ·rw[List.mem_singleton.1 h,gQ];omega
 ·split
  ·refine⟨nS 64,fun r h=> ?_⟩
   have:=(hJ.1 (GJ 64)).2 r h
   omega
  ·refine⟨?_,fun r h=>by rw[EV _ _ r h];omega⟩
   show(B5 _ _).length≤64
   rw[sJ];omega
def QN(l:List aK):Prop:=l.length≤8∧ ∀y,y∈l→cR y.db=true
theorem Yb{a:iK}{r:Int}{d:DB}(h:QN a.rounds)(hd:cR d=true):QN (yS a r d):=by
 unfold yS
 split
 ·rename_i hk
  have hb:=I1 hk
  have hm: ∀y,y∈o9 a r d→cR y.db=true:=by
   intro y hy
   rcases List.mem_append.1 hy with hy|hy
   ·exact h.2 y hy
   ·rw[List.mem_singleton.1 hy];exact hd
  have hl:(o9 a r d).length=a.rounds.length+1:=by unfold o9;rw[List.length_append];rfl
  split
  ·exact⟨by rw[List.length_drop];omega,fun y hy=>hm y (List.mem_of_mem_drop hy)⟩
  ·exact⟨by omega,hm⟩
 ·exact h
structure UM where
 c:bR
 a:iK
 r:Int
def arS(p:UM):UM:=
 ⟨az (G9 p.c p.a.rows.toNat) 2,⟨p.a.rows,yS p.a p.r ⟨B5 p.c p.a.rows.toNat⟩⟩,IntKind.i64.wrap (IntKind.i64.wrap (p.r+1)+aO (G9 p.c p.a.rows.toNat) 2)⟩
def xN(p:UM):Nat→UM
 |0=>p
 |k+1=>arS (xN p k)
theorem QO(p:UM): ∀k,(xN p k).c.b=p.c.b
 |0=>rfl
 |k+1=>by
  show(az (G9 (xN p k).c _) 2).b=p.c.b
  rw[aT,Dv,QO p k]
theorem I7(p:UM)(hr:p.a.rows≤64)(h:QN p.a.rounds): ∀k,QN (xN p k).a.rounds∧(xN p k).a.rows=p.a.rows
 |0=>⟨h,rfl⟩
 |k+1=>by
  obtain⟨h1,h2⟩:=I7 p hr h k
  exact⟨Yb h1 (QJ _ (by rw[h2];omega)),h2⟩
def Yc:List Int:= [0,2,5,10]
def y8(c:bR):Nat:=(Yc.getD (aO (az c 3) 4).toNat (aI .int)).toNat
def lF(c:bR):UM:=⟨az (az c 3) 4,⟨1+aO c 3,[]⟩,0⟩
def a28(c:bR):UM:=xN (lF c) (y8 c)
theorem I8(c:bR):QN (a28 c).a.rounds∧1≤(a28 c).a.rows∧(a28 c).a.rows≤3:=by
 have hb:=bZ c (n:=3) (by decide)
 have hr:(lF c).a.rows=1+aO c 3:=rfl
 obtain⟨h1,h2⟩:=I7 (lF c) (by omega) ⟨Nat.zero_le _,fun y hy=>by cases hy⟩ (y8 c)
 refine⟨h1,?_,?_⟩<;>(show _≤_;unfold a28;omega)
theorem KD(c:bR):(a28 c).c.b=c.b:=by
 unfold a28
 rw[QO]
 show(az (az c 3) 4).b=c.b
 rw[aT,aT]
def ku(c:bR):iK:=
 if aO (a28 c).c 10=0 then⟨[0,IntKind.i64.wrap ((a28 c).a.rows+1),65].getD (aO (az (a28 c).c 10) 3).toNat (aI .int),(a28 c).a.rounds⟩
 else if aO (a28 c).c 10=1 then⟨(a28 c).a.rows,(a28 c).a.rounds++ [⟨[-1,0,100000,100001].getD (aO (az (a28 c).c 10) 4).toNat (aI .int),QK (az (az (a28 c).c 10) 4)⟩]⟩
 else(a28 c).a
def I9(c:bR):bR:=
 if aO (a28 c).c 10=0 then az (az (a28 c).c 10) 3 else if aO (a28 c).c 10=1 then VQ (az (az (a28 c).c 10) 4)else az (a28 c).c 10
def Ja(d:DB):Prop:=d.rows.length≤64∧ ∀r,r∈d.rows→r.length≤25
theorem wh{d:DB}(h:cR d=true):Ja d:=by
 obtain⟨h1,h2⟩:=hJ.1 h
 exact⟨h1,fun r hr=>by have:=h2 r hr;omega⟩
theorem KE(c:bR):(ku c).rounds.length≤9∧ ∀y,y∈(ku c).rounds→Ja y.db:=by
 obtain⟨⟨h1,h2⟩,_,_⟩:=I8 c
 unfold ku
 split
 ·exact⟨Nat.le_trans h1 (by decide),fun y hy=>wh (h2 y hy)⟩
 ·split
  ·refine⟨?_,fun y hy=> ?_⟩
   ·show((a28 c).a.rounds++_).length≤9
    rw[List.length_append];simp;omega
   ·rcases List.mem_append.1 hy with hy|hy
    ·exact wh (h2 y hy)
    ·rw[List.mem_singleton.1 hy];exact QM _
  ·exact⟨Nat.le_trans h1 (by decide),fun y hy=>wh (h2 y hy)⟩
end
section
def n4(c:bR)(a b:Int):bR:=az (az (az (az c a) b) 99) 999
theorem QS(c:bR)(a b:Int):(n4 c a b).b=c.b:=by unfold n4;rw[aT,aT,aT,aT]
def aa0(c:bR):dN:=⟨aO c 4,4+aO (az c 4) 3,1+aO (az (az c 4) 3) 99,aO (az (az (az c 4) 3) 99) 999,[],0,[],0⟩
def aa1(c:bR):dN:=⟨4+aO c 3,aO (az c 3) 4,1+aO (az (az c 3) 4) 99,aO (az (az (az c 3) 4) 99) 999,[],0,[],0⟩
structure QT where
 c:bR
 x:dN
def gd(c:bR):QT:=if aO (n4 c 4 3) 2=0 then⟨n4 (az (n4 c 4 3) 2) 3 4,aa1 (az (n4 c 4 3) 2)⟩else⟨az (n4 c 4 3) 2,aa0 c⟩
theorem EW(c:bR):(gd c).c.b=c.b:=by
 unfold gd
 split
 ·show(n4 _ 3 4).b=_;rw[QS,aT,QS]
 ·show(az _ 2).b=_;rw[aT,QS]
def nx(x:dN)(n:Int):dN:=⟨x.id,x.bG,x.key,x.seed,x.aF,x.sent,x.inbox,n⟩
def qS(p:QT):QT:=⟨yD (az p.c 5) (aO p.c 5).toNat,iR p.x (n8 (az p.c 5) (aO p.c 5).toNat)⟩
def qK(p:QT):Nat→QT
 |0=>p
 |k+1=>qS (qK p k)
theorem QU(p:QT): ∀k,(qK p k).c.b=p.c.b
 |0=>rfl
 |k+1=>by
  show(yD _ _).b=_
  rw[rD,aT,QU p k]
def VS(n m:Nat)(l:List (List UInt8)):Prop:=l.length≤n∧ ∀b,b∈l→b.length≤m
theorem He{n m:Nat}{l:List (List UInt8)}{b:List UInt8}(h:VS n m l)(hb:b.length≤m):VS (n+1) m (l++ [b]):=
 ⟨by rw[List.length_append];have:=h.1;simp;omega,fun a ha=>by
  rcases List.mem_append.1 ha with ha|ha
  ·exact h.2 a ha
  ·rw[List.mem_singleton.1 ha];exact hb⟩
theorem VT(p:QT){n:Nat}(h:VS n 4 p.x.aF): ∀k,VS (n+k) 4 (qK p k).x.aF∧(qK p k).x.inbox=p.x.inbox
 |0=>⟨h,rfl⟩
 |k+1=>by
  obtain⟨h1,h2⟩:=VT p h k
  have hb:=bZ (qK p k).c (n:=5) (by decide)
  show VS (n+(k+1)) 4 (iR (qK p k).x _).aF∧(iR (qK p k).x _).inbox=p.x.inbox
  unfold iR
  split
  ·exact⟨He h1 (by rw[gQ];omega),h2⟩
  ·exact⟨⟨by have:=h1.1;omega,h1.2⟩,h2⟩
def pV(c:bR):Nat→List (List UInt8)×bR
 |0=>([],c)
 |k+1=>((pV c k).1++ [n8 (az (pV c k).2 4) (aO (pV c k).2 4).toNat],yD (az (pV c k).2 4) (aO (pV c k).2 4).toNat)
theorem KF(c:bR): ∀k,(pV c k).2.b=c.b
 |0=>rfl
 |k+1=>by
  show(yD _ _).b=_
  rw[rD,aT,KF c k]
theorem EX(c:bR): ∀k,VS k 3 (pV c k).1
 |0=>⟨Nat.le_refl _,fun b hb=>by cases hb⟩
 |k+1=>He (EX c k) (by rw[gQ];have:=bZ (pV c k).2 (n:=4) (by decide);omega)
def R8:List Int:= [0,1,3,16]
def rE(c:bR):bR:=az (gd c).c 9
def mI(c:bR):Nat:=(R8.getD (aO (rE c) 4).toNat (aI .int)).toNat
def ep(c:bR):QT:=⟨az (rE c) 4,⟨(gd c).x.id,(gd c).x.bG,(gd c).x.key,(gd c).x.seed,[],0,[],aO (gd c).c 9⟩⟩
def eU(c:bR):QT:=qK (ep c) (mI c)
def fW(c:bR):bR:=az (eU c).c (IntKind.i64.wrap (((eU c).x.aF.length:Int)+1))
def pF(c:bR):Nat:=(aO (fW c) 3).toNat
def bO(c:bR):dN:=⟨(eU c).x.id,(eU c).x.bG,(eU c).x.key,(eU c).x.seed,(eU c).x.aF,aO (eU c).c (IntKind.i64.wrap (((eU c).x.aF.length:Int)+1)),(eU c).x.inbox++(pV (az (fW c) 3) (pF c)).1,(eU c).x.next⟩
def uy(c:bR):bR:=(pV (az (fW c) 3) (pF c)).2
theorem EY(c:bR):(uy c).b=c.b:=by
 unfold uy
 rw[KF,aT]
 show(az (eU c).c _).b=c.b
 rw[aT]
 unfold eU
 rw[QU]
 show(az (az (gd c).c 9) 4).b=c.b
 rw[aT,aT,EW]
end
section
theorem og{α:Type}{P:α→Prop}{l:List α}{d:α}(h: ∀x,x∈l→P x)(hd:P d)(i:Nat):P (l.getD i d):=by
 rw[List.getD_eq_getElem?_getD]
 cases hq:l[i]? with
 |none=>exact hd
 |some x=>exact h x (List.mem_of_getElem? hq)
theorem QV(c:bR):mI c≤16:=by
 have:0≤R8.getD (aO (rE c) 4).toNat (aI .int)∧R8.getD (aO (rE c) 4).toNat (aI .int)≤16:=
  og (P:=fun x:Int=>0≤x∧x≤16) (by decide) (by decide) _
 unfold mI;omega
theorem QW(c:bR):pF c≤2:=by
 have:=bZ (fW c) (n:=3) (by decide)
 unfold pF;omega
theorem KG(c:bR)(k:Nat):VS k 4 (qK (ep c) k).x.aF∧(qK (ep c) k).x.inbox= []:=by
 have h:=VT (ep c) (n:=0) ⟨Nat.le_refl _,fun b hb=>by cases hb⟩ k
 exact⟨⟨by have:=h.1.1;omega,h.1.2⟩,h.2⟩
theorem wj(c:bR):VS 16 4 (eU c).x.aF∧(eU c).x.inbox= []:=by
 have h:=KG c (mI c)
 have hn:=QV c
 exact⟨⟨Nat.le_trans h.1.1 hn,h.1.2⟩,h.2⟩
theorem QX(c:bR){k:Nat}(hk:k≤16):vR (qK (ep c) k).x:=by
 obtain⟨h1,h2⟩:=KG c k
 refine⟨Nat.le_trans h1.1 hk,by rw[h2];exact Nat.zero_le _,fun b hb=>Nat.le_trans (h1.2 b hb) (by decide),fun b hb=> ?_⟩
 rw[h2]at hb;cases hb
theorem rF(c:bR):vR (bO c)∧0≤(bO c).sent:=by
 obtain⟨h1,h2⟩:=wj c
 have hi:=EX (az (fW c) 3) (pF c)
 have hm:=QW c
 unfold bO
 generalize eU c=q at h1 h2 ⊢
 refine⟨⟨h1.1,?_,fun b hb=>Nat.le_trans (h1.2 b hb) (by decide),?_⟩,xM _ _⟩
 ·show(q.x.inbox++_).length≤16
  rw[h2,List.nil_append]
  have:=hi.1;omega
 ·show∀b,b∈q.x.inbox++_→b.length≤14
  rw[h2,List.nil_append]
  exact fun b hb=>Nat.le_trans (hi.2 b hb) (by decide)
def QY(c:dN):Prop:=c.aF.length≤17∧c.inbox.length≤18∧(∀b,b∈c.aF→b.length≤16)∧ ∀b,b∈c.inbox→b.length≤16
theorem Jb{c:dN}(h:vR c):QY c:=⟨by have:=h.1;omega,by have:=h.2.1;omega,fun b hb=>Nat.le_trans (h.2.2.1 b hb) (by decide),fun b hb=>Nat.le_trans (h.2.2.2 b hb) (by decide)⟩
theorem Dw{c:dN}(h:QY c):cT c≤600:=by
 have h1:=pe List.length 16 17 c.aF h.2.2.1 h.1
 have h2:=pe List.length 16 18 c.inbox h.2.2.2 h.2.1
 unfold cT;omega
def dj(c:bR):Int:=aO (uy c) 14
def eD(c:bR):bR:=az (uy c) 14
theorem xO(c:bR):(eD c).b=c.b:=by unfold eD;rw[aT,EY]
def fE(c:bR):dN:=
 if dj c=0 then⟨[-1,7,8,(bO c).bG].getD (aO (eD c) 4).toNat (aI .int),(bO c).bG,(bO c).key,(bO c).seed,(bO c).aF,(bO c).sent,(bO c).inbox,(bO c).next⟩
 else if dj c=1 then⟨(bO c).id,(bO c).bG,EU (eD c),(bO c).seed,(bO c).aF,(bO c).sent,(bO c).inbox,(bO c).next⟩
 else if dj c=2 then⟨(bO c).id,(bO c).bG,(bO c).key,(bO c).seed,(bO c).aF,[-1,((bO c).aF.length:Int),IntKind.i64.wrap (((bO c).aF.length:Int)+1)].getD (aO (eD c) 3).toNat (aI .int),(bO c).inbox,(bO c).next⟩
 else if dj c=3 then⟨(bO c).id,(bO c).bG,(bO c).key,(bO c).seed,(bO c).aF,(bO c).sent,(bO c).inbox,[-1,99999,100000,100001].getD (aO (eD c) 4).toNat (aI .int)⟩
 else if dj c=4 then⟨(bO c).id,(bO c).bG,(bO c).key,(bO c).seed,(bO c).aF,(bO c).sent,(bO c).inbox++ [List.replicate (IntKind.i64.wrap (14+aO (eD c) 2)).toNat (aI .u8)],(bO c).next⟩
 else if dj c=5 then⟨(bO c).id,(bO c).bG,(bO c).key,(bO c).seed,(bO c).aF,(bO c).sent,List.replicate (IntKind.i64.wrap (16+aO (eD c) 2)).toNat (aI (.sl .u8)),(bO c).next⟩
 else bO c
def qc(c:bR):bR:=
 if dj c=0 then az (eD c) 4 else if dj c=1 then G8 (eD c)else if dj c=2 then az (eD c) 3 else if dj c=3 then az (eD c) 4 else if dj c=4 then az (eD c) 2 else if dj c=5 then az (eD c) 2 else eD c
theorem QZ(c:bR):QY (fE c):=by
 have h:=(rF c).1
 have hS:=Jb h
 have hb:=bZ (eD c) (n:=2) (by decide)
 unfold fE
 generalize bO c=x at h hS ⊢
 generalize eD c=o at hb ⊢
 split
 ·exact hS
 ·split
  ·exact hS
  ·split
   ·exact hS
   ·split
    ·exact hS
    ·split
     ·refine⟨hS.1,?_,hS.2.2.1,fun b hm=> ?_⟩
      ·show(x.inbox++_).length≤18
       rw[List.length_append]
       have:=h.2.1
       simp;omega
      ·rcases List.mem_append.1 hm with hm|hm
       ·exact hS.2.2.2 b hm
       ·rw[List.mem_singleton.1 hm,List.length_replicate,aM (by omega)];omega
     ·split
      ·refine⟨hS.1,?_,hS.2.2.1,fun b hm=> ?_⟩
       ·show(List.replicate _ _).length≤18
        rw[List.length_replicate,aM (by omega)];omega
       ·rw[List.eq_of_mem_replicate hm];exact Nat.zero_le _
      ·exact hS
structure BQ where
 c:bR
 d:bP
def MQ(d:bP):Prop:=vT d∧0≤d.live.sent∧0≤d.saved.sent
theorem Dx(c:dN)(b:List UInt8):(iR c b).sent=c.sent:=(n9 c b).2.2.1
theorem Jc{c:dN}(h:0≤c.sent∧c.aF.length≤16)(r:Int)(own other:List UInt8):0≤(gr c r own other).sent:=by
 unfold gr
 split
 ·dsimp only
  split
  ·omega
  ·omega
 ·omega
theorem aa2{d:bP}(h:MQ d):MQ (Dp d):=by
 refine⟨aaH h.1,?_⟩
 unfold Dp
 split
 ·exact⟨h.2.2,h.2.2⟩
 ·exact h.2
theorem Yd{d:bP}(b:List UInt8)(h:MQ d):MQ (pg d b):=by
 refine⟨XL h.1,?_⟩
 unfold pg
 split
 ·exact⟨by rw[Dx];exact h.2.1,by rw[Dx];exact h.2.2⟩
 ·exact h.2
theorem Ye{d:bP}(h:MQ d)(r:Int)(own other:List UInt8):MQ (rdev d r own other):=by
 refine⟨PR h.1 _ _ _,?_⟩
 have h1:=Jc ⟨h.2.1,h.1.1.1⟩ r own other
 unfold rdev
 split
 ·split
  ·exact⟨h1,h1⟩
  ·exact⟨h1,h.2.2⟩
 ·exact h.2
def EZ(p:BQ):Prop:=p.d.live.sent<(p.d.live.aF.length:Int)
instance (p:BQ):Decidable (EZ p):=inferInstanceAs (Decidable (_<_))
def Cn(p:BQ):bR:=yD p.c 24
def mq(p:BQ):bR:=if EZ p then az (Cn p) 2 else Cn p
def uz(p:BQ):List UInt8:=if EZ p then(if aO (Cn p) 2=0 then tq p.d.live p.d.live.sent else n8 p.c 24)else n8 p.c 24
def UN(p:BQ):List UInt8:=n8 (az (mq p) 3) (aO (mq p) 3).toNat
def Jd(p:BQ):bR:=yD (az (mq p) 3) (aO (mq p) 3).toNat
def Je(p:BQ):List UInt8:=vB (sR p.d.live.key (IntKind.i64.wrap (1-dS p.d.live))) (p.d.live.inbox.length:Int) ⟨1,UN p⟩
def rG(p:BQ):Int:=aO (Jd p) 6
def iI(p:BQ):bR:=az (Jd p) 6
def lG(p:BQ):BQ:=
 if rG p=0 then⟨iI p,Dp p.d⟩
 else if rG p=1 then⟨yD (iI p) 2,pg p.d (n8 (iI p) 2)⟩
 else⟨az (iI p) 2,rdev p.d (IntKind.i64.wrap (p.d.live.next+aO (iI p) 2)) (uz p) (Je p)⟩
theorem uA(p:BQ):(mq p).b=p.c.b:=by
 unfold mq
 split
 ·rw[aT];unfold Cn;rw[rD]
 ·unfold Cn;rw[rD]
theorem E0(p:BQ):(Jd p).b=p.c.b:=by unfold Jd;rw[rD,aT,uA]
theorem pG(p:BQ):(iI p).b=p.c.b:=by unfold iI;rw[aT,E0]
theorem Yf(p:BQ):(lG p).c.b=p.c.b:=by
 unfold lG
 split
 ·exact pG p
 ·split
  ·show(yD _ _).b=_;rw[rD,pG]
  ·show(az _ _).b=_;rw[aT,pG]
theorem Yg{p:BQ}(h:MQ p.d):MQ (lG p).d:=by
 unfold lG
 split
 ·exact aa2 h
 ·split
  ·exact Yd _ h
  ·exact Ye h _ _ _
def aZ(p:BQ):Nat→BQ
 |0=>p
 |k+1=>lG (aZ p k)
theorem Jf(p:BQ): ∀k,(aZ p k).c.b=p.c.b
 |0=>rfl
 |k+1=>by show(lG (aZ p k)).c.b=_;rw[Yf,Jf p k]
theorem Jg{p:BQ}(h:MQ p.d): ∀k,MQ (aZ p k).d
 |0=>h
 |k+1=>Yg (Jg h k)
def bf(c:bR):BQ:=⟨az (uy c) 5,⟨bO c,bO c⟩⟩
def BR(c:bR):Nat:=(aO (uy c) 5).toNat
def eL(c:bR):BQ:=aZ (bf c) (BR c)
theorem Q0(c:bR):MQ (bf c).d:=⟨⟨(rF c).1,(rF c).1⟩,(rF c).2,(rF c).2⟩
theorem Q1(c:bR):(bf c).c.b=c.b:=by unfold bf;dsimp only;rw[aT,EY]
theorem Q2(c:bR):MQ (eL c).d:=Jg (Q0 c) _
theorem Q3(c:bR):(eL c).c.b=c.b:=by unfold eL;rw[Jf,Q1]
def BS(x:dN)(n:Int):dN:=⟨x.id,x.bG,x.key,x.seed,x.aF,n,x.inbox,x.next⟩
def Jh(x:dN)(l:List (List UInt8)):dN:=⟨x.id,x.bG,x.key,x.seed,x.aF,x.sent,l,x.next⟩
def ia(c:bR):Int:=aO (eL c).c 10
def mJ(c:bR):bR:=az (eL c).c 10
theorem Q4(c:bR):(mJ c).b=c.b:=by unfold mJ;rw[aT,Q3]
def jd(c:bR):bP:=
 if ia c=0 then⟨fE (mJ c),(eL c).d.saved⟩
 else if ia c=1 then⟨(eL c).d.live,BS (eL c).d.saved (IntKind.i64.wrap ((eL c).d.live.sent+1))⟩
 else if ia c=2 then⟨(eL c).d.live,nx (eL c).d.saved (IntKind.i64.wrap ((eL c).d.live.next+aO (mJ c) 3))⟩
 else if ia c=3 then⟨(eL c).d.live,Jh (eL c).d.saved ((eL c).d.saved.inbox++ [[1]])⟩
 else(eL c).d
def wk(c:bR):bR:=if ia c=0 then qc (mJ c)else if ia c=1 then mJ c else if ia c=2 then az (mJ c) 3 else mJ c
def dvL(d:bP):Prop:=QY d.live∧QY d.saved
theorem Yh(c:bR):dvL (jd c):=by
 have h:=(Q2 c).1
 unfold jd
 generalize eL c=p at h ⊢
 have h1:=Jb h.1
 have h2:=Jb h.2
 split
 ·unfold dvL
  dsimp only
  exact⟨QZ _,h2⟩
 ·split
  ·exact⟨h1,h2⟩
  ·split
   ·exact⟨h1,h2⟩
   ·split
    ·refine⟨h1,h2.1,?_,h2.2.2.1,fun b hm=> ?_⟩
     ·show(p.d.saved.inbox++_).length≤18
      rw[List.length_append]
      have:=h.2.2.1
      simp;omega
     ·rcases List.mem_append.1 hm with hm|hm
      ·exact h2.2.2.2 b hm
      ·rw[List.mem_singleton.1 hm];decide
    ·exact⟨h1,h2⟩
theorem Mu(c:bR):cD (jd c)≤1200:=by
 obtain⟨h1,h2⟩:=Yh c
 have:=Dw h1
 have:=Dw h2
 unfold cD;omega
def low(l:List aX)(c:Int):Nat:=(l.takeWhile fun r=>decide (r.client<c)).length
theorem KH(l:List aX)(c:Int):low l c≤l.length:=by
 unfold low
 induction l with
 |nil=>exact Nat.le_refl _
 |cons r l ih=>
  rw[List.takeWhile_cons]
  split
  ·simp only[List.length_cons];omega
  ·exact Nat.zero_le _
theorem Q5: ∀{l:List aX} {c:Int} {k:Nat},k<low l c→k<l.length∧(l.getD k (aI .aX)).client<c
 | [],_,_,h=>by simp[low]at h
 |r::l,c,k,h=>by
  unfold low at h
  rw[List.takeWhile_cons]at h
  split at h
  ·rename_i hr
   cases k with
   |zero=>exact⟨by simp,by simpa using hr⟩
   |succ k=>
    have h2:k<low l c:=by unfold low;simpa using h
    obtain⟨a,b⟩:=Q5 h2
    exact⟨by simpa using a,by simpa using b⟩
  ·simp at h
theorem KI: ∀{l:List aX} {c:Int},low l c<l.length→ ¬(l.getD (low l c) (aI .aX)).client<c
 | [],_,h=>by simp at h
 |r::l,c,h=>by
  unfold low at h ⊢
  rw[List.takeWhile_cons]at h ⊢
  split at h
  ·rename_i hr
   rw[if_pos hr]
   simp only[List.length_cons]at h ⊢
   have:=KI (l:=l) (c:=c) (by unfold low;omega)
   unfold low at this
   simpa using this
  ·rename_i hr
   rw[if_neg hr]
   simpa using hr
theorem Yi{l:List aX}{c:Int}{k:Nat}(hk:k≤low l c)(h:(if decide ((k:Int)<(l.length:Int))then decide ((l.getD k (aI .aX)).client<c)else false)=true):k<low l c:=by
 split at h
 ·rename_i h1
  rw[decide_eq_true_eq]at h h1
  rcases Nat.lt_or_ge k (low l c)with h2|h2
  ·exact h2
  ·have e:k=low l c:=by omega
   subst e
   exact absurd h (KI (by omega))
 ·cases h
theorem Yj{l:List aX}{c:Int}{k:Nat}(hk:k≤low l c)(h:(if decide ((k:Int)<(l.length:Int))then decide ((l.getD k (aI .aX)).client<c)else false)=false):k=low l c:=by
 rcases Nat.lt_or_ge k (low l c)with h2|h2
 ·obtain⟨a,b⟩:=Q5 h2
  rw[if_pos (by rw[decide_eq_true_eq];omega),decide_eq_false_iff_not]at h
  exact absurd b h
 ·omega
def za(s:bD)(c:Int)(d:DB):bD:=⟨s.id,s.rows,s.round,(s.received.take (low s.received c)++ [⟨c,d⟩])++s.received.drop (low s.received c),s.behavior⟩
def tw(s:bD)(c:Int)(d:DB):Bool:=cN s&&cN (za s c d)
def MR(s:bD)(c:Int)(d:DB):bD:=if tw s c d then za s c d else s
theorem Yk{s:bD}{c:Int}{d:DB}(h:tw s c d=false):MR s c d=s:=by rw[MR,h];rfl
theorem UO{s:bD}{c:Int}{d:DB}(h:tw s c d=true):MR s c d=za s c d:=by rw[MR,h];rfl
theorem aa3{s:bD}{c:Int}{d:DB}(h:(if !cN s then true else !cN (za s c d))=true):tw s c d=false:=by
 unfold tw
 cases hs:cN s<;>cases hi:cN (za s c d)<;>simp_all
theorem aa4{s:bD}{c:Int}{d:DB}(h:(if !cN s then true else !cN (za s c d))=false):tw s c d=true:=by
 unfold tw
 cases hs:cN s<;>cases hi:cN (za s c d)<;>simp_all
def BT(s:bD)(n:Nat):Prop:=s.received.length≤n∧ ∀r,r∈s.received→Ja r.share
theorem Q6(s:bD)(c:Int)(d:DB):(za s c d).received.length=s.received.length+1:=by
 have:=KH s.received c
 show((_++_)++_:List aX).length=_
 simp only[List.length_append,List.length_take,List.length_drop,List.length_singleton]
 omega
theorem Q7{s:bD}{c:Int}{d:DB}{r:aX}(h:r∈(za s c d).received):r∈s.received∨r=⟨c,d⟩:=by
 rcases List.mem_append.1 (show r∈(s.received.take _++ [(⟨c,d⟩:aX)])++s.received.drop _ from h)with h|h
 ·rcases List.mem_append.1 h with h|h
  ·exact Or.inl (List.mem_of_mem_take h)
  ·exact Or.inr (List.mem_singleton.1 h)
 ·exact Or.inl (List.mem_of_mem_drop h)
theorem Yl{s:bD}{n:Nat}{c:Int}{d:DB}(h:BT s n)(hd:Ja d):BT (za s c d) (n+1):=by
 refine⟨by rw[Q6];have:=h.1;omega,fun r hr=> ?_⟩
 rcases Q7 hr with hr|rfl
 ·exact h.2 r hr
 ·exact hd
theorem aa5{s:bD}{n:Nat}{c:Int}{d:DB}(h:BT s n)(hd:Ja d):BT (MR s c d) (n+1):=by
 unfold MR
 split
 ·exact Yl h hd
 ·exact⟨by have:=h.1;omega,h.2⟩
theorem oo{d:DB}(h:Ja d):eu List.length d.rows≤1664:=pe List.length 25 64 d.rows h.2 h.1
theorem Ym{s:bD}{n:Nat}(h:BT s n)(hn:n≤1000):s.received.length≤1048576∧ ∀r,r∈s.received→eu List.length r.share.rows≤1048576:=
 ⟨by have:=h.1;omega,fun r hr=>Nat.le_trans (oo (h.2 r hr)) (by decide)⟩
theorem Mv{s:bD}(h:BT s 9):eg s≤15000:=by
 have:=pe qV 1664 9 s.received (fun r hr=>oo (h.2 r hr)) h.1
 unfold eg;omega
structure R9 where
 c:bR
 s:bD
def aa6(p:R9):Nat:=p.s.rows.toNat
def adA(p:R9):R9:=⟨G9 (az p.c 6) (aa6 p),MR p.s (aO p.c 6) ⟨B5 (az p.c 6) (aa6 p)⟩⟩
def jr(p:R9):Nat→R9
 |0=>p
 |k+1=>adA (jr p k)
theorem Ji(p:R9): ∀k,(jr p k).c.b=p.c.b
 |0=>rfl
 |k+1=>by show(G9 (az (jr p k).c 6) _).b=_;rw[Dv,aT,Ji p k]
theorem Q8(s:bD)(c:Int)(d:DB):(MR s c d).rows=s.rows:=by unfold MR;split<;>rfl
theorem Jj(c:bR){k:Nat}(h:k≤64):Ja ⟨B5 c k⟩:=wh (QJ c h)
theorem Q9{p:R9}(h:p.s.received= [])(hr:p.s.rows≤64): ∀k,BT (jr p k).s k∧(jr p k).s.rows=p.s.rows
 |0=>⟨⟨by show p.s.received.length≤0;rw[h];exact Nat.le_refl _,fun r hr=>by rw[show(jr p 0).s.received= []from h]at hr;cases hr⟩,rfl⟩
 |k+1=>by
  obtain⟨h1,h2⟩:=Q9 h hr k
  refine⟨aa5 h1 (Jj _ ?_),(Q8 _ _ _).trans h2⟩
  show(jr p k).s.rows.toNat≤64
  rw[h2];omega
def KJ:List Int:= [0,0,1,2,3]
def xP(c:bR):bR:=az (az (az c 3) 4) 5
def jV(c:bR):R9:=⟨az (az (xP c) 9) 5,⟨aO c 3,1+aO (az c 3) 4,aO (xP c) 9,[],KJ.getD (aO (az (az c 3) 4) 5).toNat (aI .int)⟩⟩
def zc(c:bR):Nat:=(aO (az (xP c) 9) 5).toNat
def dw(c:bR):R9:=jr (jV c) (zc c)
theorem Ra(c:bR):zc c≤4:=by
 have:=bZ (az (xP c) 9) (n:=5) (by decide)
 unfold zc;omega
theorem Rb(c:bR):(jV c).c.b=c.b:=by show(az (az (xP c) 9) 5).b=_;rw[aT,aT];unfold xP;rw[aT,aT,aT]
theorem Rc(c:bR):(dw c).c.b=c.b:=by unfold dw;rw[Ji,Rb]
theorem Yn(c:bR):1≤(jV c).s.rows∧(jV c).s.rows≤4:=by
 have:=bZ (az c 3) (n:=4) (by decide)
 show 1≤1+aO (az c 3) 4∧1+aO (az c 3) 4≤4
 omega
theorem Rd(c:bR)(k:Nat):BT (jr (jV c) k).s k∧1≤(jr (jV c) k).s.rows∧(jr (jV c) k).s.rows≤4:=by
 have hr:=Yn c
 obtain⟨h1,h2⟩:=Q9 (p:=jV c) rfl (by omega) k
 exact⟨h1,by omega,by omega⟩
theorem Re(c:bR):BT (dw c).s 4:=by
 have h:=(Rd c (zc c)).1
 have:=Ra c
 exact⟨by have:=h.1;unfold dw;omega,h.2⟩
def eE(c:bR):Int:=aO (dw c).c 12
def gF(c:bR):bR:=az (dw c).c 12
theorem xQ(c:bR):(gF c).b=c.b:=by unfold gF;rw[aT,Rc]
def gR(c:bR):bD:=
 if eE c=0 then⟨[-1,3,4].getD (aO (gF c) 3).toNat (aI .int),(dw c).s.rows,(dw c).s.round,(dw c).s.received,(dw c).s.behavior⟩
 else if eE c=1 then⟨(dw c).s.id,[0,IntKind.i64.wrap ((dw c).s.rows+1),65].getD (aO (gF c) 3).toNat (aI .int),(dw c).s.round,(dw c).s.received,(dw c).s.behavior⟩
 else if eE c=2 then⟨(dw c).s.id,(dw c).s.rows,[-1,100000,100001].getD (aO (gF c) 3).toNat (aI .int),(dw c).s.received,(dw c).s.behavior⟩
 else if eE c=3 then⟨(dw c).s.id,(dw c).s.rows,(dw c).s.round,(dw c).s.received,[-1,4].getD (aO (gF c) 2).toNat (aI .int)⟩
 else if eE c=4 then⟨(dw c).s.id,(dw c).s.rows,(dw c).s.round,(dw c).s.received++ [⟨[-1,0,7,8].getD (aO (gF c) 4).toNat (aI .int),QK (az (gF c) 4)⟩],(dw c).s.behavior⟩
 else(dw c).s
def s6(c:bR):bR:=
 if eE c=0 then az (gF c) 3 else if eE c=1 then az (gF c) 3 else if eE c=2 then az (gF c) 3 else if eE c=3 then az (gF c) 2 else if eE c=4 then VQ (az (gF c) 4)else gF c
theorem Yo(c:bR):BT (gR c) 9:=by
 have h:=Re c
 unfold gR
 generalize dw c=p at h ⊢
 have hS:BT p.s 9:=⟨by have:=h.1;omega,h.2⟩
 split
 ·exact hS
 ·split
  ·exact hS
  ·split
   ·exact hS
   ·split
    ·exact hS
    ·split
     ·refine⟨?_,fun r hr=> ?_⟩
      ·show(p.s.received++_).length≤9
       rw[List.length_append]
       have:=h.1
       simp;omega
      ·rcases List.mem_append.1 hr with hr|hr
       ·exact h.2 r hr
       ·rw[List.mem_singleton.1 hr];exact QM _
     ·exact hS
end
section
def sb(rows:List (List UInt8))(v:List Int)(i k:Nat):UInt8:=if k<v.length∧v.getD k (aI .int)=1 then Tt (rows.getD k (aI (.sl .u8))) i else 0
def sx(rows:List (List UInt8))(v:List Int)(i:Nat):Nat→UInt8
 |0=>0
 |n+1=>sx rows v i n^^^sb rows v i n
end
section

end
section
def bN(c:bR):Int:=aO c 24
def dI(c:bR):bR:=az c 24
def iJ(c:bR)(w:bw):bw:=
 if bN c=0 then⟨[0,IntKind.i64.wrap (w.rows+1),65].getD (aO (dI c) 3).toNat (aI .int),w.an,w.af,w.aJ,w.bq,w.seed,w.round,w.replaced,w.cancelled⟩
 else if bN c=1 then⟨w.rows,w.an.drop 1,w.af,w.aJ,w.bq,w.seed,w.round,w.replaced,w.cancelled⟩
 else if bN c=2 then⟨w.rows,w.an,w.af.drop 1,w.aJ,w.bq,w.seed,w.round,w.replaced,w.cancelled⟩
 else if bN c=3 then⟨w.rows,w.an,w.af,w.aJ,w.bq,w.seed,[-1,IntKind.i64.wrap (w.round+1),100001].getD (aO (dI c) 3).toNat (aI .int),w.replaced,w.cancelled⟩
 else if bN c=4 then⟨w.rows,w.an,w.af,ku (dI c),w.bq,w.seed,w.round,w.replaced,w.cancelled⟩
 else if bN c=5 then⟨w.rows,w.an,w.af,w.aJ,EU (dI c),w.seed,w.round,w.replaced,w.cancelled⟩
 else if bN c=6 then⟨w.rows,w.an,w.af,w.aJ,w.bq,w.seed,w.round,w.replaced, -1⟩
 else if bN c=7 then⟨w.rows,w.an.set 0 (gR (dI c)),w.af,w.aJ,w.bq,w.seed,w.round,w.replaced,w.cancelled⟩
 else if bN c=8 then⟨w.rows,w.an,w.af.set 0 (jd (dI c)),w.aJ,w.bq,w.seed,w.round,w.replaced,w.cancelled⟩
 else w
def mu(c:bR):bR:=
 if bN c=0 then az (dI c) 3 else if bN c=1 then dI c else if bN c=2 then dI c else if bN c=3 then az (dI c) 3 else if bN c=4 then I9 (dI c)else if bN c=5 then G8 (dI c)
 else if bN c=6 then dI c else if bN c=7 then s6 (dI c)else if bN c=8 then wk (dI c)else dI c
theorem xR(c:bR):(dI c).b=c.b:=aT _ _
def bW(x:bw):Prop:=wC x 1000∧x.cancelled≤1000
theorem Mw(c:bR):gY (ku c)≤1048576:=by
 obtain⟨h1,h2⟩:=KE c
 exact Nat.le_trans (pe eo 1664 9 _ (fun y hy=>oo (h2 y hy)) h1) (by decide)
theorem KK{x:bw}(h:okW x=true): ∀s,s∈x.an→eg s≤15000:=by
 intro s hs
 have:=sD h s hs
 unfold eg
 rw[this]
 exact Nat.zero_le _
theorem Yp{x:bw}{n:Nat}(h:qb x n)(hn:n≤100)(c:bR):bW (iJ c x):=by
 have hC:=vU h.C (show 8*n≤1000 by omega)
 have hc:=h.sZ
 have sP:=eX h.ok
 have hdv:=(vF (lW h.ok)).2.1
 have h0:bW x:=⟨hC,by omega⟩
 unfold iJ
 generalize bN c=k
 generalize dI c=o
 split
 ·exact h0
 ·split
  ·exact⟨⟨Nat.le_trans (pe eg 15000 4 _ (fun s hs=>KK h.ok s (List.mem_of_mem_drop hs)) (by rw[List.length_drop];omega)) (by decide),hC.2.1,hC.2.2.1,hC.2.2.2⟩,h0.2⟩
  ·split
   ·exact⟨⟨hC.1,Nat.le_trans (pe cD 960 8 _ (fun d hd=>jC (Dn h.ok d (List.mem_of_mem_drop hd))) (by rw[List.length_drop];omega)) (by decide),hC.2.2.1,hC.2.2.2⟩,h0.2⟩
   ·split
    ·exact h0
    ·split
     ·exact⟨⟨hC.1,hC.2.1,Mw o,hC.2.2.2⟩,h0.2⟩
     ·split
      ·exact h0
      ·split
       ·exact⟨hC,by show(-1:Int)≤1000;decide⟩
       ·split
        ·refine⟨⟨Nat.le_trans (pe eg 15000 4 _ (fun s hs=> ?_) (by rw[List.length_set];omega)) (by decide),hC.2.1,hC.2.2.1,hC.2.2.2⟩,h0.2⟩
         have hx:=Mv (Yo o)
         generalize gR o=q at hs hx
         rcases List.mem_or_eq_of_mem_set hs with h3|h3
         ·exact KK h.ok s h3
         ·subst h3;exact hx
        ·split
         ·refine⟨⟨hC.1,Nat.le_trans (pe cD 1200 8 _ (fun d hd=> ?_) (by rw[List.length_set];omega)) (by decide),hC.2.2.1,hC.2.2.2⟩,h0.2⟩
          have hx:=Mu o
          generalize jd o=q at hd hx
          rcases List.mem_or_eq_of_mem_set hd with h3|h3
          ·exact Nat.le_trans (jC (Dn h.ok d h3)) (by decide)
          ·subst h3;exact hx
         ·exact h0
theorem Rf(c:bR){s:Int}(h:1≤s∧s≤100):qb (BN c s).2 100:=by
 have h2:=VP c (s:=s) (by omega)
 exact(QG c s _ (by omega)).mono (by omega)
def rrC(c:bR)(s:Int):bR:=mu (BN c s).1
def xS(c:bR)(s:Int):bw:=iJ (BN c s).1 (BN c s).2
theorem Yq(c:bR){s:Int}(h:1≤s∧s≤100):bW (xS c s):=Yp (Rf c h) (Nat.le_refl _) _
theorem adB{x:bw}(h:bW x):wB x:=PS h.1 (by decide)
end
end Go.Proofs.YtkkfjbfkjbljiaaGreatDoor.G
namespace Go.Proofs.YtkkfjbfkjbljiaaGreatDoor.G
set_option linter.all false
open Go.RowKit L D Tryz
section
def sel(n:Int):UInt8:=if n=0 then 48 else if n=1 then 49 else 63
theorem bound: ∀n:Int,n=0∨n=1→0≤IntKind.u8.wrap (IntKind.i64.wrap (48+n))∧IntKind.u8.wrap (IntKind.i64.wrap (48+n))<256:=by
 rintro n (rfl|rfl)<;>decide
theorem val: ∀n:Int,n=0∨n=1→UInt8.ofNat (IntKind.u8.wrap (IntKind.i64.wrap (48+n))).toNat=sel n:=by
 rintro n (rfl|rfl)<;>decide
set_option maxRecDepth 100000
theorem gE(l:List Int)(hl:l.length≤1048576):So 15 [.a (.sl .int l)] [.a (.lit (.string (bI (l.map sel))))]:=by
 refine aD X call15 func15 ntmps15 rfl rfl ?_
 intro w0
 refine aa (aH X [] [] [0] [] rfl ⟨⟩ ?_)
 refine aa (aH X [(6,0)] [] [3,0] [0] rfl ⟨⟨rfl,AT⟩,⟨⟩⟩ ?_)
 refine aa (aa (aH X [] [] [9,8,7,3] [0] rfl ⟨⟩ ?_))
 refine aq ?_
 refine Ed (fun k=>k≤l.length) (fun k:Nat=>⟨29,[(9, .one (.a (.lit (.int .i64 k)))),(8, .one (.a (.lit (.int .i64 l.length)))),(7, .one (.a (.sl .int l))),(3, .one (.a (.own 0)))],[(0, .arr .u8 ((l.take k).map sel))]⟩) (fun k=>l.length-k) 0 (Nat.zero_le _) (Inv.of_eq rfl) ?_
 intro k hk
 refine aa (aH X [] [] [10,9,8,7,3] [0] rfl ⟨⟩ ?_)
 refine aa (ak rfl (fun hb=>ay ?_) (fun hb=>aV ?_))
 ·have hk2:k<l.length:=by simpa using hb
  have hsn:(l.take (k+1)).map sel=(l.take k).map sel++ [sel (l.getD k 0)]:=by rw[bE l k 0 hk2,List.map_append];rfl
  have ht:((l.take k).map sel).length≤1048576:=by rw[List.length_map,List.length_take];omega
  refine aa (aq (aa (aH X [] [] [5,9,8,7,3] [0] rfl ⟨by omega,⟨⟩⟩ ?_)))
  refine aa (aH X [] [] [13,5,9,8,7,3] [0] rfl ⟨⟩ ?_)
  refine aq (aa (aa (aH X [] [] [17,13,5,9,8,7,3] [0] rfl ⟨⟩ ?_)))
  refine ak rfl (fun bY=> ?_) (fun bY=> ?_)
  ·have h0:l.getD k 0=0:=eq_of_beq (show(l.getD k 0==(0:Int))=true from bY)
   refine ay ?_
   refine ak rfl (fun _=> ?_) (fun fj=>by rw[bY]at fj;cases fj)
   refine aH X [(24,3),(25,0)] [] [9,8,7,3] [0] rfl ⟨AT,?_,⟨rfl,AT⟩,bound _ (Or.inl h0),⟨⟩⟩ ?_
   ·simp only[b7,maxLen,List.length_singleton];omega
   refine aH X [] [] [9,8,7,3] [0] rfl ⟨⟩ ?_
   refine⟨k+1,hk2,by omega,Inv.of_eq ?_⟩
   rw[cw _ k rfl (by omega),hsn, ←val _ (Or.inl h0)]
   try rfl
  ·have h0:l.getD k 0≠0:=by have h:(l.getD k 0==(0:Int))=false:=bY;simpa using h
   refine aH X [] [] [17,5,9,8,7,3] [0] rfl ⟨⟩ ?_
   refine ak rfl (fun fj=> ?_) (fun fj=> ?_)
   ·have h1:l.getD k 0=1:=eq_of_beq (show(l.getD k 0==(1:Int))=true from fj)
    refine aH X [(24,3),(25,0)] [] [9,8,7,3] [0] rfl ⟨AT,?_,⟨rfl,AT⟩,bound _ (Or.inr h1),⟨⟩⟩ ?_
    ·simp only[b7,maxLen,List.length_singleton];omega
    refine aH X [] [] [9,8,7,3] [0] rfl ⟨⟩ ?_
    refine⟨k+1,hk2,by omega,Inv.of_eq ?_⟩
    rw[cw _ k rfl (by omega),hsn, ←val _ (Or.inr h1)]
    try rfl
   ·have h1:l.getD k 0≠1:=by have h:(l.getD k 0==(1:Int))=false:=fj;simpa using h
    refine aH X [(15,3),(16,0)] [] [9,8,7,3] [0] rfl ⟨AT,?_,⟨rfl,AT⟩,by decide,⟨⟩⟩ ?_
    ·simp only[b7,maxLen,List.length_singleton];omega
    refine aH X [] [] [9,8,7,3] [0] rfl ⟨⟩ ?_
    refine⟨k+1,hk2,by omega,Inv.of_eq ?_⟩
    rw[cw _ k rfl (by omega),hsn,show sel (l.getD k 0)=UInt8.ofNat (Int.toNat 63)by rw[sel,if_neg h0,if_neg h1];rfl]
    try rfl
 ·have hk2:l.take k=l:=List.take_of_length_le (by simpa using hb)
  refine aa (aH X [] [] [2] [] rfl ⟨⟩ ?_)
  refine aj ?_
  exact ah rfl ⟨by rw[hk2],⟨⟩⟩
end
end Go.Proofs.YtkkfjbfkjbljiaaGreatDoor.G
