/-
  Delays, computed for every seed. No program in sight.
-/
import Derived.KernelRfl
import Derived.Test.YtkcegdacbddipaaGreatProg
import Derived.Test.YtkcegdacbddipaaGreatM9
open BitVec renaming ofInt→aU,ofInt_natCast→ia,toNat_ofNat→jm,toNat_xor→EV
open Bool renaming and_eq_false_iff→k8,and_eq_true→aj,and_false→pg,and_true→qH,eq_false_iff→jM,eq_iff_iff→xD,false_and→I6,not_eq_true'→bp,not_not→Nn,or_eq_true→dh,true_and→dj
open Go.IntKind renaming bits→M9,i64→an,signed→IL,u8→cU,wrap→M8
open Go.Proofs.Tryz renaming prog→bu,underlying3→ES
open Int renaming emod_lt_of_pos→jl,emod_nonneg→jE,eq_ofNat_of_zero_le→vn,fdiv_eq_ediv_of_nonneg→iX,le_refl→fT,le_trans→Of,natCast_emod→wj,toNat→cP,toNat_natCast→jF
open List renaming all_append→G3,all_eq_false→oJ,all_eq_true→bq,any_eq_false→bK,any_eq_true→dV,append_assoc→b7,append_nil→cW,cons_append→gY,count_append→DV,count_pos_iff→n9,drop_eq_getElem_cons→dK,drop_of_length_le→gA,drop_succ_cons→iN,drop_zero→eV,ext_getElem→mA,filter_append→kD,filter_cons→E2,flatMap_append→fQ,foldl_append→dX,foldl_cons→cH,foldl_map→I0,foldl_nil→I1,forall_mem_cons→zl,getD_eq_getElem?_getD→ak,getElem?_append_right→bQ,getElem?_drop→cJ,getElem?_eq_getElem→au,getElem?_eq_some_iff→aI,getElem?_map→dN,getElem?_replicate→iq,getElem?_zipWith→pX,getElem_drop→DX,getElem_map→Fc,getElem_mem→ql,getElem_take→DW,getElem_zipWith→zD,length→aR,length_append→aX,length_cons→bY,length_drop→bM,length_eq_zero_iff→fC,length_filter_le→pY,length_map→bw,length_nil→gf,length_range→DT,length_replicate→jj,length_set→bH,length_singleton→kM,length_take→bL,length_zipWith→iO,map_append→eI,map_cons→cA,map_drop→LZ,map_map→pM,mem_append→aK,mem_cons→aW,mem_cons_of_mem→aJ,mem_cons_self→eg,mem_flatMap→jY,mem_iff_getElem→dx,mem_iff_getElem?→kZ,mem_map→cj,mem_of_getElem?→dF,mem_of_mem_drop→lW,mem_or_eq_of_mem_set→gK,mem_range→bV,mem_replicate→s8,mem_singleton→aP,nil_append→eS,range→bA,range_succ→ep,replicate→ey,set_append_right→xy,sum_cons→vD,take_append_drop→jg,take_left'→ry,take_length→mz,take_of_length_le→aB,take_replicate→Ar,take_succ_cons→jP,take_zero→lZ,zipWith→dm
open Nat renaming add→iz,add_comm→xW,add_mul→cG,beq→bf,beq_refl→iA,ble→mm,div→za,eq_of_beq_eq_true→av,le_add_right→wg,le_refl→bh,le_trans→dY,lt_irrefl→LX,lt_succ_self→wh,min_eq_left→Hq,mod→pE,mod_eq_of_lt→jZ,mod_lt→CA,mul→vN,not_lt_zero→sE,sub→LY,sub_self→pO,succ→vM,xor→FQ,xor_assoc→Cu,xor_div_two→Hg,xor_self→EE,xor_zero→EF,zero_add→eE,zero_le→aA
open UInt8 renaming ofNat→dJ,toNat→QI,toNat_xor→G1,xor_assoc→fM,xor_comm→tJ,xor_self→I2,xor_zero→ke,zero_xor→gb
namespace Go.Proofs.YtkcegdacbddipaaGreat.G
set_option linter.all false
open Go.RowKit L D
section
theorem acG:(bu.info? 3).map (fun i=>(i.zero,i.size,i.bytes))=some (some (.int .i64 0),1,8):=by kernel_rfl
theorem acH:(bu.info? 5).map (fun i=>(i.zero,i.size,i.bytes))=some (some (.int .u8 0),1,1):=by kernel_rfl
theorem acI:(bu.info? 9).map (fun i=>(i.zero,i.size,i.bytes))=some (some (.string ⟨#[]⟩),1,16):=by kernel_rfl
theorem WS:(bu.info? 22).map (fun i=>(i.zero,i.size,i.bytes))=some (some (.slice none 0 0),1,24):=by kernel_rfl
theorem WT:(bu.info? 29).map (fun i=>(i.zero,i.size,i.bytes))=some (some (.slice none 0 0),1,24):=by kernel_rfl
theorem aen:(bu.info? 54).map (fun i=>(i.zero,i.size,i.bytes))=some (some (.slice none 0 0),1,24):=by kernel_rfl
theorem PS:(bu.info? 86).map (fun i=>(i.zero,i.size,i.bytes))=some (some (.agg #[.slice none 0 0]),1,24):=by kernel_rfl
theorem K3:(bu.info? 110).map (fun i=>(i.zero,i.size,i.bytes))=some (some (.agg #[.int .i64 0, .slice none 0 0]),2,32):=by kernel_rfl
theorem PT:(bu.info? 52).map (fun i=>(i.zero,i.size,i.bytes))=some (some (.agg #[.int .i64 0, .int .i64 0, .int .i64 0, .slice none 0 0, .int .i64 0]),5,56):=by kernel_rfl
theorem K4:(bu.info? 113).map (fun i=>(i.zero,i.size,i.bytes))=some (some (.agg #[.int .i64 0, .slice none 0 0]),2,32):=by kernel_rfl
theorem WU:(bu.info? 28).map (fun i=>(i.zero,i.size,i.bytes))=some (some (.agg #[.int .i64 0, .slice none 0 0]),2,32):=by kernel_rfl
theorem WV:(bu.info? 56).map (fun i=>(i.zero,i.size,i.bytes))=some (some (.agg #[.int .i64 0, .int .i64 0, .int .i64 0, .int .i64 0, .slice none 0 0, .int .i64 0, .slice none 0 0, .int .i64 0]),8,96):=by kernel_rfl
theorem PU:(bu.info? 58).map (fun i=>(i.zero,i.size,i.bytes))=some (some (.agg #[.int .i64 0, .int .i64 0, .int .i64 0, .int .i64 0, .slice none 0 0, .int .i64 0, .slice none 0 0, .int .i64 0, .int .i64 0, .int .i64 0, .int .i64 0, .int .i64 0, .slice none 0 0, .int .i64 0, .slice none 0 0, .int .i64 0]),16,192):=by kernel_rfl
theorem WW:(bu.info? 31).map (fun i=>(i.zero,i.size,i.bytes))=some (some (.agg #[.int .i64 0, .slice none 0 0, .slice none 0 0, .int .i64 0, .slice none 0 0, .int .i64 0, .int .i64 0, .int .i64 0, .slice none 0 0, .int .i64 0]),10,144):=by kernel_rfl
theorem K5:(bu.info? 120).map (fun i=>(i.zero,i.size,i.bytes))=some (some (.agg #[.int .i64 0, .int .i64 0, .int .i64 0, .int .i64 0, .int .i64 0]),5,40):=by kernel_rfl
theorem Rp:(bu.info? 143).map (fun i=>(i.zero,i.size,i.bytes))=some (some (.agg #[.int .i64 0, .slice none 0 0]),2,32):=by kernel_rfl
theorem K6:(bu.info? 131).map (fun i=>(i.zero,i.size,i.bytes))=some (some (.agg #[.int .i64 0, .int .i64 0, .slice none 0 0, .slice none 0 0, .int .i64 0]),5,72):=by kernel_rfl
theorem vT{P:Program}{i:Nat}{z:Option Value}{k b:Nat}(h:(P.info? i).map (fun i=>(i.zero,i.size,i.bytes))=some (z,k,b)):(P.info? i).map (·.size)=some k:=by
 cases hq:P.info? i with
 |none=>simp[hq]at h
 |some x=>simp[hq]at h;simp[h]
theorem aaG{P:Program}{i:Nat}{z:Option Value}{k b:Nat}(h:(P.info? i).map (fun i=>(i.zero,i.size,i.bytes))=some (z,k,b)):(P.info? i).map (fun i=>(i.size,i.zero))=some (k,z):=by
 cases hq:P.info? i with
 |none=>simp[hq]at h
 |some x=>simp[hq]at h;simp[h]
theorem xp{P:Program}{t:Nat}{z:List Value}{tg:List (Option Tag)}{fo:List Nat}{fs:Array Field}{b:Nat}(hu:P.underlying t=some (.struct fs))(hi:(P.info? t).map (fun i=>(i.zero,i.size,i.bytes))=some (some (.agg z.toArray),z.length,b))(hz:z.all (·.oneCell')=true)(hf:Ba P z.length fs.toList fo=true):fD P t (.st z tg fo):=
 ⟨fs,hu,aaG hi,fun v hv=>bq.1 hz v hv,fun f k h=>by obtain⟨fd,h1,h2⟩:=(w5 hf).1 f k h;exact⟨fd,by simpa using h1,h2⟩,(w5 hf).2⟩
theorem ju{P:Program}{i:Nat}(h:(P.info? i).map (fun i=>bf i.size 1)=some true):(P.info? i).map (·.size)=some 1:=by
 cases hq:P.info? i with
 |none=>simp[hq]at h
 |some x=>simp[hq]at h;simp[h]
def tys:List (Nat×TK):= [(3, .int .i64),
 (2, .int .i64),
 (21, .int .i32),
 (5, .int .u8),
 (214, .int .u32),
 (170, .int .u64),
 (12, .int .u64),
 (4, .bool),
 (9, .str),
 (86, .st [.slice none 0 0] [some (.sl .u8)] [0]),
 (110, .st [.int .i64 0, .slice none 0 0] [none,some (.sl .u8)] [0,1]),
 (52, .st [.int .i64 0, .int .i64 0, .int .i64 0, .slice none 0 0, .int .i64 0] [none,none,none,some .bC,none] [0,1,2,3,4]),
 (113, .st [.int .i64 0, .slice none 0 0] [none,some (.sl .u8)] [0,1]),
 (28, .st [.int .i64 0, .slice none 0 0] [none,some .bt] [0,1]),
 (56, .st [.int .i64 0, .int .i64 0, .int .i64 0, .int .i64 0, .slice none 0 0, .int .i64 0, .slice none 0 0, .int .i64 0] [none,none,none,none,some (.sl .u8),none,some (.sl .u8),none] [0,1,2,3,4,5,6,7]),
 (58, .st [.int .i64 0, .int .i64 0, .int .i64 0, .int .i64 0, .slice none 0 0, .int .i64 0, .slice none 0 0, .int .i64 0, .int .i64 0, .int .i64 0, .int .i64 0, .int .i64 0, .slice none 0 0, .int .i64 0, .slice none 0 0, .int .i64 0] [none,none,none,none,some (.sl .u8),none,some (.sl .u8),none,none,none,none,none,some (.sl .u8),none,some (.sl .u8),none] [0,8]),
 (31, .st [.int .i64 0, .slice none 0 0, .slice none 0 0, .int .i64 0, .slice none 0 0, .int .i64 0, .int .i64 0, .int .i64 0, .slice none 0 0, .int .i64 0] [none,some .cg,some .cD,none,some .bt,none,none,none,some .int,none] [0,1,2,3,5,6,7,8,9]),
 (120, .st [.int .i64 0, .int .i64 0, .int .i64 0, .int .i64 0, .int .i64 0] [none,none,none,none,none] [0,1,2,3,4]),
 (143, .st [.int .i64 0, .slice none 0 0] [none,some .u8] [0,1]),
 (131, .st [.int .i64 0, .int .i64 0, .slice none 0 0, .slice none 0 0, .int .i64 0] [none,none,some .int,some .u8,none] [0,1,2,3,4]),
 (29, .sl .int 3),
 (22, .sl .u8 5),
 (68, .sl .str 9),
 (54, .sl (.sl .u8) 22),
 (163, .sl (.sl .int) 29),
 (83, .sl .DB 86),
 (50, .sl .bC 110),
 (24, .sl .cg 52),
 (26, .sl .bt 113),
 (25, .sl .cD 58),
 (80, .sl .gB 120),
 (162, .sl .eN 131)]
def Γ(t:Nat):TK:=match look tys t with|some k=>k|none=> .other
def ty:Tag→Nat
 | .int=>3
 | .u8=>5
 | .str=>9
 | (.sl .u8)=>22
 | (.sl .int)=>29
 | (.sl (.sl .u8))=>54
 | .DB=>86
 | .bC=>110
 | .cg=>52
 | .bt=>113
 | .mj=>28
 | .gS=>56
 | .cD=>58
 | .cm=>31
 | .gB=>120
 | .Plain=>143
 | .eN=>131
 |_=>1000000000
theorem aeo:fD bu 3 (.int .i64):=ES
theorem aep:fD bu 2 (.int .i64):=Tryz.underlying2
theorem aaH:fD bu 21 (.int .i32):=Tryz.underlying21
theorem aer:fD bu 5 (.int .u8):=Tryz.underlying5
theorem WX:fD bu 214 (.int .u32):=Tryz.underlying214
theorem WY:fD bu 170 (.int .u64):=Tryz.underlying170
theorem aaI:fD bu 12 (.int .u64):=Tryz.underlying12
theorem aes:fD bu 4 (.bool):=Tryz.underlying4
theorem aet:fD bu 9 (.str):=Tryz.underlying9
theorem aaJ:fD bu 86 (.st [.slice none 0 0] [some (.sl .u8)] [0]):=xp Tryz.underlying86 PS rfl (by kernel_rfl)
theorem WZ:fD bu 110 (.st [.int .i64 0, .slice none 0 0] [none,some (.sl .u8)] [0,1]):=xp Tryz.underlying110 K3 rfl (by kernel_rfl)
theorem aaK:fD bu 52 (.st [.int .i64 0, .int .i64 0, .int .i64 0, .slice none 0 0, .int .i64 0] [none,none,none,some .bC,none] [0,1,2,3,4]):=xp Tryz.underlying52 PT rfl (by kernel_rfl)
theorem W0:fD bu 113 (.st [.int .i64 0, .slice none 0 0] [none,some (.sl .u8)] [0,1]):=xp Tryz.underlying113 K4 rfl (by kernel_rfl)
theorem aaL:fD bu 28 (.st [.int .i64 0, .slice none 0 0] [none,some .bt] [0,1]):=xp Tryz.underlying28 WU rfl (by kernel_rfl)
theorem aaM:fD bu 56 (.st [.int .i64 0, .int .i64 0, .int .i64 0, .int .i64 0, .slice none 0 0, .int .i64 0, .slice none 0 0, .int .i64 0] [none,none,none,none,some (.sl .u8),none,some (.sl .u8),none] [0,1,2,3,4,5,6,7]):=xp Tryz.underlying56 WV rfl (by kernel_rfl)
theorem aaN:fD bu 58 (.st [.int .i64 0, .int .i64 0, .int .i64 0, .int .i64 0, .slice none 0 0, .int .i64 0, .slice none 0 0, .int .i64 0, .int .i64 0, .int .i64 0, .int .i64 0, .int .i64 0, .slice none 0 0, .int .i64 0, .slice none 0 0, .int .i64 0] [none,none,none,none,some (.sl .u8),none,some (.sl .u8),none,none,none,none,none,some (.sl .u8),none,some (.sl .u8),none] [0,8]):=xp Tryz.underlying58 PU rfl (by kernel_rfl)
theorem aaO:fD bu 31 (.st [.int .i64 0, .slice none 0 0, .slice none 0 0, .int .i64 0, .slice none 0 0, .int .i64 0, .int .i64 0, .int .i64 0, .slice none 0 0, .int .i64 0] [none,some .cg,some .cD,none,some .bt,none,none,none,some .int,none] [0,1,2,3,5,6,7,8,9]):=xp Tryz.underlying31 WW rfl (by kernel_rfl)
theorem W1:fD bu 120 (.st [.int .i64 0, .int .i64 0, .int .i64 0, .int .i64 0, .int .i64 0] [none,none,none,none,none] [0,1,2,3,4]):=xp Tryz.underlying120 K5 rfl (by kernel_rfl)
theorem W2:fD bu 143 (.st [.int .i64 0, .slice none 0 0] [none,some .u8] [0,1]):=xp Tryz.underlying143 Rp rfl (by kernel_rfl)
theorem W3:fD bu 131 (.st [.int .i64 0, .int .i64 0, .slice none 0 0, .slice none 0 0, .int .i64 0] [none,none,some .int,some .u8,none] [0,1,2,3,4]):=xp Tryz.underlying131 K6 rfl (by kernel_rfl)
theorem aaP:fD bu 29 (.sl .int 3):=⟨Tryz.underlying29,vT acG⟩
theorem aaQ:fD bu 22 (.sl .u8 5):=⟨Tryz.underlying22,vT acH⟩
theorem aaR:fD bu 68 (.sl .str 9):=⟨Tryz.underlying68,vT acI⟩
theorem aaS:fD bu 54 (.sl (.sl .u8) 22):=⟨Tryz.underlying54,vT WS⟩
theorem W4:fD bu 163 (.sl (.sl .int) 29):=⟨Tryz.underlying163,vT WT⟩
theorem aaT:fD bu 83 (.sl .DB 86):=⟨Tryz.underlying83,vT PS⟩
theorem aaU:fD bu 50 (.sl .bC 110):=⟨Tryz.underlying50,vT K3⟩
theorem aaV:fD bu 24 (.sl .cg 52):=⟨Tryz.underlying24,vT PT⟩
theorem aaW:fD bu 26 (.sl .bt 113):=⟨Tryz.underlying26,vT K4⟩
theorem aaX:fD bu 25 (.sl .cD 58):=⟨Tryz.underlying25,vT PU⟩
theorem aaY:fD bu 80 (.sl .gB 120):=⟨Tryz.underlying80,vT K5⟩
theorem W5:fD bu 162 (.sl .eN 131):=⟨Tryz.underlying162,vT K6⟩
set_option maxRecDepth 100000 in
theorem kinds: ∀e,e∈tys→fD bu e.1 e.2:=by
 simp only[tys,zl]
 exact⟨aeo,aep,aaH,aer,WX,WY,aaI,aes,aet,aaJ,WZ,aaK,W0,aaL,aaM,aaN,aaO,W1,W2,W3,aaP,aaQ,aaR,aaS,W4,aaT,aaU,aaV,aaW,aaX,aaY,W5,by simp⟩
set_option maxRecDepth 100000 in
theorem agY: ∀e,e∈tys→(∀z tg fo,e.2≠ .st z tg fo)→(bu.info? e.1).map (·.size)=some 1:=by
 simp only[tys,zl]
 refine⟨fun _=>ju (by kernel_rfl),fun _=>ju (by kernel_rfl),fun _=>ju (by kernel_rfl),fun _=>ju (by kernel_rfl),fun _=>ju (by kernel_rfl),fun _=>ju (by kernel_rfl),fun _=>ju (by kernel_rfl),fun _=>ju (by kernel_rfl),fun _=>ju (by kernel_rfl),fun h=>absurd rfl (h _ _ _),fun h=>absurd rfl (h _ _ _),fun h=>absurd rfl (h _ _ _),fun h=>absurd rfl (h _ _ _),fun h=>absurd rfl (h _ _ _),fun h=>absurd rfl (h _ _ _),fun h=>absurd rfl (h _ _ _),fun h=>absurd rfl (h _ _ _),fun h=>absurd rfl (h _ _ _),fun h=>absurd rfl (h _ _ _),fun h=>absurd rfl (h _ _ _),fun _=>ju (by kernel_rfl),fun _=>ju (by kernel_rfl),fun _=>ju (by kernel_rfl),fun _=>ju (by kernel_rfl),fun _=>ju (by kernel_rfl),fun _=>ju (by kernel_rfl),fun _=>ju (by kernel_rfl),fun _=>ju (by kernel_rfl),fun _=>ju (by kernel_rfl),fun _=>ju (by kernel_rfl),fun _=>ju (by kernel_rfl),fun _=>ju (by kernel_rfl),by simp⟩
theorem X:Ctx bu ty Γ where
 kind:=fun t=>by
  unfold Γ
  split
  ·rename_i k hk;exact kinds (t,k) (gM hk)
  ·trivial
 one:=fun t h1 h2=>by
  unfold Γ at h1 h2
  split at h1
  ·rename_i k hk;exact agY (t,k) (gM hk) h1
  ·rename_i hk;rw[hk]at h2;exact absurd rfl h2
theorem cB(t:Tag)(h:ty t<1000000000):El bu ty t:=by
 unfold ty at h
 split at h
 ·exact acG
 ·exact acH
 ·exact acI
 ·exact WS
 ·exact WT
 ·exact aen
 ·exact PS
 ·exact K3
 ·exact PT
 ·exact K4
 ·exact WU
 ·exact WV
 ·exact PU
 ·exact WW
 ·exact K5
 ·exact Rp
 ·exact K6
 ·exact absurd h (by decide)
abbrev So:=Sound ty bu
end
section
theorem MO:bu.follows .mixedOrders=true:=by kernel_rfl
theorem nb:(∀(p:Prop) [Decidable p],(decide p=true)=p)∧(∀(p:Prop) [Decidable p],(decide p=false)= ¬p)∧(∀b:Bool,((!b)=true)=(b=false))∧(∀b:Bool,((!b)=false)=(b=true))∧
  (∀(α:Type) [BEq α] [LawfulBEq α] (a b:α),((a==b)=true)=(a=b))∧(∀(α:Type) [BEq α] [LawfulBEq α] (a b:α),((a !=b)=true)=(¬a=b))∧(∀(α:Type) [BEq α] [LawfulBEq α] (a b:α),((a==b)=false)=(¬a=b))∧(∀(α:Type) [BEq α] [LawfulBEq α] (a b:α),((a !=b)=false)=(a=b))∧
  (∀(α:Type) (a b:α),(a≠b)= ¬a=b)∧(∀a b:Int,(a>b)=(b<a))∧(∀a b:Int,(a≥b)=(b≤a))∧(∀a b:Nat,(a>b)=(b<a))∧(∀a b:Nat,(a≥b)=(b≤a))∧(∀a b:Int,(¬a<b)=(b≤a))∧(∀a b:Int,(¬a≤b)=(b<a))∧
  (∀(p:Prop) [Decidable p],(¬ ¬p)=p)∧(∀n:Nat,(n:Int).toNat=n)∧(∀m n:Nat,((m:Int)<n)=(m<n))∧(∀m n:Nat,((m:Int)≤n)=(m≤n))∧(∀a b:Nat,(¬a<b)=(b≤a))∧(∀a b:Nat,(¬a≤b)=(b<a))∧
  (∀(p:Prop) [Decidable p] (b:Bool),(if p then b else false)=(decide p&&b))∧(∀(p:Prop) [Decidable p] (b:Bool),(if p then true else b)=(decide p||b))∧(∀(p:Prop) [Decidable p] (b:Bool),(if p then false else b)=(!decide p&&b))∧(∀(p:Prop) [Decidable p] (b:Bool),(if p then b else true)=(!decide p||b))∧
  (∀a b:Bool,((a&&b)=true)=(a=true∧b=true))∧(∀a b:Bool,((a||b)=true)=(a=true∨b=true))∧(∀a b:Bool,((a&&b)=false)=(a=false∨b=false))∧(∀a b:Bool,((a||b)=false)=(a=false∧b=false))∧(∀(b:Bool),decide (b=true)=b):=by
 refine⟨by simp,by simp,by simp,by simp,fun _ _ _ a b=>propext beq_iff_eq,fun _ _ _ a b=>propext bne_iff_ne,fun _ _ _ a b=>propext beq_eq_false_iff_ne,fun _ _ _ a b=>propext bne_eq_false_iff_eq,by simp,by simp,by simp,by simp,by simp,by simp,by simp,by simp,by simp,by simp,by simp,by simp,by simp,by simp,by simp,by simp,by simp,by simp,by simp,by simp,by simp,by simp⟩
theorem lens:(∀n:Nat,(n:Int).toNat=n)∧(∀(α:Type) (a b:List α),(a++b).length=a.length+b.length)∧(∀(α:Type) (a:α),[a].length=1)∧(∀(α:Type) (a:α) (l:List α),(a::l).length=l.length+1)∧(∀(α:Type),([]:List α).length=0)∧(∀(α:Type) (n:Nat) (a:α),(ey n a).length=n)∧
  (∀(α:Type) (l:List α) (n:Nat) (a:α),(l.set n a).length=l.length)∧(∀(α β:Type) (f:α→β) (l:List α),(l.map f).length=l.length)∧(∀(α:Type) (l:List α) (n:Nat),(l.take n).length=min n l.length)∧(∀(α:Type) (l:List α) (n:Nat),(l.drop n).length=l.length-n)∧(∀n:Nat,(bA n).length=n):=by
 refine⟨by simp,by simp,by simp,by simp,by simp,by simp,by simp,by simp,by simp,by simp,by simp⟩
theorem bS{p:Prop}{l:List Prop}(h:p)(k:qI l):qI (p::l):=⟨h,k⟩
theorem bF:qI []:=True.intro
theorem cI{α:Type}(l:List α)(k:Nat)(d:α)(h:k<l.length):l.take (k+1)=l.take k++ [l.getD k d]:=by
 rw[List.take_add_one,ak,au h];rfl
theorem cX(a:Int)(n:Nat)(h:a=n)(h2:n<9223372036854775807):an.wrap (a+1)=((n+1:Nat):Int):=by
 subst h;rw[IntWalk.i64_in _ (by omega)];omega
theorem W6{P:Program}{ty:Tag→Nat}{f:FuncId}{xs:List S1}{v:Value}(h:Sound ty P f xs [.a (.lit v)]){w:World}{us:List Value}(ha:cO (Kv w) xs us)(hA:Ko w:=by first|assumption|exact trivial):Calls P f us.toArray w (ab6 w v):=by
 refine(h.2 w us hA ha).mono ?_
 rintro e w' ⟨u,fp,rfl,hb,_,f1,f2,⟨rfl,_⟩,_⟩
 exact⟨rfl,hb⟩
theorem eO{P:Program}{ty:Tag→Nat}{w0:eJ}{c:Code}{Q:Post}{st:St}(d:Nat){t:Tag}{l:List (T t)}(h:look st.sl d=some (.one (.a (.sl t l))))(k:l.length≤9223372036854775807→W P ty w0 c Q st):W P ty w0 c Q st:=by
 intro a w iv
 obtain⟨env,g⟩:=iv.good
 obtain⟨fp,⟨oa,cap,_,h1,h2,_⟩,_⟩:=g.slot d _ h
 have e:maxLen=9223372036854775807:=by decide
 exact k (by omega) a w iv
theorem dn{P:Program}{ty:Tag→Nat}{w0:eJ}{c:Code}{Q:Post}{st:St}(d i:Nat){cs:List V}{t:Tag}{l:List (T t)}(h:look st.sl d=some (.one (.agg cs)))(hc:cs[i]? =some (.sl t l))(k:l.length≤9223372036854775807→W P ty w0 c Q st):W P ty w0 c Q st:=by
 intro a w iv
 obtain⟨env,g⟩:=iv.good
 obtain⟨us,_,hr⟩:=g.slot d _ h
 obtain⟨u,_,fp,⟨oa,cap,_,h1,h2,_⟩,_⟩:=hr.at hc
 have e:maxLen=9223372036854775807:=by decide
 exact k (by omega) a w iv
theorem vl{α:Type} [DecidableEq α](a b:List α)(d:α)(k:Nat)(ha:k<a.length)(hb:k<b.length)(h:a.take k=b.take k)(he:a.getD k d=b.getD k d):a.take (k+1)=b.take (k+1):=by
 rw[cI a k d ha,cI b k d hb,h,he]
theorem Aj{α:Type} [BEq α] [LawfulBEq α](a b:List α)(d:α)(k:Nat)(he:a.getD k d≠b.getD k d):(a==b)=false:=by
 rw[beq_eq_false_iff_ne];rintro rfl;exact he rfl
theorem Ak{α:Type} [BEq α] [LawfulBEq α](a b:List α)(k:Nat)(hk:k=a.length)(hl:a.length=b.length)(h:a.take k=b.take k):(a==b)=true:=by
 rw[aB (by omega),aB (by omega)]at h
 rw[h];simp
theorem C2{α:Type} [BEq α] [LawfulBEq α](a b:List α)(hl:(a.length:Int)≠b.length):(a==b)=false:=by
 rw[beq_eq_false_iff_ne];rintro rfl;exact hl rfl
theorem W7{x y:UInt8}(h:(x.toNat:Int)=y.toNat):x=y:=by
 have:x.toNat=y.toNat:=by omega
 exact UInt8.toNat_inj.1 this
end
section
theorem W9{α:Type}(f:α→Nat)(l:List α)(d:α)(k:Nat)(h:k<l.length):((l.take (k+1)).map f).sum=((l.take k).map f).sum+f (l.getD k d):=
 Mh l f k _ (by rw[ak,au h];rfl)
theorem aaZ(x:UInt8):dJ (cP ((x.toNat:Nat):Int))=x:=by simp
theorem qo(n:Int):0≤cU.wrap n∧cU.wrap n<256:=by
 unfold M8
 simp only[IL,M9]
 simp
 omega
theorem PV(x:UInt8):0≤((x.toNat:Nat):Int)∧((x.toNat:Nat):Int)<256:=by
 have:=x.toNat_lt
 omega
theorem agZ(n:Int):(((dJ (cU.wrap n).toNat).toNat:Nat):Int)=cU.wrap n:=by
 have h:=qo n
 generalize cU.wrap n=m at h
 simp
 omega
section
variable{α:Type}{mk:Int→α→α}{mn:α→Nat}
end
end
section
theorem dA{a:Int}(h: -9223372036854775808≤a∧a≤9223372036854775807):an.wrap a=a:=IntWalk.i64_in _ (by omega)
theorem K7(n:Int):cU.wrap n=n % 256:=by
 unfold M8
 simp only[IL,M9]
 simp
def b8(n:Int):UInt8:=dJ (cU.wrap n).toNat
theorem pS(n:Int):((b8 n).toNat:Int)=n % 256:=by unfold b8;rw[agZ,K7]
theorem K8{x y:UInt8}(h:(x.toNat:Int)=y.toNat):x=y:=W7 h
theorem ofNat_toNat(n:Int)(h0:0≤n)(h1:n<256):((dJ n.toNat).toNat:Int)=n:=by
 simp;omega
theorem ofNat_eq{n:Int}{x:UInt8}(h0:0≤n)(h1:n<256)(h:n=x.toNat):dJ n.toNat=x:=by
 apply K8;rw[ofNat_toNat n h0 h1,h]
theorem xq{a b:Int}(h:a % 256=b % 256):b8 a=b8 b:=by
 apply K8;rw[pS,pS,h]
theorem aa0(x:UInt8):b8 x.toNat=x:=by
 apply K8;rw[pS];have:=x.toNat_lt;omega
theorem gh{a b:Int}(h:0≤a):a.tmod b=a % b:=Int.tmod_eq_emod_of_nonneg h
theorem BD{a b:Int}(h:0≤a):a.tdiv b=a/b:=Int.tdiv_eq_ediv_of_nonneg h
theorem md_eq(p q:Int)(h1:1≤q)(h2:q≤1000000000000):(an.wrap (p.tmod q+q)).tmod q=p % q:=by
 have hb: -q<p.tmod q∧p.tmod q<q:=⟨Int.lt_tmod_of_pos p (by omega),Int.tmod_lt_of_pos p (by omega)⟩
 rw[dA (by omega),gh (by omega),Int.add_emod_right]
 rcases Int.le_total 0 p with h|h
 ·rw[gh h,Int.emod_emod_of_dvd _ (Int.dvd_refl q)]
 ·have e:p.tmod q=p-q*p.tdiv q:=by have:=Int.tmod_add_mul_tdiv p q;omega
  rw[e,Int.sub_mul_emod_self_left]
def hs1(h v:Int):Int:=(h*1000003+v % 2147483647+13)% 2147483647
def hsh(l:List Int):Int:=l.foldl hs1 11
def kh(k:Int)(l:List Int):Int:=hsh (k::(l++ [k]))
theorem T3(h v:Int):0≤hs1 h v∧hs1 h v<2147483647:=⟨jE _ (by decide),jl _ (by decide)⟩
theorem vm{α β:Type}(f:β→α→β)(b:β)(l:List α)(k:Nat)(d:α)(h:k<l.length):(l.take (k+1)).foldl f b=f ((l.take k).foldl f b) (l.getD k d):=by
 rw[cI l k d h,dX];rfl
theorem C3: ∀l:List Int,0≤hsh l∧hsh l<2147483647:=by
 have g: ∀(l:List Int) (a:Int),(0≤a∧a<2147483647)→0≤l.foldl hs1 a∧l.foldl hs1 a<2147483647:=by
  intro l
  induction l with
  |nil=>intro a h;exact h
  |cons x r ih=>intro a _;exact ih _ (T3 a x)
 exact fun l=>g l 11 (by decide)
theorem fW(k:Int)(l:List Int):0≤kh k l∧kh k l<2147483647:=C3 _
theorem aeu{h v:Int}(h0:0≤h)(h1:h<2147483647):(an.wrap (an.wrap (an.wrap (h*1000003)+v % 2147483647)+13)).tmod 2147483647=hs1 h v:=by
 have hv:0≤v % 2147483647∧v % 2147483647<2147483647:=⟨jE _ (by decide),jl _ (by decide)⟩
 rw[dA (a:=h*1000003) (by omega),dA (a:=h*1000003+v % 2147483647) (by omega),dA (by omega),gh (by omega)]
 rfl
def Ej(n:Int):Int:=if n=0 then 1 else n
theorem Fv{n:Int}(h:0≤n):(if n>1 then n else 1)=Ej n:=by
 unfold Ej;split<;>split<;>omega
theorem yR{n:Int}(h:0≤n∧n<2147483647):1≤Ej n∧Ej n<2147483647:=by unfold Ej;split<;>omega
theorem ag0{h:Int}(h0:0≤h)(h1:h<2147483647):0≤h*h∧h*h≤4611686009837453316:=by
 have:=Int.mul_le_mul (show h≤2147483646 by omega) (show h≤2147483646 by omega) h0 (by decide)
 exact⟨Int.mul_nonneg h0 h0,by omega⟩
def cs(s k:Int):Int:=(kh s [47,k]*kh s [47,k]+5)% 2147483647
theorem xu(s k:Int):0≤cs s k∧cs s k<2147483647:=⟨jE _ (by decide),jl _ (by decide)⟩
theorem cs_eq{h:Int}(h0:0≤h)(h1:h<2147483647):(an.wrap (an.wrap (h*h)+5)).tmod 2147483647=(h*h+5)% 2147483647:=by
 have:=ag0 h0 h1
 rw[dA (a:=h*h) (by omega),dA (by omega),gh (by omega)]
theorem ajr{x:Int}(h:0≤x):an.wrap (aU an.bits x&&&aU an.bits 1).toNat=x % 2:=by
 obtain⟨n,rfl⟩:=vn h
 have e:(aU an.bits (n:Int)&&&aU an.bits 1).toNat=n % 2:=by
  rw[BitVec.toNat_and]
  have h1:(aU an.bits 1).toNat=1:=by decide
  have h2:(aU an.bits (n:Int)).toNat=n % 2^64:=by
   rw[ia,jm];rfl
  rw[h1,h2,Nat.and_one_is_mod]
  omega
 rw[e,dA (by omega)]
 omega
def rsb(h:Int):Int:=h*h % 2147483647/512 % 2
theorem aev{h:Int}(h0:0≤h)(h1:h<2147483647):an.wrap (aU an.bits (((an.wrap (h*h)).tmod 2147483647).fdiv (2^(min (cP 9) an.bits)))&&&aU an.bits 1).toNat=rsb h:=by
 have:=ag0 h0 h1
 have e:(2:Int)^(min (cP 9) an.bits)=512:=by decide
 rw[dA (a:=h*h) (by omega),gh (by omega),e,iX _ (by decide)]
 have hm:0≤h*h % 2147483647:=jE _ (by decide)
 rw[ajr (by omega)]
 rfl
theorem T4(h:Int):rsb h=0∨rsb h=1:=by unfold rsb;omega
def fk:List UInt8→List UInt8→List UInt8
 | [],b=>b
 |a,[]=>a
 |x::a,y::b=>(x^^^y)::fk a b
theorem kP(a:List UInt8):fk a []=a:=by cases a<;>rfl
theorem o9(a:List UInt8):fk [] a=a:=by cases a<;>rfl
theorem eF: ∀a b:List UInt8,(fk a b).length=max a.length b.length
 | [],b=>by simp[fk]
 |x::a,[]=>by simp[fk]
 |x::a,y::b=>by simp[fk,eF a b]
theorem JB: ∀a b:List UInt8,fk a b=fk b a
 | [],b=>by rw[o9,kP]
 |x::a,[]=>by rw[o9,kP]
 |x::a,y::b=>by rw[fk,fk,JB a b,tJ]
theorem Xa(x y:UInt8):dJ (cU.wrap ((aU cU.bits (x.toNat:Int)^^^aU cU.bits (y.toNat:Int)).toNat:Int)).toNat=x^^^y:=by
 have h:(aU cU.bits (x.toNat:Int)^^^aU cU.bits (y.toNat:Int)).toNat=(x^^^y).toNat:=by
  rw[ia,ia,EV,jm,jm,G1]
  have hx:=x.toNat_lt
  have hy:=y.toNat_lt
  show x.toNat % 2^8^^^y.toNat % 2^8=_
  rw[jZ (by omega),jZ (by omega)]
 rw[h,K7]
 apply ofNat_eq<;>have:=(x^^^y).toNat_lt<;>omega
def uN(l:List UInt8)(i:Nat):UInt8:=l.getD i 0
theorem ug: ∀(a b:List UInt8) (k:Nat),k<max a.length b.length→(fk a b).take (k+1)=(fk a b).take k++ [uN a k^^^uN b k]
 | [],b,k,h=>by
   rw[o9,cI b k 0 (by simpa using h)]
   simp[uN]
 |x::a,[],k,h=>by
  rw[kP,cI (x::a) k 0 (by simpa using h)]
  simp[uN]
 |x::a,y::b,0,h=>by simp[fk,uN]
 |x::a,y::b,k+1,h=>by
  rw[fk,jP,jP,ug a b k (by simp at h;omega)]
  simp[uN]
theorem oH{α:Type}(l:List α)(k:Nat)(d:α)(h:k<l.length):l.drop k=l.getD k d::l.drop (k+1):=by
 rw[dK h,ak,au h];rfl
theorem xw{α:Type}(f l:List α)(k:Nat)(d y:α)(h:k<l.length)(hf:k<f.length)(hy:f.getD k d=y):(f.take k++l.drop k).set k y=f.take (k+1)++l.drop (k+1):=by
 have hk:(f.take k).length=k:=by rw[bL];omega
 rw[xy _ _ (by omega),hk,pO,oH l k d h,List.set_cons_zero,cI f k d hf,b7,hy]
 rfl
theorem nC{α:Type}(f l:List α)(k:Nat)(d:α)(hf:k≤f.length):(f.take k++l.drop k).getD k d=l.getD k d:=by
 have hk:(f.take k).length=k:=by rw[bL];omega
 rw[ak,bQ (by omega),hk,pO,cJ,ak,Nat.add_zero]
theorem nD{α:Type}(f l:List α)(k:Nat)(hf:f.length=l.length)(h:k≤l.length):(f.take k++l.drop k).length=l.length:=by
 rw[aX,bL,bM];omega
theorem pT{α β:Type}(f:α→β)(l:List α)(k:Nat)(d:α)(h:k<l.length):(l.take (k+1)).map f=(l.take k).map f++ [f (l.getD k d)]:=by
 rw[cI l k d h,eI];rfl
theorem Al{β:Type}(f:Nat→β)(k:Nat):(bA (k+1)).map f=(bA k).map f++ [f k]:=by
 rw[ep,eI];rfl
theorem G2{α:Type}(p:α→Bool)(l:List α)(k:Nat)(d:α)(h:k<l.length):(l.take (k+1)).all p=((l.take k).all p&&p (l.getD k d)):=by
 rw[cI l k d h,G3];simp
theorem Xb{α:Type}(p:α→Bool)(l:List α)(k:Nat)(d:α)(h:k<l.length):(l.take (k+1)).any p=((l.take k).any p||p (l.getD k d)):=by
 rw[cI l k d h,List.any_append];simp
theorem Fw{α:Type}(l:List α)(p:α→Bool)(d:α)(k:Nat)(h:k<l.length)(h2:p (l.getD k d)=true):l.any p=true:=by
 rw[dV]
 refine⟨l.getD k d,?_,h2⟩
 rw[ak,au h];simp
theorem PW{α:Type}(l:List α)(p:α→Bool)(d:α)(k:Nat)(h:k<l.length)(h2:p (l.getD k d)=false):l.all p=false:=by
 rw[oJ]
 refine⟨l.getD k d,?_,by rw[h2];decide⟩
 rw[ak,au h];simp
theorem PX{α:Type}(l:List α)(k:Nat)(d:α)(h:k<l.length):l[k]? =some (l.getD k d):=by
 rw[ak,au h];rfl
theorem ct{α:Type}(l:List α)(k:Nat):(l.take k).length≤k:=by rw[bL];omega
def inr(x lo hi:Int):Bool:=if decide (x≥lo)then decide (x≤hi)else false
theorem dD{x lo hi:Int}:(inr x lo hi=true)=(lo≤x∧x≤hi):=by simp[inr]
theorem acL{x lo hi:Int}:(inr x lo hi=false)= ¬(lo≤x∧x≤hi):=by rw[←dD];simp
theorem T5{α:Type}{l:List α}:(l.isEmpty=true)=(l= []):=by simp
theorem bW:((∀(p:Prop) [Decidable p],(decide p=true)=p)∧(∀(p:Prop) [Decidable p],(decide p=false)= ¬p)∧(∀b:Bool,((!b)=true)=(b=false))∧(∀b:Bool,((!b)=false)=(b=true))∧(∀(α:Type) [BEq α] [LawfulBEq α] (a b:α),((a==b)=true)=(a=b))∧(∀(α:Type) [BEq α] [LawfulBEq α] (a b:α),((a !=b)=true)=(¬a=b))∧(∀(α:Type) [BEq α] [LawfulBEq α] (a b:α),((a==b)=false)=(¬a=b))∧(∀(α:Type) [BEq α] [LawfulBEq α] (a b:α),((a !=b)=false)=(a=b))∧(∀(α:Type) (a b:α),(a≠b)= ¬a=b)∧(∀a b:Int,(a>b)=(b<a))∧(∀a b:Int,(a≥b)=(b≤a))∧(∀a b:Nat,(a>b)=(b<a))∧(∀a b:Nat,(a≥b)=(b≤a))∧(∀a b:Int,(¬a<b)=(b≤a))∧(∀a b:Int,(¬a≤b)=(b<a))∧(∀(p:Prop) [Decidable p],(¬ ¬p)=p)∧(∀n:Nat,(n:Int).toNat=n)∧(∀m n:Nat,((m:Int)<n)=(m<n))∧(∀m n:Nat,((m:Int)≤n)=(m≤n))∧(∀a b:Nat,(¬a<b)=(b≤a))∧(∀a b:Nat,(¬a≤b)=(b<a))∧(∀(p:Prop) [Decidable p] (b:Bool),(if p then b else false)=(decide p&&b))∧(∀(p:Prop) [Decidable p] (b:Bool),(if p then true else b)=(decide p||b))∧(∀(p:Prop) [Decidable p] (b:Bool),(if p then false else b)=(!decide p&&b))∧(∀(p:Prop) [Decidable p] (b:Bool),(if p then b else true)=(!decide p||b))∧(∀a b:Bool,((a&&b)=true)=(a=true∧b=true))∧(∀a b:Bool,((a||b)=true)=(a=true∨b=true))∧(∀a b:Bool,((a&&b)=false)=(a=false∨b=false))∧(∀a b:Bool,((a||b)=false)=(a=false∧b=false))∧(∀(b:Bool),decide (b=true)=b))∧(∀x lo hi:Int,(inr x lo hi=true)=(lo≤x∧x≤hi))∧(∀x lo hi:Int,(inr x lo hi=false)= ¬(lo≤x∧x≤hi))∧(∀(α:Type) (l:List α),(l.isEmpty=true)=(l= [])):=⟨nb,fun _ _ _=>dD,fun _ _ _=>acL,fun _ _=>T5⟩
theorem Nb(l:List Int)(k:Nat)(h:k<l.length):hsh (l.take (k+1))=(an.wrap (an.wrap (an.wrap (hsh (l.take k)*1000003)+(l.getD k (aO .int))% 2147483647)+13)).tmod 2147483647:=by
 rw[aeu (C3 _).1 (C3 _).2]
 exact vm hs1 11 l k _ h
def Iw(l:List UInt8):List Int:=(l.length:Int)::l.map fun c=>(c.toNat:Int)
theorem Nc(l:List UInt8)(k:Nat)(h:k<l.length):(l.length:Int)::(l.take (k+1)).map (fun c=>(c.toNat:Int))=((l.length:Int)::(l.take k).map (fun c=>(c.toNat:Int)))++ [an.wrap ((l.getD k (aO .u8)).toNat:Int)]:=by
 have:=(l.getD k (aO .u8)).toNat_lt
 rw[dA (by omega),pT (fun c:UInt8=>(c.toNat:Int)) l k (aO .u8) h]
 rfl
def stream(s:Int)(n:Nat):List UInt8:=(bA n).map fun i:Nat=>b8 (cs s (100+(i:Int))/256)
theorem gE(s:Int)(n:Nat):(stream s n).length=n:=by simp[stream]
theorem Ek(s:Int)(k:Nat)(h:k≤1000):stream s (k+1)=stream s k++ [dJ (cU.wrap (an.wrap ((cs s (an.wrap (100+(k:Int)))).tdiv 256))).toNat]:=by
 have h1:=xu s (100+(k:Int))
 rw[dA (a:=100+(k:Int)) (by omega),BD h1.1,dA (by omega)]
 exact Al (fun i:Nat=>b8 (cs s (100+(i:Int))/256)) k
theorem Nd{α:Type}(l:List (List α))(d:List α)(k:Nat)(h:k<l.length):((l.take (k+1)).map aR).sum=((l.take k).map aR).sum+(l.getD k d).length:=W9 aR l d k h
theorem K9{α:Type}(l:List (List α))(d:List α)(k:Nat)(h:k<l.length):(l.take (k+1)).flatten=(l.take k).flatten++l.getD k d:=by
 rw[cI l k d h,List.flatten_append];simp
theorem Em{α:Type}(l:List (List α))(k:Nat):(l.take k).flatten.length≤(l.map aR).sum:=by
 rw[List.length_flatten];exact pG l aR k
end
section
theorem vp{α:Type}(f l:List α)(k:Nat)(d y:α)(h:k<l.length)(hf:f.length=l.length)(hy:f.getD k d=y):f.take (k+1)++l.drop (k+1)=(f.take k++l.drop k).set k y:=(xw f l k d y h (by omega) hy).symm
theorem En{α:Type}(f:List α)(k:Nat)(d y:α)(h:k<f.length)(hy:f.getD k d=y):f.take (k+1)=f.take k++ [y]:=by rw[cI f k d h,hy]
theorem qJ{α:Type}(f l:List α)(k:Nat)(hf:f.length=l.length)(h:l.length≤k):f.take k++l.drop k=f:=by
 rw[aB (by omega),List.drop_eq_nil_of_le h,cW]
theorem gj{β:Type}(n:Nat)(g:Nat→β)(k:Nat)(d:β)(h:k<n):((bA n).map g).getD k d=g k:=by
 rw[ak,dN,List.getElem?_range h];rfl
def kQ(s:Int)(l:List UInt8):List UInt8:=(bA l.length).map fun i:Nat=>b8 ((l.getD i (aO .u8)).toNat+kh s [(i:Int)]% 256)
theorem gz(s:Int)(l:List UInt8):(kQ s l).length=l.length:=by simp[kQ]
theorem BF(s:Int)(l:List UInt8)(k:Nat)(h:k<l.length):(kQ s l).getD k (aO .u8)=b8 ((l.getD k (aO .u8)).toNat+kh s [(k:Int)]% 256):=gj _ _ k _ h
theorem T8(s:Int)(l:List UInt8)(k:Nat)(h:k<l.length):(kQ s l).take (k+1)++l.drop (k+1)=((kQ s l).take k++l.drop k).set k (dJ (cU.wrap ((((kQ s l).take k++l.drop k).getD k (aO .u8)).toNat+cU.wrap ((kh s [(k:Int)]).tmod 256))).toNat):=by
 refine vp _ _ k (aO .u8) _ h (gz s l) ?_
 rw[BF s l k h,nC _ _ _ _ (by rw[gz];omega)]
 refine xq ?_
 have:=fW s [(k:Int)]
 rw[K7 ((kh s [(k:Int)]).tmod 256),gh this.1]
 omega
theorem T9(s:Int)(l:List UInt8)(k:Nat)(h:k<l.length):(kQ s l).take (k+1)=(kQ s l).take k++ [dJ (cU.wrap ((an.wrap (an.wrap ((l.getD k (aO .u8)).toNat:Int)+(kh s [(k:Int)]).tmod 256)).tmod 256)).toNat]:=by
 refine En _ k (aO .u8) _ (by rw[gz];exact h) ?_
 rw[BF s l k h]
 refine xq ?_
 have:=fW s [(k:Int)]
 have hx:=(l.getD k (aO .u8)).toNat_lt
 rw[gh this.1,dA (a:=((l.getD k (aO .u8)).toNat:Int)) (by omega),dA (by omega),gh (by omega)]
 omega
def decr(s:Int)(l:List UInt8):List UInt8:=(bA l.length).map fun i:Nat=>b8 ((l.getD i (aO .u8)).toNat-kh s [(i:Int)]% 256)
theorem pU(s:Int)(l:List UInt8):(decr s l).length=l.length:=by simp[decr]
theorem G5(s:Int)(l:List UInt8)(k:Nat)(h:k<l.length):(decr s l).getD k (aO .u8)=b8 ((l.getD k (aO .u8)).toNat-kh s [(k:Int)]% 256):=gj _ _ k _ h
theorem Ua(s:Int)(l:List UInt8)(k:Nat)(h:k<l.length):(decr s l).take (k+1)++l.drop (k+1)=((decr s l).take k++l.drop k).set k (dJ (cU.wrap ((((decr s l).take k++l.drop k).getD k (aO .u8)).toNat-cU.wrap ((kh s [(k:Int)]).tmod 256))).toNat):=by
 refine vp _ _ k (aO .u8) _ h (pU s l) ?_
 rw[G5 s l k h,nC _ _ _ _ (by rw[pU];omega)]
 refine xq ?_
 have:=fW s [(k:Int)]
 rw[K7 ((kh s [(k:Int)]).tmod 256),gh this.1]
 omega
theorem Ub(s:Int)(l:List UInt8)(k:Nat)(h:k<l.length):(decr s l).take (k+1)=(decr s l).take k++ [dJ (cU.wrap ((an.wrap (an.wrap ((l.getD k (aO .u8)).toNat:Int)-(kh s [(k:Int)]).tmod 256))% 256)).toNat]:=by
 refine En _ k (aO .u8) _ (by rw[pU];exact h) ?_
 rw[G5 s l k h]
 refine xq ?_
 have:=fW s [(k:Int)]
 have hx:=(l.getD k (aO .u8)).toNat_lt
 rw[gh this.1,dA (a:=((l.getD k (aO .u8)).toNat:Int)) (by omega),dA (by omega)]
 omega
theorem Xf(a b:List UInt8)(k:Nat)(h:k<max a.length b.length):(fk a b).getD k (aO .u8)=a.getD k 0^^^b.getD k 0:=by
 have h1:=ug a b k h
 have h2:=cI (fk a b) k (aO .u8) (by rw[eF];exact h)
 rw[h1]at h2
 have:=List.append_inj_right h2 rfl
 simp only[List.cons.injEq,and_true]at this
 rw[←this];rfl
theorem Nk(p q:List UInt8)(k:Nat)(h:k<q.length)(hl:q.length≤p.length):(fk p q).take (k+1)++p.drop (k+1)=((fk p q).take k++p.drop k).set k (dJ (cU.wrap ((aU cU.bits ((((fk p q).take k++p.drop k).getD k (aO .u8)).toNat:Int)^^^aU cU.bits ((q.getD k (aO .u8)).toNat:Int)).toNat:Int)).toNat):=by
 refine vp _ _ k (aO .u8) _ (by omega) (by rw[eF];omega) ?_
 rw[Xf p q k (by omega),nC _ _ _ _ (by rw[eF];omega),Xa]
 rfl
theorem Nl(p q:List UInt8)(k:Nat)(h:q.length≤k)(hl:q.length≤p.length)(hk:k≤q.length):(fk p q).take k++p.drop k=fk p q:=by
 have hk:k=q.length:=by omega
 subst hk
 have key: ∀p q:List UInt8,q.length≤p.length→(fk p q).take q.length++p.drop q.length=fk p q:=by
  intro p
  induction p with
  |nil=>intro q h;cases q with|nil=>rfl|cons _ _=>simp at h
  |cons x p ih=>intro q h;cases q with
   |nil=>rw[kP];rfl
   |cons y q=>simp only[fk,bY,jP,iN,gY];rw[ih q (by simpa using h)]
 exact key p q hl
theorem aey(a b:List UInt8)(k:Nat)(ha:k<a.length)(hb:k<b.length):(fk a b).take (k+1)=(fk a b).take k++ [dJ (cU.wrap ((aU cU.bits ((a.getD k (aO .u8)).toNat:Int)^^^aU cU.bits ((b.getD k (aO .u8)).toNat:Int)).toNat:Int)).toNat]:=by
 rw[ug a b k (by omega),Xa];rfl
theorem G6{α:Type}(l:List α)(k:Nat)(d:α)(h:l.length≤k):l.getD k d=d:=by
 rw[ak,List.getElem?_eq_none h];rfl
theorem ag4(a b:List UInt8)(k:Nat)(ha:k<a.length)(hb:b.length≤k):(fk a b).take (k+1)=(fk a b).take k++ [dJ (((a.getD k (aO .u8)).toNat:Int)).toNat]:=by
 rw[ug a b k (by omega),aaZ]
 have:uN b k=0:=G6 b k 0 hb
 rw[this];simp;rfl
theorem ag5(a b:List UInt8)(k:Nat)(ha:a.length≤k)(hb:k<b.length):(fk a b).take (k+1)=(fk a b).take k++ [dJ (cU.wrap ((aU cU.bits (0:Int)^^^aU cU.bits ((b.getD k (aO .u8)).toNat:Int)).toNat:Int)).toNat]:=by
 rw[ug a b k (by omega)]
 have:uN a k=0:=G6 a k 0 ha
 rw[this]
 have:=Xa 0 (b.getD k (aO .u8))
 rw[show((0:UInt8).toNat:Int)=0 from rfl]at this
 rw[this];rfl
theorem Xg{l:List (List UInt8)}(h:ga aR l≤1048576)(k:Nat)(hk:k<l.length):(l.getD k (aO (.sl .u8))).length≤1048576:=o7 h (PX l k _ hk)
def iw(key round dir rows:Int):Int:=if(1≤rows∧rows≤64)∧0≤round∧round≤1000000000000 then cs (kh key [79,round,dir]) 0 % rows else-1
def Am(seed round rows:Int):Int:=if 1≤rows∧rows≤64 then cs (kh seed [157,round]) 0 % rows else-1
def kR(key counter:Int)(data:List UInt8):Int:=kh key ([71,counter]++data.map fun c=>(c.toNat:Int))
theorem RL(l:List UInt8)(counter:Int)(k:Nat)(h:k<l.length): [71,counter]++(l.take (k+1)).map (fun c=>(c.toNat:Int))=([71,counter]++(l.take k).map (fun c=>(c.toNat:Int)))++ [an.wrap ((l.getD k (aO .u8)).toNat:Int)]:=by
 have:=(l.getD k (aO .u8)).toNat_lt
 rw[dA (by omega),pT (fun c:UInt8=>(c.toNat:Int)) l k (aO .u8) h,b7]
def four(n:Int):List UInt8:= [b8 n,b8 (n/256),b8 (n/65536),b8 (n/16777216)]
theorem RM(n:Int): [dJ (cU.wrap n).toNat,dJ (cU.wrap (n.fdiv (2^(min (cP 8) an.bits)))).toNat,dJ (cU.wrap (n.fdiv (2^(min (cP 16) an.bits)))).toNat,dJ (cU.wrap (n.fdiv (2^(min (cP 24) an.bits)))).toNat]=four n:=by
 have e1:(2:Int)^(min (cP 8) an.bits)=256:=by decide
 have e2:(2:Int)^(min (cP 16) an.bits)=65536:=by decide
 have e3:(2:Int)^(min (cP 24) an.bits)=16777216:=by decide
 rw[e1,e2,e3,iX _ (by decide),iX _ (by decide),iX _ (by decide)]
 rfl
def jz(p:Plain):Bool:=(inr p.kind 0 3)&&decide ((p.body.length:Int)≤14)
def iC(k:Int):Bool:=inr k 1 2147483646
def iY(key counter:Int)(p:Plain):Bool:=iC key&&(inr counter 0 1000000000000)&&jz p
def fU(key counter:Int)(p:Plain):List UInt8:= [b8 p.kind,b8 p.body.length]++p.body++(stream (kh key [61,counter]) 18).drop p.body.length
def nh(key counter:Int):Int:=Ej (kh key [67,counter])
def jN(key counter:Int)(p:Plain):List UInt8:=if iY key counter p then kQ (nh key counter) (fU key counter p)++four (kR key counter (kQ (nh key counter) (fU key counter p)))else []
def mJ(key dir:Int):Int:=Ej (kh key [83,dir])
def cover(seed:Int):List UInt8:=stream (kh seed [73]) 24
end
section
theorem aez(b c:Bool):(if b=true then true else c)=(b||c):=by cases b<;>rfl
theorem Xi(b c:Bool):(if b=true then c else false)=(b&&c):=by cases b<;>rfl
theorem aa3(a b:Int):(!decide (a<b))=decide (b≤a):=by rw[←decide_not];congr 1;exact propext Int.not_lt
theorem aa4(a b:Int):(!decide (a≤b))=decide (b<a):=by rw[←decide_not];congr 1;exact propext Int.not_le
theorem bne_not(a b:Int):(a !=b)= !(a==b):=rfl
theorem deq(a b:Int):decide (a=b)=(a==b):=rfl
theorem bD:(∀b c:Bool,(if b=true then true else c)=(b||c))∧(∀b c:Bool,(if b=true then c else false)=(b&&c))∧(∀a b:Int,a>b↔b<a)∧(∀a b:Nat,a>b↔b<a)∧(∀a b:Int,a≥b↔b≤a)∧(∀a b:Nat,a≥b↔b≤a)∧(∀a b:Int,(!decide (a<b))=decide (b≤a))∧(∀a b:Int,(!decide (a≤b))=decide (b<a))∧(∀a b:Int,(a !=b)= !(a==b))∧(∀a b:Int,decide (a=b)=(a==b))∧(∀(p:Prop) [Decidable p] [Decidable (¬p)],decide (¬p)= !decide p)∧(∀(α:Type) (a b:α),(a≠b)= ¬a=b)∧(∀a b:Bool,(!(a&&b))=(!a|| !b))∧(∀a b:Bool,(!(a||b))=(!a&& !b))∧(∀b:Bool,(!!b)=b)∧(∀b:Bool,(b&&true)=b)∧(∀b:Bool,(true&&b)=b)∧(∀b:Bool,(b||false)=b)∧(∀b:Bool,(false||b)=b)∧(∀n:Nat,(n:Int).toNat=n):=⟨aez,Xi,fun _ _=>Iff.rfl,fun _ _=>Iff.rfl,fun _ _=>Iff.rfl,fun _ _=>Iff.rfl,aa3,aa4,bne_not,deq,fun _=>decide_not,fun _ _ _=>rfl,Bool.not_and,Bool.not_or,Nn,qH,dj,Bool.or_false,Bool.false_or,jF⟩
theorem ag6{E R S:Bool}(h:E=true)(he:E= !R):(R&&S)=false:=by
 rw[h]at he
 cases R with
 |false=>rfl
 |true=>exact absurd he (by decide)
theorem dB{E R:Bool}(h:E=true)(he:E= !R):R=false:=by
 rw[h]at he
 cases R with
 |false=>rfl
 |true=>exact absurd he (by decide)
theorem dy{E R:Bool}(h:E=false)(he:E= !R):R=true:=by
 rw[h]at he
 cases R with
 |true=>rfl
 |false=>exact absurd he (by decide)
def eB(d:DB):Bool:=decide ((d.rows.length:Int)≤64)&&d.rows.all fun r=>decide ((r.length:Int)=24)
def rP(rows:Int)(l:List bC)(i:Nat):Bool:=inr (l.getD i (aO .bC)).client 0 7&& !(decide ((0:Int)<i)&&decide ((l.getD i (aO .bC)).client≤(l.getD (i-1) (aO .bC)).client))&&eB (l.getD i (aO .bC)).share&&(((l.getD i (aO .bC)).share.rows.length:Int)==rows)
def zM(s:cg):Bool:=inr s.id 0 3&&inr s.rows 1 64&&inr s.behavior 0 3&&inr s.round 0 100000&&decide ((s.received.length:Int)≤8)
def dL(s:cg):Bool:=zM s&&(bA s.received.length).all (rP s.rows s.received)
def vr(rows:Int)(l:List bt)(i:Nat):Bool:=inr (l.getD i (aO .bt)).round 0 100000&& !(decide ((0:Int)<i)&&decide ((l.getD i (aO .bt)).round≤(l.getD (i-1) (aO .bt)).round))&&eB (l.getD i (aO .bt)).db&&(((l.getD i (aO .bt)).db.rows.length:Int)==rows)
def Hf(a:mj):Bool:=inr a.rows 1 64&&decide ((a.rounds.length:Int)≤8)
def iD(a:mj):Bool:=Hf a&&(bA a.rounds.length).all (vr a.rows a.rounds)
def eC(a:mj):Int:=if a.rounds.length=0 then-1 else(a.rounds.getD (a.rounds.length-1) (aO .bt)).round
def long(b:List UInt8):Bool:=decide ((14:Int)<b.length)
def fG(c:gS):Bool:=inr c.id 0 7&&inr c.gZ 0 7&& !(c.id==c.gZ)&&iC c.key&&decide ((c.bz.length:Int)≤16)&&decide ((c.inbox.length:Int)≤16)&& !c.bz.any long&& !c.inbox.any long&&inr c.sent 0 c.bz.length&&inr c.next 0 100000
def nG(a b:gS):Bool:=(a.id==b.id)&&(a.gZ==b.gZ)&&(a.key==b.key)&&(a.seed==b.seed)&&(a.bz==b.bz)
def C8(a b:List (List UInt8)):Bool:=decide ((a.length:Int)≤b.length)&&(a==b.take a.length)
def fJ(d:cD):Bool:=fG d.live&&fG d.saved&&nG d.live d.saved&&decide (d.saved.sent≤d.live.sent)&&decide (d.saved.next≤d.live.next)&&C8 d.saved.inbox d.live.inbox
def eA(n:Int):Bool:=inr n 2 4
def JD(x:cm)(i:Nat):Bool:=dL (x.aC.getD i (aO .cg))&&((x.aC.getD i (aO .cg)).id==(i:Int))&&((x.aC.getD i (aO .cg)).rows==x.rows)&&((x.aC.getD i (aO .cg)).round==x.round)&&decide (((x.aC.getD i (aO .cg)).received.length:Int)≤0)
def okD(x:cm)(i:Nat):Bool:=fJ (x.aq.getD i (aO .cD))&&((x.aq.getD i (aO .cD)).live.id==(i:Int))&&((x.aq.getD i (aO .cD)).live.gZ==((i^^^1:Nat):Int))&&((x.aq.getD i (aO .cD)).live.key==(x.aq.getD (i^^^1) (aO .cD)).live.key)&&decide ((x.aq.getD i (aO .cD)).live.next≤x.round)
def L6(x:cm):Bool:=inr x.rows 1 64&&eA x.aC.length&&inr x.aq.length 2 8&&((x.aq.length:Int).tmod 2==0)&&iD x.aN&&(x.aN.rows==x.rows)&&decide (eC x.aN<x.round)&&iC x.bZ&&inr x.round 0 100000&&decide (0≤x.cancelled)
def okW(x:cm):Bool:=L6 x&&(bA x.aC.length).all (JD x)&&(bA x.aq.length).all (okD x)
theorem mW{p:Nat→Bool}{k:Nat}(h:(bA k).all p=true)(hk:p k=true):(bA (k+1)).all p=true:=by
 rw[ep,G3,h];simp[hk]
theorem pV{p:Nat→Bool}{k n:Nat}(h:k<n)(hk:p k=false):(bA n).all p=false:=by
 rw[oJ]
 exact⟨k,bV.2 h,by rw[hk];decide⟩
def fidx{α:Type}(p:α→Bool)(l:List α):Int:=if l.any p then(l.findIdx p:Int)else-1
theorem BH{α:Type}{p:α→Bool}{l:List α}{k:Nat}(d:α)(h:k<l.length)(h1:(l.take k).any p=false)(h2:p (l.getD k d)=true):fidx p l=k:=by
 have ha:l.any p=true:=Fw l p d k h h2
 have e:l=l.take k++l.getD k d::l.drop (k+1):=by rw[←oH l k d h,jg]
 unfold fidx
 rw[if_pos ha]
 have hf:l.findIdx p=k:=by
  rw[List.findIdx_eq h]
  refine⟨?_,fun j hj=> ?_⟩
  ·rw[ak,au h]at h2;exact h2
  ·rw[bK]at h1
   have:=h1 l[j] (by rw[List.mem_take_iff_getElem];exact⟨j,by omega,rfl⟩)
   simpa using this
 rw[hf]
theorem JE{α:Type}{p:α→Bool}{l:List α}(h:l.any p=false):fidx p l= -1:=by unfold fidx;rw[if_neg (by rw[h];decide)]
theorem RN{α:Type}(p:α→Bool)(l:List α):decide (fidx p l≥0)=l.any p:=by
 unfold fidx
 cases h:l.any p
 ·rw[if_neg (by decide)];rfl
 ·rw[if_pos rfl];simp
theorem An{α:Type}{p:α→Bool}{l:List α}{k:Nat}(d:α)(h:k<l.length)(h1:(l.take k).any p=false)(h2:p (l.getD k d)=false):(l.take (k+1)).any p=false:=by
 rw[Xb p l k d h,h1,h2];rfl
theorem xC{α:Type}(l:List α)(p:α→Bool):l.all p= !(l.any fun b=> !p b):=by
 induction l with
 |nil=>rfl
 |cons a r ih=>simp[ih]
end
section
theorem Ao(k n:Nat)(h:k<n)(he:n % 2=0):k^^^1<n:=by
 have h1:(k^^^1)/2=k/2:=by
  have:=Hg (a:=k) (b:=1)
  simpa using this
 have h2:k^^^1<2*(k/2)+2:=by
  have:=Nat.div_add_mod (k^^^1) 2
  have:=CA (k^^^1) (show 0<2 by decide)
  omega
 omega
theorem Xk(k:Nat)(h:k<2^62):an.wrap (aU an.bits (k:Int)^^^aU an.bits 1).toNat=((k^^^1:Nat):Int):=by
 have h2:(aU an.bits (k:Int)^^^aU an.bits 1).toNat=k^^^1:=by
  rw[EV]
  have h1:(aU an.bits 1).toNat=1:=by decide
  have h2:(aU an.bits (k:Int)).toNat=k % 2^64:=by rw[ia,jm];rfl
  rw[h1,h2,jZ (by omega)]
 have hx:=Nat.xor_lt_two_pow (n:=62) h (show 1<2^62 by decide)
 rw[h2,dA (by omega)]
theorem sY{x:cm}(h:L6 x=true):x.aq.length % 2=0∧x.aq.length≤8∧2≤x.aq.length:=by
 simp only[L6,dD,aj,beq_iff_eq]at h
 have h1:=h.1.1.1.1.1.1.2
 have h2:=h.1.1.1.1.1.1.1.2
 rw[gh (by omega)]at h1
 omega
theorem nL{x:cm}(h:okW x=true):L6 x=true:=by simp only[okW,aj]at h;exact h.1.1
theorem gy{x:cm}(h:okW x=true):x.aC.length≤4∧2≤x.aC.length:=by
 have:=nL h
 simp only[L6,eA,dD,aj,beq_iff_eq]at this
 have h1:=this.1.1.1.1.1.1.1.1.2
 omega
def svW(x:cm):Bool:=(bA x.aC.length).all (JD x)&&eA x.aC.length
def dvW(x:cm):Bool:=((x.aq.length:Int).tmod 2==0)&&inr x.aq.length 2 8&&(bA x.aq.length).all (okD x)
def vv(x:cm)(c:Int):Bool:=inr c 0 (x.aq.length-1)
def Ap(x:cm)(c:Int):Bool:=vv x c&&decide (((c.toNat^^^1:Nat):Int)<x.aq.length)
def eK(c:gS):Int:=if c.id<c.gZ then 0 else 1
def rR(c:gS)(at':Int):List UInt8:=jN (mJ c.key (eK c)) at' ⟨1,c.bz.getD at'.toNat (aO (.sl .u8))⟩
def rS(c:gS)(r n:Int):Bool:=fG c&&inr r 0 100000&&inr n 1 64
def jH(c:gS)(r n:Int):Int:=if rS c r n=true then(if c.sent<c.bz.length then iw c.key r (eK c) n else Am c.seed r n)else 0
def gF(c:gS)(r n:Int):List UInt8:=if rS c r n=true then(if c.sent<c.bz.length then rR c c.sent else cover (kh c.seed [r]))else []
theorem Da{c:gS}{r n:Int}(h:rS c r n=true):0≤c.sent∧c.sent≤c.bz.length:=by
 simp only[rS,fG,dD,aj]at h
 exact h.1.1.1.2
theorem sZ{k c:Int}{p:Plain}(h:iY k c p=true):p.body.length≤14:=by
 simp only[iY,jz,aj,decide_eq_true_eq]at h
 omega
theorem Uc{x:cm}{c:Int}(hd:x.aq.length≤1048576):(vv x c&&vv x (an.wrap (aU an.bits c^^^aU an.bits 1).toNat))=Ap x c:=by
 by_cases hc:vv x c=true
 ·have KG:0≤c∧c<x.aq.length:=by simp only[vv,dD]at hc;omega
  obtain⟨n,rfl⟩:=vn KG.1
  rw[Xk n (by omega),Ap,hc]
  simp only[dj,vv,jF]
  rw[xD,dD,decide_eq_true_eq]
  omega
 ·rw[Bool.not_eq_true]at hc
  rw[Ap,hc];rfl
end
section
def aeB(s:Int)(i:Nat):Int:=rsb (kh s [(i:Int),41])
def cR(s rows:Int):List Int:=if 0≤rows∧rows≤64 then(bA rows.toNat).map (aeB s)else []
theorem kU(s rows:Int):(cR s rows).length≤64:=by
 unfold cR
 split
 ·simp;omega
 ·simp
theorem Hi(s rows:Int)(k:Nat)(h0:(k:Int)<rows)(h1:rows≤64):k<(cR s rows).length:=by
 rw[cR,if_pos (by omega)];simp;omega
theorem BM(s rows:Int)(k:Nat)(h0:(k:Int)<rows)(h1:rows≤64):(cR s rows).take (k+1)=(cR s rows).take k++ [an.wrap (aU an.bits (((an.wrap (kh s [(k:Int),41]*kh s [(k:Int),41])).tmod 2147483647).fdiv (2^(min (cP 9) an.bits)))&&&aU an.bits 1).toNat]:=by
 rw[aev (fW _ _).1 (fW _ _).2,cI _ _ 0 (Hi s rows k h0 h1)]
 congr 2
 rw[cR,if_pos (by omega),gj _ _ _ _ (by omega)]
 rfl
theorem Ep(s rows:Int)(k:Nat)(h:rows≤64→rows≤k):(cR s rows).take k=cR s rows:=by
 refine aB ?_
 unfold cR
 split
 ·simp;omega
 ·simp
def ff(v:List Int)(rows:Int):Bool:=(decide ((v.length:Int)=rows)&&decide (rows≤64))&&v.all fun x=>inr x 0 1
theorem P1(v:List Int)(rows:Int):ff v rows=((inr rows 0 64&&decide ((v.length:Int)=rows))&& !(v.any fun x=> !inr x 0 1)):=by
 have e:(v.all fun x=>inr x 0 1)= !(v.any fun x=> !inr x 0 1):=by rw[List.not_any_eq_all_not];simp
 rw[ff,e]
 by_cases h:(v.length:Int)=rows
 ·subst h;simp[inr]
 ·simp[h]
theorem mX{v:List Int}{r:Int}(h:ff v r=true):(v.length:Int)=r∧r≤64:=by
 simp only[ff,aj,decide_eq_true_eq]at h
 exact h.1
theorem yS{v:List Int}{r:Int}(h:ff v r=true)(k:Nat)(hk:k<v.length):v.getD k (aO .int)=0∨v.getD k (aO .int)=1:=by
 simp only[ff,aj,bq,dD]at h
 have:=h.2 (v.getD k (aO .int)) (by rw[ak,au hk];exact ql _)
 omega
def xb(x y:Int):Int:=if x=y then 0 else 1
theorem ag7{x y:Int}(hx:x=0∨x=1)(hy:y=0∨y=1):an.wrap (aU an.bits x^^^aU an.bits y).toNat=xb x y:=by
 rcases hx with rfl|rfl<;>rcases hy with rfl|rfl<;>decide
def nM(a b:List Int):Bool:=ff a a.length&&ff b a.length
def oQ(a b:List Int):List Int:=if nM a b then dm xb a b else []
theorem qP{a b:List Int}(h:nM a b=true):b.length=a.length∧a.length≤64:=by
 simp only[nM,aj]at h
 have h1:=mX h.1
 have h2:=mX h.2
 omega
theorem vA{a b:List Int}(h:nM a b=true):oQ a b=dm xb a b:=by rw[oQ,if_pos h]
theorem BN{a b:List Int}(h:nM a b=true):(dm xb a b).length=a.length:=by
 have:=qP h
 rw[iO];omega
theorem P2(a b:List Int):(oQ a b).length≤64:=by
 cases h:nM a b with
 |true=>rw[vA h,BN h];exact(qP h).2
 |false=>rw[oQ,if_neg (by rw[h];decide)];simp
theorem RQ{a b:List Int}(h:nM a b=true)(k:Nat)(hk:k<a.length):(dm xb a b).getD k (aO .int)=an.wrap (aU an.bits (a.getD k (aO .int))^^^aU an.bits (b.getD k (aO .int))).toNat:=by
 have hl:=qP h
 have h':=h
 simp only[nM,aj]at h'
 rw[ag7 (yS h'.1 k hk) (yS h'.2 k (by omega))]
 rw[ak,ak,ak,pX,au hk,au (show k<b.length by omega)]
 rfl
theorem No{a b:List Int}(h:nM a b=true)(k:Nat)(hk:k<b.length):(dm xb a b).take (k+1)++a.drop (k+1)=((dm xb a b).take k++a.drop k).set k (an.wrap (aU an.bits (((dm xb a b).take k++a.drop k).getD k (aO .int))^^^aU an.bits (b.getD k (aO .int))).toNat):=by
 have hl:=qP h
 have hz:=BN h
 rw[xw _ _ k (aO .int) _ (by omega) (by omega)]
 rw[nC _ _ _ _ (by omega),RQ h k (by omega)]
theorem Np{a b:List Int}(h:nM a b=true)(k:Nat)(hk:k<a.length):(dm xb a b).take (k+1)=(dm xb a b).take k++ [an.wrap (aU an.bits (a.getD k (aO .int))^^^aU an.bits (b.getD k (aO .int))).toNat]:=by
 rw[cI _ k (aO .int) (by rw[BN h];exact hk),RQ h k hk]
def jR(rows i:Int):Bool:=inr rows 1 64&&inr i 0 (an.wrap (rows-1))
def qx(rows i:Int):List Int:=if jR rows i then(ey rows.toNat (aO .int)).set i.toNat 1 else []
theorem uo{rows i:Int}(h:jR rows i=true):1≤rows∧rows≤64∧0≤i∧i<rows:=by
 simp only[jR,aj,dD]at h
 rw[dA (by omega)]at h
 omega
theorem qQ{rows i:Int}(h:jR rows i=true):qx rows i=(ey rows.toNat (aO .int)).set i.toNat 1:=by rw[qx,if_pos h]
theorem Db{rows i:Int}(h:jR rows i=false):qx rows i= []:=by rw[qx,if_neg (by rw[h];decide)]
theorem Dc(rows i:Int):(qx rows i).length≤64:=by
 cases h:jR rows i with
 |true=>rw[qQ h];have:=uo h;simp;omega
 |false=>rw[Db h];simp
def BO(rows i:Int)(sd:List Int):Bool:= !decide (((qx rows i).length:Int)=0)&&eA (an.wrap ((sd.length:Int)+1))
def xF(rows i:Int)(sd:List Int):List Int:=sd.foldl (fun l s=>oQ l (cR s rows)) (qx rows i)
def lN(rows i:Int)(sd:List Int):List (List Int):=if BO rows i sd then sd.map (fun s=>cR s rows)++ [xF rows i sd]else []
theorem Hj(rows i:Int)(sd:List Int)(k:Nat)(h:k<sd.length):xF rows i (sd.take (k+1))=oQ (xF rows i (sd.take k)) (cR (sd.getD k (aO .int)) rows):=vm _ _ sd k _ h
theorem Dd(rows i:Int)(sd:List Int):(xF rows i sd).length≤64:=by
 rcases List.eq_nil_or_concat sd with rfl| ⟨l,x,rfl⟩
 ·exact Dc _ _
 ·rw[List.concat_eq_append,xF,dX];exact P2 _ _
theorem Ns{rows i:Int}{sd:List Int}(h:BO rows i sd=true)(hl:sd.length≤1048576):sd.length≤3:=by
 simp only[BO,eA,aj,dD]at h
 rw[dA (by omega)]at h
 omega
def jv(n:Nat)(r row s:Int):List Int:=(bA (n-1)).map fun i:Nat=>kh s [229,r,row,(i:Int)]
theorem oR(n:Nat)(r row s:Int):(jv n r row s).length=n-1:=by simp[jv]
theorem Er(n:Nat)(r row s:Int)(k:Nat)(h:k<n-1):(jv n r row s).take (k+1)=(jv n r row s).take k++ [kh s [229,r,row,(k:Int)]]:=by
 rw[cI _ k (aO .int) (by rw[oR];exact h),jv,gj _ _ _ _ h]
theorem RR(n:Nat)(h:n≤1048576):ZS 0 (an.wrap ((n:Int)-1))=((n-1:Nat):Int):=by
 rw[dA (by omega)];unfold ZS;split<;>omega
theorem Xm{x:cm}(h:okW x=true):1≤x.rows∧x.rows≤64:=by
 have:=nL h
 simp only[L6,dD,aj]at this
 have h1:=this.1.1.1.1.1.1.1.1.1
 omega
end
section
set_option maxRecDepth 100000
theorem getD_some{α:Type}(l:List α)(d:α)(k:Nat)(h:k<l.length):l[k]? =some (l.getD k d):=by
 rw[ak,au h];rfl
def RT(x:DB):Nat:=(ga aR) x.rows
def Es(x:bC):Nat:=RT x.share
def iP(x:cg):Nat:=(ga Es) x.received
def eT(x:gS):Nat:=(ga aR) x.bz+(ga aR) x.inbox
def dH(x:cD):Nat:=eT x.live+eT x.saved
def iE(x:bt):Nat:=RT x.db
def jr(x:mj):Nat:=(ga iE) x.rounds
end
section
def L7:List UInt8:=ey 24 (aO .u8)
def fA(rows:Int):DB:=⟨if 0≤rows∧rows≤64 then ey rows.toNat L7 else []⟩
theorem Xq{α:Type}(n k:Nat)(x:α)(h:k<n):(ey n x).take (k+1)=(ey n x).take k++ [x]:=by
 rw[Ar,Ar,Hq (by omega),Hq (by omega),List.replicate_succ']
theorem qS(rows:Int):(fA rows).rows.length≤64:=by
 unfold fA;dsimp only;split
 ·simp;omega
 ·simp
theorem qT{rows:Int}(h:0≤rows∧rows≤64):(fA rows).rows=ey rows.toNat L7:=by unfold fA;dsimp only;rw[if_pos h]
theorem Hr(rows:Int)(k:Nat)(h0:(k:Int)<rows)(h1:rows≤64):(fA rows).rows.take (k+1)=(fA rows).rows.take k++ [L7]:=by
 rw[qT (by omega)];exact Xq _ _ _ (by omega)
theorem Xr(rows:Int)(k:Nat)(h0:(k:Int)<rows)(h1:rows≤64):k<(fA rows).rows.length:=by
 rw[qT (by omega)];simp;omega
theorem JG(rows:Int)(k:Nat)(h:rows≤64→rows≤k):(fA rows).rows.take k=(fA rows).rows:=by
 refine aB ?_
 unfold fA;dsimp only;split
 ·simp;omega
 ·simp
def nP(d:DB)(i:Int)(c:List UInt8):Bool:=inr i 0 (an.wrap ((d.rows.length:Int)-1))&&decide ((c.length:Int)=24)
def Et(d:DB)(i:Int)(c:List UInt8):DB:=if nP d i c then⟨d.rows.set i.toNat c⟩else d
theorem Fx{d:DB}{i:Int}{c:List UInt8}(hl:d.rows.length≤1048576)(h:nP d i c=true):0≤i∧i<d.rows.length∧c.length=24:=by
 simp only[nP,aj,dD,decide_eq_true_eq]at h
 rw[dA (by omega)]at h
 omega
theorem uq{d:DB}{i:Int}{c:List UInt8}(h:nP d i c=true):Et d i c=⟨d.rows.set i.toNat c⟩:=by rw[Et,if_pos h]
theorem JH{d:DB}{i:Int}{c:List UInt8}(h:nP d i c=false):Et d i c=d:=by rw[Et,if_neg (by rw[h];decide)]
def kV(a b:DB):Bool:=(eB a&&eB b)&&decide ((a.rows.length:Int)=b.rows.length)
def iZ(a b:DB):List (List UInt8):=dm fk a.rows b.rows
def iU(a b:DB):DB:=if kV a b then⟨iZ a b⟩else a
theorem Hs{d:DB}(h:eB d=true):d.rows.length≤64:=by
 simp only[eB,aj,decide_eq_true_eq]at h;omega
theorem pe{d:DB}(h:eB d=true)(k:Nat)(hk:k<d.rows.length):(d.rows.getD k (aO (.sl .u8))).length=24:=by
 simp only[eB,aj,bq,decide_eq_true_eq]at h
 have:=h.2 (d.rows.getD k (aO (.sl .u8))) (by rw[ak,au hk];exact ql _)
 omega
theorem vB{a b:DB}(h:kV a b=true):eB a=true∧eB b=true∧a.rows.length=b.rows.length∧a.rows.length≤64:=by
 simp only[kV,aj,decide_eq_true_eq]at h
 have:=Hs h.1.1
 exact⟨h.1.1,h.1.2,by omega,this⟩
theorem kW{a b:DB}(h:kV a b=true):(iZ a b).length=a.rows.length:=by
 have:=vB h
 rw[iZ,iO];omega
theorem vC{a b:DB}(h:kV a b=true)(k:Nat)(hk:k<a.rows.length):(iZ a b).getD k (aO (.sl .u8))=fk (a.rows.getD k (aO (.sl .u8))) (b.rows.getD k (aO (.sl .u8))):=by
 have hb:=vB h
 rw[iZ,ak,ak,ak,pX,au hk,au (show k<b.rows.length by omega)]
 rfl
theorem Nu{a b:DB}(h:kV a b=true)(k:Nat)(hk:k<a.rows.length):(iZ a b).take (k+1)=(iZ a b).take k++ [fk (a.rows.getD k (aO (.sl .u8))) (b.rows.getD k (aO (.sl .u8)))]:=by
 rw[cI _ k (aO (.sl .u8)) (by rw[kW h];exact hk),vC h k hk]
theorem Nv{a b:DB}(h:kV a b=true)(k:Nat)(hk:k<b.rows.length):(iZ a b).take (k+1)++a.rows.drop (k+1)=((iZ a b).take k++a.rows.drop k).set k (fk (((iZ a b).take k++a.rows.drop k).getD k (aO (.sl .u8))) (b.rows.getD k (aO (.sl .u8)))):=by
 have hb:=vB h
 have hl:=kW h
 rw[xw _ _ k (aO (.sl .u8)) _ (by omega) (by omega)]
 rw[nC _ _ _ _ (by omega),vC h k (by omega)]
theorem aa7{a b:DB}(h:kV a b=true)(k:Nat)(hk:k<b.rows.length):((iZ a b).take k++a.rows.drop k).getD k (aO (.sl .u8))=a.rows.getD k (aO (.sl .u8)):=by
 have hb:=vB h
 have hl:=kW h
 rw[nC _ _ _ _ (by omega)]
theorem qU{a b:DB}(h:kV a b=true):iU a b=⟨iZ a b⟩:=by rw[iU,if_pos h]
theorem ur{a b:DB}(h:kV a b=false):iU a b=a:=by rw[iU,if_neg (by rw[h];decide)]
def kX(x:cm)(c:Int):List Int:=(bA (x.aC.length-1)).map fun i:Nat=>kh x.seed [223,x.round,c,(i:Int)]
theorem mM(x:cm)(c:Int):(kX x c).length=x.aC.length-1:=by simp[kX]
theorem Eu(x:cm)(c:Int)(k:Nat)(h:k<x.aC.length-1):(kX x c).take (k+1)=(kX x c).take k++ [kh x.seed [223,x.round,c,(k:Int)]]:=by
 rw[cI _ k (aO .int) (by rw[mM];exact h),kX,gj _ _ _ _ h]
def qt(rows i:Int)(c:List UInt8):Bool:=inr rows 1 64&&nP (fA rows) i c
def Nw(rows i:Int)(c:List UInt8):DB:=if inr rows 1 64 then Et (fA rows) i c else⟨[]⟩
theorem nQ:L7.length=24:=by simp[L7]
theorem JI(rows:Int):ga aR (fA rows).rows≤1048576:=by
 have h:=qS rows
 have h2:((fA rows).rows.map aR).sum≤24*(fA rows).rows.length:=by
  unfold fA;dsimp only;split
  ·simp[nQ];omega
  ·simp
 unfold ga;omega
end
section
theorem nR{d:DB}:eB d=true↔d.rows.length≤64∧ ∀r,r∈d.rows→r.length=24:=by
 simp only[eB,aj,decide_eq_true_eq,bq]
 constructor
 ·rintro⟨h1,h2⟩;exact⟨by omega,fun r hr=>by have:=h2 r hr;omega⟩
 ·rintro⟨h1,h2⟩;exact⟨by omega,fun r hr=>by have:=h2 r hr;omega⟩
theorem gk{d:DB}(h:eB d=true):ga aR d.rows≤1048576:=by
 obtain⟨h1,h2⟩:=nR.1 h
 have h3: ∀l:List (List UInt8),(∀r,r∈l→r.length=24)→(l.map aR).sum=24*l.length:=by
  intro l
  induction l with
  |nil=>intro _;rfl
  |cons x r ih=>intro hl;rw[cA,vD,ih fun y hy=>hl y (by simp[hy]),hl x (by simp),bY];omega
 have:=h3 _ h2
 unfold ga;omega
theorem Hx{a b:DB}(ha:eB a=true)(hb:eB b=true):eB (iU a b)=true:=by
 cases h:kV a b with
 |false=>rw[ur h];exact ha
 |true=>
  rw[qU h,nR]
  have hl:=kW h
  refine⟨by have:=Hs ha;show(iZ a b).length≤64;omega,fun r hr=> ?_⟩
  obtain⟨k,hk⟩:=List.getElem?_of_mem hr
  have hk2:k<(iZ a b).length:=(aI.1 hk).1
  have hg:=vC h k (by omega)
  rw[ak,hk]at hg
  have hx:=vB h
  rw[show r=_ from hg,eF,pe ha k (by omega),pe hb k (by omega)];rfl
def jT(s rows:Int):List (List UInt8):=(bA rows.toNat).map fun r:Nat=>stream (an.wrap (s+an.wrap (1000*(r:Int)))) (24:Int).toNat
def Qe(s rows:Int):DB:=⟨jT s rows⟩
theorem mZ(s rows:Int):(jT s rows).length=rows.toNat:=by simp[jT]
theorem BV(s rows:Int)(k:Nat)(h:k<rows.toNat):(jT s rows).take (k+1)=(jT s rows).take k++ [stream (an.wrap (s+an.wrap (1000*(k:Int)))) (24:Int).toNat]:=by
 rw[cI _ k (aO (.sl .u8)) (by rw[mZ];exact h),jT,gj _ _ _ _ h]
theorem Hy(s rows:Int)(h:rows≤64):eB (Qe s rows)=true:=by
 rw[nR]
 refine⟨by show(jT s rows).length≤64;rw[mZ];omega,fun r hr=> ?_⟩
 obtain⟨k,_,rfl⟩:=cj.1 (show r∈jT s rows from hr)
 exact gE _ _
def tM(rows i:Int)(c:List UInt8)(sd:List Int):Bool:=qt rows i c&&eA (an.wrap ((sd.length:Int)+1))
def vU(rows i:Int)(c:List UInt8)(sd:List Int):DB:=sd.foldl (fun d s=>iU d (Qe s rows)) (Nw rows i c)
def rY(rows i:Int)(c:List UInt8)(sd:List Int):List DB:=if tM rows i c sd then sd.map (fun s=>Qe s rows)++ [vU rows i c sd]else []
theorem Au{rows i:Int}{c:List UInt8}(h:qt rows i c=true):eB (Nw rows i c)=true∧1≤rows∧rows≤64:=by
 simp only[qt,aj]at h
 obtain⟨h1,h2⟩:=h
 have hr:1≤rows∧rows≤64:=by rw[dD]at h1;exact h1
 have hb:=Fx (dY (qS rows) (by decide)) h2
 refine⟨?_,hr⟩
 rw[Nw,if_pos h1,uq h2,nR,qT (by omega)]
 refine⟨by simp;omega,fun r hr=> ?_⟩
 rcases gK hr with h|rfl
 ·rw[(s8.1 h).2,nQ]
 ·exact hb.2.2
theorem Hz(rows i:Int)(c:List UInt8)(sd:List Int)(k:Nat)(h:k<sd.length):vU rows i c (sd.take (k+1))=iU (vU rows i c (sd.take k)) (Qe (sd.getD k (aO .int)) rows):=vm _ _ sd k _ h
theorem HA{rows i:Int}{c:List UInt8}(h:qt rows i c=true)(sd:List Int):eB (vU rows i c sd)=true:=by
 have hu:=Au h
 have g: ∀(l:List Int) (d:DB),eB d=true→eB (l.foldl (fun d s=>iU d (Qe s rows)) d)=true:=by
  intro l
  induction l with
  |nil=>intro d hd;exact hd
  |cons x r ih=>intro d hd;exact ih _ (Hx hd (Hy x rows hu.2.2))
 exact g sd _ hu.1
theorem NG{rows i:Int}{c:List UInt8}{sd:List Int}(h:tM rows i c sd=true)(hl:sd.length≤1048576):qt rows i c=true∧sd.length≤3:=by
 simp only[tM,eA,aj,dD]at h
 rw[dA (by omega)]at h
 exact⟨h.1,by omega⟩
theorem HB(rows i:Int)(c:List UInt8):qt rows i c=(inr rows 1 64&&inr i 0 (an.wrap (rows-1))&&decide ((c.length:Int)=24)):=by
 unfold qt
 cases h:inr rows 1 64 with
 |false=>rfl
 |true=>
  rw[dD]at h
  have:((fA rows).rows.length:Int)=rows:=by rw[qT (by omega)];simp;omega
  rw[nP,this]
  simp
theorem abd{rows i:Int}{c:List UInt8}{sd:List Int}(h:tM rows i c sd=true):Et (fA rows) i c=Nw rows i c:=by
 simp only[tM,qt,aj]at h
 rw[Nw,if_pos h.1.1]
end
section
theorem Uf(k c:Int)(p:Plain):(jN k c p).length≤100:=by
 unfold jN
 split
 ·rename_i h
  have hb:=sZ h
  have hp:(fU k c p).length≤40:=by
   unfold fU
   simp only[aX,bM,bY,gf,gE];omega
  rw[aX,gz]
  simp only[four,bY,gf];omega
 ·exact aA _
theorem HC(c:gS)(r n:Int):(gF c r n).length≤1048576:=by
 unfold gF
 split
 ·split
  ·exact dY (Uf _ _ _) (by decide)
  ·unfold cover;rw[gE];decide
 ·exact aA _
def m6(x:cm)(c:Int):gS:=(x.aq.getD c.toNat (aO .cD)).live
def e9(x:cm)(c:Int):List DB:=rY x.rows (jH (m6 x c) x.round x.rows) (gF (m6 x c) x.round x.rows) (kX x c)
theorem NH{x:cm}{c:Int}(h:rS (m6 x c) x.round x.rows=false):e9 x c= []:=by
 have hc:gF (m6 x c) x.round x.rows= []:=by rw[gF,if_neg (by rw[h];decide)]
 unfold e9 rY
 rw[hc]
 rw[if_neg]
 simp[tM,qt,nP]
def NI(x:cm)(c:Int):Bool:=okW x&&vv x c
def nS(x:cm)(c:Int):List DB:=if NI x c then e9 x c else []
theorem aeO{x:cm}{c:Int}(h:NI x c=true):0≤c∧c<x.aq.length:=by
 simp only[NI,vv,dD,aj]at h
 omega
end
section
theorem lG{E R:Bool}(h:E=true)(he:E=R):R=true:=by rw[←he];exact h
theorem oT{E R:Bool}(h:E=false)(he:E=R):R=false:=by rw[←he];exact h
theorem qL{x:cm}(h:okW x=true){i:Nat}(hi:i<x.aq.length):okD x i=true:=by
 simp only[okW,aj,bq]at h
 exact h.2 i (bV.2 hi)
theorem Li{x:cm}(h:okW x=true){i:Nat}(hi:i<x.aC.length):JD x i=true:=by
 simp only[okW,aj,bq]at h
 exact h.1.2 i (bV.2 hi)
theorem Xv{x:cm}{i:Nat}(h:okD x i=true):fG (x.aq.getD i (aO .cD)).live=true:=by
 simp only[okD,fJ,aj]at h
 exact h.1.1.1.1.1.1.1.1.1
theorem rZ{x:cm}(h:okW x=true):(1≤x.rows∧x.rows≤64)∧0≤x.round∧x.round≤100000:=by
 have h:=nL h
 simp only[L6,aj,dD]at h
 omega
theorem Xw{x:cm}{c:Int}(h:okW x=true)(hc:0≤c∧c<x.aq.length):fG (m6 x c)=true:=Xv (qL h (by omega))
theorem Qf{x:cm}{c:Int}(h:okW x=true)(hc:0≤c∧c<x.aq.length):rS (m6 x c) x.round x.rows=true:=by
 have:=rZ h
 simp only[rS,Xw h hc,aj,dD]
 exact⟨⟨trivial,this.2⟩,this.1⟩
theorem Av{key r d n:Int}(h:(1≤n∧n≤64)∧0≤r∧r≤1000000000000):0≤iw key r d n∧iw key r d n<n:=by
 unfold iw
 rw[if_pos h]
 exact⟨jE _ (by omega),jl _ (by omega)⟩
theorem HD{s r n:Int}(h:1≤n∧n≤64):0≤Am s r n∧Am s r n<n:=by
 unfold Am
 rw[if_pos h]
 exact⟨jE _ (by omega),jl _ (by omega)⟩
theorem NJ{c:gS}{r n:Int}(h:rS c r n=true):0≤jH c r n∧jH c r n<n:=by
 have hb:(0≤r∧r≤100000)∧1≤n∧n≤64:=by
  simp only[rS,aj,dD]at h;exact⟨h.1.2,h.2⟩
 rw[jH,if_pos h]
 split
 ·exact Av (by omega)
 ·exact HD (by omega)
theorem BW(k d:Int):iC (mJ k d)=true:=by
 have:=yR (fW k [83,d])
 simp only[iC,dD];unfold mJ;omega
theorem uy{c:gS}(h:fG c=true):c.bz.length≤16∧c.inbox.length≤16∧(∀b,b∈c.bz→b.length≤14)∧(∀b,b∈c.inbox→b.length≤14)∧0≤c.sent∧c.sent≤c.bz.length∧0≤c.next∧c.next≤100000:=by
 simp only[fG,aj,bp,bK,dD,decide_eq_true_eq]at h
 obtain⟨⟨⟨⟨⟨⟨_,h1⟩,h2⟩,h3⟩,h4⟩,h5⟩,h6⟩:=h
 refine⟨by omega,by omega,fun b hb=> ?_,fun b hb=> ?_,h5.1,h5.2,h6.1,h6.2⟩
 ·have:=h3 b hb;simp only[long,decide_eq_true_eq]at this;omega
 ·have:=h4 b hb;simp only[long,decide_eq_true_eq]at this;omega
theorem getD_in{α:Type}{l:List α}{k:Nat}(d:α)(h:k<l.length):l.getD k d∈l:=by
 rw[ak,au h];exact ql h
theorem s9{k c:Int}{p:Plain}(h:iY k c p=true):(jN k c p).length=24:=by
 have hb:=sZ h
 rw[jN,if_pos h,aX,gz]
 simp only[fU,four,aX,bM,bY,gf,gE];omega
theorem Ug{c:gS}(h:fG c=true){a:Int}(h0:0≤a)(h1:a<c.bz.length):(rR c a).length=24:=by
 obtain⟨q1,_,q2,_⟩:=uy h
 apply s9
 simp only[iY,BW,jz,aj,dD,decide_eq_true_eq]
 have:=q2 _ (getD_in (aO (.sl .u8)) (show a.toNat<c.bz.length by omega))
 refine⟨⟨trivial,by omega⟩,by omega,by omega⟩
theorem BX{c:gS}{r n:Int}(h:rS c r n=true):(gF c r n).length=24:=by
 rw[gF,if_pos h]
 split
 ·rename_i hs
  have hc:fG c=true:=by simp only[rS,aj]at h;exact h.1.1
  exact Ug hc (Da h).1 hs
 ·rw[cover,gE]
theorem JN{x:cm}{c:Int}(h:okW x=true)(hc:0≤c∧c<x.aq.length):tM x.rows (jH (m6 x c) x.round x.rows) (gF (m6 x c) x.round x.rows) (kX x c)=true:=by
 have hw:=Qf h hc
 have hr:=rZ h
 have hs:=gy h
 have hrow:=NJ hw
 have hcell:=BX hw
 simp only[tM,HB,eA,aj,dD,decide_eq_true_eq,mM]
 rw[dA (by omega),dA (by omega)]
 omega
theorem kY{x:cm}{c:Int}(h:okW x=true)(hc:0≤c∧c<x.aq.length):(e9 x c).length=x.aC.length:=by
 have hs:=gy h
 rw[e9,rY,if_pos (JN h hc),aX,bw,mM]
 simp;omega
theorem HE{x:cm}{c:Int}(h:okW x=true)(hc:0≤c∧c<x.aq.length):nS x c=e9 x c:=by
 rw[nS,if_pos]
 simp only[NI,h,vv,dj,dD]
 omega
end
section
theorem Xx{rows i:Int}{c:List UInt8}{sd:List Int}(hr:rows≤64): ∀d,d∈rY rows i c sd→eB d=true:=by
 intro d hd
 unfold rY at hd
 split at hd
 ·rename_i hm
  have hu:qt rows i c=true:=by simp only[tM,aj]at hm;exact hm.1
  rcases aK.1 hd with h|h
  ·obtain⟨s,_,rfl⟩:=cj.1 h
   exact Hy s rows hr
  ·rw[aP.1 h];exact HA hu _
 ·cases hd
def aeP(d:DB):Nat:=(d.rows.map aR).sum
theorem abe{d:DB}(h:eB d=true):aeP d≤1536:=by
 obtain⟨h1,h2⟩:=nR.1 h
 have h3: ∀l:List (List UInt8),(∀r,r∈l→r.length=24)→(l.map aR).sum=24*l.length:=by
  intro l
  induction l with
  |nil=>intro _;rfl
  |cons x r ih=>intro hl;rw[cA,vD,ih fun y hy=>hl y (by simp[hy]),hl x (by simp),bY];omega
 have:=h3 _ h2
 unfold aeP;omega
theorem acV{α:Type}(f:α→Nat)(C:Nat): ∀(l:List α),(∀x,x∈l→f x≤C)→(l.map f).sum≤C*l.length
 | [],_=>by simp
 |x::r,h=>by
  have:=acV f C r fun y hy=>h y (by simp[hy])
  have:=h x (by simp)
  rw[cA,vD,bY,Nat.mul_add]
  omega
end
section
def sj(s:cg):Prop:=s.received.length≤1048576∧ ∀r,r∈s.received→ga aR r.share.rows≤1048576
theorem JO{l:List cg}(h:ga iP l≤1048576){i:Nat}{s:cg}(hs:l[i]? =some s):sj s:=by
 have h1:ga Es s.received≤1048576:=o7 h hs
 refine⟨gd h1,fun r hr=> ?_⟩
 obtain⟨j,hj⟩:=kZ.1 hr
 exact o7 h1 hj
def wB(x:cm):Prop:=ga iP x.aC≤1048576∧ga dH x.aq≤1048576∧jr x.aN≤1048576∧x.replaced.length≤4194304
theorem NK{x:cm}(h:wB x):x.aC.length≤1048576:=gd h.1
theorem acW{x:cm}(h:wB x):x.aq.length≤1048576:=gd h.2.1
def nT(s:cg)(c:Int)(d:DB):cg:=⟨s.id,s.rows,s.round,s.received++ [⟨c,d⟩],s.behavior⟩
def nU(s:cg)(c:Int)(d:DB):Bool:=dL s&&dL (nT s c d)
def Qg(s:cg)(c:Int)(d:DB):cg:=if nU s c d then nT s c d else s
def below(s:cg)(c:Int):Prop:= ∀r,r∈s.received→r.client<c
theorem Uh{s:cg}{c e:Int}{d:DB}(h:below s c)(hc:c<e):below (Qg s c d) e:=by
 intro r hr
 unfold Qg at hr
 split at hr
 ·rcases aK.1 hr with h1|h1
  ·have:=h r h1;omega
  ·rw[aP.1 h1];exact hc
 ·have:=h r hr;omega
theorem Ui{s:cg}{c:Int}{d:DB}(h:sj s)(hd:eB d=true):sj (Qg s c d):=by
 unfold Qg
 split
 ·rename_i hk
  have h1:(nT s c d).received.length≤8:=by
   simp only[nU,dL,zM,aj,decide_eq_true_eq]at hk;omega
  refine⟨by omega,fun r hr=> ?_⟩
  rcases aK.1 hr with h2|h2
  ·exact h.2 r h2
  ·rw[aP.1 h2];exact gk hd
 ·exact h
def U9(c:Int)(r:bC):Bool:=r.client==c
def oA(l:List bC)(c:Int):Bool:=l.any (U9 c)
def Ax(l:List bC)(c:Int):DB:=if oA l c then(l.getD (fidx (U9 c) l).toNat (aO .bC)).share else⟨[]⟩
theorem Qh{l:List bC}{c:Int}{k:Nat}(h:k<l.length)(h1:(l.take k).any (U9 c)=false)(h2:U9 c (l.getD k (aO .bC))=true):oA l c=true∧Ax l c=(l.getD k (aO .bC)).share:=by
 have ha:oA l c=true:=Fw l (U9 c) (aO .bC) k h h2
 exact⟨ha,by rw[Ax,if_pos ha,BH (aO .bC) h h1 h2];rfl⟩
theorem Fz{l:List bC}{c:Int}(h:l.any (U9 c)=false):oA l c=false∧Ax l c=⟨[]⟩:=⟨h,by rw[Ax,oA,h];rfl⟩
theorem Xy{s:cg}{c:Int}(h:below s c):oA s.received c=false:=by
 unfold oA
 rw[bK]
 intro r hr
 have:=h r hr
 simp only[U9,beq_iff_eq];omega
theorem HG{l:List bC}{c:Int}(h: ∀r,r∈l→ga aR r.share.rows≤1048576):ga aR (Ax l c).rows≤1048576:=by
 unfold Ax
 split
 ·rw[ak]
  cases hq:l[(fidx (U9 c) l).toNat]? with
  |none=>exact by decide
  |some r=>exact h r (dF hq)
 ·exact by decide
theorem Qi{s:cg}{c:Int}{d:DB}(h:nU s c d=false):Qg s c d=s:=by rw[Qg,h];rfl
theorem Lj{s:cg}{c:Int}{d:DB}(h:nU s c d=true):Qg s c d=nT s c d:=by rw[Qg,h];rfl
theorem abf{s:cg}{c:Int}{k:Nat}(hb: ∀r,r∈s.received→r.client<c)(hk:k≤s.received.length)(h:(if decide ((k:Int)<(s.received.length:Int))=true then decide ((s.received.getD k (aO .bC)).client<c)else false)=false):k=s.received.length:=by
 by_cases h1:k<s.received.length
 ·rw[if_pos (by simpa using h1)]at h
  have:=hb _ (getD_in (aO .bC) h1)
  simp only[decide_eq_false_iff_not]at h
  omega
 ·omega
theorem ins_eq(l:List bC)(y:bC): []++List.drop (cP 0) (List.take ((l.length:Int)).toNat l)++ [y]++ []=l++ [y]:=by simp
theorem ahm{s:cg}{c:Int}{d:DB}(h:(if !dL s then true else !dL (nT s c d))=true):nU s c d=false:=by
 unfold nU
 cases h1:dL s<;>cases h2:dL (nT s c d)<;>simp_all
theorem ahn{s:cg}{c:Int}{d:DB}(h:(if !dL s then true else !dL (nT s c d))=false):nU s c d=true:=by
 unfold nU
 cases h1:dL s<;>cases h2:dL (nT s c d)<;>simp_all
def Ll(d:DB):Int:=hsh ((d.rows.length:Int)::d.rows.flatMap Iw)
theorem vE(l:List UInt8):(Iw l).length=l.length+1:=by simp[Iw]
theorem Xz(l:List (List UInt8)): ∀k,((l.take k).flatMap Iw).length≤ga aR l:=by
 have key: ∀m:List (List UInt8),(m.flatMap Iw).length=ga aR m:=by
  intro m
  induction m with
  |nil=>rfl
  |cons x r ih=>rw[List.flatMap_cons,aX,ih,vE];unfold ga;simp only[bY,cA,vD];omega
 intro k
 rw[key]
 have h1:=pG l aR k
 unfold ga
 have:(l.take k).length≤l.length:=List.length_take_le' _ _
 omega
theorem R2(l:List (List UInt8))(k:Nat)(h:k<l.length):(l.take (k+1)).flatMap Iw=(l.take k).flatMap Iw++Iw (l.getD k (aO (.sl .u8))):=by
 rw[cI l k (aO (.sl .u8)) h,fQ];simp
def j6(m s:Int):Int:=Ej (kh m [173,s])
theorem XA{m s:Int}:(if kh m [173,s]>1 then kh m [173,s]else 1)=j6 m s:=by
 have:=fW m [173,s]
 unfold j6 Ej
 split<;>split<;>omega
def HH(c r:Int)(d:DB):Int:=hsh [179,c,r,Ll d]
def Uj(key s c r g:Int):Int:=kh key [181,s,c,r,g]
def mkR(key s c r:Int)(d:DB):gB:=⟨s,c,r,HH c r d,Uj key s c r (HH c r d)⟩
def R3(l:List cg)(c:Int)(ds:List DB):List cg:=dm (fun s d=>Qg s c d) l ds
def zn(x:cm):Nat→List cg
 |0=>x.aC
 |k+1=>R3 (zn x k) (k:Int) (e9 x (k:Int))
def aeR(x:cm)(c:Nat)(i:Nat):List gB:= [mkR (j6 x.bZ (i:Int)) (i:Int) (c:Int) x.round ((e9 x (c:Int)).getD i (aO .DB))]
def HI(x:cm)(c:Nat)(n:Nat):List gB:=(bA n).flatMap (aeR x c)
def HJ(x:cm)(n:Nat):List gB:=(bA n).flatMap fun c=>HI x c x.aC.length
theorem Dr(x:cm)(c n:Nat):HI x c (n+1)=HI x c n++ [mkR (j6 x.bZ (n:Int)) (n:Int) (c:Int) x.round ((e9 x (c:Int)).getD n (aO .DB))]:=by
 unfold HI
 rw[ep,fQ];simp[aeR]
theorem Ds(x:cm)(n:Nat):HJ x (n+1)=HJ x n++HI x n x.aC.length:=by
 unfold HJ
 rw[ep,fQ];simp
theorem BY(x:cm)(c:Nat): ∀n,(HI x c n).length=n
 |0=>rfl
 |n+1=>by rw[Dr,aX,BY x c n];rfl
theorem HK(x:cm): ∀n,(HJ x n).length=n*x.aC.length
 |0=>by simp[HJ]
 |n+1=>by rw[Ds,aX,HK x n,BY,cG];omega
structure Col(x:cm)(k:Nat):Prop where
 len:(zn x k).length=x.aC.length
 bel: ∀s,s∈zn x k→below s (k:Int)
 sml: ∀s,s∈zn x k→sj s
theorem Dt{x:cm}(h:okW x=true): ∀s,s∈x.aC→s.received= []:=by
 intro s hs
 obtain⟨i,hi,rfl⟩:=dx.1 hs
 have h1:=Li h hi
 have e:x.aC.getD i (aO .cg)=x.aC[i]:=by rw[ak,au hi];rfl
 simp only[JD,e,aj,decide_eq_true_eq]at h1
 have h2:x.aC[i].received.length=0:=by omega
 exact fC.1 h2
theorem Ay{x:cm}{c:Int}(h:okW x=true): ∀d,d∈e9 x c→eB d=true:=by
 have:=rZ h
 exact Xx (by omega)
theorem NM{l:List cg}{c:Int}{ds:List DB}{s:cg}(h:s∈R3 l c ds): ∃t d,t∈l∧d∈ds∧s=Qg t c d:=by
 induction l generalizing ds with
 |nil=>cases h
 |cons t l ih=>
  cases ds with
  |nil=>cases h
  |cons d ds=>
   rcases aW.1 h with h1|h1
   ·exact⟨t,d,eg ..,eg ..,h1⟩
   ·obtain⟨t',d',q1,q2,q3⟩:=ih h1
    exact⟨t',d',aJ _ q1,aJ _ q2,q3⟩
theorem col{x:cm}(h:okW x=true): ∀k,k≤x.aq.length→Col x k
 |0,_=>by
  have he:=Dt h
  refine⟨rfl,fun s hs=> ?_,fun s hs=> ?_⟩
  ·intro r hr;rw[he s hs]at hr;cases hr
  ·refine⟨by rw[he s hs];decide,fun r hr=> ?_⟩
   rw[he s hs]at hr;cases hr
 |k+1,hk=>by
  have ih:=col h k (by omega)
  have hl:(e9 x (k:Int)).length=x.aC.length:=kY h (by omega)
  refine⟨?_,fun s hs=> ?_,fun s hs=> ?_⟩
  ·show(dm _ _ _).length=_
   rw[iO,ih.len,hl];omega
  ·obtain⟨t,d,h1,h2,rfl⟩:=NM hs
   exact Uh (ih.bel t h1) (by omega)
  ·obtain⟨t,d,h1,h2,rfl⟩:=NM hs
   exact Ui (ih.sml t h1) (Ay h d h2)
theorem nV{x:cm}(h:okW x=true){k:Nat}(hk:k≤x.aq.length):(zn x k).length=x.aC.length:=(col h k hk).len
theorem NN{x:cm}(h:okW x=true){k i:Nat}(hk:k<x.aq.length)(hi:i<x.aC.length):(zn x (k+1)).getD i (aO .cg)=Qg ((zn x k).getD i (aO .cg)) (k:Int) ((e9 x (k:Int)).getD i (aO .DB)):=by
 have hl:(e9 x (k:Int)).length=x.aC.length:=kY h (by omega)
 have h2:=nV h (k:=k) (by omega)
 show(dm _ _ _).getD i _=_
 rw[ak,ak,ak,pX,au (show i<(zn x k).length by omega),au (show i<(e9 x (k:Int)).length by omega)]
 rfl
def zo(x:cm)(k i:Nat):List cg:=(zn x (k+1)).take i++(zn x k).drop i
theorem NO{x:cm}(h:okW x=true){k i:Nat}(hk:k<x.aq.length)(hi:i≤x.aC.length):(zo x k i).length=x.aC.length:=by
 have h1:=nV h (k:=k) (by omega)
 have h2:=nV h (k:=k+1) (by omega)
 unfold zo
 rw[nD _ _ _ (by omega) (by omega),h1]
theorem NP{x:cm}(h:okW x=true){k i:Nat}(hk:k<x.aq.length)(hi:i<x.aC.length):(zo x k i).getD i (aO .cg)=(zn x k).getD i (aO .cg):=by
 have h2:=nV h (k:=k+1) (by omega)
 exact nC _ _ _ _ (by omega)
theorem JP{x:cm}(h:okW x=true){k i:Nat}(hk:k<x.aq.length)(hi:i<x.aC.length):(zo x k i).set i (Qg ((zo x k i).getD i (aO .cg)) (k:Int) ((e9 x (k:Int)).getD i (aO .DB)))=zo x k (i+1):=by
 have h1:=nV h (k:=k) (by omega)
 have h2:=nV h (k:=k+1) (by omega)
 rw[NP h hk hi]
 exact xw _ _ _ (aO .cg) _ (by omega) (by omega) (NN h hk hi)
theorem NQ{x:cm}(h:okW x=true){k i:Nat}(hk:k<x.aq.length)(hi:x.aC.length≤i):zo x k i=zn x (k+1):=by
 have h1:=nV h (k:=k) (by omega)
 have h2:=nV h (k:=k+1) (by omega)
 unfold zo
 rw[aB (by omega),gA (by omega),cW]
theorem NR{x:cm}(h:okW x=true){k i:Nat}(hk:k<x.aq.length)(hi:i<x.aC.length):below ((zo x k i).getD i (aO .cg)) (k:Int)∧sj ((zo x k i).getD i (aO .cg))∧ga aR ((e9 x (k:Int)).getD i (aO .DB)).rows≤1048576:=by
 rw[NP h hk hi]
 have c:=col h k (by omega)
 have hl:(e9 x (k:Int)).length=x.aC.length:=kY h (by omega)
 exact⟨c.bel _ (getD_in _ (by rw[c.len];exact hi)),c.sml _ (getD_in _ (by rw[c.len];exact hi)),gk (Ay h _ (getD_in _ (by omega)))⟩
def cS(x:cm):List cg:=if okW x then zn x x.aq.length else []
def ko(x:cm):List gB:=if okW x then HJ x x.aq.length else []
end
section
def jx(l:List bt)(f:Int):List Int:=(l.filter fun r=>decide (f≤r.round)).map bt.round
theorem HN(l:List bt)(f:Int)(k:Nat)(h:k<l.length)(h2:f≤(l.getD k (aO .bt)).round):jx (l.take (k+1)) f=jx (l.take k) f++ [(l.getD k (aO .bt)).round]:=by
 unfold jx
 rw[cI l k (aO .bt) h,kD,eI]
 generalize l.getD k (aO .bt)=r at h2 ⊢
 simp[E2,h2]
theorem Ey(l:List bt)(f:Int)(k:Nat)(h:k<l.length)(h2: ¬f≤(l.getD k (aO .bt)).round):jx (l.take (k+1)) f=jx (l.take k) f:=by
 unfold jx
 rw[cI l k (aO .bt) h,kD,eI]
 generalize l.getD k (aO .bt)=r at h2 ⊢
 simp[E2,h2]
theorem AB(l:List bt)(f:Int):(jx l f).length≤l.length:=by
 unfold jx
 rw[bw];exact pY _ _
theorem Ez(l:List bt)(f:Int)(k:Nat):(jx (l.take k) f).length≤k:=by
 have h1:=AB (l.take k) f
 rw[bL]at h1
 omega
end
section
def Iy(key c:Int)(cell:List UInt8):List UInt8:=decr (nh key c) (cell.take 20)
def IT(key c:Int)(cell:List UInt8):Bool:=iC key&&inr c 0 1000000000000&&decide ((cell.length:Int)=24)&&(cell.drop 20==four (kR key c (cell.take 20)))
def opB(key c:Int)(cell:List UInt8):Bool:=inr ((Iy key c cell).getD 0 (aO .u8)).toNat 0 3&&decide ((((Iy key c cell).getD 1 (aO .u8)).toNat:Int)≤14)
def pZ(key c:Int)(cell:List UInt8):Bool:=IT key c cell&&opB key c cell
def NT(key c:Int)(cell:List UInt8):Plain:=if pZ key c cell then⟨((Iy key c cell).getD 0 (aO .u8)).toNat,((Iy key c cell).take (2+((Iy key c cell).getD 1 (aO .u8)).toNat)).drop 2⟩else⟨0,[]⟩
theorem Lo{key c:Int}{cell:List UInt8}(h:IT key c cell=true):(Iy key c cell).length=20∧cell.length=24:=by
 simp only[IT,aj,decide_eq_true_eq]at h
 have:cell.length=24:=by omega
 refine⟨?_,this⟩
 unfold Iy
 rw[pU,bL];omega
theorem qu{key c:Int}{cell:List UInt8}(h:pZ key c cell=false):NT key c cell=⟨0,[]⟩:=by rw[NT,h];rfl
theorem XF(key c:Int)(cell:List UInt8):(NT key c cell).body.length≤14:=by
 unfold NT
 split
 ·rename_i h
  simp only[pZ,opB,aj,decide_eq_true_eq]at h
  simp only[bM,bL];omega
 ·exact aA _
theorem XG(a b c d:UInt8)(n:Int)(h0:0≤n)(h1:n<4294967296):([a,b,c,d]==four n)=decide ((a.toNat:Int)+256*b.toNat+65536*c.toNat+16777216*d.toNat=n):=by
 have ha:=a.toNat_lt;have hb:=b.toNat_lt;have hc:=c.toNat_lt;have hd:=d.toNat_lt
 rw[xD,beq_iff_eq,decide_eq_true_eq]
 have key: ∀(x:UInt8) (m:Int),x=b8 m↔(x.toNat:Int)=m % 256:=by
  intro x m
  constructor
  ·rintro rfl;exact pS m
  ·intro h;apply K8;rw[pS];exact h
 unfold four
 simp only[List.cons.injEq,and_true,key]
 constructor
 ·rintro⟨q1,q2,q3,q4⟩;omega
 ·intro h;omega
def Ul(r:Int)(a:bt):Bool:=a.round==r
def k7(l:List bt)(r:Int):Bool:=l.any (Ul r)
def jJ(l:List bt)(r:Int):DB:=if k7 l r then(l.getD (fidx (Ul r) l).toNat (aO .bt)).db else⟨[]⟩
theorem Qj{l:List bt}{r:Int}{k:Nat}(h:k<l.length)(h1:(l.take k).any (Ul r)=false)(h2:Ul r (l.getD k (aO .bt))=true):k7 l r=true∧jJ l r=(l.getD k (aO .bt)).db:=by
 have ha:k7 l r=true:=Fw l (Ul r) (aO .bt) k h h2
 exact⟨ha,by rw[jJ,if_pos ha,BH (aO .bt) h h1 h2];rfl⟩
theorem FA{l:List bt}{r:Int}(h:l.any (Ul r)=false):k7 l r=false∧jJ l r=⟨[]⟩:=⟨h,by rw[jJ,k7,h];rfl⟩
def abh(rows:List (List UInt8))(v:List Int)(o:List UInt8)(k:Nat):List UInt8:=if decide ((k:Int)<v.length)&&(v.getD k (aO .int)==1)then fk o (rows.getD k (aO (.sl .u8)))else o
def uA(rows:List (List UInt8))(v:List Int)(k:Nat):List UInt8:=(bA k).foldl (abh rows v) []
def AF(rows:List (List UInt8))(v:List Int):List UInt8:=uA rows v rows.length
theorem JR(rows:List (List UInt8))(v:List Int)(k:Nat):uA rows v (k+1)=abh rows v (uA rows v k) k:=by
 unfold uA
 rw[ep,dX];rfl
theorem xR{rows:List (List UInt8)}{v:List Int}{k:Nat}(h:k<v.length)(h1:v.getD k (aO .int)=1):uA rows v (k+1)=fk (uA rows v k) (rows.getD k (aO (.sl .u8))):=by
 rw[JR,abh,if_pos]
 simp only[aj,decide_eq_true_eq,beq_iff_eq]
 exact⟨by omega,h1⟩
theorem qV{rows:List (List UInt8)}{v:List Int}{k:Nat}(h: ¬(k<v.length∧v.getD k (aO .int)=1)):uA rows v (k+1)=uA rows v k:=by
 rw[JR,abh,if_neg]
 simp only[aj,decide_eq_true_eq,beq_iff_eq]
 intro h2
 exact h ⟨by omega,h2.2⟩
theorem JS(rows:List (List UInt8))(v:List Int)(k:Nat)(h:v.length≤k): ∀n,uA rows v (k+n)=uA rows v k
 |0=>rfl
 |n+1=>by rw[←Nat.add_assoc,qV (by omega)];exact JS rows v k h n
theorem NU{rows:List (List UInt8)}{v:List Int}{k:Nat}(hk:k≤rows.length)(h:rows.length≤k∨v.length≤k):uA rows v k=AF rows v:=by
 unfold AF
 rcases h with h|h
 ·rw[show k=rows.length by omega]
 ·have:=JS rows v k h (rows.length-k)
  rw[show k+(rows.length-k)=rows.length by omega]at this
  exact this.symm
theorem xS{rows:List (List UInt8)}(v:List Int)(h: ∀r,r∈rows→r.length≤1048576): ∀k,k≤rows.length→(uA rows v k).length≤1048576
 |0,_=>aA _
 |k+1,hk=>by
  have ih:=xS v h k (by omega)
  by_cases hh:k<v.length∧v.getD k (aO .int)=1
  ·rw[xR hh.1 hh.2,eF]
   have:=h _ (getD_in (aO (.sl .u8)) (show k<rows.length by omega))
   omega
  ·rw[qV hh];exact ih
def hJ(d:DB)(v:List Int):List UInt8:=if eB d&&ff v d.rows.length then fk L7 (AF d.rows v)else []
theorem xT(d:DB)(v:List Int):(hJ d v).length=24∨hJ d v= []:=by
 unfold hJ
 split
 ·left
  rename_i h
  simp only[aj]at h
  have key: ∀k,k≤d.rows.length→(uA d.rows v k).length≤24:=by
   intro k
   induction k with
   |zero=>intro _;exact aA _
   |succ k ih=>
    intro hk
    by_cases hh:k<v.length∧v.getD k (aO .int)=1
    ·rw[xR hh.1 hh.2,eF,pe h.1 k (by omega)]
     have:=ih (by omega);omega
    ·rw[qV hh];exact ih (by omega)
  have:=key d.rows.length (bh _)
  unfold AF
  rw[eF,nQ];omega
 ·right;rfl
def HO(key sv r:Int)(v:List Int)(b:List UInt8):Int:=kh key ([191,sv,r,(v.length:Int)]++v++Iw b)
def mkA(key sv r:Int)(v:List Int)(b:List UInt8):eN:=⟨sv,r,v,b,HO key sv r v b⟩
def ni(d:DB)(v:List Int):Bool:= !((hJ d v).length==0)
def noA:eN:=⟨0,0,[],[],0⟩
def sH(key sv r:Int)(d:DB)(v:List Int):eN:=if ni d v then mkA key sv r v (hJ d v)else noA
def OU(b:List UInt8):List UInt8:=b.set 0 (b.getD 0 (aO .u8)^^^128)
def L9(s:cg)(key r:Int)(d:DB)(v:List Int):eN:=if ni d v then(if s.behavior=3 then mkA key s.id r v (OU (hJ d v))else mkA key s.id r v (hJ d v))else noA
theorem XH(s:cg)(key r:Int)(d:DB)(v:List Int):(L9 s key r d v).data.length=24∨(ni d v=false∧(L9 s key r d v).data= []):=by
 unfold L9
 cases h:ni d v with
 |false=>right;exact⟨rfl,rfl⟩
 |true=>
  left
  have h1:=xT d v
  have h2:(hJ d v).length=24:=by
   rcases h1 with h1|h1
   ·exact h1
   ·rw[ni,h1]at h;cases h
  simp only[if_true]
  split
  ·show(OU (hJ d v)).length=24
   unfold OU;rw[bH];exact h2
  ·exact h2
def j7(l:List (List UInt8)):Bool:=eA l.length&&l.all fun a=>decide ((a.length:Int)=24)
def xU(l:List (List UInt8)):List UInt8:=l.foldl fk []
def ZG(l:List (List UInt8)):List UInt8:=if j7 l then xU l else []
theorem Dv(l:List (List UInt8))(k:Nat)(h:k<l.length):xU (l.take (k+1))=fk (xU (l.take k)) (l.getD k (aO (.sl .u8))):=by
 unfold xU
 rw[cI l k (aO (.sl .u8)) h,dX];rfl
theorem NV{l:List (List UInt8)}(h: ∀a,a∈l→a.length≤1048576): ∀k,(xU (l.take k)).length≤1048576:=by
 intro k
 induction k with
 |zero=>exact aA _
 |succ k ih=>
  by_cases hk:k<l.length
  ·rw[Dv l k hk,eF]
   have:=h _ (getD_in (aO (.sl .u8)) hk)
   omega
  ·rw[aB (by omega)]at ih ⊢
   exact ih
def XI(x:cm)(r:Int)(d:DB)(q:List (List Int))(i:Nat):eN:=L9 (x.aC.getD i (aO .cg)) (j6 x.bZ (i:Int)) r d (q.getD i (aO (.sl .int)))
def vV(x:cm)(r:Int)(d:DB)(q:List (List Int))(n:Nat):List eN:=(bA n).map (XI x r d q)
theorem HP(x:cm)(r:Int)(d:DB)(q:List (List Int))(n:Nat):vV x r d q (n+1)=vV x r d q n++ [XI x r d q n]:=by
 unfold vV
 rw[ep,eI];rfl
theorem JT(x:cm)(r:Int)(d:DB)(q:List (List Int))(n:Nat):(vV x r d q n).length=n:=by simp[vV]
def query'(x:cm)(r row s:Int):List (List Int):=lN x.rows row (jv x.aC.length r row s)
def vW(x:cm)(r row s:Int):List (List UInt8):=(vV x r (jJ x.aN.rounds r) (query' x r row s) (query' x r row s).length).map eN.data
def EA(x:cm)(r row s:Int):Bool:=k7 x.aN.rounds r&&j7 (vW x r row s)
def Lp(x:cm)(r row s:Int):List UInt8:=if k7 x.aN.rounds r then ZG (vW x r row s)else []
theorem XJ{x:cm}{r row s:Int}{k:Nat}(hk:k<(query' x r row s).length)(h:ni (jJ x.aN.rounds r) ((query' x r row s).getD k (aO (.sl .int)))=false):j7 (vW x r row s)=false:=by
 unfold j7
 have h1:(XI x r (jJ x.aN.rounds r) (query' x r row s) k).data∈vW x r row s:=by
  unfold vW vV
  rw[pM]
  exact cj.2 ⟨k,bV.2 hk,rfl⟩
 have h2:(XI x r (jJ x.aN.rounds r) (query' x r row s) k).data= []:=by
  rcases XH (x.aC.getD k (aO .cg)) (j6 x.bZ (k:Int)) r (jJ x.aN.rounds r) ((query' x r row s).getD k (aO (.sl .int)))with h3|h3
  ·unfold XI;unfold L9;rw[h];rfl
  ·exact h3.2
 have h3:((vW x r row s).all fun a=>decide ((a.length:Int)=24))=false:=by
  rw[oJ]
  exact⟨_,h1,by rw[h2];decide⟩
 rw[h3,pg]
def p7(c:gS)(r:Int):Bool:=fG c&&inr r c.next 99999
def lO(c:gS)(own:List UInt8):Bool:=decide (c.sent<(c.bz.length:Int))&&(own==rR c c.sent)
def xV(c:gS):Int:=mJ c.key (1-eK c)
def jK(c:gS)(other:List UInt8):Bool:=(pZ (xV c) (c.inbox.length:Int) other&&((NT (xV c) (c.inbox.length:Int) other).kind==1))&&decide ((c.inbox.length:Int)<16)
def gG(c:gS)(r:Int)(own other:List UInt8):gS:=if p7 c r then⟨c.id,c.gZ,c.key,c.seed,c.bz,if lO c own then c.sent+1 else c.sent,if jK c other then c.inbox++ [(NT (xV c) (c.inbox.length:Int) other).body]else c.inbox,r+1⟩else c
def zO(d:cD):Bool:=fJ d&&decide (4≤an.wrap (d.live.next-d.saved.next))
def vG(d:cD)(r:Int):Bool:=p7 d.live r&&fJ d
def p8(d:cD)(r:Int)(own other:List UInt8):cD:=⟨gG d.live r own other,d.saved⟩
def rdev(d:cD)(r:Int)(own other:List UInt8):cD:=if vG d r then(if zO (p8 d r own other)then⟨gG d.live r own other,gG d.live r own other⟩else p8 d r own other)else d
def vX(a b:gS):Prop:=a.id=b.id∧a.gZ=b.gZ∧a.key=b.key∧a.seed=b.seed
theorem AG(c:gS)(r:Int)(own other:List UInt8):vX (gG c r own other) c:=by
 unfold gG
 split
 ·exact⟨rfl,rfl,rfl,rfl⟩
 ·exact⟨rfl,rfl,rfl,rfl⟩
theorem Um(d:cD)(r:Int)(own other:List UInt8):vX (rdev d r own other).live d.live:=by
 unfold rdev
 split
 ·split
  ·exact AG _ _ _ _
  ·exact AG _ _ _ _
 ·exact⟨rfl,rfl,rfl,rfl⟩
theorem Qk{a b:gS}(h:vX a b):eK a=eK b:=by unfold eK;rw[h.1,h.2.1]
def Lr(x:cm)(d0 d:cD)(r:Int):cD:=rdev d r (Lp x r (iw d0.live.key r (eK d0.live) x.rows) d0.live.seed) (Lp x r (iw d0.live.key r (1-eK d0.live) x.rows) d0.live.seed)
def Ls(x:cm)(d0:cD)(l:List Int):cD:=l.foldl (Lr x d0) d0
theorem Un(x:cm)(d0:cD)(l:List Int)(k:Nat)(h:k<l.length):Ls x d0 (l.take (k+1))=Lr x d0 (Ls x d0 (l.take k)) (l.getD k (aO .int)):=by
 unfold Ls
 rw[cI l k (aO .int) h,dX];rfl
theorem Dw(x:cm)(d0:cD): ∀(l:List Int) (d:cD),vX d.live d0.live→vX (l.foldl (Lr x d0) d).live d0.live
 | [],_,h=>h
 |r::l,d,h=>by
  refine Dw x d0 l _ ?_
  have:=Um d r (Lp x r (iw d0.live.key r (eK d0.live) x.rows) d0.live.seed) (Lp x r (iw d0.live.key r (1-eK d0.live) x.rows) d0.live.seed)
  exact⟨this.1.trans h.1,this.2.1.trans h.2.1,this.2.2.1.trans h.2.2.1,this.2.2.2.trans h.2.2.2⟩
def tP(x:cm)(d:cD):List Int:=jx x.aN.rounds d.live.next
def p9(x:cm)(d:cD):cD:=Ls x d (tP x d)
def uO(x:cm)(k i:Nat):List cD:=(x.aq.map (p9 x)).take k++(Ls x (x.aq.getD k (aO .cD)) ((tP x (x.aq.getD k (aO .cD))).take i)::x.aq.drop (k+1))
def Va(x:cm)(k:Nat):List cD:=(x.aq.map (p9 x)).take k++x.aq.drop k
theorem XK(x:cm)(k:Nat)(h:k<x.aq.length):uO x k 0=Va x k:=by
 unfold uO Va
 rw[lZ,dK h,show x.aq[k]=x.aq.getD k (aO .cD)by rw[ak,au h];rfl];rfl
theorem BZ(x:cm)(k:Nat)(h:k<x.aq.length):((x.aq.map (p9 x)).take k).length=k:=by
 rw[bL,bw];omega
theorem R5(x:cm)(k i:Nat)(h:k<x.aq.length):(uO x k i).length=x.aq.length:=by
 unfold uO
 rw[aX,BZ x k h,bY,bM];omega
theorem FB(x:cm)(k i:Nat)(h:k<x.aq.length):(uO x k i).getD k (aO .cD)=Ls x (x.aq.getD k (aO .cD)) ((tP x (x.aq.getD k (aO .cD))).take i):=by
 unfold uO
 rw[ak,bQ (by rw[BZ x k h];omega),BZ x k h,pO];rfl
theorem NW(x:cm)(k i:Nat)(h:k<x.aq.length)(hi:i<(tP x (x.aq.getD k (aO .cD))).length):(uO x k i).set k (Lr x (x.aq.getD k (aO .cD)) ((uO x k i).getD k (aO .cD)) ((tP x (x.aq.getD k (aO .cD))).getD i (aO .int)))=uO x k (i+1):=by
 rw[FB x k i h, ←Un x _ _ i hi]
 unfold uO
 rw[xy _ _ (by rw[BZ x k h];omega),BZ x k h,pO];rfl
theorem R6(x:cm)(k i:Nat)(h:k<x.aq.length)(hi:(tP x (x.aq.getD k (aO .cD))).length≤i):uO x k i=Va x (k+1):=by
 unfold uO Va
 rw[aB hi,cI (x.aq.map (p9 x)) k (aO .cD) (by rw[bw];exact h),b7]
 congr 1
 rw[show(x.aq.map (p9 x)).getD k (aO .cD)=p9 x (x.aq.getD k (aO .cD))by
  rw[ak,ak,dN,au h];rfl]
 rfl
theorem R7(x:cm)(k:Nat)(h:k<x.aq.length):(Va x k).getD k (aO .cD)=x.aq.getD k (aO .cD):=by rw[←XK x k h,FB x k 0 h];rfl
theorem R8(x:cm)(k:Nat)(h:k≤x.aq.length):(Va x k).length=x.aq.length:=by
 unfold Va
 rw[nD _ _ _ (by rw[bw]) h]
def NX(x:cm):cm:=if okW x then⟨x.rows,x.aC,x.aq.map (p9 x),x.aN,x.bZ,x.seed,x.round,x.replaced,x.cancelled⟩else x
theorem R9(x:cm)(k:Nat)(hk:k≤x.aq.length)(h:x.aq.length≤k):Va x k=x.aq.map (p9 x):=by
 unfold Va
 rw[aB (by rw[bw];exact h),gA h,cW]
end
section
theorem Uo(x:UInt8):an.wrap (x.toNat:Int)=x.toNat:=dA (by have:=x.toNat_lt;omega)
def Vb(key c:Int)(cell:List UInt8):Int:=((Iy key c cell).getD 0 (aO .u8)).toNat
def FC(key c:Int)(cell:List UInt8):Nat:=((Iy key c cell).getD 1 (aO .u8)).toNat
def ZH(key c:Int)(cell:List UInt8):List UInt8:=((Iy key c cell).take (2+FC key c cell)).drop 2
theorem aeV(key c:Int)(cell:List UInt8):FC key c cell<256:=((Iy key c cell).getD 1 (aO .u8)).toNat_lt
theorem XL(key c:Int)(cell:List UInt8):decr (nh key c) ((cell.take (20:Int).toNat).drop (0:Int).toNat)=Iy key c cell:=by unfold Iy;simp
theorem Ql(key c:Int)(cell:List UInt8):((Iy key c cell).take (an.wrap (2+an.wrap (((Iy key c cell).getD (cP 1) (aO .u8)).toNat:Int))).toNat).drop (cP 2)=ZH key c cell:=by
 have h:=aeV key c cell
 rw[Uo,dA (by show _∧2+(FC key c cell:Int)≤_;show _≤2+(FC key c cell:Int)∧_;omega)]
 show((Iy key c cell).take (2+(FC key c cell:Int)).toNat).drop 2=_
 rw[show(2+(FC key c cell:Int)).toNat=2+FC key c cell by omega];rfl
theorem acY{key c:Int}{cell:List UInt8}(h:14<FC key c cell):pZ key c cell=false:=by
 have:opB key c cell=false:=by
  simp only[opB,k8,decide_eq_false_iff_not]
  right
  show¬((FC key c cell:Int)≤14)
  omega
 rw[pZ,this,pg]
theorem Lt{key c:Int}{cell:List UInt8}(h:IT key c cell=false):pZ key c cell=false:=by rw[pZ,h];rfl
theorem Lu{key c:Int}{cell:List UInt8}(hA:IT key c cell=true)(h:FC key c cell≤14):(ZH key c cell).length=FC key c cell:=by
 have:=(Lo hA).1
 unfold ZH
 rw[bM,bL];omega
theorem ahq{key c:Int}{cell:List UInt8}(hA:IT key c cell=true)(h:FC key c cell≤14):jz ⟨Vb key c cell,ZH key c cell⟩=pZ key c cell:=by
 have hl:=Lu hA h
 rw[pZ,hA,dj,jz,opB]
 show(inr (Vb key c cell) 0 3&&decide (((ZH key c cell).length:Int)≤14))=(inr (Vb key c cell) 0 3&&decide ((FC key c cell:Int)≤14))
 rw[hl]
theorem B0{key c:Int}{cell:List UInt8}(h:pZ key c cell=true):NT key c cell=⟨Vb key c cell,ZH key c cell⟩:=by rw[NT,if_pos h];rfl
theorem acZ{key c:Int}{cell:List UInt8}(hA:IT key c cell=true)(h:FC key c cell≤14)(hk:Vb key c cell≤3):pZ key c cell=true:=by
 rw[pZ,hA,dj,opB]
 simp only[aj,dD,decide_eq_true_eq]
 exact⟨⟨by omega,hk⟩,by show(FC key c cell:Int)≤14;omega⟩
theorem aeW{key c:Int}{cell:List UInt8}(h:3<Vb key c cell):pZ key c cell=false:=by
 have:opB key c cell=false:=by
  simp only[opB,k8]
  left
  rw[acL]
  show¬(0≤Vb key c cell∧Vb key c cell≤3)
  omega
 rw[pZ,this,pg]
theorem aeX(a b k:Nat)(h:a<2^k):a||| (b*2^k)=a+b*2^k:=by
 have:=Nat.two_pow_add_eq_or_of_lt h b
 rw[Nat.mul_comm b,Nat.or_comm, ←this,xW]
theorem aeZ{a:Nat}{b k:Nat}(ha:a<2^k)(hb:b<256)(hk:k=8∨k=16∨k=24):an.wrap (aU an.bits (a:Int)|||aU an.bits (an.wrap ((b:Int)*2^k))).toNat=((a+b*2^k:Nat):Int):=by
 have hp:b*2^k<2^32:=by
  rcases hk with rfl|rfl|rfl<;>omega
 have ha2:a<2^24:=by
  rcases hk with rfl|rfl|rfl<;>omega
 have e:((b:Int)*2^k)=((b*2^k:Nat):Int):=by push_cast;rfl
 rw[e,dA (a:=((b*2^k:Nat):Int)) (by omega),ia,ia,BitVec.toNat_or,jm,jm]
 show an.wrap (((a % 2^64|||b*2^k % 2^64:Nat)):Int)=_
 rw[jZ (by omega),jZ (by omega),aeX a b k ha,dA (by omega)]
def Up(cell:List UInt8):Int:=((cell.getD 20 (aO .u8)).toNat:Int)+256*(cell.getD 21 (aO .u8)).toNat+65536*(cell.getD 22 (aO .u8)).toNat+16777216*(cell.getD 23 (aO .u8)).toNat
theorem abi(cell:List UInt8):an.wrap (aU an.bits (an.wrap (aU an.bits (an.wrap (aU an.bits (an.wrap ((cell.getD (cP 20) (aO .u8)).toNat:Int))|||aU an.bits (an.wrap (an.wrap ((cell.getD (cP 21) (aO .u8)).toNat:Int)*2^(min (cP 8) an.bits)))).toNat)|||aU an.bits (an.wrap (an.wrap ((cell.getD (cP 22) (aO .u8)).toNat:Int)*2^(min (cP 16) an.bits)))).toNat)|||aU an.bits (an.wrap (an.wrap ((cell.getD (cP 23) (aO .u8)).toNat:Int)*2^(min (cP 24) an.bits)))).toNat=Up cell:=by
 have h0:=(cell.getD 20 (aO .u8)).toNat_lt
 have h1:=(cell.getD 21 (aO .u8)).toNat_lt
 have h2:=(cell.getD 22 (aO .u8)).toNat_lt
 have h3:=(cell.getD 23 (aO .u8)).toNat_lt
 rw[Uo,Uo,Uo,Uo]
 show an.wrap (aU an.bits (an.wrap (aU an.bits (an.wrap (aU an.bits (((cell.getD 20 (aO .u8)).toNat:Nat):Int)|||aU an.bits (an.wrap ((((cell.getD 21 (aO .u8)).toNat:Nat):Int)*2^8))).toNat)|||aU an.bits (an.wrap ((((cell.getD 22 (aO .u8)).toNat:Nat):Int)*2^16))).toNat)|||aU an.bits (an.wrap ((((cell.getD 23 (aO .u8)).toNat:Nat):Int)*2^24))).toNat=_
 rw[aeZ (k:=8) h0 h1 (by omega),aeZ (k:=16) (by omega) h2 (by omega),aeZ (k:=24) (by omega) h3 (by omega)]
 unfold Up
 omega
theorem XN{cell:List UInt8}(h:cell.length=24):cell.drop 20= [cell.getD 20 (aO .u8),cell.getD 21 (aO .u8),cell.getD 22 (aO .u8),cell.getD 23 (aO .u8)]:=by
 rw[oH cell 20 (aO .u8) (by omega),oH cell 21 (aO .u8) (by omega),oH cell 22 (aO .u8) (by omega),oH cell 23 (aO .u8) (by omega),gA (by omega)]
theorem Sa{key c:Int}{cell:List UInt8}(h1:iC key=true)(h2:inr c 0 1000000000000=true)(h3:cell.length=24):IT key c cell=decide (Up cell=kR key c (cell.take 20)):=by
 have hr:=fW key (71::c::(cell.take 20).map (fun x=>(x.toNat:Int)))
 have Kc:0≤kR key c (cell.take 20)∧kR key c (cell.take 20)<2147483647:=hr
 rw[IT,h1,h2,show decide ((cell.length:Int)=24)=true by rw[decide_eq_true_eq];omega,dj,dj,dj,XN h3,XG _ _ _ _ _ Kc.1 (by omega)]
 rfl
def opH(key c:Int)(cell:List UInt8):Bool:=iC key&&inr c 0 1000000000000&&decide ((cell.length:Int)=24)
theorem ae0{key c:Int}{cell:List UInt8}(h:opH key c cell=false):pZ key c cell=false:=by
 apply Lt
 unfold opH at h
 rw[IT,h];rfl
theorem ahr{key c:Int}{cell:List UInt8}(h:opH key c cell=true):iC key=true∧inr c 0 1000000000000=true∧cell.length=24:=by
 simp only[opH,aj,decide_eq_true_eq]at h
 exact⟨h.1.1,h.1.2,by omega⟩
theorem XO(l:List UInt8):l.set (cP 0) (dJ (cU.wrap ((aU cU.bits (((l.getD (cP 0) (aO .u8)).toNat:Nat):Int)^^^aU cU.bits 128).toNat:Int)).toNat)=OU l:=by
 have:=Xa (l.getD (cP 0) (aO .u8)) 128
 rw[show(((128:UInt8).toNat:Nat):Int)=128 from rfl]at this
 rw[this];rfl
theorem Sb{d:DB}{v:List Int}(h:(hJ d v).length=0):ni d v=false:=by rw[ni,h];rfl
theorem B1{d:DB}{v:List Int}(h: ¬(hJ d v).length=0):ni d v=true:=by
 rw[ni,bp]
 exact beq_eq_false_iff_ne.2 h
theorem XP{key sv r:Int}{d:DB}{v:List Int}(h:ni d v=false):sH key sv r d v=noA:=by rw[sH,h];rfl
theorem FD{key sv r:Int}{d:DB}{v:List Int}(h:ni d v=true):sH key sv r d v=mkA key sv r v (hJ d v):=by rw[sH,if_pos h]
theorem B2{d:DB}{v:List Int}(h:ni d v=true):(hJ d v).length=24:=by
 rcases xT d v with h1|h1
 ·exact h1
 ·rw[ni,h1]at h;cases h
theorem XQ{s:cg}{key r:Int}{d:DB}{v:List Int}(h:(ni d v&&(s.behavior==3))=false):L9 s key r d v=sH key s.id r d v:=by
 unfold L9 sH
 cases hk:ni d v with
 |false=>rfl
 |true=>
  rw[hk,dj,beq_eq_false_iff_ne]at h
  rw[if_pos rfl,if_pos rfl,if_neg h]
theorem Sc{s:cg}{key r:Int}{d:DB}{v:List Int}(h:(ni d v&&(s.behavior==3))=true):ni d v=true∧L9 s key r d v=mkA key s.id r v (OU (hJ d v)):=by
 rw[aj,beq_iff_eq]at h
 exact⟨h.1,by rw[L9,if_pos h.1,if_pos h.2]⟩
theorem Lv(b:List UInt8):(OU b).length=b.length:=by unfold OU;rw[bH]
theorem ac1(s:cg)(key r:Int)(d:DB){v:List Int}(hv:v.length≤262144):(L9 s key r d v).selection.length≤262144∧(L9 s key r d v).data.length≤262144:=by
 have h:=xT d v
 have h2:(hJ d v).length≤262144:=by
  rcases h with h|h
  ·omega
  ·rw[h];exact aA _
 unfold L9
 split
 ·split
  ·exact⟨hv,by show(OU (hJ d v)).length≤_;rw[Lv];exact h2⟩
  ·exact⟨hv,h2⟩
 ·exact⟨aA _,aA _⟩
theorem Lw{l:List (List UInt8)}(h:j7 l=true):ZG l=xU l:=by rw[ZG,if_pos h]
theorem FE{l:List (List UInt8)}(h:j7 l=false):ZG l= []:=by rw[ZG,h];rfl
theorem NY{l:List (List UInt8)}(h:j7 l=true): ∀a,a∈l→a.length≤1048576:=by
 intro a ha
 simp only[j7,aj,bq,decide_eq_true_eq]at h
 have:=h.2 a ha
 omega
theorem abj{l:List (List UInt8)}{k:Nat}(hk:k<l.length)(h: ¬(l.getD k (aO (.sl .u8))).length=24):j7 l=false:=by
 have h2:(l.all fun a=>decide ((a.length:Int)=24))=false:=PW _ _ (aO (.sl .u8)) k hk (by rw[decide_eq_false_iff_not];omega)
 rw[j7,h2,pg]
theorem XR(rows i:Int)(sd:List Int): ∀v,v∈lN rows i sd→v.length≤64:=by
 intro v hv
 unfold lN at hv
 split at hv
 ·rcases aK.1 hv with h|h
  ·obtain⟨s,_,rfl⟩:=cj.1 h
   exact kU _ _
  ·rw[aP.1 h]
   exact Dd rows i sd
 ·cases hv
theorem XS(rows i:Int)(sd:List Int):(lN rows i sd).length≤sd.length+1:=by
 unfold lN
 split
 ·rw[aX,bw];simp
 ·exact aA _
theorem Sd{x:cm}(r row s:Int)(h:okW x=true):(query' x r row s).length≤x.aC.length:=by
 have h1:=XS x.rows row (jv x.aC.length r row s)
 have h2:=oR x.aC.length r row s
 have h3:=(gy h).2
 unfold query'
 omega
theorem XT(x:cm)(r row s:Int)(k:Nat):((query' x r row s).getD k (aO (.sl .int))).length≤64:=by
 rw[ak]
 cases hq:(query' x r row s)[k]? with
 |none=>exact aA _
 |some v=>exact XR _ _ _ v (dF hq)
theorem Lx{x:cm}{r row s:Int}(h:k7 x.aN.rounds r=false):Lp x r row s= []∧EA x r row s=false:=⟨by rw[Lp,h];rfl,by rw[EA,h];rfl⟩
theorem Se{x:cm}{r row s:Int}(h:k7 x.aN.rounds r=true):Lp x r row s=ZG (vW x r row s)∧EA x r row s=j7 (vW x r row s):=⟨by rw[Lp,if_pos h],by rw[EA,h,dj]⟩
theorem Ly{x:cm}(h:okW x=true):x.aN.rounds.length≤8∧ ∀y,y∈x.aN.rounds→ga aR y.db.rows≤1048576:=by
 have ha:=nL h
 simp only[L6,aj]at ha
 have ha:iD x.aN=true:=ha.1.1.1.1.1.2
 simp only[iD,Hf,aj,bq,bV,decide_eq_true_eq]at ha
 refine⟨by omega,fun y hy=> ?_⟩
 obtain⟨i,hi,rfl⟩:=dx.1 hy
 have h2:=ha.2 i hi
 have e:x.aN.rounds.getD i (aO .bt)=x.aN.rounds[i]:=by rw[ak,au hi];rfl
 simp only[vr,e,aj]at h2
 exact gk h2.1.2
end
section
def jL(rows:Int)(l:List bC):DB:=l.foldl (fun d r=>iU d r.share) (fA rows)
theorem JU(rows:Int)(l:List bC)(k:Nat)(h:k<l.length):jL rows (l.take (k+1))=iU (jL rows (l.take k)) (l.getD k (aO .bC)).share:=by
 unfold jL
 rw[cI l k (aO .bC) h,dX];rfl
theorem N0(rows:Int):eB (fA rows)=true:=by
 rw[nR]
 refine⟨qS rows,fun r hr=> ?_⟩
 unfold fA at hr
 dsimp only at hr
 split at hr
 ·rw[(s8.1 hr).2];exact nQ
 ·cases hr
theorem AH(a b:DB):(iU a b).rows.length=a.rows.length:=by
 cases h:kV a b with
 |true=>rw[qU h];exact kW h
 |false=>rw[ur h]
theorem Dz{a b:DB}(ha:eB a=true):eB (iU a b)=true:=by
 cases h:kV a b with
 |true=>exact Hx ha (vB h).2.1
 |false=>rw[ur h];exact ha
theorem Sg(rows:Int): ∀(l:List bC) (d:DB),eB d=true→eB (l.foldl (fun d r=>iU d r.share) d)=true∧(l.foldl (fun d r=>iU d r.share) d).rows.length=d.rows.length
 | [],d,h=>⟨h,rfl⟩
 |r::l,d,h=>by
  have ih:=Sg rows l (iU d r.share) (Dz h)
  rw[AH]at ih
  exact ih
theorem DA(rows:Int)(l:List bC):eB (jL rows l)=true∧(jL rows l).rows.length=(fA rows).rows.length:=Sg rows l _ (N0 rows)
theorem Sh(rows:Int)(l:List bC):ga aR (jL rows l).rows≤1048576:=gk (DA rows l).1
theorem Si{s:cg}(h:dL s=true):(1≤s.rows∧s.rows≤64)∧s.received.length≤8:=by
 simp only[dL,zM,aj,dD,decide_eq_true_eq]at h
 omega
theorem B5{s:cg}(h:dL s=true): ∀r,r∈s.received→ga aR r.share.rows≤1048576:=by
 intro r hr
 obtain⟨i,hi,rfl⟩:=dx.1 hr
 simp only[dL,aj,bq,bV]at h
 have h2:=h.2 i hi
 have e:s.received.getD i (aO .bC)=s.received[i]:=by rw[ak,au hi];rfl
 simp only[rP,e,aj]at h2
 exact gk h2.1.2
theorem Ut(rows:Int)(l:List bC)(f k:Nat)(h:k<l.length)(hf:f≤k):jL rows ((l.drop f).take (k+1-f))=iU (jL rows ((l.drop f).take (k-f))) (l.getD k (aO .bC)).share:=by
 rw[show k+1-f=(k-f)+1 by omega,JU _ _ _ (by rw[bM];omega)]
 congr 2
 rw[ak,cJ,show f+(k-f)=k by omega];rfl
theorem XY(rows:Int)(l:List bC)(f k:Nat)(h:l.length≤k):jL rows ((l.drop f).take (k-f))=jL rows (l.drop f):=by
 rw[aB (by rw[bM];omega)]
def uE(s:cg):DB:=if dL s then jL s.rows s.received else⟨[]⟩
def alt(d:DB):DB:=⟨d.rows.set 0 ((d.rows.getD 0 (aO (.sl .u8))).set 0 ((d.rows.getD 0 (aO (.sl .u8))).getD 0 (aO .u8)^^^1))⟩
def rcvd(s:cg):List bC:=if s.behavior=1 then s.received.drop 1 else s.received
def oq(s:cg):DB:=if dL s then(if s.behavior=2 then alt (jL s.rows (rcvd s))else jL s.rows (rcvd s))else⟨[]⟩
theorem alt_eq(d:DB):d.rows.set (cP 0) ((d.rows.getD (cP 0) (aO (.sl .u8))).set (cP 0) (dJ (cU.wrap ((aU cU.bits ((((d.rows.getD (cP 0) (aO (.sl .u8))).getD (cP 0) (aO .u8)).toNat:Nat):Int)^^^aU cU.bits 1).toNat:Int)).toNat))=(alt d).rows:=by
 have:=Xa ((d.rows.getD (cP 0) (aO (.sl .u8))).getD (cP 0) (aO .u8)) 1
 rw[show(((1:UInt8).toNat:Nat):Int)=1 from rfl]at this
 rw[this];rfl
theorem XZ(a b:Int):CF a b≤a∧CF a b≤b∧(CF a b=a∨CF a b=b):=by unfold CF;split<;>omega
theorem X0(l:List bC):l.drop (CF 1 (l.length:Int)).toNat=l.drop 1:=by
 have:=XZ 1 (l.length:Int)
 cases l with
 |nil=>simp
 |cons x r=>
  have h1:CF 1 (((x::r).length:Nat):Int)=1:=by rw[bY]at this ⊢;omega
  rw[h1];rfl
theorem X1{s:cg}(h:dL s=true):0<(jL s.rows (rcvd s)).rows.length∧0<((jL s.rows (rcvd s)).rows.getD 0 (aO (.sl .u8))).length:=by
 have h1:=Si h
 have h2:=DA s.rows (rcvd s)
 have h3:(fA s.rows).rows.length=s.rows.toNat:=by rw[qT (by omega)];simp
 have h4:0<(jL s.rows (rcvd s)).rows.length:=by omega
 exact⟨h4,by rw[pe h2.1 0 h4];decide⟩
theorem JV(s:cg):s.behavior=1→rcvd s=s.received.drop 1:=fun h=>if_pos h
theorem N1(s:cg): ¬s.behavior=1→rcvd s=s.received:=fun h=>if_neg h
theorem X2{d:DB}(h:eB d=true):eB (alt d)=true:=by
 rw[nR]at h ⊢
 refine⟨by unfold alt;dsimp only;rw[bH];exact h.1,fun r hr=> ?_⟩
 unfold alt at hr
 dsimp only at hr
 rcases gK hr with h1|h1
 ·exact h.2 r h1
 ·subst h1
  rw[bH]
  cases hd:d.rows with
  |nil=>rw[hd]at hr;cases hr
  |cons b l=>exact h.2 b (by rw[hd];exact eg ..)
theorem abn(s:cg):ga aR (oq s).rows≤1048576:=by
 unfold oq
 split
 ·split
  ·exact gk (X2 (DA _ _).1)
  ·exact gk (DA _ _).1
 ·exact by decide
theorem X4(s:cg): ∀r,r∈rcvd s→r∈s.received:=by
 intro r hr
 unfold rcvd at hr
 split at hr
 ·exact lW hr
 ·exact hr
def Qn(key:Int)(r:gB):Bool:=r.OJ==Uj key r.server r.client r.round r.qZ
def sB(key:Int)(s:cg)(r:gB):Bool:=(r.server !=s.id||r.round !=s.round)|| !Qn key r
def Lz(r:gB)(d:DB):Bool:=r.qZ==HH r.client r.round d
def k9(key:Int)(s:cg)(r:gB):Int:=if sB key s r then 0 else if oA s.received r.client then(if Lz r (Ax s.received r.client)then 0 else 2)else 1
def DC(key:Int)(s:cg)(p:DB):List gB→Int
 | []=>if dL s&&(p.rows==(uE s).rows)then 0 else 3
 |r::l=>if k9 key s r=0 then DC key s p l else k9 key s r
theorem DD(key:Int)(s:cg)(p:DB): ∀(l:List gB) (k:Nat),(∀j,j<k→k9 key s (l.getD j (aO .gB))=0)→DC key s p (l.drop k)=DC key s p l
 |l,0,_=>by rw[eV]
 | [],k+1,_=>by simp
 |r::l,k+1,h=>by
  have h0:=h 0 (by omega)
  rw[iN,DD key s p l k fun j hj=>by simpa using h (j+1) (by omega)]
  show DC key s p l=if k9 key s r=0 then DC key s p l else k9 key s r
  rw[if_pos (by simpa using h0)]
theorem B6{key:Int}{s:cg}{p:DB}{l:List gB}{k:Nat}(h: ∀j,j<k→k9 key s (l.getD j (aO .gB))=0)(hk:k<l.length)(hn:k9 key s (l.getD k (aO .gB))≠0):DC key s p l=k9 key s (l.getD k (aO .gB)):=by
 rw[←DD key s p l k h,dK hk,show l[k]=l.getD k (aO .gB)by rw[ak,au hk];rfl]
 exact if_neg hn
theorem ya{key:Int}{s:cg}{p:DB}{l:List gB}{k:Nat}(h: ∀j,j<k→k9 key s (l.getD j (aO .gB))=0)(hk:l.length≤k):DC key s p l=if dL s&&(p.rows==(uE s).rows)then 0 else 3:=by
 rw[←DD key s p l k h,gA hk];rfl
theorem vI{key:Int}{s:cg}{l:List gB}{k:Nat}(h: ∀j,j<k→k9 key s (l.getD j (aO .gB))=0)(hk:k9 key s (l.getD k (aO .gB))=0): ∀j,j<k+1→k9 key s (l.getD j (aO .gB))=0:=by
 intro j hj
 by_cases hjk:j=k
 ·subst hjk;exact hk
 ·exact h j (by omega)
def B7(m:Int)(sv:List cg)(pb:List DB)(rc:List gB)(i:Nat):Bool:=decide ((pb.length:Int)≤(i:Int))|| !(DC (j6 m (sv.getD i (aO .cg)).id) (sv.getD i (aO .cg)) (pb.getD i (aO .DB)) rc==0)
def X5(m:Int)(sv:List cg)(pb:List DB)(rc:List gB)(i:Nat):List Int:=if B7 m sv pb rc i then [(sv.getD i (aO .cg)).id]else []
def ot(m:Int)(sv:List cg)(pb:List DB)(rc:List gB)(n:Nat):List Int:=(bA n).flatMap (X5 m sv pb rc)
theorem HS{m:Int}{sv:List cg}{pb:List DB}{rc:List gB}{n:Nat}(h:B7 m sv pb rc n=true):ot m sv pb rc (n+1)=ot m sv pb rc n++ [(sv.getD n (aO .cg)).id]:=by
 unfold ot
 rw[ep,fQ];simp[X5,h]
theorem DE{m:Int}{sv:List cg}{pb:List DB}{rc:List gB}{n:Nat}(h:B7 m sv pb rc n=false):ot m sv pb rc (n+1)=ot m sv pb rc n:=by
 unfold ot
 rw[ep,fQ];simp[X5,h]
theorem sC(m:Int)(sv:List cg)(pb:List DB)(rc:List gB): ∀n,(ot m sv pb rc n).length≤n
 |0=>bh _
 |n+1=>by
  have ih:=sC m sv pb rc n
  cases h:B7 m sv pb rc n with
  |true=>rw[HS h,aX];simp;omega
  |false=>rw[DE h];omega
def eD(sv:List cg):List DB:=sv.map oq
theorem JW(sv:List cg)(k:Nat)(h:k<sv.length):(eD sv).take (k+1)=(eD sv).take k++ [oq (sv.getD k (aO .cg))]:=by
 rw[cI (eD sv) k (aO .DB) (by unfold eD;rw[bw];exact h)]
 congr 2
 unfold eD
 rw[ak,ak,dN,au h];rfl
theorem Sj(sv:List cg): ∀d,d∈eD sv→ga aR d.rows≤1048576:=by
 intro d hd
 obtain⟨s,_,rfl⟩:=cj.1 hd
 exact abn s
theorem N2{pb:List DB}(h: ∀d,d∈pb→ga aR d.rows≤1048576)(k:Nat):ga aR (pb.getD k (aO .DB)).rows≤1048576:=by
 rw[ak]
 cases hq:pb[k]? with
 |none=>exact by decide
 |some d=>exact h d (dF hq)
theorem HT{x:cm}(h:okW x=true): ∀s,s∈cS x→sj s:=by
 rw[cS,if_pos h];exact(col h _ (bh _)).sml
theorem j8{x:cm}(h:okW x=true):(cS x).length=x.aC.length:=by
 rw[cS,if_pos h];exact nV h (bh _)
theorem aht{key:Int}{s:cg}{r:gB}(h:sB key s r=false)(h1:oA s.received r.client=false):k9 key s r=1:=by rw[k9,h,h1];rfl
theorem ahu{key:Int}{s:cg}{r:gB}(h:sB key s r=false)(h1:oA s.received r.client=true)(h2:Lz r (Ax s.received r.client)=false):k9 key s r=2:=by rw[k9,h,h1,h2];rfl
theorem ae2{key:Int}{s:cg}{r:gB}(h:sB key s r=false)(h1:oA s.received r.client=true)(h2:Lz r (Ax s.received r.client)=true):k9 key s r=0:=by rw[k9,h,h1,h2];rfl
theorem ae3{key:Int}{s:cg}{r:gB}(h:sB key s r=true):k9 key s r=0:=by rw[k9,h];rfl
end
section
def OV:DB→List DB→Option DB
 |a,[]=>some a
 |a,s::r=>if kV a s then OV (iU a s) r else none
def Uu(l:List DB):Option DB:=if eA l.length then OV (l.getD 0 (aO .DB)) (l.drop 1)else none
def IW(l:List DB):Bool:=(Uu l).isSome
def jw(l:List DB):DB:=(Uu l).getD ⟨[]⟩
def E3(l:List DB)(k:Nat):DB:=((l.drop 1).take k).foldl iU (l.getD 0 (aO .DB))
theorem B8(l:List DB)(k:Nat)(h:k<(l.drop 1).length):E3 l (k+1)=iU (E3 l k) ((l.drop 1).getD k (aO .DB)):=by
 unfold E3
 rw[cI (l.drop 1) k (aO .DB) h,dX];rfl
theorem N3{α:Type}(l:List α)(k:Nat)(d:α)(h:k<l.length):l.drop k=l.getD k d::l.drop (k+1):=by
 rw[dK h,show l[k]=l.getD k d by rw[ak,au h];rfl]
theorem N4(l:List DB)(k:Nat)(h:k<(l.drop 1).length)(hx:kV (E3 l k) ((l.drop 1).getD k (aO .DB))=true):OV (E3 l k) ((l.drop 1).drop k)=OV (E3 l (k+1)) ((l.drop 1).drop (k+1)):=by
 rw[N3 _ k (aO .DB) h,OV,if_pos hx,B8 l k h]
theorem X6(l:List DB)(k:Nat)(h:k<(l.drop 1).length)(hx:kV (E3 l k) ((l.drop 1).getD k (aO .DB))=false):OV (E3 l k) ((l.drop 1).drop k)=none:=by
 rw[N3 _ k (aO .DB) h,OV,hx];rfl
theorem Sk(l:List DB)(k:Nat)(h:(l.drop 1).length≤k):OV (E3 l k) ((l.drop 1).drop k)=some (E3 l k):=by
 rw[gA h];rfl
def yc(l:List DB):Prop:= ∀d,d∈l→eB d=true
theorem oX{l:List DB}(h:yc l)(k:Nat):eB (l.getD k (aO .DB))=true:=by
 rw[ak]
 cases hq:l[k]? with
 |none=>exact by decide
 |some d=>exact h d (dF hq)
theorem X7{l:List DB}(h:yc l): ∀k,eB (E3 l k)=true:=by
 intro k
 induction k with
 |zero=>exact oX h 0
 |succ k ih=>
  by_cases hk:k<(l.drop 1).length
  ·rw[B8 l k hk];exact Dz ih
  ·have e:E3 l (k+1)=E3 l k:=by unfold E3;rw[aB (by omega),aB (by omega)]
   rw[e];exact ih
theorem Qo{l:List DB}(h:yc l):yc (l.drop 1):=fun d hd=>h d (lW hd)
theorem HU{l:List DB}(h:Uu l=none):jw l=⟨[]⟩∧IW l=false:=by unfold jw IW;rw[h];exact⟨rfl,rfl⟩
theorem LA{l:List DB}{d:DB}(h:Uu l=some d):jw l=d∧IW l=true:=by unfold jw IW;rw[h];exact⟨rfl,rfl⟩
theorem Sm{l:List DB}(h:eA l.length=false):Uu l=none:=by rw[Uu,h];rfl
theorem Sn{l:List DB}(h:eA l.length=true):Uu l=OV (E3 l 0) ((l.drop 1).drop 0):=by rw[Uu,if_pos h];rfl
theorem HV{l:List DB}(h:eA l.length=true):2≤l.length∧l.length≤4:=by simp only[eA,dD]at h;omega
theorem abo(s:cg):eB (oq s)=true:=by
 unfold oq
 split
 ·split
  ·exact X2 (DA _ _).1
  ·exact(DA _ _).1
 ·exact by decide
theorem FG(sv:List cg):yc (eD sv):=by
 intro d hd
 obtain⟨s,_,rfl⟩:=cj.1 hd
 exact abo s
theorem Sp(l:List DB)(h:yc l):eB (jw l)=true:=by
 cases hq:Uu l with
 |none=>rw[(HU hq).1];decide
 |some d=>
  rw[(LA hq).1]
  have key: ∀(r:List DB) (a:DB),eB a=true→OV a r=some d→eB d=true:=by
   intro r
   induction r with
   |nil=>intro a ha hj;simp only[OV,oI]at hj;exact hj▸ha
   |cons s r ih=>
    intro a ha hj
    simp only[OV]at hj
    split at hj
    ·exact ih _ (Dz ha) hj
    ·cases hj
  unfold Uu at hq
  split at hq
  ·exact key _ _ (oX h 0) hq
  ·cases hq
def uF(a:mj)(r:Int)(d:DB):Bool:=(((iD a&&inr r 0 100000)&& !decide (r≤eC a))&&eB d)&&decide ((d.rows.length:Int)=a.rows)
def wN(a:mj)(r:Int)(d:DB):List bt:=a.rounds++ [⟨r,d⟩]
def EB(a:mj)(r:Int)(d:DB):List bt:=if uF a r d then(if(8:Int)<(wN a r d).length then(wN a r d).drop 1 else wN a r d)else a.rounds
def HW(id rows b:Int):Bool:=inr id 0 3&&inr rows 1 64&&inr b 0 3
def newS(id rows b:Int):cg:=if HW id rows b then⟨id,rows,0,[],b⟩else⟨0,0,0,[],0⟩
def HX(s:cg):Bool:=dL s&& !(s.round==100000)
def ld(s:cg):cg:=if HX s then⟨s.id,s.rows,an.wrap (s.round+1),[],s.behavior⟩else s
def B9(l:List cg)(id:Int):Bool:=inr id 0 (an.wrap ((l.length:Int)-1))
def DF(rows rd:Int)(p:List cg×List Int)(id:Int):List cg×List Int:=if B9 p.1 id then(p.1.set id.toNat ⟨id,rows,rd,[],0⟩,p.2++ [id])else p
def LB(rows rd:Int)(p:List cg×List Int)(g:List Int):List cg×List Int:=g.foldl (DF rows rd) p
theorem HY(rows rd:Int)(p:List cg×List Int)(g:List Int)(k:Nat)(h:k<g.length):LB rows rd p (g.take (k+1))=DF rows rd (LB rows rd p (g.take k)) (g.getD k (aO .int)):=by
 unfold LB
 rw[cI g k (aO .int) h,dX];rfl
theorem LC(rows rd:Int)(p:List cg×List Int)(id:Int):(DF rows rd p id).1.length=p.1.length∧(DF rows rd p id).2.length≤p.2.length+1:=by
 unfold DF
 split
 ·simp
 ·exact⟨rfl,Nat.le_succ _⟩
theorem LD(rows rd:Int)(p:List cg×List Int)(g:List Int): ∀k,k≤g.length→(LB rows rd p (g.take k)).1.length=p.1.length∧(LB rows rd p (g.take k)).2.length≤p.2.length+k
 |0,_=>⟨rfl,bh _⟩
 |k+1,hk=>by
  have ih:=LD rows rd p g k (by omega)
  rw[HY _ _ _ _ k (by omega)]
  have:=LC rows rd (LB rows rd p (g.take k)) (g.getD k (aO .int))
  omega
def HZ(rd:Int)(l:List cg):Prop:= ∀s,s∈l→s.round=rd∧sj s
theorem ahv{rows rd:Int}{p:List cg×List Int}{id:Int}(h:HZ rd p.1):HZ rd (DF rows rd p id).1:=by
 unfold DF
 split
 ·intro s hs
  rcases gK hs with h1|h1
  ·exact h s h1
  ·subst h1
   exact⟨rfl,aA _,fun r hr=>by cases hr⟩
 ·exact h
theorem X8{rows rd:Int}{p:List cg×List Int}(g:List Int)(h:HZ rd p.1): ∀k,k≤g.length→HZ rd (LB rows rd p (g.take k)).1
 |0,_=>h
 |k+1,hk=>by
  rw[HY _ _ _ _ k (by omega)]
  exact ahv (X8 g h k (by omega))
theorem X9(l:List cg)(k:Nat)(h:k<l.length):((l.map ld).take k++l.drop k).set k (ld (((l.map ld).take k++l.drop k).getD k (aO .cg)))=(l.map ld).take (k+1)++l.drop (k+1):=by
 rw[nC _ _ _ _ (by rw[bw];omega)]
 refine xw _ _ _ (aO .cg) _ h (by rw[bw];exact h) ?_
 rw[ak,ak,dN,au h];rfl
def nY(x:cm):Bool:=okW x&& !decide (x.round≥99999)
def we(x:cm)(g:List Int):List cg×List Int:=LB x.rows x.round (x.aC,x.replaced) g
def dR(x:cm)(g:List Int)(d:DB):cm:=if nY x then⟨x.rows,(we x g).1.map ld,x.aq,⟨x.aN.rows,if g.length=0 then EB x.aN x.round d else x.aN.rounds⟩,x.bZ,x.seed,an.wrap (x.round+1),(we x g).2,if g.length=0 then x.cancelled else an.wrap (x.cancelled+1)⟩else x
theorem ac2{x:cm}(h:okW x=true):HZ x.round x.aC:=by
 intro s hs
 obtain⟨i,hi,rfl⟩:=dx.1 hs
 have h1:=Li h hi
 have e:x.aC.getD i (aO .cg)=x.aC[i]:=by rw[ak,au hi];rfl
 have he:=Dt h _ hs
 simp only[JD,e,aj,beq_iff_eq]at h1
 exact⟨h1.1.2,by rw[he];decide,fun r hr=>by rw[he]at hr;cases hr⟩
def Ya(key:Int)(a:eN):Bool:=a.OJ==HO key a.server a.round a.selection a.data
def fls(key:Int)(d:DB)(a:eN):Bool:=Ya key a&& !(a.data==hJ d a.selection)
def tsK(x:cm)(i:Nat):Int:=j6 x.bZ (i:Int)
def tsA(x:cm)(i:Nat):eN:=L9 (x.aC.getD i (aO .cg)) (tsK x i) (eC x.aN) (jJ x.aN.rounds (eC x.aN)) (cR (kh x.seed [227,x.round,(i:Int)]) x.rows)
def ZI(x:cm)(i:Nat):Bool:=fls (tsK x i) (jJ x.aN.rounds (eC x.aN)) (tsA x i)
def OW(x:cm)(n:Nat):List Int:=(bA n).flatMap fun i=>if ZI x i then [(i:Int)]else []
theorem Sq{x:cm}{n:Nat}(h:ZI x n=true):OW x (n+1)=OW x n++ [(n:Int)]:=by
 unfold OW
 rw[ep,fQ];simp[h]
theorem H6{x:cm}{n:Nat}(h:ZI x n=false):OW x (n+1)=OW x n:=by
 unfold OW
 rw[ep,fQ];simp[h]
def EC(x:cm)(n:Nat):List cg×List Int:=LB x.rows x.round (x.aC,x.replaced) (OW x n)
theorem Sr{x:cm}{n:Nat}(h:ZI x n=true):EC x (n+1)=DF x.rows x.round (EC x n) (n:Int):=by
 unfold EC LB
 rw[Sq h,dX];rfl
theorem N5{x:cm}{n:Nat}(h:ZI x n=false):EC x (n+1)=EC x n:=by unfold EC;rw[H6 h]
def zq(x:cm):Bool:=okW x&&k7 x.aN.rounds (eC x.aN)
def testW(x:cm):cm:=if zq x then⟨x.rows,(EC x x.aC.length).1,x.aq,x.aN,x.bZ,x.seed,x.round,(EC x x.aC.length).2,x.cancelled⟩else x
def jU(x:cm):cm:=if nY x then NX (testW (dR x (ot x.bZ (cS x) (eD (cS x)) (ko x) (cS x).length) (jw (eD (cS x)))))else x
def gT(x:cm):Nat→cm
 |0=>x
 |k+1=>jU (gT x k)
end
section
theorem LF{α:Type}(f:α→Nat)(C n:Nat)(l:List α)(h: ∀y,y∈l→f y≤C)(hl:l.length≤n):ga f l≤(C+1)*n:=by
 have h1:=acV f C l h
 have h2:(C+1)*l.length≤(C+1)*n:=Nat.mul_le_mul_left _ hl
 unfold ga
 rw[cG,Nat.one_mul]at h2
 omega
theorem Qq{d:DB}(h:eB d=true):ga aR d.rows≤1600:=by
 have h1:=abe h
 have h2:=Hs h
 unfold aeP at h1;unfold ga;omega
def LG(c:gS):Prop:=c.bz.length≤16∧c.inbox.length≤16∧(∀b,b∈c.bz→b.length≤14)∧ ∀b,b∈c.inbox→b.length≤14
theorem Ca{c:gS}(h:fG c=true):LG c:=by
 obtain⟨h1,h2,h3,h4,_⟩:=uy h
 exact⟨h1,h2,h3,h4⟩
theorem JX{c:gS}(h:LG c):eT c≤480:=by
 have h1:=LF aR 14 16 c.bz h.2.2.1 h.1
 have h2:=LF aR 14 16 c.inbox h.2.2.2 h.2.1
 unfold eT;omega
theorem Cb{c:gS}(h:LG c)(r:Int)(own other:List UInt8):LG (gG c r own other):=by
 unfold gG
 split
 ·refine⟨h.1,?_,h.2.2.1,?_⟩
  ·dsimp only
   split
   ·rename_i hg
    simp only[jK,aj,decide_eq_true_eq]at hg
    rw[aX,kM];omega
   ·exact h.2.1
  ·dsimp only
   split
   ·intro b hb
    rcases aK.1 hb with h1|h1
    ·exact h.2.2.2 b h1
    ·rw[aP.1 h1];exact XF _ _ _
   ·exact h.2.2.2
 ·exact h
def LH(d:cD):Prop:=LG d.live∧LG d.saved
theorem ae4{d:cD}(h:LH d)(r:Int)(own other:List UInt8):LH (rdev d r own other):=by
 unfold rdev
 split
 ·split
  ·exact⟨Cb h.1 _ _ _,Cb h.1 _ _ _⟩
  ·exact⟨Cb h.1 _ _ _,h.2⟩
 ·exact h
theorem Qr(x:cm)(d0:cD): ∀(l:List Int) (d:cD),LH d→LH (l.foldl (Lr x d0) d)
 | [],_,h=>h
 |r::l,_,h=>Qr x d0 l _ (ae4 h _ _ _)
theorem uG{d:cD}(h:LH d):dH d≤960:=by
 have h1:=JX h.1
 have h2:=JX h.2
 unfold dH;omega
theorem ahx{x:cm}{i:Nat}(h:okD x i=true):LH (x.aq.getD i (aO .cD)):=by
 simp only[okD,fJ,aj]at h
 exact⟨Ca h.1.1.1.1.1.1.1.1.1,Ca h.1.1.1.1.1.1.1.1.2⟩
theorem Ss{x:cm}(h:okW x=true): ∀d,d∈x.aq→LH d:=by
 intro d hd
 obtain⟨i,hi,rfl⟩:=dx.1 hd
 have h1:=ahx (qL h hi)
 rwa [ak,au hi]at h1
def wC(x:cm)(n:Nat):Prop:=ga iP x.aC≤1048576∧ga dH x.aq≤1048576∧jr x.aN≤1048576∧x.replaced.length≤n
theorem Yb{x:cm}{n:Nat}(h:wC x n)(hn:n≤4194304):wB x:=⟨h.1,h.2.1,h.2.2.1,dY h.2.2.2 hn⟩
theorem yX{x:cm}{n m:Nat}(h:wC x n)(hn:n≤m):wC x m:=⟨h.1,h.2.1,h.2.2.1,dY h.2.2.2 hn⟩
theorem ahy{x:cm}{n:Nat}(h:wC x n):wC (NX x) n:=by
 unfold NX
 split
 ·rename_i hk
  refine⟨h.1,?_,h.2.2.1,h.2.2.2⟩
  have h1:ga dH (x.aq.map (p9 x))≤(960+1)*8:=by
   refine LF dH 960 8 _ (fun d hd=> ?_) (by rw[bw];exact(sY (nL hk)).2.1)
   obtain⟨e,he,rfl⟩:=cj.1 hd
   exact uG (Qr x e _ _ (Ss hk e he))
  exact dY h1 (by decide)
 ·exact h
theorem ajQ{s:cg}(h:s.received= []):iP s=0:=by unfold iP;rw[h];rfl
def ED(l:List cg):Prop:=l.length≤4∧ ∀s,s∈l→s.received= []
theorem AI{l:List cg}(h:ED l):ga iP l≤1048576:=
 dY (LF iP 0 4 l (fun s hs=>by rw[ajQ (h.2 s hs)];exact bh 0) h.1) (by decide)
theorem ahz{rows rd:Int}{p:List cg×List Int}{id:Int}(h:ED p.1):ED (DF rows rd p id).1:=by
 unfold DF
 split
 ·refine⟨by rw[bH];exact h.1,fun s hs=> ?_⟩
  rcases gK hs with h1|h1
  ·exact h.2 s h1
  ·subst h1;rfl
 ·exact h
theorem Yc{rows rd:Int}: ∀(g:List Int) {p:List cg×List Int},ED p.1→ED (LB rows rd p g).1∧(LB rows rd p g).2.length≤p.2.length+g.length
 | [],_,h=>⟨h,bh _⟩
 |i::g,p,h=>by
  have h1:=Yc (rows:=rows) (rd:=rd) g (ahz (rows:=rows) (rd:=rd) (id:=i) h)
  have h2:=(LC rows rd p i).2
  refine⟨h1.1,?_⟩
  have h3:(LB rows rd p (i::g)).2.length≤(DF rows rd p i).2.length+g.length:=h1.2
  rw[bY];omega
theorem Yd{x:cm}(h:okW x=true):ED x.aC:=⟨(gy h).1,Dt h⟩
theorem ae5{l:List cg}(h:ED l):ED (l.map ld):=by
 refine⟨by rw[bw];exact h.1,fun s hs=> ?_⟩
 obtain⟨t,ht,rfl⟩:=cj.1 hs
 unfold ld
 split
 ·rfl
 ·exact h.2 t ht
theorem ahA{a:mj}{r:Int}{d:DB}(ha:iD a=true)(hd:eB d=true):ga iE (EB a r d)≤1048576:=by
 have h8:a.rounds.length≤8:=by simp only[iD,Hf,aj,decide_eq_true_eq]at ha;omega
 have hm: ∀y,y∈a.rounds→iE y≤1600:=by
  intro y hy
  obtain⟨i,hi,rfl⟩:=dx.1 hy
  simp only[iD,aj,bq,bV]at ha
  have h2:=ha.2 i hi
  have e:a.rounds.getD i (aO .bt)=a.rounds[i]:=by rw[ak,au hi];rfl
  simp only[vr,e,aj]at h2
  exact Qq h2.1.2
 have hL: ∀y,y∈wN a r d→iE y≤1600:=by
  intro y hy
  rcases aK.1 hy with h1|h1
  ·exact hm y h1
  ·rw[aP.1 h1];exact Qq hd
 have hl:(wN a r d).length≤9:=by unfold wN;rw[aX,kM];omega
 have key:ga iE (EB a r d)≤(1600+1)*9:=by
  unfold EB
  split
  ·split
   ·exact LF _ _ _ _ (fun y hy=>hL y (lW hy)) (by rw[bM];omega)
   ·exact LF _ _ _ _ hL hl
  ·exact LF _ _ _ _ hm (by omega)
 exact dY key (by decide)
theorem abp{x:cm}(h:okW x=true):iD x.aN=true:=by
 have h:=nL h
 simp only[L6,aj]at h
 exact h.1.1.1.1.1.2
theorem N6{x:cm}{g:List Int}{d:DB}{n:Nat}(h:wC x n)(hd:eB d=true):wC (dR x g d) (n+g.length):=by
 unfold dR
 split
 ·rename_i hk
  simp only[nY,aj]at hk
  have h0:=Yc (rows:=x.rows) (rd:=x.round) g (p:=(x.aC,x.replaced)) (Yd hk.1)
  refine⟨AI (ae5 h0.1),h.2.1,?_,?_⟩
  ·show ga iE _≤_
   dsimp only
   split
   ·exact ahA (abp hk.1) hd
   ·exact h.2.2.1
  ·have h1:=h0.2
   have h2:=h.2.2.2
   show(LB x.rows x.round (x.aC,x.replaced) g).2.length≤_
   dsimp only at h1
   omega
 ·exact yX h (wg _ _)
theorem LI(x:cm): ∀n,(OW x n).length≤n
 |0=>bh _
 |n+1=>by
  have ih:=LI x n
  cases h:ZI x n with
  |true=>rw[Sq h,aX];simp;omega
  |false=>rw[H6 h];omega
theorem Su{x:cm}{n:Nat}(h:wC x n):wC (testW x) (n+4):=by
 unfold testW
 split
 ·rename_i hk
  simp only[zq,aj]at hk
  have h0:=Yc (rows:=x.rows) (rd:=x.round) (OW x x.aC.length) (p:=(x.aC,x.replaced)) (Yd hk.1)
  have h4:=(gy hk.1).1
  have h5:=LI x x.aC.length
  refine⟨AI h0.1,h.2.1,h.2.2.1,?_⟩
  have h1:=h0.2
  have h2:=h.2.2.2
  show(LB x.rows x.round (x.aC,x.replaced) (OW x x.aC.length)).2.length≤_
  dsimp only at h1
  omega
 ·exact yX h (wg _ _)
theorem Ye{x:cm}{n:Nat}(h:wC x n):wC (jU x) (n+8):=by
 unfold jU
 split
 ·rename_i hk
  simp only[nY,aj]at hk
  have h1:=sC x.bZ (cS x) (eD (cS x)) (ko x) (cS x).length
  rw[j8 hk.1]at h1
  have h4:=(gy hk.1).1
  have h2:=Su (N6 (g:=ot x.bZ (cS x) (eD (cS x)) (ko x) (cS x).length) (d:=jw (eD (cS x))) h (Sp _ (FG _)))
  rw[j8 hk.1]at h2 ⊢
  exact yX (ahy h2) (by omega)
 ·exact yX h (wg _ _)
theorem Yf{x:cm}{n:Nat}(h:wC x n): ∀k,wC (gT x k) (n+8*k)
 |0=>h
 |k+1=>yX (Ye (Yf h k)) (by omega)
end
section
def DG(c:gS)(b:List UInt8):gS:=⟨c.id,c.gZ,c.key,c.seed,c.bz++ [b],c.sent,c.inbox,c.next⟩
def yd(c:gS)(b:List UInt8):Bool:=fG c&&fG (DG c b)
def nZ(c:gS)(b:List UInt8):gS:=if yd c b then DG c b else c
def DH(d:cD)(b:List UInt8):Bool:=(fJ d&&yd d.live b)&&yd d.saved b
def DI(d:cD)(b:List UInt8):cD:=if DH d b then⟨nZ d.live b,nZ d.saved b⟩else d
def OX(d:cD):cD:=if fJ d then⟨d.live,d.live⟩else d
def Yg(x:cm)(i:Nat)(d:cD):cm:=⟨x.rows,x.aC,x.aq.set i d,x.aN,x.bZ,x.seed,x.round,x.replaced,x.cancelled⟩
def qy(x:cm)(c:Int):Bool:=okW x&&vv x c
def IX(x:cm)(c:Int):cD:=x.aq.getD c.toNat (aO .cD)
def Qs(x:cm)(c:Int)(b:List UInt8):Bool:=qy x c&&DH (IX x c) b
def LJ(x:cm)(c:Int)(b:List UInt8):cm:=if qy x c then Yg x c.toNat (DI (IX x c) b)else x
def abq(x:cm)(c:Int):cm:=if qy x c then Yg x c.toNat (OX (IX x c))else x
theorem LK{x:cm}{c:Int}(h:qy x c=true):okW x=true∧0≤c∧c<x.aq.length:=by
 simp only[qy,vv,aj,dD]at h
 exact⟨h.1,by omega⟩
theorem ae6{x:cm}{c:Int}(h:qy x c=true):LH (IX x c):=by
 obtain⟨h1,h2⟩:=LK h
 exact Ss h1 _ (getD_in _ (by omega))
end
section
theorem Cc(c:gS):mJ c.key (an.wrap (1-eK c))=xV c:=by
 unfold xV
 rw[dA (by unfold eK;split<;>omega)]
theorem N7{c:gS}{r:Int}{own other:List UInt8}(h:p7 c r=false):gG c r own other=c:=by rw[gG,h];rfl
theorem Yh{c:gS}{r:Int}(h:p7 c r=true):fG c=true∧c.next≤r∧r≤99999∧0≤c.next:=by
 simp only[p7,aj,dD]at h
 have:=(uy h.1).2.2.2.2.2.2.1
 exact⟨h.1,h.2.1,h.2.2,this⟩
theorem Sv{d:cD}{r:Int}{own other:List UInt8}(h:vG d r=false):rdev d r own other=d:=by rw[rdev,h];rfl
theorem Sw{d:cD}{r:Int}{own other:List UInt8}(h:vG d r=true)(hn:zO (p8 d r own other)=true):rdev d r own other=OX (p8 d r own other):=by
 have hk:fJ (p8 d r own other)=true:=by
  simp only[zO,aj]at hn;exact hn.1
 rw[rdev,if_pos h,if_pos hn,OX,if_pos hk];rfl
theorem Sx{d:cD}{r:Int}{own other:List UInt8}(h:vG d r=true)(hn:zO (p8 d r own other)=false):rdev d r own other=p8 d r own other:=by
 rw[rdev,if_pos h,hn];rfl
theorem N8{d:cD}{r:Int}{own other:List UInt8}(h:vG d r=true):dH (p8 d r own other)≤1048576:=by
 simp only[vG,aj]at h
 have hd:=h.2
 simp only[fJ,aj]at hd
 have hb:LH (p8 d r own other):=⟨Cb (Ca hd.1.1.1.1.1) _ _ _,Ca hd.1.1.1.1.2⟩
 have:=uG hb
 omega
theorem ae7{x:cm}(h:okW x=true){k:Nat}(hk:k<x.aq.length)(l:List Int):dH (Ls x (x.aq.getD k (aO .cD)) l)≤1048576:=by
 have:=uG (Qr x (x.aq.getD k (aO .cD)) l _ (Ss h _ (getD_in (aO .cD) hk)))
 unfold Ls;omega
theorem Yi{x:cm}(h:okW x=true){k:Nat}(hk:k<x.aq.length)(i:Nat):dH ((uO x k i).getD k (aO .cD))≤1048576:=by
 rw[FB x k i hk];exact ae7 h hk _
theorem Yj(x:cm)(k i:Nat)(hk:k<x.aq.length):vX ((uO x k i).getD k (aO .cD)).live (x.aq.getD k (aO .cD)).live:=by
 rw[FB x k i hk]
 exact Dw x _ _ _ ⟨rfl,rfl,rfl,rfl⟩
theorem Yk(x:cm)(k i:Nat)(h:k<x.aq.length)(hi:i<(tP x (x.aq.getD k (aO .cD))).length):
  (uO x k i).set k (rdev ((uO x k i).getD k (aO .cD)) ((tP x (x.aq.getD k (aO .cD))).getD i (aO .int))
   (Lp x ((tP x (x.aq.getD k (aO .cD))).getD i (aO .int)) (iw ((uO x k i).getD k (aO .cD)).live.key ((tP x (x.aq.getD k (aO .cD))).getD i (aO .int)) (eK ((uO x k i).getD k (aO .cD)).live) x.rows) ((uO x k i).getD k (aO .cD)).live.seed)
   (Lp x ((tP x (x.aq.getD k (aO .cD))).getD i (aO .int)) (iw ((uO x k i).getD k (aO .cD)).live.key ((tP x (x.aq.getD k (aO .cD))).getD i (aO .int)) (1-eK ((uO x k i).getD k (aO .cD)).live) x.rows) ((uO x k i).getD k (aO .cD)).live.seed))=uO x k (i+1):=by
 have hs:=Yj x k i h
 rw[Qk hs,hs.2.2.1,hs.2.2.2]
 exact NW x k i h hi
theorem Yl{x:cm}(h:okW x=false):NX x=x:=by rw[NX,h];rfl
theorem FH{x:cm}(h:okW x=true):NX x=⟨x.rows,x.aC,x.aq.map (p9 x),x.aN,x.bZ,x.seed,x.round,x.replaced,x.cancelled⟩:=by rw[NX,if_pos h]
theorem Ym(c:gS):an.wrap (1-eK c)=1-eK c:=dA (by unfold eK;split<;>omega)
end
section
theorem ahB(l:List DB):(l.take ((l.length:Int)).toNat).drop (cP 1)=l.drop 1:=by simp
theorem N9{α:Type}(l:List α)(k:Nat)(d:α):(l.drop 1).getD k d=l.getD (k+1) d:=by
 rw[ak,ak,cJ,xW]
theorem ajX{l:List DB}(ha:yc l)(h:(if(!eA l.length)=true then true else !eB (l.getD (cP 0) (aO .DB)))=true):eA l.length=false:=by
 cases hs:eA l.length with
 |false=>rfl
 |true=>
  rw[hs]at h
  have:=oX ha 0
  have h2:eB (l.getD (cP 0) (aO .DB))=true:=this
  rw[h2]at h
  cases h
theorem ahC{l:List DB}(h:(if(!eA l.length)=true then true else !eB (l.getD (cP 0) (aO .DB)))=false):eA l.length=true:=by
 cases hs:eA l.length with
 |true=>rfl
 |false=>rw[hs]at h;cases h
theorem ajY{l:List DB}(h:(!eA (l.length:Int))=false):(0:Int)≤0∧(0:Int)<(l.length:Int):=by
 have h2:eA (l.length:Int)=true:=by simpa using h
 have:=HV h2
 omega
theorem Sy{rows rd:Int}{p:List cg×List Int}{id:Int}(h:B9 p.1 id=true):DF rows rd p id=(p.1.set id.toNat ⟨id,rows,rd,[],0⟩,p.2++ [id]):=by rw[DF,if_pos h]
theorem Sz{rows rd:Int}{p:List cg×List Int}{id:Int}(h:B9 p.1 id=false):DF rows rd p id=p:=by rw[DF,h];rfl
theorem Yp{l:List cg}{id:Int}(hl:l.length≤4)(h:B9 l id=true):0≤id∧id<l.length:=by
 simp only[B9,dD]at h
 rw[dA (by omega)]at h
 omega
theorem H8{id rows:Int}(h:0≤id∧id≤3)(hr:1≤rows∧rows≤64):newS id rows 0=⟨id,rows,0,[],0⟩:=by
 have:HW id rows 0=true:=by simp only[HW,aj,dD];omega
 rw[newS,if_pos this]
def H9(x:cm)(g:List Int)(k:Nat):List cg×List Int:=LB x.rows x.round (x.aC,x.replaced) (g.take k)
theorem Oa{x:cm}{g:List Int}{k:Nat}(h:k<g.length):DF x.rows x.round (H9 x g k) (g.getD k (aO .int))=H9 x g (k+1):=(HY _ _ _ _ k h).symm
theorem yY{x:cm}{g:List Int}{k:Nat}(h:g.length≤k):H9 x g k=we x g:=by unfold H9 we;rw[aB h]
theorem Cn{x:cm}{g:List Int}{k:Nat}(h:k≤g.length):(H9 x g k).1.length=x.aC.length∧(H9 x g k).2.length≤x.replaced.length+k:=LD _ _ _ g k h
theorem Ob{x:cm}{g:List Int}{k:Nat}(hk:okW x=true)(h:k≤g.length):HZ x.round (H9 x g k).1:=X8 g (ac2 hk) k h
theorem ac4{x:cm}(g:List Int)(hk:okW x=true):HZ x.round (we x g).1:=by
 have:=Ob (g:=g) hk (bh _)
 rwa [yY (bh _)]at this
theorem SA(x:cm)(g:List Int):(we x g).1.length=x.aC.length∧(we x g).2.length≤x.replaced.length+g.length:=by
 have:=Cn (x:=x) (g:=g) (bh _)
 rwa [yY (bh _)]at this
theorem uI{rd:Int}{l:List cg}(h:HZ rd l){k:Nat}(hk:k<l.length):(l.getD k (aO .cg)).round=rd∧sj (l.getD k (aO .cg)):=h _ (getD_in (aO .cg) hk)
def E4(l:List cg)(k:Nat):List cg:=(l.map ld).take k++l.drop k
theorem SB(l:List cg):E4 l 0=l:=by unfold E4;simp
theorem Co{l:List cg}{k:Nat}(h:k<l.length):(E4 l k).set k (ld ((E4 l k).getD k (aO .cg)))=E4 l (k+1):=X9 l k h
theorem FI{l:List cg}{k:Nat}(h:k<l.length):(E4 l k).getD k (aO .cg)=l.getD k (aO .cg):=nC _ _ _ _ (by rw[bw];omega)
theorem FJ{l:List cg}{k:Nat}(h:k≤l.length):(E4 l k).length=l.length:=nD _ _ _ (by rw[bw]) h
theorem FK{l:List cg}{k:Nat}(h:l.length≤k):E4 l k=l.map ld:=by
 unfold E4
 rw[aB (by rw[bw];exact h),gA h,cW]
theorem JY{x:cm}{g:List Int}{d:DB}(h:nY x=false):dR x g d=x:=by rw[dR,h];rfl
theorem Ia{x:cm}{g:List Int}{d:DB}(h:nY x=true)(hg:g.length=0):dR x g d=⟨x.rows,(we x g).1.map ld,x.aq,⟨x.aN.rows,EB x.aN x.round d⟩,x.bZ,x.seed,an.wrap (x.round+1),(we x g).2,x.cancelled⟩:=by
 rw[dR,if_pos h,if_pos hg,if_pos hg]
theorem Oc{x:cm}{g:List Int}{d:DB}(h:nY x=true)(hg: ¬g.length=0):dR x g d=⟨x.rows,(we x g).1.map ld,x.aq,x.aN,x.bZ,x.seed,an.wrap (x.round+1),(we x g).2,an.wrap (x.cancelled+1)⟩:=by
 rw[dR,if_pos h,if_neg hg,if_neg hg]
theorem LL{x:cm}(h:nY x=true):okW x=true∧x.round<99999:=by
 simp only[nY,aj,bp,decide_eq_false_iff_not]at h
 exact⟨h.1,by omega⟩
theorem Yq{a:mj}{r:Int}{d:DB}(h:uF a r d=false):EB a r d=a.rounds:=by rw[EB,h];rfl
theorem LM{a:mj}{r:Int}{d:DB}(h:uF a r d=true):EB a r d=if(8:Int)<(wN a r d).length then(wN a r d).drop 1 else wN a r d:=by rw[EB,if_pos h]
theorem Yr{a:mj}{r:Int}{d:DB}(h:uF a r d=true):a.rounds.length≤8∧eB d=true:=by
 simp only[uF,iD,Hf,aj,decide_eq_true_eq]at h
 exact⟨by omega,h.1.2⟩
theorem ym{s rows:Int}(h:1≤rows∧rows≤64):ff (cR s rows) rows=true:=by
 have e:cR s rows=(bA rows.toNat).map (aeB s):=by rw[cR,if_pos (by omega)]
 simp only[ff,aj,decide_eq_true_eq,bq,dD]
 refine⟨⟨by rw[e];simp;omega,h.2⟩,fun v hv=> ?_⟩
 rw[e]at hv
 obtain⟨i,_,rfl⟩:=cj.1 hv
 have:=T4 (kh s [(i:Int),41])
 unfold aeB
 omega
theorem Od{x:cm}(h:okW x=true){r:Int}(hh:k7 x.aN.rounds r=true):eB (jJ x.aN.rounds r)=true∧((jJ x.aN.rounds r).rows.length:Int)=x.rows:=by
 have ha:=nL h
 simp only[L6,aj,beq_iff_eq]at ha
 have har:x.aN.rows=x.rows:=ha.1.1.1.1.2
 have hok:iD x.aN=true:=ha.1.1.1.1.1.2
 simp only[iD,aj,bq,bV]at hok
 have hi:(x.aN.rounds.findIdx (Ul r))<x.aN.rounds.length:=by
  rw[List.findIdx_lt_length]
  obtain⟨y,h1,h2⟩:=dV.1 hh
  exact⟨y,h1,h2⟩
 have hd:=hok.2 _ hi
 simp only[vr,aj,beq_iff_eq]at hd
 have e:jJ x.aN.rounds r=(x.aN.rounds.getD (x.aN.rounds.findIdx (Ul r)) (aO .bt)).db:=by
  rw[jJ,if_pos hh]
  have hh2:x.aN.rounds.any (Ul r)=true:=hh
  rw[fidx,if_pos hh2];rfl
 rw[e]
 exact⟨hd.1.2,by rw[←har];exact hd.2⟩
theorem Ys{x:cm}(h:okW x=true){r:Int}(hh:k7 x.aN.rounds r=true)(s:Int):ni (jJ x.aN.rounds r) (cR s x.rows)=true:=by
 obtain⟨h1,h2⟩:=Od h hh
 apply B1
 have hs:ff (cR s x.rows) ((jJ x.aN.rounds r).rows.length:Int)=true:=by rw[h2];exact ym (rZ h).1
 rw[hJ,h1,hs]
 simp only[Bool.and_self,if_true]
 rw[eF,nQ]
 omega
theorem ac5{x:cm}(h:okW x=true)(k:Nat)(hk:k≤x.aC.length):HZ x.round (EC x k).1∧(EC x k).1.length=x.aC.length∧(EC x k).2.length≤x.replaced.length+k:=by
 have h1:=X8 (rows:=x.rows) (rd:=x.round) (p:=(x.aC,x.replaced)) (OW x k) (ac2 h) (OW x k).length (bh _)
 have h2:=LD x.rows x.round (x.aC,x.replaced) (OW x k) (OW x k).length (bh _)
 rw[mz]at h1 h2
 have h3:=LI x k
 exact⟨h1,h2.1,by have h4:=h2.2;show(LB x.rows x.round (x.aC,x.replaced) (OW x k)).2.length≤_;dsimp only at h4;omega⟩
theorem Ib{x:cm}(h:zq x=false):testW x=x:=by rw[testW,h];rfl
theorem DO{x:cm}(h:zq x=true):testW x=⟨x.rows,(EC x x.aC.length).1,x.aq,x.aN,x.bZ,x.seed,x.round,(EC x x.aC.length).2,x.cancelled⟩:=by rw[testW,if_pos h]
theorem JZ{x:cm}(h:nY x=false):jU x=x:=by rw[jU,h];rfl
theorem AN{x:cm}(h:nY x=true):jU x=NX (testW (dR x (ot x.bZ (cS x) (eD (cS x)) (ko x) (cS x).length) (jw (eD (cS x))))):=by rw[jU,if_pos h]
theorem ac6{x:cm}(h:wB x):x.aN.rounds.length≤1048576∧ ∀y,y∈x.aN.rounds→ga aR y.db.rows≤1048576:=by
 have h2:ga iE x.aN.rounds≤1048576:=h.2.2.1
 refine⟨gd h2,fun y hy=> ?_⟩
 obtain⟨i,hi⟩:=kZ.1 hy
 exact o7 h2 hi
end
section
theorem SC{x:cm}(h:wB x)(hok:okW x=true)(hr:x.replaced.length≤4194000):wB (dR x (ot x.bZ (cS x) (eD (cS x)) (ko x) (cS x).length) (jw (eD (cS x))))∧wB (testW (dR x (ot x.bZ (cS x) (eD (cS x)) (ko x) (cS x).length) (jw (eD (cS x))))):=by
 have h1:=sC x.bZ (cS x) (eD (cS x)) (ko x) (cS x).length
 have h4:=(gy hok).1
 rw[j8 hok]at h1
 have hc:wC x 4194000:=⟨h.1,h.2.1,h.2.2.1,hr⟩
 have h2:=N6 (g:=ot x.bZ (cS x) (eD (cS x)) (ko x) (cS x).length) (d:=jw (eD (cS x))) hc (Sp _ (FG _))
 rw[j8 hok]at h2 ⊢
 exact⟨Yb h2 (by omega),Yb (Su h2) (by omega)⟩
def wR(x:cm):Prop:=wB x∧x.replaced.length≤4194000
theorem ahF{x:cm}{n:Nat}(h:wC x n)(hn:n≤4194000):wR x:=⟨Yb h (by omega),dY h.2.2.2 hn⟩
theorem afb{x:cm}{n k:Nat}(h:wC x n)(hn:n+8*k≤4194000):wR (gT x k):=ahF (Yf h k) hn
end
section
theorem Yt(a b c:Int):an.wrap (a+an.wrap (b-c))=an.wrap (an.wrap (a+b)-c):=by
 simp only[IntKind.wrap_i64];omega
def waiting(c:gS):Int:=an.wrap ((c.bz.length:Int)-c.sent)
def IZ(l:List cD):Nat→Int
 |0=>0
 |k+1=>an.wrap (IZ l k+waiting (l.getD k (aO .cD)).live)
def Vd(l:List cD):Nat→Int
 |0=>0
 |k+1=>if(k^^^1)<l.length then an.wrap (an.wrap (Vd l k+((l.getD k (aO .cD)).live.bz.length:Int))-((l.getD (k^^^1) (aO .cD)).live.inbox.length:Int))else Vd l k
theorem SD{l:List cD}{k:Nat}(h:(k^^^1)<l.length):Vd l (k+1)=an.wrap (an.wrap (Vd l k+((l.getD k (aO .cD)).live.bz.length:Int))-((l.getD (k^^^1) (aO .cD)).live.inbox.length:Int)):=if_pos h
theorem Oe{l:List cD}{k:Nat}(h: ¬(k^^^1)<l.length):Vd l (k+1)=Vd l k:=if_neg h
theorem Ic{x:cm}{k:Nat}(h:k<x.aq.length):Ap x (k:Int)=decide ((k^^^1)<x.aq.length):=by
 have:vv x (k:Int)=true:=by rw[vv,dD];omega
 rw[Ap,this,dj]
 simp only[jF,Int.ofNat_lt]
end
section
def J0(c:Int):Nat:=if 0≤c∧c≤400 then c.toNat else 0
theorem afc(c:Int):J0 c≤400:=by unfold J0;split<;>omega
theorem LN{c:Int}(h:0≤c∧c≤400):(J0 c:Int)=c:=by unfold J0;rw[if_pos h];omega
theorem abu{c:Int}(h: ¬(0≤c∧c≤400)):J0 c=0:=by unfold J0;rw[if_neg h]
theorem ahH{c:Int}{k:Nat}(h:(if decide ((k:Int)<c)=true then decide (c≤400)else false)=true):k<J0 c:=by
 by_cases h1:(k:Int)<c
 ·rw[if_pos (by simpa using h1),decide_eq_true_eq]at h
  have:=LN (c:=c) (by omega)
  omega
 ·rw[if_neg (by simpa using h1)]at h;cases h
theorem afd{c:Int}{k:Nat}(hk:k≤J0 c)(h:(if decide ((k:Int)<c)=true then decide (c≤400)else false)=false):k=J0 c:=by
 by_cases hc:0≤c∧c≤400
 ·have h2:=LN hc
  by_cases h1:(k:Int)<c
  ·rw[if_pos (by simpa using h1),decide_eq_false_iff_not]at h
   omega
  ·omega
 ·have:=abu hc;omega
def jy(x:cm):Bool:=(IZ x.aq x.aq.length==0)&&(Vd x.aq x.aq.length==0)
def mx(a b:Int):Int:=if b>a then b else a
def Yu(x:cm):Nat→Nat→Int
 |k,0=>if jy (gT x k)then(k:Int)else-1
 |k,n+1=>if jy (gT x k)then(k:Int)else Yu x (k+1) n
def zC(l:Int):Nat:=(CF l 400).toNat
def delay(x:cm)(l:Int):Int:=Yu x 0 (zC l)
theorem abv(l:Int):zC l≤400:=by unfold zC CF;split<;>omega
theorem SE{x:cm}{k n:Nat}(h:jy (gT x k)=true):Yu x k n=k:=by cases n<;>simp[Yu,h]
theorem SF{x:cm}{k:Nat}(h:jy (gT x k)=false):Yu x k 0= -1:=by simp[Yu,h]
theorem Yv{x:cm}{k n:Nat}(h:jy (gT x k)=false)(hn:0<n):Yu x k n=Yu x (k+1) (n-1):=by
 obtain⟨m,rfl⟩: ∃m,n=m+1:=⟨n-1,by omega⟩
 simp[Yu,h]
theorem LO{x:cm}(h:wC x 4100000){k:Nat}(hk:k≤401):wR (gT x k)∧(gT x k).aq.length≤1048576:=by
 have h1:=afb h (k:=k) (by omega)
 exact⟨h1,acW h1.1⟩
end
section
theorem abw{c:gS}{b:List UInt8}(h:yd c b=false):nZ c b=c:=by rw[nZ,h];rfl
theorem Ie{c:gS}{b:List UInt8}(h:yd c b=true):nZ c b=DG c b:=by rw[nZ,if_pos h]
theorem abx{d:cD}{b:List UInt8}(h:DH d b=false):DI d b=d:=by rw[DI,h];rfl
theorem Yw{d:cD}{b:List UInt8}(h:DH d b=true):DI d b=⟨nZ d.live b,nZ d.saved b⟩:=by rw[DI,if_pos h]
theorem afe{x:cm}{c:Int}(h:qy x c=true):dH (x.aq.getD c.toNat (aO .cD))≤1048576:=by
 have:=uG (ae6 h)
 unfold IX at this
 omega
theorem aff{x:cm}{c:Int}{b:List UInt8}(h:qy x c=false):LJ x c b=x∧Qs x c b=false:=⟨by rw[LJ,h];rfl,by rw[Qs,h];rfl⟩
theorem aby{x:cm}{c:Int}{b:List UInt8}(h:qy x c=true):LJ x c b=Yg x c.toNat (DI (IX x c) b)∧Qs x c b=DH (IX x c) b:=⟨by rw[LJ,if_pos h],by rw[Qs,h,dj]⟩
end
section
theorem DQ{α:Type}{l m:List α}{k:Nat}(d:α)(h:k<l.length):(l++m).getD k d=l.getD k d:=by
 rw[ak,ak,List.getElem?_append_left h]
theorem J1{α:Type}{l:List α}{y:α}(d:α):(l++ [y]).getD l.length d=y:=by
 rw[ak,bQ (bh _)];simp
theorem AQ{α:Type}(l:List α)(k:Nat)(d:α):(l.drop 1).getD k d=l.getD (k+1) d:=by
 rw[ak,ak,cJ,xW]
theorem uK{α:Type}{l:List α}{i k:Nat}(d y:α)(h:k<l.length):(l.set i y).getD k d=if i=k then y else l.getD k d:=by
 rw[ak,ak,List.getElem?_set]
 split
 ·rename_i e;subst e;simp[h]
 ·rfl
theorem getD_map{α β:Type}(f:α→β){l:List α}{k:Nat}(d:β)(e:α)(h:k<l.length):(l.map f).getD k d=f (l.getD k e):=by
 rw[ak,ak,dN,au h];rfl
def sOK(rows rd:Int)(i:Nat)(s:cg):Prop:=s.id=(i:Int)∧s.rows=rows∧s.round=rd∧s.received= []∧0≤s.behavior∧s.behavior≤3
def svs(rows rd:Int)(l:List cg):Prop:= ∀i,i<l.length→sOK rows rd i (l.getD i (aO .cg))
theorem Yx{rows rd:Int}{i:Nat}{s:cg}(h:sOK rows rd i s)(hr:1≤rows∧rows≤64)(hd:0≤rd∧rd≤100000)(hi:i≤3):dL s=true:=by
 obtain⟨h1,h2,h3,h4,h5⟩:=h
 simp only[dL,zM,aj,dD,decide_eq_true_eq,h4,gf]
 refine⟨⟨⟨⟨⟨by omega,by omega⟩,by omega⟩,by omega⟩,by omega⟩,by simp⟩
theorem LP{x:cm}{i:Nat}(hr:1≤x.rows∧x.rows≤64)(hd:0≤x.round∧x.round≤100000)(hi:i≤3):JD x i=true↔sOK x.rows x.round i (x.aC.getD i (aO .cg)):=by
 constructor
 ·intro h
  simp only[JD,aj,beq_iff_eq,decide_eq_true_eq]at h
  obtain⟨⟨⟨⟨h1,h2⟩,h3⟩,h4⟩,h5⟩:=h
  simp only[dL,zM,aj,dD]at h1
  exact⟨h2,h3,h4,fC.1 (by omega),h1.1.1.1.2⟩
 ·intro h
  have h1:=Yx h hr hd hi
  obtain⟨h2,h3,h4,h5,_⟩:=h
  simp only[JD,aj,beq_iff_eq,decide_eq_true_eq]
  exact⟨⟨⟨⟨h1,h2⟩,h3⟩,h4⟩,by rw[h5];decide⟩
def inc(rows:Int)(l:List bt):Prop:= ∀i,i<l.length→vr rows l i=true
theorem qW{a:mj}:iD a=true↔((1≤a.rows∧a.rows≤64)∧a.rounds.length≤8)∧inc a.rows a.rounds:=by
 simp only[iD,Hf,aj,dD,decide_eq_true_eq,bq,bV]
 constructor
 ·rintro⟨⟨h1,h2⟩,h3⟩;exact⟨⟨h1,by omega⟩,h3⟩
 ·rintro⟨⟨h1,h2⟩,h3⟩;exact⟨⟨h1,by omega⟩,h3⟩
theorem qb{rows:Int}{l:List bt}{i:Nat}:vr rows l i=true↔(0≤(l.getD i (aO .bt)).round∧(l.getD i (aO .bt)).round≤100000)∧(0<i→(l.getD (i-1) (aO .bt)).round<(l.getD i (aO .bt)).round)∧eB (l.getD i (aO .bt)).db=true∧((l.getD i (aO .bt)).db.rows.length:Int)=rows:=by
 simp only[vr,aj,dD,beq_iff_eq,bp,k8,decide_eq_false_iff_not]
 constructor
 ·rintro⟨⟨⟨h1,h2⟩,h3⟩,h4⟩
  refine⟨h1,fun hi=> ?_,h3,h4⟩
  rcases h2 with h2|h2
  ·omega
  ·omega
 ·rintro⟨h1,h2,h3,h4⟩
  refine⟨⟨⟨h1,?_⟩,h3⟩,h4⟩
  by_cases hi:0<i
  ·right;have:=h2 hi;omega
  ·left;omega
theorem Yy{rows:Int}{l:List bt}(h:inc rows l):inc rows (l.drop 1):=by
 intro i hi
 have hi:i+1<l.length:=by rw[bM]at hi;omega
 have h1:=qb.1 (h (i+1) hi)
 rw[qb,AQ]
 refine⟨h1.1,fun hp=> ?_,h1.2.2⟩
 rw[AQ,show i-1+1=i by omega]
 exact h1.2.1 (by omega)
theorem Yz{rows:Int}{l:List bt}{r:Int}{d:DB}(h:inc rows l)(h0:0≤r∧r≤100000)(hl:0<l.length→(l.getD (l.length-1) (aO .bt)).round<r)(hd:eB d=true)(hr:(d.rows.length:Int)=rows):inc rows (l++ [⟨r,d⟩]):=by
 intro i hi
 rw[aX,kM]at hi
 by_cases hil:i<l.length
 ·have h1:=qb.1 (h i hil)
  rw[qb,DQ _ hil]
  refine⟨h1.1,fun hp=> ?_,h1.2.2⟩
  rw[DQ _ (by omega)]
  exact h1.2.1 hp
 ·obtain rfl:i=l.length:=by omega
  rw[qb,J1]
  refine⟨h0,fun hp=> ?_,hd,hr⟩
  rw[DQ _ (by omega)]
  exact hl hp
theorem YA{rows:Int}{l:List bt}(h:inc rows l): ∀(j i:Nat),i<j→j<l.length→(l.getD i (aO .bt)).round<(l.getD j (aO .bt)).round
 |0,i,h1,_=>by omega
 |j+1,i,h1,h2=>by
  have h3:=(qb.1 (h (j+1) h2)).2.1 (by omega)
  rw[show j+1-1=j by omega]at h3
  by_cases e:i=j
  ·subst e;exact h3
  ·have:=YA h j i (by omega) (by omega);omega
theorem yZ{a:mj}(h:0<a.rounds.length):eC a=(a.rounds.getD (a.rounds.length-1) (aO .bt)).round:=by rw[eC,if_neg (by omega)]
theorem Ig{a:mj}(h:a.rounds= []):eC a= -1:=by rw[eC,h];rfl
theorem Qu{a:mj}(h:iD a=true): ∀y,y∈a.rounds→0≤y.round∧y.round≤eC a:=by
 intro y hy
 have h2:=(qW.1 h).2
 obtain⟨i,hi,rfl⟩:=dx.1 hy
 have e:a.rounds[i]=a.rounds.getD i (aO .bt):=by rw[ak,au hi];rfl
 rw[yZ (by omega),e]
 refine⟨(qb.1 (h2 i hi)).1.1,?_⟩
 by_cases hl:i=a.rounds.length-1
 ·rw[hl];exact fT _
 ·exact Int.le_of_lt (YA h2 _ _ (by omega) (by omega))
theorem abz{a:mj}{r:Int}{d:DB}(h:iD a=true)(h0:0≤r∧r≤100000)(hl:eC a<r)(hd:eB d=true)(hr:(d.rows.length:Int)=a.rows):uF a r d=true:=by
 simp only[uF,aj,h,hd,dD,h0,hr,bp,decide_eq_false_iff_not,decide_true]
 exact⟨⟨⟨⟨trivial,⟨trivial,trivial⟩⟩,by omega⟩,trivial⟩,trivial⟩
theorem abA{a:mj}{r:Int}{d:DB}(h:uF a r d=true):EB a r d=if(8:Int)<(wN a r d).length then(wN a r d).drop 1 else wN a r d:=by rw[EB,if_pos h]
theorem YB{a:mj}{r:Int}{d:DB}:(wN a r d).length=a.rounds.length+1∧ ∀e,(wN a r d).getD a.rounds.length e=⟨r,d⟩:=by
 unfold wN
 exact⟨by rw[aX];rfl,fun e=>J1 e⟩
theorem YC{a:mj}{r:Int}{d:DB}(h:iD a=true)(h0:0≤r∧r≤100000)(hl:eC a<r)(hd:eB d=true)(hr:(d.rows.length:Int)=a.rows):
  iD ⟨a.rows,EB a r d⟩=true∧eC ⟨a.rows,EB a r d⟩=r∧0<(EB a r d).length∧(EB a r d).getD ((EB a r d).length-1) (aO .bt)=⟨r,d⟩:=by
 have ha:=qW.1 h
 have hi:inc a.rows (wN a r d):=Yz ha.2 h0 (fun hp=>by rw[yZ hp]at hl;exact hl) hd hr
 obtain⟨hL,hG⟩:=YB (a:=a) (r:=r) (d:=d)
 rw[abA (abz h h0 hl hd hr)]
 split
 ·rename_i h8
  have hlen:((wN a r d).drop 1).length=a.rounds.length:=by rw[bM];omega
  have hg:((wN a r d).drop 1).getD (((wN a r d).drop 1).length-1) (aO .bt)=⟨r,d⟩:=by
   rw[hlen,AQ,show a.rounds.length-1+1=a.rounds.length by omega];exact hG _
  refine⟨qW.2 ⟨⟨ha.1.1,by show((wN a r d).drop 1).length≤8;omega⟩,Yy hi⟩,?_,by omega,hg⟩
  rw[yZ (by show 0<((wN a r d).drop 1).length;omega)]
  exact congrArg bt.round hg
 ·rename_i h8
  have hg:(wN a r d).getD ((wN a r d).length-1) (aO .bt)=⟨r,d⟩:=by
   rw[hL,show a.rounds.length+1-1=a.rounds.length by omega];exact hG _
  refine⟨qW.2 ⟨⟨ha.1.1,by show(wN a r d).length≤8;omega⟩,hi⟩,?_,by omega,hg⟩
  rw[yZ (by show 0<(wN a r d).length;omega)]
  exact congrArg bt.round hg
structure Mb(x:cm):Prop where
 rows:1≤x.rows∧x.rows≤64
 nsv:2≤x.aC.length∧x.aC.length≤4
 ndv:2≤x.aq.length∧x.aq.length≤8
 even:x.aq.length % 2=0
 Ve:iD x.aN=true
 J2:x.aN.rows=x.rows
 last:eC x.aN<x.round
 key:iC x.bZ=true
 round:0≤x.round∧x.round≤100000
 Fa:0≤x.cancelled
 sv:svs x.rows x.round x.aC
 dv: ∀i,i<x.aq.length→okD x i=true
theorem Mb.of{x:cm}(h:okW x=true):Mb x:=by
 have hh:=nL h
 have he:=sY hh
 have hs:=gy h
 have hh2:=hh
 simp only[L6,aj,dD,beq_iff_eq,decide_eq_true_eq]at hh
 obtain⟨⟨⟨⟨⟨⟨⟨⟨⟨h1,h2⟩,h3⟩,h4⟩,h5⟩,h6⟩,h7⟩,h8⟩,h9⟩,h10⟩:=hh
 exact⟨h1,⟨hs.2,hs.1⟩,⟨he.2.2,he.2.1⟩,he.1,h5,h6,h7,h8,h9,h10,fun i hi=>(LP h1 h9 (by omega)).1 (Li h hi),fun i hi=>qL h hi⟩
theorem Mb.ok{x:cm}(h:Mb x):okW x=true:=by
 obtain⟨h1,h2,h3,h4,h5,h6,h7,h8,h9,h10,h11,h12⟩:=h
 have ht:(x.aq.length:Int).tmod 2=0:=by rw[gh (by omega)];omega
 simp only[okW,L6,eA,aj,dD,beq_iff_eq,decide_eq_true_eq,bq,bV]
 exact⟨⟨⟨⟨⟨⟨⟨⟨⟨⟨⟨h1,by omega⟩,by omega⟩,ht⟩,h5⟩,h6⟩,h7⟩,h8⟩,h9⟩,h10⟩,fun i hi=>(LP h1 h9 (by omega)).2 (h11 i hi)⟩,h12⟩
theorem abC{rows rd:Int}{p:List cg×List Int}{id:Int}(hl:p.1.length≤4)(h:svs rows rd p.1):svs rows rd (DF rows rd p id).1:=by
 unfold DF
 split
 ·rename_i hk
  simp only[B9,dD]at hk
  rw[dA (by omega)]at hk
  intro i hi
  rw[bH]at hi
  show sOK rows rd i ((p.1.set id.toNat ⟨id,rows,rd,[],0⟩).getD i (aO .cg))
  rw[uK _ _ hi]
  split
  ·rename_i e
   exact⟨by show id=(i:Int);omega,rfl,rfl,rfl,fT _,by show(0:Int)≤3;decide⟩
  ·exact h i hi
 ·exact h
theorem SG{rows rd:Int}: ∀(g:List Int) {p:List cg×List Int},p.1.length≤4→svs rows rd p.1→svs rows rd (LB rows rd p g).1∧(LB rows rd p g).1.length=p.1.length
 | [],_,_,h=>⟨h,rfl⟩
 |i::g,p,hl,h=>by
  have qN:=(LC rows rd p i).1
  have:=SG g (p:=DF rows rd p i) (by omega) (abC (id:=i) hl h)
  exact⟨this.1,this.2.trans qN⟩
theorem abD{rows rd:Int}{i:Nat}{s:cg}(h:sOK rows rd i s)(hr:1≤rows∧rows≤64)(hd:0≤rd∧rd<100000)(hi:i≤3):sOK rows (rd+1) i (ld s):=by
 have hk:=Yx h hr (by omega) hi
 obtain⟨h1,h2,h3,h4,h5⟩:=h
 have hb:HX s=true:=by
  simp only[HX,hk,dj,bp,beq_eq_false_iff_ne];omega
 rw[ld,if_pos hb]
 refine⟨h1,h2,?_,rfl,h5⟩
 show an.wrap (s.round+1)=rd+1
 rw[dA (by omega),h3]
theorem Uw{x y:cm}{i:Nat}(hd:y.aq=x.aq)(hr:x.round≤y.round)(h:okD x i=true):okD y i=true:=by
 simp only[okD,aj,decide_eq_true_eq]at h ⊢
 rw[hd]
 exact⟨h.1,by omega⟩
theorem AR{x:cm}(h:okW x=true)(hr:x.round<99999):nY x=true:=by
 simp only[nY,h,dj,bp,decide_eq_false_iff_not];omega
theorem Ux{x:cm}{g:List Int}{d:DB}(h:okW x=true)(hr:x.round<99999)(hc:x.cancelled<9223372036854775807)(hd:g= []→eB d=true∧(d.rows.length:Int)=x.rows):okW (dR x g d)=true:=by
 have w:=Mb.of h
 have hp:=SG (rows:=x.rows) (rd:=x.round) g (p:=(x.aC,x.replaced)) w.nsv.2 w.sv
 have w1:=w.rows;have w2:=w.nsv;have w3:=w.round;have w4:=w.Fa
 have hrd:an.wrap (x.round+1)=x.round+1:=dA (by omega)
 rw[dR,if_pos (AR h hr)]
 have tI:svs x.rows (x.round+1) ((we x g).1.map ld):=by
  intro i hi
  rw[bw]at hi
  have hi4:i≤3:=by have:=hp.2;unfold we at hi;dsimp only at this;omega
  rw[getD_map ld _ (aO .cg) hi]
  exact abD (hp.1 i hi) w1 (by omega) hi4
 have hlen:((we x g).1.map ld).length=x.aC.length:=by rw[bw];exact hp.2
 have ahI:iD ⟨x.aN.rows,if g.length=0 then EB x.aN x.round d else x.aN.rounds⟩=true∧eC ⟨x.aN.rows,if g.length=0 then EB x.aN x.round d else x.aN.rounds⟩<x.round+1:=by
  by_cases hg:g.length=0
  ·obtain⟨q1,q2⟩:=hd (fC.1 hg)
   rw[if_pos hg]
   have:=YC w.Ve (by omega:0≤x.round∧x.round≤100000) w.last q1 (by rw[w.J2];exact q2)
   exact⟨this.1,by rw[this.2.1];omega⟩
  ·rw[if_neg hg]
   have:=w.last
   exact⟨w.Ve,by show eC x.aN<_;omega⟩
 refine Mb.ok ⟨w1,by dsimp only;rw[hlen];exact w2,w.ndv,w.even,ahI.1,w.J2,?_,w.key,?_,?_,?_,fun i hi=> ?_⟩
 ·dsimp only;rw[hrd];exact ahI.2
 ·dsimp only;rw[hrd];omega
 ·dsimp only
  split
  ·exact w4
  ·rw[dA (by omega)];omega
 ·dsimp only;rw[hrd];exact tI
 ·exact Uw (x:=x) rfl (by dsimp only;rw[hrd];omega) (w.dv i hi)
theorem Ih{a b:List (List UInt8)}:C8 a b=true↔a.length≤b.length∧a=b.take a.length:=by
 simp only[C8,aj,decide_eq_true_eq,beq_iff_eq]
 constructor
 ·rintro⟨h1,h2⟩;exact⟨by omega,h2⟩
 ·rintro⟨h1,h2⟩;exact⟨by omega,h2⟩
theorem DR(a:List (List UInt8)):C8 a a=true:=Ih.2 ⟨bh _,(mz).symm⟩
theorem YD{a b c:List (List UInt8)}(h:C8 a b=true):C8 a (b++c)=true:=by
 obtain⟨h1,h2⟩:=Ih.1 h
 refine Ih.2 ⟨by rw[aX];omega,?_⟩
 rw[List.take_append_of_le_length h1];exact h2
theorem DS{c:gS}:fG c=true↔(((0≤c.id∧c.id≤7)∧(0≤c.gZ∧c.gZ≤7))∧c.id≠c.gZ∧iC c.key=true)∧LG c∧(0≤c.sent∧c.sent≤c.bz.length)∧0≤c.next∧c.next≤100000:=by
 simp only[fG,LG,aj,bp,bK,dD,decide_eq_true_eq,beq_eq_false_iff_ne]
 have hl: ∀b:List UInt8, ¬long b=true↔b.length≤14:=by
  intro b;simp only[long,decide_eq_true_eq];omega
 constructor
 ·rintro⟨⟨⟨⟨⟨⟨⟨⟨⟨h1,h2⟩,h3⟩,h4⟩,h5⟩,h6⟩,h7⟩,h8⟩,h9⟩,h10⟩
  exact⟨⟨⟨h1,h2⟩,h3,h4⟩,⟨by omega,by omega,fun b hb=>(hl b).1 (h7 b hb),fun b hb=>(hl b).1 (h8 b hb)⟩,h9,h10⟩
 ·rintro⟨⟨⟨h1,h2⟩,h3,h4⟩,⟨h5,h6,h7,h8⟩,h9,h10⟩
  exact⟨⟨⟨⟨⟨⟨⟨⟨⟨h1,h2⟩,h3⟩,h4⟩,by omega⟩,by omega⟩,fun b hb=>(hl b).2 (h7 b hb)⟩,fun b hb=>(hl b).2 (h8 b hb)⟩,h9⟩,h10⟩
theorem YE{c:gS}{r:Int}{own other:List UInt8}(h:fG c=true):fG (gG c r own other)=true:=by
 by_cases hk:p7 c r=true
 ·have hB:=Cb (Ca h) r own other
  rw[gG,if_pos hk]at hB ⊢
  obtain⟨h1,_,h3,h4⟩:=DS.1 h
  simp only[p7,aj,dD]at hk
  refine DS.2 ⟨h1,hB,?_,?_⟩
  ·dsimp only
   split
   ·rename_i hh
    simp only[lO,aj,decide_eq_true_eq]at hh
    omega
   ·exact h3
  ·dsimp only;omega
 ·rw[gG,if_neg hk];exact h
structure YF(d:cD):Prop where
 live:fG d.live=true
 saved:fG d.saved=true
 same:nG d.live d.saved=true
 sent:d.saved.sent≤d.live.sent
 next:d.saved.next≤d.live.next
 pre:C8 d.saved.inbox d.live.inbox=true
theorem YF.iff{d:cD}:fJ d=true↔YF d:=by
 simp only[fJ,aj,decide_eq_true_eq]
 constructor
 ·rintro⟨⟨⟨⟨⟨h1,h2⟩,h3⟩,h4⟩,h5⟩,h6⟩;exact⟨h1,h2,h3,h4,h5,h6⟩
 ·rintro⟨h1,h2,h3,h4,h5,h6⟩;exact⟨⟨⟨⟨⟨h1,h2⟩,h3⟩,h4⟩,h5⟩,h6⟩
theorem lg{a b:gS}:nG a b=true↔vX a b∧a.bz=b.bz:=by
 simp only[nG,vX,aj,beq_iff_eq]
 constructor
 ·rintro⟨⟨⟨⟨h1,h2⟩,h3⟩,h4⟩,h5⟩;exact⟨⟨h1,h2,h3,h4⟩,h5⟩
 ·rintro⟨⟨h1,h2,h3,h4⟩,h5⟩;exact⟨⟨⟨⟨h1,h2⟩,h3⟩,h4⟩,h5⟩
theorem Uy(c:gS)(r:Int)(own other:List UInt8):(gG c r own other).bz=c.bz∧c.sent≤(gG c r own other).sent∧(gG c r own other).sent≤c.sent+1∧c.next≤(gG c r own other).next∧ ∃m,(gG c r own other).inbox=c.inbox++m:=by
 unfold gG
 split
 ·rename_i hk
  simp only[p7,aj,dD]at hk
  refine⟨rfl,?_,?_,?_,?_⟩
  ·dsimp only;split<;>omega
  ·dsimp only;split<;>omega
  ·dsimp only;omega
  ·dsimp only
   split
   ·exact⟨_,rfl⟩
   ·exact⟨[],(cW _).symm⟩
 ·exact⟨rfl,fT _,by omega,fT _,[],(cW _).symm⟩
theorem abE{d:cD}{r:Int}{own other:List UInt8}(h:fJ d=true):fJ (rdev d r own other)=true:=by
 have hd:=YF.iff.1 h
 unfold rdev
 split
 ·have hc:=YE (r:=r) (own:=own) (other:=other) hd.live
  split
  ·exact YF.iff.2 ⟨hc,hc,lg.2 ⟨⟨rfl,rfl,rfl,rfl⟩,rfl⟩,fT _,fT _,DR _⟩
  ·obtain⟨q1,q2,_,q3,m,q4⟩:=Uy d.live r own other
   obtain⟨p1,p2⟩:=lg.1 hd.same
   have p3:=AG d.live r own other
   refine YF.iff.2 ⟨hc,hd.saved,lg.2 ⟨⟨p3.1.trans p1.1,p3.2.1.trans p1.2.1,p3.2.2.1.trans p1.2.2.1,p3.2.2.2.trans p1.2.2.2⟩,q1.trans p2⟩,Of hd.sent q2,Of hd.next q3,?_⟩
   show C8 d.saved.inbox (gG d.live r own other).inbox=true
   rw[q4]
   exact YD hd.pre
 ·exact h
theorem Uz{d:cD}{r:Int}{own other:List UInt8}{R:Int}(h:d.live.next≤R)(hr:r+1≤R):(rdev d r own other).live.next≤R:=by
 have key:(gG d.live r own other).next≤R:=by
  unfold gG
  split
  ·exact hr
  ·exact h
 unfold rdev
 split
 ·split
  ·exact key
  ·exact key
 ·exact h
theorem SH(x:cm)(d0:cD){R:Int}: ∀(l:List Int) (d:cD),(∀r,r∈l→r+1≤R)→fJ d=true→d.live.next≤R→fJ (l.foldl (Lr x d0) d)=true∧(l.foldl (Lr x d0) d).live.next≤R
 | [],_,_,h1,h2=>⟨h1,h2⟩
 |r::l,d,hl,h1,h2=>SH x d0 l _ (fun q hq=>hl q (aJ _ hq)) (abE h1) (Uz h2 (hl r (eg ..)))
theorem Qv{l:List bt}{f r:Int}(h:r∈jx l f):f≤r∧ ∃y,y∈l∧y.round=r:=by
 unfold jx at h
 obtain⟨y,hy,rfl⟩:=cj.1 h
 rw[List.mem_filter]at hy
 exact⟨by simpa using hy.2,y,hy.1,rfl⟩
theorem Og{x:cm}{i:Nat}(h:okW x=true)(hi:i<x.aq.length):fJ (p9 x (x.aq.getD i (aO .cD)))=true∧(p9 x (x.aq.getD i (aO .cD))).live.next≤x.round∧vX (p9 x (x.aq.getD i (aO .cD))).live (x.aq.getD i (aO .cD)).live:=by
 have w:=Mb.of h
 have hd:=qL h hi
 simp only[okD,aj,decide_eq_true_eq]at hd
 have h1:=SH x (x.aq.getD i (aO .cD)) (R:=x.round) (tP x (x.aq.getD i (aO .cD))) _ (fun r hr=>by
  obtain⟨_,y,hy,rfl⟩:=Qv hr
  have:=(Qu w.Ve y hy).2
  have:=w.last
  omega) hd.1.1.1.1 hd.2
 exact⟨h1.1,h1.2,Dw x _ _ _ ⟨rfl,rfl,rfl,rfl⟩⟩
theorem afh{x:cm}(h:okW x=true):okW (NX x)=true:=by
 have w:=Mb.of h
 rw[NX,if_pos h]
 have hg: ∀i,i<x.aq.length→(x.aq.map (p9 x)).getD i (aO .cD)=p9 x (x.aq.getD i (aO .cD)):=fun i hi=>getD_map _ _ _ hi
 refine Mb.ok ⟨w.rows,w.nsv,by dsimp only;rw[bw];exact w.ndv,by dsimp only;rw[bw];exact w.even,w.Ve,w.J2,w.last,w.key,w.round,w.Fa,w.sv,fun i hi=> ?_⟩
 have hi:i<x.aq.length:=by dsimp only at hi;rwa [bw]at hi
 obtain⟨q1,q2,q3⟩:=Og h hi
 have hd:=qL h hi
 have hx:=Ao i x.aq.length hi w.even
 obtain⟨_,_,p3⟩:=Og h hx
 simp only[okD,aj,decide_eq_true_eq,beq_iff_eq]at hd ⊢
 rw[hg i hi,hg _ hx]
 exact⟨⟨⟨⟨q1,q3.1.trans hd.1.1.1.2⟩,q3.2.1.trans hd.1.1.2⟩,by rw[q3.2.2.1,p3.2.2.1];exact hd.1.2⟩,q2⟩
end
section
theorem AS{rows:Int}(h:0≤rows∧rows≤64):((fA rows).rows.length:Int)=rows:=by
 rw[qT h,jj];omega
theorem Oh{rows i:Int}{c:List UInt8}(h:qt rows i c=true):((Nw rows i c).rows.length:Int)=rows:=by
 have h':=h
 simp only[qt,aj]at h'
 have hr:1≤rows∧rows≤64:=by have:=h'.1;rw[dD]at this;exact this
 rw[Nw,if_pos h'.1,uq h'.2]
 show(((fA rows).rows.set i.toNat c).length:Int)=rows
 rw[bH];exact AS (by omega)
theorem UA{α:Type}(f:α→DB): ∀(l:List α) (d:DB),(l.foldl (fun d s=>iU d (f s)) d).rows.length=d.rows.length:=by
 intro l
 induction l with
 |nil=>intro d;rfl
 |cons x r ih=>intro d;rw[cH,ih,AH]
theorem Qw{rows i:Int}{c:List UInt8}(h:qt rows i c=true)(sd:List Int):((vU rows i c sd).rows.length:Int)=rows:=by
 unfold vU;rw[UA (fun s=>Qe s rows)];exact Oh h
theorem Qx{rows i:Int}{c:List UInt8}{sd:List Int}: ∀d,d∈rY rows i c sd→(d.rows.length:Int)=rows:=by
 intro d hd
 unfold rY at hd
 split at hd
 ·rename_i h
  have hu:qt rows i c=true:=by simp only[tM,aj]at h;exact h.1
  rcases aK.1 hd with h1|h1
  ·obtain⟨s,_,rfl⟩:=cj.1 h1
   have:=(Au hu).2
   show((jT s rows).length:Int)=rows
   rw[mZ];omega
  ·rw[aP.1 h1];exact Qw hu sd
 ·cases hd
def J3(x:cm)(i:Nat)(c:Nat):DB:=(e9 x (c:Int)).getD i (aO .DB)
def rcs(x:cm)(i n:Nat):List bC:=(bA n).map fun c:Nat=>⟨(c:Int),J3 x i c⟩
theorem YG(x:cm)(i n:Nat):rcs x i (n+1)=rcs x i n++ [⟨(n:Int),J3 x i n⟩]:=by
 unfold rcs;rw[ep,eI];rfl
theorem SI(x:cm)(i n:Nat):(rcs x i n).length=n:=by simp[rcs]
theorem FL(x:cm)(i n:Nat){k:Nat}(h:k<n):(rcs x i n).getD k (aO .bC)=⟨(k:Int),J3 x i k⟩:=gj _ _ _ _ h
def mN(x:cm)(k i:Nat):cg:=⟨(x.aC.getD i (aO .cg)).id,(x.aC.getD i (aO .cg)).rows,(x.aC.getD i (aO .cg)).round,rcs x i k,(x.aC.getD i (aO .cg)).behavior⟩
theorem ahJ{x:cm}(h:okW x=true):2≤x.aq.length∧x.aq.length≤8:=by
 have:=nL h
 simp only[L6,aj,dD]at this
 omega
theorem YH{x:cm}(h:okW x=true){i c:Nat}(hi:i<x.aC.length)(hc:c<x.aq.length):eB (J3 x i c)=true∧((J3 x i c).rows.length:Int)=x.rows:=by
 have hl:(e9 x (c:Int)).length=x.aC.length:=kY h (by omega)
 have hm:J3 x i c∈e9 x (c:Int):=getD_in _ (by omega)
 exact⟨Ay h _ hm,Qx _ hm⟩
theorem Oi{x:cm}(h:okW x=true){i:Nat}(hi:i<x.aC.length):(x.aC.getD i (aO .cg)).id=(i:Int)∧(x.aC.getD i (aO .cg)).rows=x.rows∧(x.aC.getD i (aO .cg)).round=x.round∧(x.aC.getD i (aO .cg)).received= []∧0≤(x.aC.getD i (aO .cg)).behavior∧(x.aC.getD i (aO .cg)).behavior≤3:=by
 have hs:=gy h
 have hr:=rZ h
 exact(LP hr.1 hr.2 (by omega)).1 (Li h hi)
theorem FM{x:cm}(h:okW x=true){k i:Nat}(hi:i<x.aC.length)(hk:k≤x.aq.length):dL (mN x k i)=true:=by
 have hs:=gy h
 have hr:=rZ h
 have hn:=ahJ h
 obtain⟨h1,h2,h3,h4,h5⟩:=Oi h hi
 have hl:(mN x k i).received.length=k:=SI x i k
 simp only[dL,zM,aj,dD,decide_eq_true_eq,bq,hl]
 refine⟨⟨⟨⟨⟨?_,?_⟩,?_⟩,?_⟩,?_⟩,fun j hj=> ?_⟩
 ·show 0≤(x.aC.getD i (aO .cg)).id∧(x.aC.getD i (aO .cg)).id≤3
  omega
 ·show 1≤(x.aC.getD i (aO .cg)).rows∧(x.aC.getD i (aO .cg)).rows≤64
  omega
 ·exact h5
 ·show 0≤(x.aC.getD i (aO .cg)).round∧(x.aC.getD i (aO .cg)).round≤100000
  omega
 ·omega
 ·have hj':j<k:=bV.1 hj
  have e:(mN x k i).received.getD j (aO .bC)=⟨(j:Int),J3 x i j⟩:=FL x i k hj'
  have ho:=YH h hi (show j<x.aq.length by omega)
  have er:(mN x k i).rows=x.rows:=h2
  simp only[rP,e,aj,dD,beq_iff_eq,bp,k8,decide_eq_false_iff_not,er]
  refine⟨⟨⟨by omega,?_⟩,ho.1⟩,ho.2⟩
  by_cases hz:j=0
  ·left;omega
  ·right
   have e':(mN x k i).received.getD (j-1) (aO .bC)=⟨((j-1:Nat):Int),J3 x i (j-1)⟩:=FL x i k (by omega)
   rw[e']
   show¬(j:Int)≤((j-1:Nat):Int)
   omega
theorem SJ{x:cm}(h:okW x=true){i:Nat}(hi:i<x.aC.length): ∀k,k≤x.aq.length→(zn x k).getD i (aO .cg)=mN x k i
 |0,_=>by
  have h4:=(Oi h hi).2.2.2.1
  show x.aC.getD i (aO .cg)=mN x 0 i
  unfold mN
  have e:rcs x i 0=(x.aC.getD i (aO .cg)).received:=by rw[h4];rfl
  rw[e]
 |k+1,hk=>by
  have ha:nT (mN x k i) (k:Int) (J3 x i k)=mN x (k+1) i:=by
   unfold nT
   show(⟨_,_,_,rcs x i k++ [⟨(k:Int),J3 x i k⟩],_⟩:cg)=_
   rw[←YG];rfl
  rw[NN h (by omega) hi,SJ h hi k (by omega)]
  show Qg (mN x k i) (k:Int) (J3 x i k)=_
  rw[Lj (by unfold nU;rw[ha,FM h hi (by omega),FM h hi hk];rfl),ha]
theorem LQ{x:cm}(h:okW x=true){i:Nat}(hi:i<x.aC.length):(cS x).getD i (aO .cg)=mN x x.aq.length i:=by
 rw[cS,if_pos h];exact SJ h hi _ (bh _)
theorem abF(x:cm)(i n:Nat){a:Nat}(ha:a<n):oA (rcs x i n) (a:Int)=true∧Ax (rcs x i n) (a:Int)=J3 x i a:=by
 have hg:=FL x i n ha
 have:=Qh (l:=rcs x i n) (c:=(a:Int)) (k:=a) (by rw[SI];exact ha) (by
  rw[bK]
  intro r hr
  obtain⟨j,hj⟩:=kZ.1 hr
  have hj2:j<a:=by
   have:=(aI.1 hj).1
   rw[bL]at this;omega
  rw[List.getElem?_take,if_pos hj2]at hj
  have e:r=⟨(j:Int),J3 x i j⟩:=by
   rw[←FL x i n (show j<n by omega),ak,hj];rfl
  rw[e];simp only[U9,beq_iff_eq];omega) (by rw[hg];simp[U9])
 rw[hg]at this;exact this
theorem abG{x:cm}{d:DB}(h:okW x=true)(hr:x.round<99999)(hc:x.cancelled<9223372036854775807)(hd:eB d=true)(hn:(d.rows.length:Int)=x.rows):
  (dR x [] d).round=x.round+1∧okW (dR x [] d)=true∧eC (dR x [] d).aN=x.round∧(dR x [] d).cancelled=x.cancelled:=by
 have w:=Mb.of h
 have w3:=w.round
 have hp:=AR h hr
 refine⟨?_,Ux h hr hc (fun _=>⟨hd,hn⟩),?_,?_⟩
 ·rw[dR,if_pos hp];exact dA (by omega)
 ·rw[dR,if_pos hp]
  show eC ⟨x.aN.rows,EB x.aN x.round d⟩=x.round
  exact(YC w.Ve w3 w.last hd (by rw[w.J2];exact hn)).2.1
 ·rw[dR,if_pos hp];rfl
end
section
structure Cur where
 b:List UInt8
 i:Nat
 h:Int
def Cur.h1(c:Cur):Int:=an.wrap (an.wrap (c.h*6364136223846793005)+1442695040888963407)
def Cur.n(c:Cur):Cur:=⟨c.b,if c.i<c.b.length then c.i+1 else c.i,c.h1⟩
def Oj(seed:Int)(i:Nat):gS:=⟨(i:Int),((i^^^1:Nat):Int),Ej (kh seed [199,(i:Int).tdiv 2]),kh seed [211,(i:Int)],[],0,[],0⟩
def nwD(seed:Int)(i:Nat):cD:=⟨Oj seed i,Oj seed i⟩
def nwS(rows:Int)(i:Nat):cg:=⟨(i:Int),rows,0,[],0⟩
def Ct(rows:Int)(n:Nat):List cg:=(bA n).map (nwS rows)
def yx(seed:Int)(n:Nat):List cD:=(bA n).map (nwD seed)
def ou(rows:Int)(s p:Nat)(seed:Int):cm:=⟨rows,Ct rows s,yx seed (2*p),⟨rows,[]⟩,Ej (kh seed [197]),seed,0,[],0⟩
theorem FN(rows:Int)(n:Nat):(Ct rows n).length=n:=by simp[Ct]
theorem FO(seed:Int)(n:Nat):(yx seed n).length=n:=by simp[yx]
theorem YI(rows:Int)(k:Nat):Ct rows (k+1)=Ct rows k++ [nwS rows k]:=Al _ k
theorem YJ(seed:Int)(k:Nat):yx seed (k+1)=yx seed k++ [nwD seed k]:=Al _ k
theorem J4(i:Nat):((i^^^1:Nat):Int).tdiv 2=(i:Int).tdiv 2:=by
 have h:(i^^^1)/2=i/2:=by
  rw[Hg]
  simp
 rw[BD (by omega),BD (by omega)]
 omega
theorem SK(i:Nat):i^^^1≠i:=by
 intro h
 have h2:(i^^^1)^^^i=i^^^i:=by rw[h]
 rw[Nat.xor_comm i 1,Cu,EE,EF]at h2
 cases h2
theorem Qy{seed:Int}{i:Nat}(hi:i<8):fG (Oj seed i)=true:=by
 have hk:=yR (fW seed [199,(i:Int).tdiv 2])
 have hx:i^^^1<8:=Ao i 8 hi (by decide)
 have hn:=SK i
 have hB:LG (Oj seed i):=by
  refine⟨aA _,aA _,?_,?_⟩<;>(intro b hb;cases hb)
 refine DS.2 ⟨⟨⟨by show 0≤(i:Int)∧(i:Int)≤7;omega,by show 0≤((i^^^1:Nat):Int)∧((i^^^1:Nat):Int)≤7;omega⟩,by show(i:Int)≠((i^^^1:Nat):Int);omega,?_⟩,hB,by show(0:Int)≤0∧(0:Int)≤0;omega,by show(0:Int)≤0;omega,by show(0:Int)≤100000;omega⟩
 show iC (Ej _)=true
 unfold iC
 rw[dD];omega
theorem SL{rows seed:Int}{s p:Nat}(hr:1≤rows∧rows≤64)(hs:2≤s∧s≤4)(hp:1≤p∧p≤4):okW (ou rows s p seed)=true:=by
 have hl1:=FN rows s
 have qN:=FO seed (2*p)
 have hk:=yR (fW seed [197])
 refine Mb.ok ⟨hr,by show 2≤(Ct rows s).length∧(Ct rows s).length≤4;omega,by show 2≤(yx seed (2*p)).length∧(yx seed (2*p)).length≤8;omega,by show(yx seed (2*p)).length % 2=0;omega,qW.2 ⟨⟨hr,by show 0≤8;omega⟩,fun i hi=>by cases hi⟩,rfl,?_,?_,by show(0:Int)≤0∧(0:Int)≤100000;omega,by show(0:Int)≤0;omega,fun i hi=> ?_,fun i hi=> ?_⟩
 ·show eC ⟨rows,[]⟩<0
  rw[Ig rfl];decide
 ·show iC (Ej _)=true
  unfold iC
  rw[dD];omega
 ·have hi':i<s:=by have:i<(Ct rows s).length:=hi;omega
  have e:(Ct rows s).getD i (aO .cg)=nwS rows i:=gj _ _ _ _ hi'
  show sOK rows 0 i ((Ct rows s).getD i (aO .cg))
  rw[e]
  exact⟨rfl,rfl,rfl,rfl,by show(0:Int)≤0;omega,by show(0:Int)≤3;omega⟩
 ·have hi':i<2*p:=by have:i<(yx seed (2*p)).length:=hi;omega
  have hx:=Ao i (2*p) hi' (by omega)
  have e: ∀j,j<2*p→(yx seed (2*p)).getD j (aO .cD)=nwD seed j:=fun j hj=>gj _ _ _ _ hj
  have hc:=Qy (seed:=seed) (i:=i) (by omega)
  have abI:fJ (nwD seed i)=true:=YF.iff.2 ⟨hc,hc,lg.2 ⟨⟨rfl,rfl,rfl,rfl⟩,rfl⟩,fT _,fT _,DR _⟩
  show(fJ ((yx seed (2*p)).getD i (aO .cD))&&(((yx seed (2*p)).getD i (aO .cD)).live.id==(i:Int))&&(((yx seed (2*p)).getD i (aO .cD)).live.gZ==((i^^^1:Nat):Int))&&(((yx seed (2*p)).getD i (aO .cD)).live.key==((yx seed (2*p)).getD (i^^^1) (aO .cD)).live.key)&&decide (((yx seed (2*p)).getD i (aO .cD)).live.next≤0))=true
  rw[e i hi',e _ hx,abI]
  simp only[aj,beq_iff_eq,decide_eq_true_eq]
  refine⟨⟨⟨⟨trivial,rfl⟩,rfl⟩,?_⟩,fT _⟩
  show Ej (kh seed [199,(i:Int).tdiv 2])=Ej (kh seed [199,((i^^^1:Nat):Int).tdiv 2])
  rw[J4]
theorem ahL{x:cm}{n:Nat}(h:okW x=true)(hr:x.replaced.length≤n):wC x n:=by
 have w:=Mb.of h
 refine⟨AI (Yd h),?_,?_,hr⟩
 ·exact dY (LF dH 960 8 _ (fun d hd=>uG (Ss h d hd)) w.ndv.2) (by decide)
 ·have ha:=qW.1 w.Ve
  refine dY (LF iE 1600 8 _ (fun y hy=> ?_) ha.1.2) (by decide)
  obtain⟨i,hi,rfl⟩:=dx.1 hy
  have h2:=qb.1 (ha.2 i hi)
  have e:x.aN.rounds.getD i (aO .bt)=x.aN.rounds[i]:=by rw[ak,au hi];rfl
  rw[e]at h2
  exact Qq h2.2.2.1
theorem SM{x:cm}{i:Nat}{d:cD}(h:okW x=true)(hi:i<x.aq.length)(hd:fJ d=true)(hs:vX d.live (x.aq.getD i (aO .cD)).live)(hn:d.live.next≤x.round):okW (Yg x i d)=true:=by
 have w:=Mb.of h
 have hg: ∀j,j<x.aq.length→(x.aq.set i d).getD j (aO .cD)=if i=j then d else x.aq.getD j (aO .cD):=fun j hj=>uK _ _ hj
 refine Mb.ok ⟨w.rows,w.nsv,by show 2≤(x.aq.set i d).length∧(x.aq.set i d).length≤8;rw[bH];exact w.ndv,by show(x.aq.set i d).length % 2=0;rw[bH];exact w.even,w.Ve,w.J2,w.last,w.key,w.round,w.Fa,w.sv,fun j hj=> ?_⟩
 have hj:j<x.aq.length:=by have:j<(x.aq.set i d).length:=hj;rwa [bH]at this
 have hx:=Ao j x.aq.length hj w.even
 have hq:=qL h hj
 have key: ∀m,m<x.aq.length→((x.aq.set i d).getD m (aO .cD)).live.key=(x.aq.getD m (aO .cD)).live.key:=by
  intro m hm
  rw[hg m hm]
  split
  ·rename_i e;subst e;exact hs.2.2.1
  ·rfl
 simp only[okD,aj,decide_eq_true_eq,beq_iff_eq]at hq ⊢
 show(((fJ ((x.aq.set i d).getD j (aO .cD))=true∧((x.aq.set i d).getD j (aO .cD)).live.id=(j:Int))∧((x.aq.set i d).getD j (aO .cD)).live.gZ=((j^^^1:Nat):Int))∧((x.aq.set i d).getD j (aO .cD)).live.key=((x.aq.set i d).getD (j^^^1) (aO .cD)).live.key)∧((x.aq.set i d).getD j (aO .cD)).live.next≤x.round
 rw[key j hj,key _ hx,hg j hj]
 split
 ·rename_i e
  subst e
  exact⟨⟨⟨⟨hd,hs.1.trans hq.1.1.1.2⟩,hs.2.1.trans hq.1.1.2⟩,hq.1.2⟩,hn⟩
 ·exact hq
theorem ada{x:cm}{c:Int}(h:qy x c=true):c.toNat<x.aq.length∧fJ (IX x c)=true∧(IX x c).live.next≤x.round:=by
 obtain⟨h1,h2,h3⟩:=LK h
 have hi:c.toNat<x.aq.length:=by omega
 have hq:=qL h1 hi
 simp only[okD,aj,decide_eq_true_eq]at hq
 exact⟨hi,hq.1.1.1.1,hq.2⟩
theorem SN{c:gS}{b:List UInt8}(h:fG c=true):fG (nZ c b)=true:=by
 unfold nZ
 split
 ·rename_i hk;simp only[yd,aj]at hk;exact hk.2
 ·exact h
theorem J5(c:gS)(b:List UInt8):vX (nZ c b) c∧(nZ c b).next=c.next∧(nZ c b).sent=c.sent∧(nZ c b).inbox=c.inbox:=by
 unfold nZ
 split
 ·exact⟨⟨rfl,rfl,rfl,rfl⟩,rfl,rfl,rfl⟩
 ·exact⟨⟨rfl,rfl,rfl,rfl⟩,rfl,rfl,rfl⟩
theorem abJ{d:cD}{b:List UInt8}(h:fJ d=true):fJ (DI d b)=true∧vX (DI d b).live d.live∧(DI d b).live.next=d.live.next:=by
 unfold DI
 split
 ·rename_i hk
  simp only[DH,aj]at hk
  have hd:=YF.iff.1 h
  obtain⟨p1,p2⟩:=lg.1 hd.same
  obtain⟨a1,a2,a3,a4⟩:=J5 d.live b
  obtain⟨b1,b2,b3,b4⟩:=J5 d.saved b
  refine⟨YF.iff.2 ⟨SN hd.live,SN hd.saved,lg.2 ⟨⟨a1.1.trans (p1.1.trans b1.1.symm),a1.2.1.trans (p1.2.1.trans b1.2.1.symm),a1.2.2.1.trans (p1.2.2.1.trans b1.2.2.1.symm),a1.2.2.2.trans (p1.2.2.2.trans b1.2.2.2.symm)⟩,?_⟩,?_,?_,?_⟩,a1,a2⟩
  ·show(nZ d.live b).bz=(nZ d.saved b).bz
   rw[Ie hk.1.2,Ie hk.2]
   show d.live.bz++ [b]=d.saved.bz++ [b]
   rw[p2]
  ·show(nZ d.saved b).sent≤(nZ d.live b).sent
   rw[a3,b3];exact hd.sent
  ·show(nZ d.saved b).next≤(nZ d.live b).next
   rw[a2,b2];exact hd.next
  ·show C8 (nZ d.saved b).inbox (nZ d.live b).inbox=true
   rw[a4,b4];exact hd.pre
 ·exact⟨h,⟨rfl,rfl,rfl,rfl⟩,rfl⟩
theorem afi{x:cm}{c:Int}{b:List UInt8}(h:okW x=true):okW (LJ x c b)=true:=by
 unfold LJ
 split
 ·rename_i hk
  obtain⟨h1,h2,h3⟩:=ada hk
  obtain⟨q1,q2,q3⟩:=abJ (b:=b) h2
  exact SM h h1 q1 q2 (by rw[q3];exact h3)
 ·exact h
theorem abK{c:gS}(h:fG c=true):fJ ⟨c,c⟩=true:=YF.iff.2 ⟨h,h,lg.2 ⟨⟨rfl,rfl,rfl,rfl⟩,rfl⟩,fT _,fT _,DR _⟩
theorem afj{x:cm}{c:Int}(h:okW x=true):okW (abq x c)=true:=by
 unfold abq
 split
 ·rename_i hk
  obtain⟨h1,h2,h3⟩:=ada hk
  rw[OX,if_pos h2]
  exact SM h h1 (abK (YF.iff.1 h2).live) ⟨rfl,rfl,rfl,rfl⟩ h3
 ·exact h
structure Ok(x:cm)(n:Nat):Prop where
 ok:okW x=true
 round:x.round≤n
 Fa:x.cancelled≤n
 YK:x.replaced.length≤8*n
theorem Ok.mono{x:cm}{n m:Nat}(h:Ok x n)(hn:n≤m):Ok x m:=⟨h.ok,by have:=h.round;omega,by have:=h.Fa;omega,by have:=h.YK;omega⟩
theorem Ok.C{x:cm}{n:Nat}(h:Ok x n):wC x (8*n):=ahL h.ok h.YK
theorem Ok.B{x:cm}{n:Nat}(h:Ok x n)(hn:n≤100000):wB x:=Yb h.C (by omega)
theorem Ok.sm{x:cm}{n:Nat}{c:Int}{b:List UInt8}(h:Ok x n):Ok (LJ x c b) n:=by
 refine⟨afi h.ok,?_,?_,?_⟩<;>(unfold LJ;split)<;>first|exact h.round|exact h.Fa|exact h.YK
theorem Ok.sv{x:cm}{n:Nat}{c:Int}(h:Ok x n):Ok (abq x c) n:=by
 refine⟨afj h.ok,?_,?_,?_⟩<;>(unfold abq;split)<;>first|exact h.round|exact h.Fa|exact h.YK
end
section
theorem sG: ∀(a b:List UInt8) (i:Nat),uN (fk a b) i=uN a i^^^uN b i
 | [],b,i=>by rw[o9];simp[uN]
 |x::a,[],i=>by rw[kP];simp[uN]
 |x::a,y::b,0=>by simp[fk,uN]
 |x::a,y::b,i+1=>by
  have:=sG a b i
  rw[fk]
  simpa[uN]using this
theorem afk{a b:List UInt8}(hl:a.length=b.length)(h: ∀i,uN a i=uN b i):a=b:=by
 apply mA hl
 intro i h1 h2
 have:=h i
 unfold uN at this
 rw[ak,au h1,ak,au h2]at this
 exact this
def sb(rows:List (List UInt8))(v:List Int)(i k:Nat):UInt8:=if k<v.length∧v.getD k (aO .int)=1 then uN (rows.getD k (aO (.sl .u8))) i else 0
def sx(rows:List (List UInt8))(v:List Int)(i:Nat):Nat→UInt8
 |0=>0
 |n+1=>sx rows v i n^^^sb rows v i n
theorem Ol(rows:List (List UInt8))(v:List Int)(i:Nat): ∀n,uN (uA rows v n) i=sx rows v i n
 |0=>rfl
 |n+1=>by
  have ih:=Ol rows v i n
  by_cases h:n<v.length∧v.getD n (aO .int)=1
  ·rw[xR h.1 h.2,sG,ih,sx,sb,if_pos h]
  ·rw[qV h,ih,sx,sb,if_neg h,ke]
theorem afl{a b:List Int}(hl:b.length=a.length){k:Nat}(hk:k<a.length):(dm xb a b).getD k (aO .int)=xb (a.getD k (aO .int)) (b.getD k (aO .int)):=by
 have hz:k<(dm xb a b).length:=by rw[iO];omega
 rw[ak,au hz,zD,ak,au hk,ak,au (show k<b.length by omega)]
 rfl
theorem afm(rows:List (List UInt8)){a b:List Int}{n:Int}(ha:ff a n=true)(hb:ff b n=true)(i k:Nat):sb rows (dm xb a b) i k=sb rows a i k^^^sb rows b i k:=by
 have h1:=mX ha
 have h2:=mX hb
 have hl:b.length=a.length:=by omega
 have hz:(dm xb a b).length=a.length:=by rw[iO];omega
 unfold sb
 rw[hz,hl]
 by_cases hk:k<a.length
 ·rw[afl hl hk]
  rcases yS ha k hk with e1|e1<;>rcases yS hb k (by omega)with e2|e2<;>rw[e1,e2]<;>simp[xb,hk]
 ·simp[hk]
theorem ahM(a b c d:UInt8):(a^^^b)^^^(c^^^d)=(a^^^c)^^^(b^^^d):=by
 rw[fM,fM, ←fM b c d,tJ b c,fM c b d]
theorem YL(rows:List (List UInt8)){a b:List Int}{n:Int}(ha:ff a n=true)(hb:ff b n=true)(i:Nat): ∀k,sx rows (dm xb a b) i k=sx rows a i k^^^sx rows b i k
 |0=>by simp[sx]
 |k+1=>by rw[sx,sx,sx,YL rows ha hb i k,afm rows ha hb,ahM]
theorem abL{a b:List Int}{n:Int}(ha:ff a n=true)(hb:ff b n=true):ff (dm xb a b) n=true:=by
 have h1:=mX ha
 have h2:=mX hb
 have hz:(dm xb a b).length=a.length:=by rw[iO];omega
 simp only[ff,aj,decide_eq_true_eq,bq,dD]
 refine⟨⟨by omega,h1.2⟩,fun x hx=> ?_⟩
 obtain⟨k,hk,rfl⟩:=dx.1 hx
 rw[zD]
 unfold xb
 split<;>omega
theorem Qz{a b:List Int}{n:Int}(ha:ff a n=true)(hb:ff b n=true):oQ a b=dm xb a b:=by
 have h1:=mX ha
 apply vA
 rw[nM,h1.1,ha,hb];rfl
theorem Om(rows:List (List UInt8)){n:Int}(hn:1≤n∧n≤64)(i k:Nat): ∀(sd:List Int) (l:List Int),ff l n=true→
  ff (sd.foldl (fun l s=>oQ l (cR s n)) l) n=true∧sx rows (sd.foldl (fun l s=>oQ l (cR s n)) l) i k=sd.foldl (fun z s=>z^^^sx rows (cR s n) i k) (sx rows l i k)
 | [],l,h=>⟨h,rfl⟩
 |s::sd,l,h=>by
  have hr:=ym (s:=s) hn
  have e:=Qz h hr
  have hz:=abL h hr
  have ih:=Om rows hn i k sd (dm xb l (cR s n)) hz
  rw[cH,cH,e]
  refine⟨ih.1,?_⟩
  rw[ih.2,YL rows h hr]
theorem LR{α:Type}(g:α→UInt8): ∀(l:List α) (z:UInt8),l.foldl (fun z s=>z^^^g s) z=z^^^l.foldl (fun z s=>z^^^g s) 0
 | [],z=>by simp
 |s::l,z=>by
  rw[cH,cH,LR g l (z^^^g s),LR g l (0^^^g s),gb,fM]
theorem FP(i:Nat):uN L7 i=0:=by
 unfold uN L7
 rw[ak,iq]
 split<;>rfl
theorem YM{d:DB}{v:List Int}(hd:eB d=true)(hv:ff v d.rows.length=true):hJ d v=fk L7 (AF d.rows v):=by
 rw[hJ,hd,hv];rfl
theorem YN{d:DB}{v:List Int}(hd:eB d=true)(hv:ff v d.rows.length=true)(i:Nat):uN (hJ d v) i=sx d.rows v i d.rows.length:=by
 rw[YM hd hv,sG,FP,gb]
 exact Ol d.rows v i _
theorem YO{d:DB}{v:List Int}(hd:eB d=true)(hv:ff v d.rows.length=true):ni d v=true:=by
 apply B1
 rw[YM hd hv,eF,nQ]
 omega
theorem SO{d:DB}{v:List Int}(hd:eB d=true)(hv:ff v d.rows.length=true):(hJ d v).length=24:=B2 (YO hd hv)
theorem On{rows i:Int}(h:jR rows i=true):ff (qx rows i) rows=true:=by
 obtain⟨h1,h2,h3,h4⟩:=uo h
 rw[qQ h]
 simp only[ff,aj,decide_eq_true_eq,bq,dD,bH,jj]
 refine⟨⟨by omega,h2⟩,fun x hx=> ?_⟩
 rcases gK hx with h5|h5
 ·have h6:=(s8.1 h5).2
  rw[h6]
  show 0≤(0:Int)∧(0:Int)≤1
  omega
 ·omega
theorem abM(db:List (List UInt8)){rows i:Int}(h:jR rows i=true)(j:Nat): ∀n:Nat,(n:Int)≤rows→sx db (qx rows i) j n=if i<(n:Int)then uN (db.getD i.toNat (aO (.sl .u8))) j else 0:=by
 obtain⟨h1,h2,h3,h4⟩:=uo h
 intro n
 induction n with
 |zero=>intro _;rw[if_neg (by omega)];rfl
 |succ n ih=>
  intro hn
  have hg:(qx rows i).getD n (aO .int)=if i.toNat=n then 1 else 0:=by
   rw[qQ h,uK _ _ (by rw[jj];omega)]
   split
   ·rfl
   ·rw[ak,iq,if_pos (by omega)];rfl
  have hl:n<(qx rows i).length:=by rw[qQ h,bH,jj];omega
  rw[sx,ih (by omega),sb,hg]
  by_cases he:i.toNat=n
  ·rw[if_neg (by omega),if_pos ⟨hl,if_pos he⟩,if_pos (by omega),gb,he]
  ·rw[if_neg (show¬(n<(qx rows i).length∧(if i.toNat=n then(1:Int)else 0)=1)by rw[if_neg he];omega),ke]
   by_cases hi:i<(n:Int)
   ·rw[if_pos hi,if_pos (by omega)]
   ·rw[if_neg hi,if_neg (by omega)]
theorem SP(i:Nat): ∀(l:List (List UInt8)) (a:List UInt8),uN (l.foldl fk a) i=l.foldl (fun z b=>z^^^uN b i) (uN a i)
 | [],_=>rfl
 |b::l,a=>by rw[cH,cH,SP i l,sG]
theorem Oo: ∀(l:List (List UInt8)) (a:List UInt8),(∀b,b∈l→b.length=24)→a.length=24∨(l≠ []∧a.length≤24)→(l.foldl fk a).length=24
 | [],a,_,h=>by
   rcases h with h|h
   ·exact h
   ·exact absurd rfl h.1
 |b::l,a,hb,h=>by
  rw[cH]
  refine Oo l _ (fun y hy=>hb y (aJ _ hy)) (Or.inl ?_)
  have:=hb b (eg ..)
  rw[eF]
  rcases h with h|h<;>omega
theorem UB{d:DB}{rows row:Int}{sd:List Int}(hd:eB d=true)(hl:(d.rows.length:Int)=rows)(hu:jR rows row=true)(hc:BO rows row sd=true):
  (∀v,v∈lN rows row sd→ff v d.rows.length=true)∧xU ((lN rows row sd).map (hJ d))=d.rows.getD row.toNat (aO (.sl .u8)):=by
 obtain⟨h1,h2,h3,h4⟩:=uo hu
 have hsel: ∀s,ff (cR s rows) rows=true:=fun s=>ym ⟨h1,h2⟩
 have YP: ∀i k,ff (xF rows row sd) rows=true∧sx d.rows (xF rows row sd) i k=sd.foldl (fun z s=>z^^^sx d.rows (cR s rows) i k) (sx d.rows (qx rows row) i k):=fun i k=>Om d.rows ⟨h1,h2⟩ i k sd _ (On hu)
 have hv: ∀v,v∈lN rows row sd→ff v d.rows.length=true:=by
  intro v hm
  rw[hl]
  rw[lN,if_pos hc]at hm
  rcases aK.1 hm with h|h
  ·obtain⟨s,_,rfl⟩:=cj.1 h;exact hsel s
  ·rw[aP.1 h];exact(YP 0 0).1
 refine⟨hv,afk ?_ fun i=> ?_⟩
 ·rw[pe hd _ (by omega)]
  refine Oo _ _ (fun b hb=> ?_) (Or.inr ⟨?_,by show 0≤24;omega⟩)
  ·obtain⟨v,hm,rfl⟩:=cj.1 hb
   exact SO hd (hv v hm)
  ·rw[lN,if_pos hc];simp
 ·show uN (((lN rows row sd).map (hJ d)).foldl fk []) i=_
  rw[SP,I0,lN,if_pos hc,dX]
  have e0:uN ([]:List UInt8) i=0:=rfl
  have e1:(sd.map fun s=>cR s rows).foldl (fun z v=>z^^^uN (hJ d v) i) 0=sd.foldl (fun z s=>z^^^sx d.rows (cR s rows) i d.rows.length) 0:=by
   rw[I0]
   have:(fun(z:UInt8) s=>z^^^uN (hJ d (cR s rows)) i)=fun z s=>z^^^sx d.rows (cR s rows) i d.rows.length:=by
    funext z s
    rw[YN hd (by rw[hl];exact hsel s)]
   rw[this]
  rw[e0,e1,cH,I1,YN hd (by rw[hl];exact(YP 0 0).1),(YP i d.rows.length).2,LR _ sd (sx d.rows (qx rows row) i d.rows.length),abM d.rows hu i d.rows.length (by omega),if_pos (by omega)]
  rw[tJ (uN _ i), ←fM,I2,gb]
theorem Ii{α β:Type}(f:α→β)(l:List α)(d:α):((bA l.length).map fun i=>f (l.getD i d))=l.map f:=by
 apply mA
 ·simp
 ·intro i h1 h2
  simp only[bw,DT]at h1
  simp[ak,au h1]
theorem abN{x:cm}{r row s:Int}(h:okW x=true)(hb: ∀i,i<x.aC.length→(x.aC.getD i (aO .cg)).behavior≠3)(hh:k7 x.aN.rounds r=true)(hr:0≤row∧row<x.rows):
  EA x r row s=true∧Lp x r row s=(jJ x.aN.rounds r).rows.getD row.toNat (aO (.sl .u8)):=by
 have hs:=gy h
 have hrw:=(rZ h).1
 obtain⟨hd,hl⟩:=Od h hh
 have hu:jR x.rows row=true:=by
  simp only[jR,aj,dD]
  rw[dA (by omega)];omega
 have By:=oR x.aC.length r row s
 have ON:=mX (On hu)
 have hc:BO x.rows row (jv x.aC.length r row s)=true:=by
  simp only[BO,aj,bp,decide_eq_false_iff_not,eA,dD]
  rw[By,dA (by omega)];omega
 obtain⟨q1,q2⟩:=UB (sd:=jv x.aC.length r row s) hd hl hu hc
 have hql:(query' x r row s).length=x.aC.length:=by
  show(lN x.rows row (jv x.aC.length r row s)).length=_
  rw[lN,if_pos hc,aX,bw,By]
  show x.aC.length-1+1=_
  omega
 have hp:vW x r row s=(query' x r row s).map (hJ (jJ x.aN.rounds r)):=by
  unfold vW vV
  rw[pM, ←Ii (hJ (jJ x.aN.rounds r)) (query' x r row s) (aO (.sl .int))]
  apply List.map_congr_left
  intro i hi
  have hi:=bV.1 hi
  have hm:(query' x r row s).getD i (aO (.sl .int))∈query' x r row s:=getD_in _ hi
  have hsg:=YO hd (q1 _ hm)
  show(L9 _ _ _ _ _).data=_
  rw[L9,if_pos hsg,if_neg (hb i (by omega))]
  rfl
 have hall: ∀a,a∈vW x r row s→a.length=24:=by
  intro a ha
  rw[hp]at ha
  obtain⟨v,hm,rfl⟩:=cj.1 ha
  exact SO hd (q1 v hm)
 have hcm:j7 (vW x r row s)=true:=by
  simp only[j7,aj,bq,decide_eq_true_eq,eA,dD]
  refine⟨?_,fun a ha=>by have:=hall a ha;omega⟩
  rw[hp,bw,hql];omega
 refine⟨by rw[EA,hh,hcm];rfl,?_⟩
 rw[Lp,if_pos hh,Lw hcm,hp]
 exact q2
end
section
def EG(l:List UInt8)(i:Int):Int:=if i<(l.length:Int)then an.wrap ((l.getD i.toNat (aO .u8)).toNat:Int)else(an.wrap (an.wrap (i*31)+an.wrap ((l.length:Int)*7))).tmod 256
theorem Oq(l:List UInt8){i:Int}(hl:l.length≤1048576)(hi:0≤i∧i≤1000):0≤EG l i∧EG l i≤255:=by
 unfold EG
 split
 ·have:=(l.getD i.toNat (aO .u8)).toNat_lt
  rw[dA (by omega)];omega
 ·rw[dA (a:=i*31) (by omega),dA (a:=(l.length:Int)*7) (by omega),dA (by omega),gh (by omega)]
  omega
theorem LS{a n:Int}(h:0≤a)(hn:0<n):0≤a.tmod n∧a.tmod n<n:=by
 rw[gh h]
 exact⟨jE _ (by omega),jl _ hn⟩
end
section
theorem J6(y x v:Int): ∀l:List Int,sI (Ge l x v) y=if y=x then v else sI l y
 | []=>by
   show sI [x,v] y=_
   rw[sI];try rfl
 | [a]=>by
   show sI [x,v] y=_
   rw[sI];try rfl
 |k::w::r=>by
  rw[Ge]
  by_cases h:x=k
  ·subst h
   rw[if_pos rfl,sI,sI]
   by_cases h2:y=x
   ·rw[if_pos h2,if_pos h2]
   ·rw[if_neg h2,if_neg h2,if_neg h2]
  ·rw[if_neg h,sI,sI,J6 y x v r]
   by_cases h2:y=k
   ·subst h2
    rw[if_pos rfl,if_pos rfl,if_neg (fun e=>h e.symm)]
   ·rw[if_neg h2,if_neg h2]
def afn(m:List Int)(r:Int):List Int:=Ge m r (an.wrap (sI m r+1))
def UC(l:List Int):List Int:=l.foldl afn []
theorem J7(l:List Int)(k:Nat)(h:k<l.length):UC (l.take (k+1))=afn (UC (l.take k)) (l.getD k (aO .int)):=vm _ _ _ _ _ h
theorem YR(l:List Int)(r:Int)(h:l.length≤1000):sI (UC l) r=(l.count r:Int):=by
 have key: ∀k,k≤l.length→sI (UC (l.take k)) r=((l.take k).count r:Int):=by
  intro k
  induction k with
  |zero=>intro _;rfl
  |succ k ih=>
   intro hk
   have ih:=ih (by omega)
   have hc:=List.count_le_length (a:=r) (l:=l.take k)
   rw[bL]at hc
   rw[J7 l k (by omega),afn,J6,cI l k (aO .int) (by omega),DV,List.count_singleton]
   by_cases hr:r=l.getD k (aO .int)
   ·rw[if_pos hr, ←hr,ih,dA (by omega)]
    simp
   ·have hb:(l.getD k (aO .int)==r)=false:=by rw[beq_eq_false_iff_ne];exact fun e=>hr e.symm
    rw[if_neg hr,ih,hb]
    simp
 have:=key l.length (bh _)
 rwa [mz]at this
def abO(l:List Int)(i m:Nat):Bool:=(bA m).any fun j=> !decide (j=i)&&decide (l.getD j (aO .int)=l.getD i (aO .int))
theorem afo{l:List Int}{i:Nat}(hi:i<l.length)(hl:l.length≤1000):decide (sI (UC l) (l.getD i (aO .int))>1)=abO l i l.length:=by
 rw[YR _ _ hl]
 have hg:l.getD i (aO .int)=l[i]:=by rw[ak,au hi];rfl
 have hc:l.count l[i]=(l.take i).count l[i]+1+(l.drop (i+1)).count l[i]:=by
  have e: ∀a,l.count a=(l.take i).count a+(l.drop i).count a:=fun a=>by rw[←DV,jg]
  rw[e,dK hi,List.count_cons_self];omega
 rw[hg,hc,xD,decide_eq_true_eq]
 constructor
 ·intro h
  have:0<(l.take i).count l[i]∨0<(l.drop (i+1)).count l[i]:=by omega
  rcases this with h|h
  ·obtain⟨j,hj,he⟩:=dx.1 (n9.1 h)
   have hj2:j<i:=by rw[bL]at hj;omega
   refine dV.2 ⟨j,bV.2 (by omega),?_⟩
   rw[DW]at he
   have:l.getD j (aO .int)=l[j]:=by rw[ak,au (by omega)];rfl
   simp only[this,hg,he,aj,bp,decide_eq_false_iff_not,decide_eq_true_eq]
   exact⟨by omega,trivial⟩
  ·obtain⟨j,hj,he⟩:=dx.1 (n9.1 h)
   rw[bM]at hj
   refine dV.2 ⟨i+1+j,bV.2 (by omega),?_⟩
   rw[DX]at he
   have:l.getD (i+1+j) (aO .int)=l[i+1+j]:=by rw[ak,au (by omega)];rfl
   simp only[this,hg,he,aj,bp,decide_eq_false_iff_not,decide_eq_true_eq]
   exact⟨by omega,trivial⟩
 ·intro h
  obtain⟨j,hj,he⟩:=dV.1 h
  have hj:=bV.1 hj
  simp only[aj,bp,decide_eq_false_iff_not,decide_eq_true_eq]at he
  have hjg:l.getD j (aO .int)=l[j]:=by rw[ak,au hj];rfl
  rw[hjg,hg]at he
  rcases Nat.lt_or_gt_of_ne he.1 with h1|h1
  ·have:0<(l.take i).count l[i]:=n9.2 (dx.2 ⟨j,by rw[bL];omega,by rw[DW];exact he.2⟩)
   omega
  ·have:0<(l.drop (i+1)).count l[i]:=n9.2 (dx.2 ⟨j-(i+1),by rw[bM];omega,by rw[DX];rw[←he.2];congr 1;omega⟩)
   omega
def qc(x:cm):List Int:=x.aq.map fun d=>jH d.live x.round x.rows
theorem DY(x:cm):(qc x).length=x.aq.length:=bw ..
theorem y8{x:cm}{k:Nat}(h:k<x.aq.length):(qc x).getD k (aO .int)=jH (x.aq.getD k (aO .cD)).live x.round x.rows:=by
 unfold qc
 rw[ak,dN,au h,ak,au h];rfl
theorem QA{x:cm}{k:Nat}(h:k<x.aq.length):(qc x).take (k+1)=(qc x).take k++ [jH (x.aq.getD k (aO .cD)).live x.round x.rows]:=by
 rw[cI _ k (aO .int) (by rw[DY];exact h),y8 h]
def AU(x:cm)(i:Nat):Bool:=decide (waiting (x.aq.getD i (aO .cD)).live>0)&&abO (qc x) i (qc x).length
def DZ(x:cm)(k:Nat):Nat:=((bA k).filter (AU x)).length
theorem Ot{x:cm}{k:Nat}(h:AU x k=true):DZ x (k+1)=DZ x k+1:=by unfold DZ;rw[ep,kD,aX];simp[h]
theorem D0{x:cm}{k:Nat}(h:AU x k=false):DZ x (k+1)=DZ x k:=by unfold DZ;rw[ep,kD,aX];simp[h]
theorem abP(x:cm)(k:Nat):DZ x k≤k:=by
 unfold DZ
 have:=pY (AU x) (bA k)
 simpa using this
def coll(x:cm):Int:=if okW x then(DZ x x.aq.length:Int)else 0
end
section
theorem YS(w:World):(zeroValue 3).run bu w= .ok (.int .i64 0) w:=by
 have h:(bu.info? 3).map (fun i=>i.zero)=some (some (.int .i64 0)):=by kernel_rfl
 cases hq:bu.info? 3 with
 |none=>rw[hq]at h;cases h
 |some i=>
  rw[hq]at h
  simp only[Option.map_some,oI]at h
  simp[zeroValue,typeInfo,hq,h]
theorem Ou:fD bu 63 .mp:=⟨3,3,Tryz.underlying63,ES,YS,by kernel_rfl⟩
def afp:List (Nat×TK):=(63, .mp)::tys
def Γ3(t:Nat):TK:=match look afp t with|some k=>k|none=> .other
theorem afq: ∀e,e∈afp→fD bu e.1 e.2:=by
 intro e he
 rcases aW.1 he with rfl|he
 ·exact Ou
 ·exact kinds e he
theorem ahN: ∀e,e∈afp→(∀z tg fo,e.2≠ .st z tg fo)→(bu.info? e.1).map (·.size)=some 1:=by
 intro e he h
 rcases aW.1 he with rfl|he
 ·obtain⟨_,_,_,_,_,h⟩:=Ou
  exact h
 ·exact agY e he h
theorem X3:Ctx bu ty Γ3 where
 kind:=fun t=>by
  unfold Γ3
  split
  ·rename_i k hk;exact afq (t,k) (gM hk)
  ·trivial
 one:=fun t h1 h2=>by
  unfold Γ3 at h1 h2
  split at h1
  ·rename_i k hk;exact ahN (t,k) (gM hk) h1
  ·rename_i hk;rw[hk]at h2;exact absurd rfl h2
end
section
def l9(d:DB)(j i:Nat):UInt8:=uN (d.rows.getD j (aO (.sl .u8))) i
theorem Ij{d:DB}{j:Nat}(h:d.rows.length≤j)(i:Nat):l9 d j i=0:=by
 unfold l9;rw[G6 _ _ _ h];rfl
theorem Ov{a b:DB}(h:kV a b=true)(j i:Nat):l9 (iU a b) j i=l9 a j i^^^l9 b j i:=by
 have hb:=vB h
 by_cases hj:j<a.rows.length
 ·unfold l9
  rw[qU h]
  show uN ((iZ a b).getD j (aO (.sl .u8))) i=_
  rw[vC h j hj,sG]
 ·rw[Ij (by rw[qU h];show(iZ a b).length≤j;rw[kW h];omega),Ij (by omega),Ij (by omega)];rfl
def xs{α:Type}(g:α→UInt8)(l:List α):UInt8:=l.foldl (fun z s=>z^^^g s) 0
theorem iS{α:Type}(g:α→UInt8)(a:α)(l:List α):xs g (a::l)=g a^^^xs g l:=by
 unfold xs
 rw[cH,LR,gb]
theorem YT{α:Type}(g:α→UInt8): ∀a b:List α,xs g (a++b)=xs g a^^^xs g b
 | [],b=>by rw[eS];show _=0^^^_;rw[gb]
 |x::a,b=>by rw[gY,iS,iS,YT g a b,fM]
theorem YU{α:Type}(f g:α→UInt8): ∀l:List α,xs (fun s=>f s^^^g s) l=xs f l^^^xs g l
 | []=>by show(0:UInt8)=0^^^0;rw[ke]
 |a::l=>by rw[iS,iS,iS,YU f g l,ahM]
theorem SR{α:Type}: ∀l:List α,xs (fun _=>0) l=0
 | []=>rfl
 |a::l=>by rw[iS,SR l];rfl
theorem Cw{α:Type}{f g:α→UInt8}: ∀{l:List α},(∀a,a∈l→f a=g a)→xs f l=xs g l
 | [],_=>rfl
 |a::l,h=>by rw[iS,iS,h a (eg ..),Cw fun b hb=>h b (aJ _ hb)]
theorem Ik{α β:Type}(g:β→UInt8)(f:α→β): ∀l:List α,xs g (l.map f)=xs (fun a=>g (f a)) l
 | []=>rfl
 |a::l=>by rw[cA,iS,iS,Ik g f l]
theorem SS{α β:Type}(f:α→β→UInt8)(m:List β): ∀l:List α,xs (fun a=>xs (f a) m) l=xs (fun b=>xs (fun a=>f a b) l) m
 | []=>(SR m).symm
 |a::l=>by
  rw[iS,SS f m l, ←YU]
  exact Cw fun b _=>(iS (fun a=>f a b) a l).symm
def LU(n:Nat)(d:DB):Prop:=eB d=true∧d.rows.length=n
theorem LU.xd{n:Nat}{a b:DB}(ha:LU n a)(hb:LU n b):kV a b=true:=by
 simp only[kV,ha.1,hb.1,dj,decide_eq_true_eq];rw[ha.2,hb.2]
theorem LU.xor{n:Nat}{a b:DB}(ha:LU n a)(hb:LU n b):LU n (iU a b):=⟨Hx ha.1 hb.1,by rw[AH];exact ha.2⟩
theorem QB{α:Type}(f:α→DB)(n j i:Nat): ∀(l:List α) (a:DB),LU n a→(∀s,s∈l→LU n (f s))→LU n (l.foldl (fun d s=>iU d (f s)) a)∧l9 (l.foldl (fun d s=>iU d (f s)) a) j i=l9 a j i^^^xs (fun s=>l9 (f s) j i) l
 | [],a,ha,_=>⟨ha,by show l9 a j i=l9 a j i^^^0;rw[ke]⟩
 |s::l,a,ha,hl=>by
  have h1:=hl s (eg ..)
  have ih:=QB f n j i l (iU a (f s)) (ha.xor h1) fun t ht=>hl t (aJ _ ht)
  rw[cH]
  refine⟨ih.1,ih.2.trans ?_⟩
  rw[Ov (ha.xd h1),iS,fM]
theorem ahO{rows:Int}(h:0≤rows∧rows≤64):LU rows.toNat (fA rows):=⟨N0 rows,by have:=AS h;omega⟩
theorem YV(rows:Int)(j i:Nat):l9 (fA rows) j i=0:=by
 unfold l9 fA
 dsimp only
 split
 ·rw[ak,iq]
  split
  ·exact FP i
  ·rfl
 ·rfl
theorem ahP(s:Int){rows:Int}(h:1≤rows∧rows≤64):LU rows.toNat (Qe s rows):=⟨Hy s rows h.2,mZ s rows⟩
theorem aj5{rows i:Int}{c:List UInt8}(h:qt rows i c=true):LU rows.toNat (Nw rows i c):=⟨(Au h).1,by have:=Oh h;omega⟩
theorem YW{rows i:Int}{c:List UInt8}{sd:List Int}(h:tM rows i c sd=true)(j b:Nat):xs (fun d=>l9 d j b) (rY rows i c sd)=l9 (Nw rows i c) j b:=by
 have hu:qt rows i c=true:=by simp only[tM,aj]at h;exact h.1
 have hr:=(Au hu).2
 have q:=(QB (fun s=>Qe s rows) rows.toNat j b sd (Nw rows i c) (aj5 hu) fun s _=>ahP s hr).2
 rw[rY,if_pos h,YT,Ik,iS]
 show xs (fun s=>l9 (Qe s rows) j b) sd^^^(l9 (vU rows i c sd) j b^^^0)=_
 unfold vU
 rw[q,ke,tJ (l9 (Nw rows i c) j b), ←fM,I2,gb]
theorem afr{rows i:Int}{c:List UInt8}(h:qt rows i c=true){j:Nat}(hj:(j:Int)<rows)(b:Nat):l9 (Nw rows i c) j b=if i.toNat=j then uN c b else 0:=by
 have hr:=(Au h).2
 have h1:=HB rows i c
 rw[h]at h1
 have h2:=h1.symm
 simp only[aj,dD,decide_eq_true_eq]at h2
 have hn:=AS (rows:=rows) (by omega)
 have hro:nP (fA rows) i c=true:=by
  simp only[qt,aj]at h;exact h.2
 have hb:=Fx (by have:=qS rows;omega) hro
 unfold Nw
 rw[if_pos (by rw[dD];omega),uq hro]
 unfold l9
 show uN (((fA rows).rows.set i.toNat c).getD j (aO (.sl .u8))) b=_
 rw[uK _ _ (by omega)]
 split
 ·rfl
 ·exact YV rows j b
def hon(x:cm):Prop:= ∀i,i<x.aC.length→(x.aC.getD i (aO .cg)).behavior=0
def UE(x:cm):Prop:= ∀i,i<x.aC.length→(x.aC.getD i (aO .cg)).behavior=0∨(x.aC.getD i (aO .cg)).behavior=3
theorem hon.w{x:cm}(h:hon x):UE x:=fun i hi=>Or.inl (h i hi)
theorem YX{x:cm}(h:okW x=true):cS x=(bA x.aC.length).map (mN x x.aq.length):=by
 apply mA
 ·rw[bw,DT,j8 h]
 ·intro i h1 h2
  have hi:i<x.aC.length:=by rw[j8 h]at h1;exact h1
  have:=LQ h hi
  rw[ak,au h1]at this
  rw[Fc,List.getElem_range]
  exact this
theorem SW{x:cm}(h:okW x=true)(hh:UE x){i:Nat}(hi:i<x.aC.length)(j b:Nat):LU x.rows.toNat (oq (mN x x.aq.length i))∧l9 (oq (mN x x.aq.length i)) j b=xs (fun c=>l9 (J3 x i c) j b) (bA x.aq.length):=by
 have hk:=FM h hi (bh x.aq.length)
 have hr:=Xm h
 have hsr:=(Oi h hi).2.1
 have e:oq (mN x x.aq.length i)=jL x.rows (rcs x i x.aq.length):=by
  unfold oq rcvd
  have hb:(mN x x.aq.length i).behavior=0∨(mN x x.aq.length i).behavior=3:=hh i hi
  rw[if_pos hk,if_neg (by omega),if_neg (by omega)]
  show jL (x.aC.getD i (aO .cg)).rows _=_
  rw[hsr];rfl
 rw[e]
 unfold jL
 have q:=QB (fun r:bC=>r.share) x.rows.toNat j b (rcs x i x.aq.length) (fA x.rows) (ahO (by omega)) (fun s hs=>by
  obtain⟨c,hc,rfl⟩:=cj.1 hs
  have hc:=bV.1 hc
  have:=YH h hi hc
  exact⟨this.1,by have:=this.2;show(J3 x i c).rows.length=_;omega⟩)
 refine⟨q.1,q.2.trans ?_⟩
 rw[YV,gb]
 unfold rcs
 rw[Ik]
theorem Ox(n j b:Nat): ∀(l:List DB) (a:DB),LU n a→(∀d,d∈l→LU n d)→ ∃d,OV a l=some d∧LU n d∧l9 d j b=l9 a j b^^^xs (fun d=>l9 d j b) l
 | [],a,ha,_=>⟨a,rfl,ha,by show _=_^^^0;rw[ke]⟩
 |s::l,a,ha,hl=>by
  have h1:=hl s (eg ..)
  obtain⟨d,q1,q2,q3⟩:=Ox n j b l (iU a s) (ha.xor h1) fun t ht=>hl t (aJ _ ht)
  refine⟨d,?_,q2,q3.trans ?_⟩
  ·rw[OV,if_pos (ha.xd h1),q1]
  ·rw[Ov (ha.xd h1),iS,fM]
theorem SX{x:cm}(h:okW x=true)(hh:UE x){j:Nat}(hj:(j:Int)<x.rows)(b:Nat):
  LU x.rows.toNat (jw (eD (cS x)))∧l9 (jw (eD (cS x))) j b=xs (fun c:Nat=>if(jH (m6 x (c:Int)) x.round x.rows).toNat=j then uN (gF (m6 x (c:Int)) x.round x.rows) b else 0) (bA x.aq.length):=by
 have hs:=gy h
 have hl:(eD (cS x)).length=x.aC.length:=by rw[show(eD (cS x)).length=(cS x).length from bw ..,j8 h]
 have e:eD (cS x)=(bA x.aC.length).map fun i=>oq (mN x x.aq.length i):=by
  unfold eD;rw[YX h,pM];rfl
 have hok: ∀d,d∈eD (cS x)→LU x.rows.toNat d:=by
  intro d hd
  rw[e]at hd
  obtain⟨i,hi,rfl⟩:=cj.1 hd
  exact(SW h hh (bV.1 hi) 0 0).1
 obtain⟨d,q1,q2,q3⟩:=Ox x.rows.toNat j b ((eD (cS x)).drop 1) ((eD (cS x)).getD 0 (aO .DB)) (hok _ (getD_in _ (by omega))) fun d hd=>hok d (lW hd)
 have ej:jw (eD (cS x))=d:=by
  rw[jw,Uu,if_pos (by simp only[eA,dD];omega),q1];rfl
 rw[ej]
 refine⟨q2,q3.trans ?_⟩
 have e2:l9 ((eD (cS x)).getD 0 (aO .DB)) j b^^^xs (fun d=>l9 d j b) ((eD (cS x)).drop 1)=xs (fun d=>l9 d j b) (eD (cS x)):=by
  have:=oH (eD (cS x)) 0 (aO .DB) (by omega)
  rw[eV]at this
  rw[eE]at this
  exact(iS (fun d=>l9 d j b) ((eD (cS x)).getD 0 (aO .DB)) ((eD (cS x)).drop 1)).symm.trans (congrArg (xs fun d=>l9 d j b) this.symm)
 rw[e2,e,Ik]
 rw[Cw (g:=fun i=>xs (fun c=>l9 (J3 x i c) j b) (bA x.aq.length)) fun i hi=>(SW h hh (bV.1 hi) j b).2]
 rw[SS]
 apply Cw
 intro c hc
 have hc:=bV.1 hc
 have hcc:0≤(c:Int)∧(c:Int)<x.aq.length:=by omega
 have hm:=JN h hcc
 have hu:qt x.rows (jH (m6 x c) x.round x.rows) (gF (m6 x c) x.round x.rows)=true:=by simp only[tM,aj]at hm;exact hm.1
 have e3:(bA x.aC.length).map (fun i=>J3 x i c)=e9 x (c:Int):=by
  have:=Ii (fun d:DB=>d) (e9 x (c:Int)) (aO .DB)
  rw[kY h hcc,List.map_id']at this
  exact this
 rw[←afr hu hj b, ←YW hm j b]
 show _=xs _ (e9 x (c:Int))
 rw[←e3,Ik]
def I3(x:cm)(j:Nat):List UInt8:=(bA x.aq.length).foldl (fun a (c:Nat)=>if(jH (m6 x (c:Int)) x.round x.rows).toNat=j then fk a (gF (m6 x (c:Int)) x.round x.rows)else a) L7
theorem D1(x:cm)(h:okW x=true)(j:Nat): ∀(l:List Nat) (a:List UInt8),a.length=24→(∀c,c∈l→c<x.aq.length)→(l.foldl (fun a (c:Nat)=>if(jH (m6 x (c:Int)) x.round x.rows).toNat=j then fk a (gF (m6 x (c:Int)) x.round x.rows)else a) a).length=24∧ ∀b,uN (l.foldl (fun a (c:Nat)=>if(jH (m6 x (c:Int)) x.round x.rows).toNat=j then fk a (gF (m6 x (c:Int)) x.round x.rows)else a) a) b=uN a b^^^xs (fun c:Nat=>if(jH (m6 x (c:Int)) x.round x.rows).toNat=j then uN (gF (m6 x (c:Int)) x.round x.rows) b else 0) l
 | [],a,ha,_=>⟨ha,fun b=>by show _=_^^^0;rw[ke];rfl⟩
 |c::l,a,ha,hl=>by
  have hc:=hl c (eg ..)
  have h24:=BX (Qf h (c:=(c:Int)) (by omega))
  rw[cH]
  by_cases hq:(jH (m6 x (c:Int)) x.round x.rows).toNat=j
  ·rw[if_pos hq]
   have ih:=D1 x h j l (fk a (gF (m6 x (c:Int)) x.round x.rows)) (by rw[eF];omega) fun t ht=>hl t (aJ _ ht)
   refine⟨ih.1,fun b=>(ih.2 b).trans ?_⟩
   rw[sG,iS,if_pos hq,fM]
  ·rw[if_neg hq]
   have ih:=D1 x h j l a ha fun t ht=>hl t (aJ _ ht)
   refine⟨ih.1,fun b=>(ih.2 b).trans ?_⟩
   rw[iS,if_neg hq,gb]
theorem row_eq{x:cm}(h:okW x=true)(hh:UE x){j:Nat}(hj:(j:Int)<x.rows):(jw (eD (cS x))).rows.getD j (aO (.sl .u8))=I3 x j:=by
 have q:=D1 x h j (bA x.aq.length) L7 nQ fun c hc=>bV.1 hc
 have hd:=(SX h hh hj 0).1
 refine afk ?_ fun b=> ?_
 ·rw[pe hd.1 j (by rw[hd.2];omega)];exact q.1.symm
 ·refine((SX h hh hj b).2).trans ?_
  refine Eq.trans ?_ (q.2 b).symm
  rw[FP,gb]
end
section
theorem abQ{x:cm}(h:okW x=true){r:gB}(hr:r∈ko x): ∃c i:Nat,c<x.aq.length∧i<x.aC.length∧r=mkR (j6 x.bZ (i:Int)) (i:Int) (c:Int) x.round (J3 x i c):=by
 unfold ko at hr
 rw[if_pos h]at hr
 unfold HJ at hr
 obtain⟨c,hc,hr⟩:=jY.1 hr
 unfold HI at hr
 obtain⟨i,hi,hr⟩:=jY.1 hr
 unfold aeR at hr
 exact⟨c,i,bV.1 hc,bV.1 hi,aP.1 hr⟩
theorem UF{x:cm}(h:okW x=true){i:Nat}(hi:i<x.aC.length){r:gB}(hr:r∈ko x):k9 (j6 x.bZ (i:Int)) (mN x x.aq.length i) r=0:=by
 obtain⟨c,k,hc,hk,rfl⟩:=abQ h hr
 cases hs:sB (j6 x.bZ (i:Int)) (mN x x.aq.length i) (mkR (j6 x.bZ (k:Int)) (k:Int) (c:Int) x.round (J3 x k c))with
 |true=>exact ae3 hs
 |false=>
  have hid:=(Oi h hi).1
  have e:k=i:=by
   unfold sB mkR at hs
   simp only[Bool.or_eq_false_iff,bne_eq_false_iff_eq]at hs
   have h1:(k:Int)=(mN x x.aq.length i).id:=hs.1.1
   have h2:(mN x x.aq.length i).id=(i:Int):=hid
   omega
  subst e
  obtain⟨q1,q2⟩:=abF x k x.aq.length hc
  refine ae2 hs q1 ?_
  show Lz (mkR (j6 x.bZ (k:Int)) (k:Int) (c:Int) x.round (J3 x k c)) (Ax (rcs x k x.aq.length) (c:Int))=true
  rw[q2]
  unfold Lz mkR
  exact beq_self_eq_true _
theorem afs{x:cm}(h:okW x=true){i:Nat}(hi:i<x.aC.length)(hb:(x.aC.getD i (aO .cg)).behavior=0∨(x.aC.getD i (aO .cg)).behavior=3):X5 x.bZ (cS x) (eD (cS x)) (ko x) i= []:=by
 have hl:(eD (cS x)).length=x.aC.length:=by rw[show(eD (cS x)).length=(cS x).length from bw ..,j8 h]
 have hid:=(Oi h hi).1
 have hp:(eD (cS x)).getD i (aO .DB)=oq (mN x x.aq.length i):=by
  unfold eD
  rw[getD_map oq _ (aO .cg) (by rw[j8 h];exact hi),LQ h hi]
 have hk:=FM h hi (bh x.aq.length)
 have aj6:(mN x x.aq.length i).id=(i:Int):=hid
 have ha:DC (j6 x.bZ (i:Int)) (mN x x.aq.length i) (oq (mN x x.aq.length i)) (ko x)=0:=by
  rw[ya (k:=(ko x).length) (fun j hj=>UF h hi (getD_in _ hj)) (bh _)]
  have e:(oq (mN x x.aq.length i)).rows=(uE (mN x x.aq.length i)).rows:=by
   have hb':(mN x x.aq.length i).behavior=0∨(mN x x.aq.length i).behavior=3:=hb
   unfold oq uE rcvd
   rw[if_pos hk,if_pos hk,if_neg (by omega),if_neg (by omega)]
  rw[hk,e,beq_self_eq_true];rfl
 have hbad:B7 x.bZ (cS x) (eD (cS x)) (ko x) i=false:=by
  unfold B7
  rw[LQ h hi,hp,aj6,ha,hl,decide_eq_false (by omega)];rfl
 unfold X5
 rw[hbad];rfl
theorem abR{x:cm}(h:okW x=true)(hh:UE x):ot x.bZ (cS x) (eD (cS x)) (ko x) (cS x).length= []:=by
 unfold ot
 rw[List.flatMap_eq_nil_iff,j8 h]
 intro i hi
 exact afs h (bV.1 hi) (hh i (bV.1 hi))
theorem abS{y:cm}(h:okW y=true)(ha:k7 y.aN.rounds (eC y.aN)=true){i:Nat}(hb:(y.aC.getD i (aO .cg)).behavior≠3):ZI y i=false:=by
 have hsg:=Ys h ha (kh y.seed [227,y.round,(i:Int)])
 have e:tsA y i=mkA (tsK y i) (y.aC.getD i (aO .cg)).id (eC y.aN) (cR (kh y.seed [227,y.round,(i:Int)]) y.rows) (hJ (jJ y.aN.rounds (eC y.aN)) (cR (kh y.seed [227,y.round,(i:Int)]) y.rows)):=by
  unfold tsA
  rw[L9,if_pos hsg,if_neg hb]
 unfold ZI fls
 rw[e]
 unfold mkA
 simp
theorem YY{y:cm}(hh:hon y):testW y=y:=by
 cases ht:zq y with
 |false=>exact Ib ht
 |true=>
  have h2:okW y=true∧k7 y.aN.rounds (eC y.aN)=true:=by simpa[zq]using ht
  have hI: ∀n,n≤y.aC.length→OW y n= []:=by
   intro n
   induction n with
   |zero=>intro _;rfl
   |succ n ih=>intro hn;rw[H6 (abS h2.1 h2.2 (by rw[hh n (by omega)];decide)),ih (by omega)]
  rw[DO ht]
  unfold EC
  rw[hI _ (bh _)];rfl
theorem UG{a:mj}{r f:Int}{d:DB}(h:iD a=true)(hl:eC a<r)(h0:0≤r∧r≤100000)(hd:eB d=true)(hr:(d.rows.length:Int)=a.rows)(hf:eC a<f)(hf2:f≤r):jx (EB a r d) f= [r]∧k7 (EB a r d) r=true∧jJ (EB a r d) r=d:=by
 have hok:uF a r d=true:=by
  simp only[uF,h,hd,dj,aj,dD,bp,decide_eq_false_iff_not,decide_eq_true_eq]
  exact⟨⟨⟨h0,by omega⟩,trivial⟩,hr⟩
 have key: ∀l:List bt,(∀y,y∈l→y.round≤eC a)→jx (l++ [⟨r,d⟩]) f= [r]∧k7 (l++ [⟨r,d⟩]) r=true∧jJ (l++ [⟨r,d⟩]) r=d:=by
  intro l hy
  refine⟨?_,?_⟩
  ·unfold jx
   rw[kD,List.filter_eq_nil_iff.2 (fun y hm=>by have:=hy y hm;rw[decide_eq_true_eq];omega),eS,List.filter_cons_of_pos (by rw[decide_eq_true_eq];exact hf2)];rfl
  ·have hlen:(l++ [(⟨r,d⟩:bt)]).length=l.length+1:=by simp
   have hg:(l++ [(⟨r,d⟩:bt)]).getD l.length (aO .bt)=⟨r,d⟩:=by
    rw[ak,bQ (bh _),pO];rfl
   have q:=Qj (l:=l++ [⟨r,d⟩]) (r:=r) (k:=l.length) (by omega) (by
    rw[ry,bK]
    ·intro y hm;have:=hy y hm;unfold Ul;simp only[beq_iff_eq];omega
    ·rfl) (by rw[hg];unfold Ul;exact beq_self_eq_true _)
   rw[hg]at q
   exact q
 rw[LM hok]
 unfold wN
 split
 ·rename_i h8
  have hne:a.rounds≠ []:=by
   intro e;rw[e]at h8;exact absurd h8 (by show¬(8:Int)<1;decide)
  obtain⟨y,l,e⟩:=List.exists_cons_of_ne_nil hne
  rw[e]
  exact key l fun z hz=>(Qu h z (by rw[e];exact aJ _ hz)).2
 ·exact key _ fun y hy=>(Qu h y hy).2
theorem UH{d:cD}{r:Int}{own other:List UInt8}(h:vG d r=true):(rdev d r own other).live=gG d.live r own other:=by
 unfold rdev
 rw[if_pos h]
 split<;>rfl
structure adb(x y:cm):Prop where
 ok:okW y=true
 rows:y.rows=x.rows
 nd:y.aq.length=x.aq.length
 ns:y.aC.length=x.aC.length
 sv: ∀i,i<x.aC.length→(y.aC.getD i (aO .cg)).behavior=(x.aC.getD i (aO .cg)).behavior
 round:y.round=x.round+1
 Fa:y.cancelled=x.cancelled
 YK:y.replaced=x.replaced
 Ve:eC y.aN=x.round
 seed:y.seed=x.seed
theorem YZ(s:cg):(ld s).behavior=s.behavior:=by unfold ld;split<;>rfl
theorem UI{x y:cm}(h:okW x=true)(hh:UE x)(hy:okW y=true)(hhy:hon y)(hrw:y.rows=x.rows)(hdv:y.aq=x.aq)(har:y.aN.rounds=EB x.aN x.round (jw (eD (cS x))))(hr:x.round<99999)
  (hn: ∀i:Nat,i<x.aq.length→eC x.aN<(m6 x (i:Int)).next∧(m6 x (i:Int)).next≤x.round){i:Nat}(hi:i<x.aq.length):
  m6 (NX y) (i:Int)=gG (m6 x (i:Int)) x.round (I3 x (iw (m6 x (i:Int)).key x.round (eK (m6 x (i:Int))) x.rows).toNat) (I3 x (iw (m6 x (i:Int)).key x.round (1-eK (m6 x (i:Int))) x.rows).toNat):=by
 have w:=Mb.of h
 have w1:=w.round
 have wr:=w.rows
 have hj:=(SX h hh (j:=0) (by omega) 0).1
 have hjl:((jw (eD (cS x))).rows.length:Int)=x.rows:=by have:=hj.2;omega
 have hD:(NX y).aq.getD i (aO .cD)=p9 y (x.aq.getD i (aO .cD)):=by
  rw[FH hy]
  show(y.aq.map _).getD i (aO .cD)=_
  rw[getD_map _ _ (aO .cD) (by rw[hdv];exact hi),hdv]
 have hni:eC x.aN<(x.aq.getD i (aO .cD)).live.next∧(x.aq.getD i (aO .cD)).live.next≤x.round:=hn i hi
 have hds:=UG w.Ve w.last w1 hj.1 (by rw[w.J2];exact hjl) hni.1 hni.2
 have hqd:=qL h hi
 simp only[okD,aj,decide_eq_true_eq]at hqd
 have abI:=hqd.1.1.1.1
 have hk:vG (x.aq.getD i (aO .cD)) x.round=true:=by
  rw[vG,abI,qH]
  simp only[p7,(YF.iff.1 abI).live,dj,dD];omega
 show((NX y).aq.getD i (aO .cD)).live=_
 rw[hD]
 unfold p9 tP
 rw[har]
 unfold Ls
 rw[hds.1]
 show(Lr y (x.aq.getD i (aO .cD)) (x.aq.getD i (aO .cD)) x.round).live=_
 unfold Lr
 rw[UH hk,hrw]
 have hread: ∀dd:Int,Lp y x.round (iw (x.aq.getD i (aO .cD)).live.key x.round dd x.rows) (x.aq.getD i (aO .cD)).live.seed=I3 x (iw (x.aq.getD i (aO .cD)).live.key x.round dd x.rows).toNat:=by
  intro dd
  have hm:=Av (key:=(x.aq.getD i (aO .cD)).live.key) (r:=x.round) (d:=dd) (n:=x.rows) (by omega)
  have q:=(abN (s:=(x.aq.getD i (aO .cD)).live.seed) hy (fun k hk2=>by rw[hhy k hk2];decide) (by rw[har];exact hds.2.1) (row:=iw (x.aq.getD i (aO .cD)).live.key x.round dd x.rows) (by rw[hrw];exact hm)).2
  rw[har,hds.2.2]at q
  rw[q,row_eq h hh (by omega)]
 rw[hread,hread]
 rfl
theorem UJ{x:cm}(h:okW x=true)(hh:hon x)(hr:x.round<99999)(hc:x.cancelled<9223372036854775807)(hn: ∀i:Nat,i<x.aq.length→eC x.aN<(m6 x (i:Int)).next∧(m6 x (i:Int)).next≤x.round):
  adb x (jU x)∧ ∀i:Nat,i<x.aq.length→m6 (jU x) (i:Int)=gG (m6 x (i:Int)) x.round (I3 x (iw (m6 x (i:Int)).key x.round (eK (m6 x (i:Int))) x.rows).toNat) (I3 x (iw (m6 x (i:Int)).key x.round (1-eK (m6 x (i:Int))) x.rows).toNat):=by
 have w:=Mb.of h
 have wr:=w.rows
 have zZ:=AR h hr
 have hj:=(SX h hh.w (j:=0) (by omega) 0).1
 have hjl:((jw (eD (cS x))).rows.length:Int)=x.rows:=by have:=hj.2;omega
 obtain⟨c1,c2,c3,c4⟩:=abG (d:=jw (eD (cS x))) h hr hc hj.1 hjl
 have hcw:=Ia (g:= []) (d:=jw (eD (cS x))) zZ rfl
 generalize hy:dR x [] (jw (eD (cS x)))=y at*
 have tI:y.aC=x.aC.map ld:=by rw[hcw];rfl
 have hdv:y.aq=x.aq:=by rw[hcw]
 have hrw:y.rows=x.rows:=by rw[hcw]
 have har:y.aN.rounds=EB x.aN x.round (jw (eD (cS x))):=by rw[hcw]
 have Yn:y.replaced=x.replaced:=by rw[hcw];rfl
 have Tz: ∀i,i<x.aC.length→(y.aC.getD i (aO .cg)).behavior=(x.aC.getD i (aO .cg)).behavior:=fun i hi=>by
  rw[tI,getD_map ld _ (aO .cg) hi,YZ]
 have hhy:hon y:=fun i hi=>by
  rw[tI,bw]at hi
  rw[Tz i hi,hh i hi]
 have e:jU x=NX y:=by
  rw[AN zZ,abR h hh.w,hy,YY hhy]
 have hrd:=FH c2
 rw[e]
 have hok:=afh c2
 exact⟨⟨hok,by rw[hrd];exact hrw,by rw[hrd];show(List.map _ _).length=_;rw[bw,hdv],by rw[hrd];show y.aC.length=_;rw[tI,bw],fun i hi=>by rw[hrd];exact Tz i hi,by rw[hrd];exact c1,by rw[hrd];exact c4,by rw[hrd];exact Yn,by rw[hrd];exact c3,by rw[hrd];show y.seed=_;rw[hcw]⟩,
  fun i hi=>UI h hh.w c2 hhy hrw hdv har hr hn hi⟩
end
section
def I4(seed:Int)(i:Nat):Int:=Ej (kh seed [199,(i:Int).tdiv 2])
def sOf(seed:Int)(i:Nat):Int:=kh seed [211,(i:Int)]
def uL(i:Nat):Int:=if(i:Int)<((i^^^1:Nat):Int)then 0 else 1
def mO(m:List UInt8)(d i:Nat):List (List UInt8):=if i=d then [m]else []
def iy(seed:Int)(m:List UInt8)(d:Nat)(st:Bool)(i:Nat)(nx:Int):gS:=⟨(i:Int),((i^^^1:Nat):Int),I4 seed i,sOf seed i,mO m d i,if st=true then((mO m d i).length:Int)else 0,if st=true then mO m d (i^^^1)else [],nx⟩
def wK(seed:Int)(m:List UInt8)(d:Nat):List UInt8:=jN (mJ (I4 seed d) (uL d)) 0 ⟨1,m⟩
def vL(rows seed:Int)(d:Nat)(r:Int)(i:Nat):Int:=if i=d then iw (I4 seed i) r (uL i) rows else Am (sOf seed i) r rows
def Fe(seed:Int)(m:List UInt8)(d:Nat)(r:Int)(i:Nat):List UInt8:=if i=d then wK seed m d else cover (kh (sOf seed i) [r])
def qv(rows seed:Int)(m:List UInt8)(n d:Nat)(r:Int)(j:Nat):List UInt8:=(bA n).foldl (fun a c=>if(vL rows seed d r c).toNat=j then fk a (Fe seed m d r c)else a) L7
def dW(n d:Nat)(st:Bool):Nat:=if st=true then n else d
theorem abT(n d:Nat):dW n d false=d:=rfl
theorem ahQ(n d:Nat):dW n d true=n:=rfl
theorem yy(m:List UInt8)(d:Nat):mO m d d= [m]:=if_pos rfl
theorem yz{m:List UInt8}{d i:Nat}(h:i≠d):mO m d i= []:=if_neg h
theorem Il{α β:Type}{f g:β→α→β}: ∀{l:List α} {a:β},(∀b, ∀c,c∈l→f b c=g b c)→l.foldl f a=l.foldl g a
 | [],_,_=>rfl
 |c::l,a,h=>by
  rw[cH,cH,h a c (eg ..)]
  exact Il fun b e he=>h b e (aJ _ he)
structure At(rows seed:Int)(m:List UInt8)(n d:Nat)(y:cm)(r:Nat)(st:Bool)(nx:Nat):Prop where
 ok:okW y=true
 rows:y.rows=rows
 nd:y.aq.length=n
 round:y.round=(r:Int)
 Ve:eC y.aN<(nx:Int)
 le:nx≤r
 lv: ∀i,i<n→m6 y (i:Int)=iy seed m d st i (nx:Int)
section
variable{rows seed:Int}{m:List UInt8}{n d:Nat}{y z:cm}{r nx:Nat}{st:Bool}
theorem At.cw(h:At rows seed m n d y r st nx){i:Nat}(hi:i<n):rS (iy seed m d st i (nx:Int)) (r:Int) rows=true:=by
 have:=Qf h.ok (c:=(i:Int)) (by have:=h.nd;omega)
 rw[h.lv i hi,h.round,h.rows]at this
 exact this
theorem LW(seed:Int)(m:List UInt8)(i:Nat)(nx:Int):rR (iy seed m i false i nx) (iy seed m i false i nx).sent=wK seed m i:=by
 show jN (mJ (I4 seed i) (uL i)) 0 ⟨1,(mO m i i).getD 0 (aO (.sl .u8))⟩=_
 rw[yy];rfl
theorem At.wr(h:At rows seed m n d y r st nx){i:Nat}(hi:i<n):jH (m6 y (i:Int)) y.round y.rows=vL rows seed (dW n d st) (r:Int) i:=by
 have hc:=h.cw hi
 rw[h.lv i hi,h.round,h.rows,jH,if_pos hc]
 cases st with
 |true=>
  rw[if_neg (show¬(iy seed m d true i (nx:Int)).sent<(((iy seed m d true i (nx:Int)).bz.length:Nat):Int)by show¬((mO m d i).length:Int)<((mO m d i).length:Int);omega),ahQ]
  unfold vL
  rw[if_neg (show¬i=n by omega)];rfl
 |false=>
  rw[abT]
  unfold vL
  by_cases e:i=d
  ·subst e
   rw[if_pos (show(iy seed m i false i (nx:Int)).sent<(((iy seed m i false i (nx:Int)).bz.length:Nat):Int)by show(0:Int)<((mO m i i).length:Int);rw[yy];exact(by decide:(0:Int)<1)),if_pos rfl]
   rfl
  ·rw[if_neg (show¬(iy seed m d false i (nx:Int)).sent<(((iy seed m d false i (nx:Int)).bz.length:Nat):Int)by show¬(0:Int)<((mO m d i).length:Int);rw[yz e];exact(by decide: ¬(0:Int)<0)),if_neg e]
   rfl
theorem At.wc(h:At rows seed m n d y r st nx){i:Nat}(hi:i<n):gF (m6 y (i:Int)) y.round y.rows=Fe seed m (dW n d st) (r:Int) i:=by
 have hc:=h.cw hi
 rw[h.lv i hi,h.round,h.rows,gF,if_pos hc]
 cases st with
 |true=>
  rw[if_neg (show¬(iy seed m d true i (nx:Int)).sent<(((iy seed m d true i (nx:Int)).bz.length:Nat):Int)by show¬((mO m d i).length:Int)<((mO m d i).length:Int);omega),ahQ]
  unfold Fe
  rw[if_neg (show¬i=n by omega)];rfl
 |false=>
  rw[abT]
  unfold Fe
  by_cases e:i=d
  ·subst e
   rw[if_pos (show(iy seed m i false i (nx:Int)).sent<(((iy seed m i false i (nx:Int)).bz.length:Nat):Int)by show(0:Int)<((mO m i i).length:Int);rw[yy];exact(by decide:(0:Int)<1)),if_pos rfl]
   exact LW seed m i (nx:Int)
  ·rw[if_neg (show¬(iy seed m d false i (nx:Int)).sent<(((iy seed m d false i (nx:Int)).bz.length:Nat):Int)by show¬(0:Int)<((mO m d i).length:Int);rw[yz e];exact(by decide: ¬(0:Int)<0)),if_neg e]
   rfl
theorem At.rw(h:At rows seed m n d y r st nx)(j:Nat):I3 y j=qv rows seed m n (dW n d st) (r:Int) j:=by
 unfold I3 qv
 rw[h.nd]
 refine Il fun b c hc=> ?_
 have hc:=bV.1 hc
 rw[h.wr hc,h.wc hc]
def AV(rows seed:Int)(r:Int)(i:Nat):Nat:=(iw (I4 seed i) r (uL i) rows).toNat
def I5(rows seed:Int)(r:Int)(i:Nat):Nat:=(iw (I4 seed i) r (1-uL i) rows).toNat
def QC(rows seed:Int)(m:List UInt8)(n d:Nat)(r:Int)(c:Nat)(i:Nat):Bool:=IT (mJ (I4 seed i) (1-uL i)) (c:Int) (qv rows seed m n d r (I5 rows seed r i))
def Reads(y z:cm):Prop:= ∀i:Nat,i<y.aq.length→m6 z (i:Int)=gG (m6 y (i:Int)) y.round (I3 y (iw (m6 y (i:Int)).key y.round (eK (m6 y (i:Int))) y.rows).toNat) (I3 y (iw (m6 y (i:Int)).key y.round (1-eK (m6 y (i:Int))) y.rows).toNat)
theorem At.next(h:At rows seed m n d y r st nx)(hq:Reads y z): ∀i:Nat,i<n→m6 z (i:Int)=gG (iy seed m d st i (nx:Int)) (r:Int) (qv rows seed m n (dW n d st) (r:Int) (AV rows seed (r:Int) i)) (qv rows seed m n (dW n d st) (r:Int) (I5 rows seed (r:Int) i)):=by
 intro i hi
 have:=hq i (by rw[h.nd];exact hi)
 rw[h.rw,h.rw,h.lv i hi,h.round,h.rows]at this
 exact this
theorem At.p7(h:At rows seed m n d y r st nx)(hr:r<99999){i:Nat}(hi:i<n):p7 (iy seed m d st i (nx:Int)) (r:Int)=true:=by
 have:=Xw h.ok (c:=(i:Int)) (by have:=h.nd;omega)
 rw[h.lv i hi]at this
 have h2:=h.le
 unfold G.p7
 rw[this,dj,dD]
 show(nx:Int)≤r∧_
 omega
theorem SZ{seed:Int}{m:List UInt8}{d i:Nat}{nx:Int}{o:List UInt8}(h:IT (mJ (I4 seed i) (1-uL i)) ((0:Nat):Int) o=false):jK (iy seed m d false i nx) o=false:=by
 have:pZ (xV (iy seed m d false i nx)) (((iy seed m d false i nx).inbox.length:Nat):Int) o=false:=Lt h
 unfold jK
 rw[this];rfl
theorem Y0{c:gS}{r:Int}{own o:List UInt8}(h1:G.p7 c r=true)(h2:lO c own=false)(h3:jK c o=false):gG c r own o=⟨c.id,c.gZ,c.key,c.seed,c.bz,c.sent,c.inbox,r+1⟩:=by
 unfold gG
 rw[if_pos h1,h2,h3];rfl
theorem Y1{c:gS}{r:Int}{own o:List UInt8}{s:Int}{l:List (List UInt8)}(h1:G.p7 c r=true)(h2:(if lO c own=true then c.sent+1 else c.sent)=s)(h3:(if jK c o=true then c.inbox++ [(NT (xV c) ((c.inbox.length:Nat):Int) o).body]else c.inbox)=l):gG c r own o=⟨c.id,c.gZ,c.key,c.seed,c.bz,s,l,r+1⟩:=by
 unfold gG
 rw[if_pos h1,h2,h3]
theorem At.stay(h:At rows seed m n d y r false nx)(hq:Reads y z)(hr:r<99999)(hm:(qv rows seed m n d (r:Int) (AV rows seed (r:Int) d)==wK seed m d)=false)(ho: ∀i,i<n→QC rows seed m n d (r:Int) 0 i=false): ∀i,i<n→m6 z (i:Int)=iy seed m d false i ((r+1:Nat):Int):=by
 intro i hi
 have hh:lO (iy seed m d false i (nx:Int)) (qv rows seed m n (dW n d false) (r:Int) (AV rows seed (r:Int) i))=false:=by
  by_cases e:i=d
  ·subst e
   unfold lO
   have:(qv rows seed m n (dW n i false) (r:Int) (AV rows seed (r:Int) i)==rR (iy seed m i false i (nx:Int)) (iy seed m i false i (nx:Int)).sent)=false:=by
    rw[LW];exact hm
   rw[this,pg]
  ·have:decide ((iy seed m d false i (nx:Int)).sent<(((iy seed m d false i (nx:Int)).bz.length:Nat):Int))=false:=by
    rw[decide_eq_false_iff_not]
    show¬(0:Int)<((mO m d i).length:Int)
    rw[yz e];exact(by decide: ¬(0:Int)<0)
   unfold lO
   rw[this,I6]
 rw[h.next hq i hi,Y0 (h.p7 hr hi) hh (SZ (o:=qv rows seed m n (dW n d false) (r:Int) (I5 rows seed (r:Int) i)) (ho i hi))]
 rfl
theorem Oy{d:Nat}(h:d<8):I4 seed (d^^^1)=I4 seed d:=by unfold I4;rw[J4]
theorem Oz{d:Nat}(h:d<8):1-uL (d^^^1)=uL d:=by
 have:d=0∨d=1∨d=2∨d=3∨d=4∨d=5∨d=6∨d=7:=by omega
 rcases this with rfl|rfl|rfl|rfl|rfl|rfl|rfl|rfl<;>decide
theorem UK(k:Int)(l:List UInt8):decr k (kQ k l)=l:=by
 apply mA
 ·rw[pU,gz]
 ·intro i h1 h2
  have hi:i<(kQ k l).length:=by rw[gz];exact h2
  have e:=G5 k (kQ k l) i hi
  rw[BF k l i h2]at e
  rw[ak,au h1,ak,au h2]at e
  refine Eq.trans e ?_
  refine Eq.trans (xq (b:=((l[i].toNat:Nat):Int)) ?_) (aa0 _)
  rw[pS]
  show(((l[i].toNat:Int)+kh k [(i:Int)]% 256)% 256-kh k [(i:Int)]% 256)% 256=(l[i].toNat:Int)% 256
  omega
theorem abU{key c:Int}{b:List UInt8}(hb:b.length≤14):(fU key c ⟨1,b⟩).length=20:=by
 unfold fU
 simp only[aX,bY,gf,bM,gE]
 omega
theorem UL{key:Int}{b:List UInt8}(hk:iC key=true)(hb:b.length≤14):pZ key 0 (jN key 0 ⟨1,b⟩)=true∧(NT key 0 (jN key 0 ⟨1,b⟩))=⟨1,b⟩:=by
 have hs:iY key 0 ⟨1,b⟩=true:=by
  simp only[iY,hk,jz,dj,aj,dD,decide_eq_true_eq]
  omega
 have hl:=abU (key:=key) (c:=0) hb
 have e:jN key 0 ⟨1,b⟩=kQ (nh key 0) (fU key 0 ⟨1,b⟩)++four (kR key 0 (kQ (nh key 0) (fU key 0 ⟨1,b⟩))):=by rw[jN,if_pos hs]
 have hel:=gz (nh key 0) (fU key 0 ⟨1,b⟩)
 have ht:(jN key 0 ⟨1,b⟩).take 20=kQ (nh key 0) (fU key 0 ⟨1,b⟩):=by rw[e,ry (by omega)]
 have hd:(jN key 0 ⟨1,b⟩).drop 20=four (kR key 0 (kQ (nh key 0) (fU key 0 ⟨1,b⟩))):=by rw[e,List.drop_left' (by omega)]
 have hA:IT key 0 (jN key 0 ⟨1,b⟩)=true:=by
  unfold IT
  rw[hk,ht,hd,s9 hs,beq_self_eq_true];rfl
 have hp:Iy key 0 (jN key 0 ⟨1,b⟩)=fU key 0 ⟨1,b⟩:=by unfold Iy;rw[ht,UK]
 have h1:Vb key 0 (jN key 0 ⟨1,b⟩)=1:=by unfold Vb;rw[hp];rfl
 have h2:FC key 0 (jN key 0 ⟨1,b⟩)=b.length:=by
  unfold FC;rw[hp]
  show(b8 (b.length:Int)).toNat=_
  have:=pS (b.length:Int)
  omega
 have h3:ZH key 0 (jN key 0 ⟨1,b⟩)=b:=by
  unfold ZH;rw[hp,h2]
  unfold fU
  show((b8 1::b8 (b.length:Int)::(b++_)).take (2+b.length)).drop 2=b
  rw[xW,jP,jP,iN,iN,eV,ry rfl]
 have ho:pZ key 0 (jN key 0 ⟨1,b⟩)=true:=acZ hA (by rw[h2];exact hb) (by rw[h1];decide)
 exact⟨ho,by rw[B0 ho,h1,h3]⟩
theorem QD{rows seed:Int}{m:List UInt8}{n d:Nat}{r:Int}{j:Nat}(hd:d<n)(hj:(vL rows seed d r d).toNat=j)(hl:(wK seed m d).length=24)(ha: ∀i,i<n→i≠d→(vL rows seed d r i).toNat≠j):qv rows seed m n d r j=wK seed m d:=by
 have key: ∀k,k≤n→(bA k).foldl (fun a c=>if(vL rows seed d r c).toNat=j then fk a (Fe seed m d r c)else a) L7=if d<k then wK seed m d else L7:=by
  intro k
  induction k with
  |zero=>intro _;rfl
  |succ k ih=>
   intro hk
   rw[ep,dX,ih (by omega)]
   show(if(vL rows seed d r k).toNat=j then fk _ (Fe seed m d r k)else _)=_
   by_cases e:k=d
   ·subst e
    rw[if_pos hj,if_neg (LX _),if_pos (wh _)]
    unfold Fe
    rw[if_pos rfl]
    refine afk (by rw[eF,nQ,hl];rfl) fun i=> ?_
    rw[sG,FP,gb]
   ·rw[if_neg (ha k (by omega) e)]
    by_cases h2:d<k
    ·rw[if_pos h2,if_pos (by omega)]
    ·rw[if_neg h2,if_neg (by omega)]
 have:=key n (bh _)
 rw[if_pos hd]at this
 exact this
def Im(rows seed:Int)(n d:Nat)(r:Int):Prop:= ∀i,i<n→i≠d→vL rows seed d r i≠vL rows seed d r d
theorem Io{rows seed:Int}{d i:Nat}{r:Int}(hr:1≤rows∧rows≤64)(h:0≤r∧r≤100000):0≤vL rows seed d r i:=by
 unfold vL
 split
 ·exact(Av (by omega)).1
 ·exact(HD hr).1
theorem At.aj7(h:At rows seed m n d y r false nx)(hq:Reads y z)(hr:r<99999)(hd:d<n)(hm:m.length≤14)(ha:Im rows seed n d (r:Int))(ho: ∀i,i<n→i≠d^^^1→QC rows seed m n d (r:Int) 0 i=false): ∀i,i<n→m6 z (i:Int)=iy seed m d true i ((r+1:Nat):Int):=by
 have w:=Mb.of h.ok
 have hn8:n≤8:=by have:=w.ndv;have:=h.nd;omega
 have hrw:1≤rows∧rows≤64:=by have:=w.rows;rw[h.rows]at this;exact this
 have hdk:=BW (I4 seed d) (uL d)
 have hso:iY (mJ (I4 seed d) (uL d)) 0 ⟨1,m⟩=true:=by
  simp only[iY,hdk,jz,dj,aj,dD,decide_eq_true_eq]
  omega
 have hl:(wK seed m d).length=24:=s9 hso
 have hwd:vL rows seed d (r:Int) d=iw (I4 seed d) (r:Int) (uL d) rows:=by unfold vL;rw[if_pos rfl]
 have hrow:qv rows seed m n d (r:Int) (AV rows seed (r:Int) d)=wK seed m d:=by
  refine QD hd (by rw[hwd];rfl) hl fun i hi e he=> ?_
  have h1:=Io (seed:=seed) (d:=d) (i:=i) (r:=(r:Int)) hrw (by omega)
  have h2:=Io (seed:=seed) (d:=d) (i:=d) (r:=(r:Int)) hrw (by omega)
  have h3:AV rows seed (r:Int) d=(vL rows seed d (r:Int) d).toNat:=by rw[hwd];rfl
  exact ha i hi e (by omega)
 have hx8: ∀i:Nat,(i^^^1)^^^1=i:=fun i=>by rw[Cu,EE,EF]
 have aj8:I5 rows seed (r:Int) (d^^^1)=AV rows seed (r:Int) d:=by
  unfold I5 AV
  rw[Oy (by omega),Oz (by omega)]
 intro i hi
 have e1:(if lO (iy seed m d false i (nx:Int)) (qv rows seed m n (dW n d false) (r:Int) (AV rows seed (r:Int) i))=true then(iy seed m d false i (nx:Int)).sent+1 else(iy seed m d false i (nx:Int)).sent)=((mO m d i).length:Int):=by
  by_cases e:i=d
  ·subst e
   have:lO (iy seed m i false i (nx:Int)) (qv rows seed m n (dW n i false) (r:Int) (AV rows seed (r:Int) i))=true:=by
    rw[abT,hrow]
    unfold lO
    rw[LW,beq_self_eq_true,qH,decide_eq_true_eq]
    show(0:Int)<((mO m i i).length:Int)
    rw[yy];exact(by decide:(0:Int)<1)
   rw[if_pos this,yy];rfl
  ·have:lO (iy seed m d false i (nx:Int)) (qv rows seed m n (dW n d false) (r:Int) (AV rows seed (r:Int) i))=false:=by
    have:decide ((iy seed m d false i (nx:Int)).sent<(((iy seed m d false i (nx:Int)).bz.length:Nat):Int))=false:=by
     rw[decide_eq_false_iff_not]
     show¬(0:Int)<((mO m d i).length:Int)
     rw[yz e];exact(by decide: ¬(0:Int)<0)
    unfold lO
    rw[this,I6]
   rw[this,yz e];rfl
 have e2:(if jK (iy seed m d false i (nx:Int)) (qv rows seed m n (dW n d false) (r:Int) (I5 rows seed (r:Int) i))=true then(iy seed m d false i (nx:Int)).inbox++ [(NT (xV (iy seed m d false i (nx:Int))) (((iy seed m d false i (nx:Int)).inbox.length:Nat):Int) (qv rows seed m n (dW n d false) (r:Int) (I5 rows seed (r:Int) i))).body]else(iy seed m d false i (nx:Int)).inbox)=mO m d (i^^^1):=by
  by_cases e:i=d^^^1
  ·subst e
   obtain⟨o1,o2⟩:=UL (b:=m) hdk hm
   have hck:xV (iy seed m d false (d^^^1) (nx:Int))=mJ (I4 seed d) (uL d):=by
    show mJ (I4 seed (d^^^1)) (1-uL (d^^^1))=_
    rw[Oy (by omega),Oz (by omega)]
   rw[abT,aj8,hrow]
   have hg:jK (iy seed m d false (d^^^1) (nx:Int)) (wK seed m d)=true:=by
    unfold jK
    rw[hck]
    show((pZ (mJ (I4 seed d) (uL d)) 0 (wK seed m d)&&((NT (mJ (I4 seed d) (uL d)) 0 (wK seed m d)).kind==1))&&_)=true
    unfold wK
    rw[o1,o2];rfl
   rw[if_pos hg,hck]
   show []++ [(NT (mJ (I4 seed d) (uL d)) 0 (wK seed m d)).body]=_
   unfold wK
   rw[o2,hx8 d,yy];rfl
  ·rw[SZ (o:=qv rows seed m n (dW n d false) (r:Int) (I5 rows seed (r:Int) i)) (ho i hi e),yz (fun e2=>e (by rw[←e2,hx8 i]))];rfl
 rw[h.next hq i hi,Y1 (h.p7 hr hi) e1 e2]
 rfl
theorem At.aj9(h:At rows seed m n d y r false nx)(hd:d<n):jy y=false:=by
 have hn8:n≤8:=by have:=(Mb.of h.ok).ndv;have:=h.nd;omega
 have key: ∀k,k≤n→IZ y.aq k=if d<k then 1 else 0:=by
  intro k
  induction k with
  |zero=>intro _;rfl
  |succ k ih=>
   intro hk
   have e:(y.aq.getD k (aO .cD)).live=iy seed m d false k (nx:Int):=h.lv k (by omega)
   show an.wrap (IZ y.aq k+waiting (y.aq.getD k (aO .cD)).live)=_
   rw[ih (by omega),e]
   show an.wrap ((if d<k then(1:Int)else 0)+an.wrap (((mO m d k).length:Int)-0))=_
   by_cases h1:k=d
   ·subst h1
    rw[yy,if_neg (LX _),if_pos (wh _)]
    show an.wrap (0+an.wrap (1-0))=1
    decide
   ·rw[yz h1]
    show an.wrap ((if d<k then(1:Int)else 0)+an.wrap (0-0))=_
    by_cases h2:d<k
    ·rw[if_pos h2,if_pos (by omega)];decide
    ·rw[if_neg h2,if_neg (by omega)];decide
 unfold jy
 rw[h.nd,key n (bh _),if_pos hd];rfl
theorem quiet_of(hn:y.aq.length=n)(h: ∀i:Nat,i<n→m6 y (i:Int)=iy seed m d true i (nx:Int)):IZ y.aq n=0∧Vd y.aq n=0∧jy y=true:=by
 have hs: ∀i,(mO m d i).length≤1:=fun i=>by unfold mO;split<;>simp
 have k1: ∀k,k≤n→IZ y.aq k=0:=by
  intro k
  induction k with
  |zero=>intro _;rfl
  |succ k ih=>
   intro hk
   show an.wrap (IZ y.aq k+waiting (m6 y (k:Int)))=_
   rw[ih (by omega),h k (by omega)]
   unfold waiting
   show an.wrap (0+an.wrap (((mO m d k).length:Int)-((mO m d k).length:Int)))=0
   rw[Int.sub_self];decide
 have k2: ∀k,k≤n→Vd y.aq k=0:=by
  intro k
  induction k with
  |zero=>intro _;rfl
  |succ k ih=>
   intro hk
   by_cases hx:(k^^^1)<y.aq.length
   ·rw[SD hx,ih (by omega)]
    have q1:(y.aq.getD k (aO .cD)).live=iy seed m d true k (nx:Int):=h k (by omega)
    have q2:(y.aq.getD (k^^^1) (aO .cD)).live=iy seed m d true (k^^^1) (nx:Int):=h (k^^^1) (by omega)
    rw[q1,q2]
    show an.wrap (an.wrap (0+((mO m d k).length:Int))-((mO m d ((k^^^1)^^^1)).length:Int))=0
    rw[Cu,EE,EF]
    have:=hs k
    rw[dA (a:=0+((mO m d k).length:Int)) (by omega),show 0+((mO m d k).length:Int)-((mO m d k).length:Int)=0 by omega];decide
   ·rw[Oe hx,ih (by omega)]
 have a1:=k1 n (bh _)
 have a2:=k2 n (bh _)
 refine⟨a1,a2,?_⟩
 unfold jy
 rw[hn,a1,a2];rfl
structure AtH(rows seed:Int)(m:List UInt8)(n d:Nat)(y:cm)(r:Nat)(st:Bool)(nx:Nat):Prop extends At rows seed m n d y r st nx where
 hon:hon y
 Fa:y.cancelled<1000000
theorem AtH.rnd(h:AtH rows seed m n d y r st nx)(hr:r<99999):Reads y (jU y)∧adb y (jU y)∧G.hon (jU y):=by
 have q:=UJ h.ok h.hon (by rw[h.toAt.round];omega) (by have:=h.Fa;omega) (fun i hi=>by
  rw[h.lv i (by rw[←h.nd];exact hi),h.toAt.round]
  have:=h.le
  exact⟨h.Ve,by show(nx:Int)≤r;omega⟩)
 refine⟨q.2,q.1,fun i hi=> ?_⟩
 rw[q.1.ns]at hi
 rw[q.1.sv i hi]
 exact h.hon i hi
theorem AtH.mk'(h:AtH rows seed m n d y r st nx)(hr:r<99999){st':Bool}(hl: ∀i,i<n→m6 (jU y) (i:Int)=iy seed m d st' i ((r+1:Nat):Int)):AtH rows seed m n d (jU y) (r+1) st' (r+1):=by
 obtain⟨_,k,hh⟩:=h.rnd hr
 refine⟨⟨k.ok,by rw[k.rows,h.rows],by rw[k.nd,h.nd],by rw[k.round,h.toAt.round];omega,by rw[k.Ve,h.toAt.round];omega,bh _,hl⟩,hh,by rw[k.Fa];exact h.Fa⟩
end
end
section
class HF where
 f:Nat→Nat→Nat
 g:Nat→Nat
 hf: ∀h v:Nat,hs1 (h:Int) (v:Int)=((f h v:Nat):Int)
 hg: ∀h:Nat,((h:Int)*h+5)% 2147483647=((g h:Nat):Int)
 lt: ∀h v:Nat,f h v<2147483647
section
variable [HF]
def OA(h v:Nat):Nat:=HF.f h v
def sqN(h:Nat):Nat:=HF.g h
theorem Y3(h v:Nat):hs1 (h:Int) (v:Int)=((OA h v:Nat):Int):=HF.hf h v
theorem akb(h:Nat):((h:Int)*h+5)% 2147483647=((sqN h:Nat):Int):=HF.hg h
def qd:List Nat→Nat→Nat
 | [],h=>h
 |v::l,h=>qd l (OA h v)
def AX(k:Nat)(l:List Nat):Nat:=OA (qd l (OA 11 k)) k
def csN(s k:Nat):Nat:=sqN (AX s [47,k])
def Y4(n:Nat):Nat:=cond (bf n 0) 1 n
def kN(seed i:Nat):Nat:=Y4 (AX seed [199,za i 2])
def sN(seed i:Nat):Nat:=AX seed [211,i]
def yA(i:Nat):Nat:=cond (mm (vM i) (FQ i 1)) 0 1
def dkN(key dir:Nat):Nat:=Y4 (AX key [83,dir])
def QE(key r dir rows:Nat):Nat:=pE (csN (AX key [79,r,dir]) 0) rows
def ahR(s r rows:Nat):Nat:=pE (csN (AX s [157,r]) 0) rows
def QF(s:Nat):Nat→Nat→List Nat
 |0,_=> []
 |k+1,i=>pE (za (csN s (iz 100 i)) 256) 256::QF s k (vM i)
def aft(s:Nat):List Nat:=QF (AX s [73]) 24 0
def OB(s:Nat):List Nat→Nat→List Nat
 | [],_=> []
 |b::l,i=>pE (iz b (pE (AX s [i]) 256)) 256::OB s l (vM i)
def Y5(n:Nat):List Nat:= [pE n 256,pE (za n 256) 256,pE (za n 65536) 256,pE (za n 16777216) 256]
def ckN(key:Nat):Nat:=Y4 (AX key [67,0])
def ahS(key:Nat)(l:List Nat):Nat:=OA (qd l (qd [71,0] (OA 11 key))) key
def afu(key:Nat)(m:List Nat):List Nat:=(1::m.length::m)++(QF (AX key [61,0]) 18 0).drop m.length
def ahT(key:Nat)(e:List Nat):List Nat:=e++Y5 (ahS key e)
def ahU(key:Nat)(m:List Nat):List Nat:=ahT key (OB (ckN key) (afu key m) 0)
def Y6(seed:Nat)(m:List Nat)(d:Nat):List Nat:=ahU (dkN (kN seed d) (yA d)) m
def wrN(rows seed d r i:Nat):Nat:=cond (bf i d) (QE (kN seed i) r (yA i) rows) (ahR (sN seed i) r rows)
def wcN(seed:Nat)(m:List Nat)(d r i:Nat):List Nat:=cond (bf i d) (Y6 seed m d) (aft (AX (sN seed i) [r]))
def xoN:List Nat→List Nat→List Nat
 |a::l,b::k=>FQ a b::xoN l k
 |_,_=> []
def ake:List Nat:= [0,0,0,0,0,0,0,0,0,0,0,0,0,0,0,0,0,0,0,0,0,0,0,0]
def QG(rows seed:Nat)(m:List Nat)(d r j:Nat):Nat→List Nat
 |0=>ake
 |k+1=>cond (bf (wrN rows seed d r k) j) (xoN (QG rows seed m d r j k) (wcN seed m d r k)) (QG rows seed m d r j k)
def abX:List Nat→Nat
 | [a,b,c,d]=>iz a (iz (vN 256 b) (iz (vN 65536 c) (vN 16777216 d)))
 |_=>0
def goN(key:Nat):Nat→List Nat→Nat→Bool
 |0,l,h=>bf (abX l) (OA h key)
 |_+1,[],_=>true
 |n+1,b::l,h=>goN key n l (OA h b)
def afv(key c:Nat)(cell:List Nat):Bool:=goN key 20 cell (qd [71,c] (OA 11 key))
def eqN:List Nat→List Nat→Bool
 | [],[]=>true
 |a::l,b::k=>and (bf a b) (eqN l k)
 |_,_=>false
def tN(f:Nat→Bool):Nat→Bool
 |0=>true
 |k+1=>and (f k) (tN f k)
theorem qg{f:Nat→Bool}: ∀{n:Nat},tN f n=true→ ∀i,i<n→f i=true
 |0,_,i,hi=>absurd hi (sE i)
 |n+1,h,i,hi=>by
  rw[tN,aj]at h
  by_cases e:i=n
  ·rw[e];exact h.1
  ·exact qg h.2 i (by omega)
def afw(rows seed n d r:Nat):Bool:=tN (fun i=>or (bf i d) (not (bf (wrN rows seed d r i) (wrN rows seed d r d)))) n
def abY(rows seed r i:Nat):Nat:=QE (kN seed i) r (LY 1 (yA i)) rows
def Y7(rows seed:Nat)(m:List Nat)(n d r c i:Nat):Bool:=not (afv (dkN (kN seed i) (LY 1 (yA i))) c (QG rows seed m d r (abY rows seed r i) n))
def QH(rows seed:Nat)(m:List Nat)(n d:Nat):Nat→Nat→Bool
 |0,_=>false
 |k+1,r=>cond (afw rows seed n d r) (tN (fun i=>or (bf i (FQ d 1)) (Y7 rows seed m n d r 0 i)) n)
  (and (not (eqN (QG rows seed m d r (QE (kN seed d) r (yA d) rows) n) (Y6 seed m d))) (and (tN (Y7 rows seed m n d r 0) n) (QH rows seed m n d k (vM r))))
def gx(l:List UInt8):List Nat:=l.map QI
def ints(l:List Nat):List Int:=l.map fun(n:Nat)=>(n:Int)
theorem UM(v:Nat)(l:List Nat):ints (v::l)=(v:Int)::ints l:=rfl
theorem Y8: ∀(l:List Nat) (h:Nat),(ints l).foldl hs1 (h:Int)=((qd l h:Nat):Int)
 | [],h=>rfl
 |v::l,h=>by rw[UM,cH,Y3,Y8 l,qd]
theorem Ff(k:Nat)(l:List Nat):kh (k:Int) (ints l)=((AX k l:Nat):Int):=by
 have h11:(11:Int)=((11:Nat):Int):=rfl
 unfold kh hsh AX
 rw[cH,dX,h11,Y3,Y8,cH,I1,Y3]
theorem afx(s k:Nat):cs (s:Int) (k:Int)=((csN s k:Nat):Int):=by
 unfold cs csN
 rw[show kh (s:Int) [47,(k:Int)]=((AX s [47,k]:Nat):Int)from Ff s [47,k],akb]
theorem Y9(n:Nat):Ej (n:Int)=((Y4 n:Nat):Int):=by
 unfold Ej Y4
 by_cases h:n=0
 ·subst h;rfl
 ·rw[if_neg (by omega),show bf n 0=false from jM.2 fun q=>h (av q)];rfl
theorem OC(seed i:Nat):I4 (seed:Int) i=((kN seed i:Nat):Int):=by
 unfold I4
 rw[show kh (seed:Int) [199,(i:Int).tdiv 2]=((AX seed [199,za i 2]:Nat):Int)from Ff seed [199,za i 2],Y9];rfl
theorem adg(seed i:Nat):sOf (seed:Int) i=((sN seed i:Nat):Int):=Ff seed [211,i]
theorem S0(i:Nat):uL i=((yA i:Nat):Int):=by
 unfold uL yA
 show _=((cond (mm (i+1) (i^^^1)) 0 1:Nat):Int)
 by_cases h:i<i^^^1
 ·rw[if_pos (by omega),Nat.ble_eq_true_of_le h];rfl
 ·rw[if_neg (by omega)]
  cases hb:mm (i+1) (i^^^1)with
  |true=>exact absurd (Nat.le_of_ble_eq_true hb) h
  |false=>rfl
theorem afy(i:Nat):yA i≤1:=by unfold yA;cases mm (vM i) (FQ i 1)<;>decide
theorem Za(i:Nat):1-uL i=((LY 1 (yA i):Nat):Int):=by
 rw[S0]
 have:=afy i
 show _=((1-yA i:Nat):Int)
 omega
theorem abZ(k d:Nat):mJ (k:Int) (d:Int)=((dkN k d:Nat):Int):=by
 unfold mJ
 rw[show kh (k:Int) [83,(d:Int)]=((AX k [83,d]:Nat):Int)from Ff k [83,d],Y9];rfl
theorem Zb{key r dir rows:Nat}(h:1≤rows∧rows≤64)(hr:r≤100000):iw (key:Int) (r:Int) (dir:Int) (rows:Int)=((QE key r dir rows:Nat):Int):=by
 unfold iw
 rw[if_pos (by omega),show kh (key:Int) [79,(r:Int),(dir:Int)]=((AX key [79,r,dir]:Nat):Int)from Ff key [79,r,dir],show(0:Int)=((0:Nat):Int)from rfl,afx]
 exact(wj _ _).symm
theorem ahW{s r rows:Nat}(h:1≤rows∧rows≤64):Am (s:Int) (r:Int) (rows:Int)=((ahR s r rows:Nat):Int):=by
 unfold Am
 rw[if_pos (by omega),show kh (s:Int) [157,(r:Int)]=((AX s [157,r]:Nat):Int)from Ff s [157,r],show(0:Int)=((0:Nat):Int)from rfl,afx]
 exact(wj _ _).symm
theorem ab0(n:Nat):(b8 (n:Int)).toNat=n % 256:=by
 have:=pS (n:Int)
 omega
theorem adh(s:Nat): ∀k i,QF s k i=(List.range' i k).map fun j=>csN s (100+j)/256 % 256
 |0,_=>rfl
 |k+1,i=>by rw[QF,List.range'_succ,cA,adh s k];rfl
theorem ahX(s i:Nat):(b8 (cs (s:Int) (100+(i:Int))/256)).toNat=csN s (100+i)/256 % 256:=by
 rw[show(100+(i:Int))=((100+i:Nat):Int)by omega,afx]
 generalize csN s (100+i)=c
 rw[show(c:Int)/256=((c/256:Nat):Int)by omega,ab0]
theorem OD(s n:Nat):gx (stream (s:Int) n)=QF s n 0:=by
 rw[adh, ←List.range_eq_range']
 unfold gx stream
 rw[pM]
 simp only[Function.comp_def,ahX]
theorem ahY(s:Nat):gx (cover (s:Int))=aft s:=by
 unfold cover aft
 rw[show kh (s:Int) [73]=((AX s [73]:Nat):Int)from Ff s [73]]
 exact OD _ 24
theorem OE(s:Nat): ∀(l:List Nat) (i:Nat),(OB s l i).length=l.length
 | [],_=>rfl
 |b::l,i=>by rw[OB,bY,OE s l,bY]
theorem OF(s:Nat): ∀(l:List Nat) (i j:Nat) (h:j<(OB s l i).length) (h2:j<l.length),(OB s l i)[j]=(l[j]+AX s [i+j]% 256)% 256
 | [],_,_,_,h2=>absurd h2 (sE _)
 |b::l,i,0,_,_=>rfl
 |b::l,i,j+1,h,h2=>by
  show(OB s l (i+1))[j]'_=_
  rw[OF s l (i+1) j _ (by simpa using h2)]
  rw[show i+1+j=i+(j+1)by omega];rfl
theorem OG{l:List UInt8}{i:Nat}(h:i<(gx l).length)(h2:i<l.length):(gx l)[i]=l[i].toNat:=Fc QI
theorem adi(s:Nat)(l:List UInt8):gx (kQ (s:Int) l)=OB s (gx l) 0:=by
 apply mA
 ·rw[OE];unfold gx;rw[bw,bw,gz]
 ·intro i h1 h2
  have hi:i<l.length:=by
   have:(gx (kQ (s:Int) l)).length=l.length:=by unfold gx;rw[bw,gz]
   omega
  rw[OF s _ _ _ h2 (by unfold gx;rw[bw];exact hi)]
  rw[OG h1 (by rw[gz];exact hi),OG _ hi]
  have e:=BF (s:Int) l i hi
  rw[ak,au (by rw[gz];exact hi),ak,au hi]at e
  have e':(kQ (s:Int) l)[i]'(by rw[gz];exact hi)=b8 ((l[i].toNat:Int)+kh (s:Int) [(i:Int)]% 256):=e
  rw[e',show kh (s:Int) [(i:Int)]=((AX s [i]:Nat):Int)from Ff s [i],show((l[i].toNat:Nat):Int)+((AX s [i]:Nat):Int)% 256=((l[i].toNat+AX s [i]% 256:Nat):Int)by omega,ab0,eE]
theorem afA(n:Nat):gx (four (n:Int))=Y5 n:=by
 unfold four gx Y5
 rw[show(n:Int)/256=((n/256:Nat):Int)by omega,show(n:Int)/65536=((n/65536:Nat):Int)by omega,show(n:Int)/16777216=((n/16777216:Nat):Int)by omega]
 simp only[cA,List.map_nil,ab0];rfl
theorem J8: ∀(a b:List Nat) (h:Nat),qd (a++b) h=qd b (qd a h)
 | [],_,_=>rfl
 |v::a,b,h=>J8 a b (OA h v)
theorem adj(key c:Nat)(l:List UInt8):kR (key:Int) (c:Int) l=((OA (qd (gx l) (qd [71,c] (OA 11 key))) key:Nat):Int):=by
 unfold kR
 have e: [71,(c:Int)]++l.map (fun c=>(c.toNat:Int))=ints ([71,c]++gx l):=by
  unfold ints gx
  rw[eI,pM];rfl
 rw[e,Ff]
 unfold AX
 rw[J8]
theorem akf(key:Nat)(l:List UInt8):kR (key:Int) 0 l=((ahS key (gx l):Nat):Int):=adj key 0 l
theorem Ip(a b:List UInt8):gx (a++b)=gx a++gx b:=eI ..
theorem OH(l:List UInt8):(gx l).length=l.length:=bw ..
theorem adk(key:Nat){m:List UInt8}(hm:m.length≤14):gx (fU (key:Int) 0 ⟨1,m⟩)=afu key (gx m):=by
 unfold fU afu
 rw[show kh (key:Int) [61,0]=((AX key [61,0]:Nat):Int)from Ff key [61,0]]
 rw[Ip,Ip,OH]
 have e:gx ((stream ((AX key [61,0]:Nat):Int) 18).drop m.length)=(QF (AX key [61,0]) 18 0).drop m.length:=by
  rw[←OD];unfold gx;rw[LZ]
 show gx [b8 1,b8 (m.length:Int)]++gx m++gx ((stream ((AX key [61,0]:Nat):Int) 18).drop m.length)=_
 rw[e]
 have h1:(b8 1).toNat=1:=by decide
 have h2:(b8 (m.length:Int)).toNat=m.length:=by rw[ab0];omega
 show([(b8 1).toNat,(b8 (m.length:Int)).toNat]++gx m)++_=_
 rw[h1,h2];rfl
theorem adl(seed d:Nat){m:List UInt8}(hm:m.length≤14):gx (wK (seed:Int) m d)=Y6 seed (gx m) d:=by
 unfold wK Y6 ahU ahT
 rw[OC,S0,abZ]
 generalize hk:dkN (kN seed d) (yA d)=k
 have hok:iC (k:Int)=true:=by
  have:=BW ((kN seed d:Nat):Int) ((yA d:Nat):Int)
  rw[abZ,hk]at this
  exact this
 have hs:iY (k:Int) 0 ⟨1,m⟩=true:=by
  simp only[iY,hok,jz,dj,aj,dD,decide_eq_true_eq]
  omega
 have hc:nh (k:Int) 0=((ckN k:Nat):Int):=by
  unfold nh ckN
  rw[show kh (k:Int) [67,0]=((AX k [67,0]:Nat):Int)from Ff k [67,0],Y9]
 rw[jN,if_pos hs,Ip,hc,adi,adk k hm,akf,afA,adi,adk k hm]
section
variable{rows seed n d r:Nat}{m:List UInt8}
theorem Zc(h:1≤rows∧rows≤64)(hr:r≤100000)(i:Nat):vL (rows:Int) (seed:Int) d (r:Int) i=((wrN rows seed d r i:Nat):Int):=by
 unfold vL wrN
 by_cases e:i=d
 ·rw[if_pos e,OC,S0,Zb h hr,show bf i d=true by rw[e];exact iA d];rfl
 ·rw[if_neg e,adg,ahW h,show bf i d=false from jM.2 fun q=>e (av q)];rfl
theorem akg(hm:m.length≤14)(i:Nat):gx (Fe (seed:Int) m d (r:Int) i)=wcN seed (gx m) d r i:=by
 unfold Fe wcN
 by_cases e:i=d
 ·rw[if_pos e,adl seed d hm,show bf i d=true by rw[e];exact iA d];rfl
 ·rw[if_neg e,adg,show kh ((sN seed i:Nat):Int) [(r:Int)]=((AX (sN seed i) [r]:Nat):Int)from Ff (sN seed i) [r],ahY,show bf i d=false from jM.2 fun q=>e (av q)];rfl
theorem Zd(hm:m.length≤14)(i:Nat):(Fe (seed:Int) m d (r:Int) i).length=24:=by
 unfold Fe
 split
 ·refine s9 ?_
  simp only[iY,BW,jz,dj,aj,dD,decide_eq_true_eq]
  omega
 ·exact gE _ _
theorem adm: ∀{a b:List UInt8},a.length=b.length→gx (fk a b)=xoN (gx a) (gx b)
 | [],[],_=>rfl
 | [],_::_,h=>by cases h
 |_::_,[],h=>by cases h
 |x::a,y::b,h=>by
  show(x^^^y).toNat::gx (fk a b)=FQ x.toNat y.toNat::xoN (gx a) (gx b)
  rw[adm (Nat.succ.inj h),G1];rfl
theorem Ze(h:1≤rows∧rows≤64)(hr:r≤100000)(hm:m.length≤14)(j:Nat): ∀n,(qv (rows:Int) (seed:Int) m n d (r:Int) j).length=24∧gx (qv (rows:Int) (seed:Int) m n d (r:Int) j)=QG rows seed (gx m) d r j n
 |0=>⟨nQ,rfl⟩
 |n+1=>by
  obtain⟨q1,q2⟩:=Ze h hr hm j n
  have hw:=Zc (seed:=seed) (d:=d) h hr n
  have e:qv (rows:Int) (seed:Int) m (n+1) d (r:Int) j=if(vL (rows:Int) (seed:Int) d (r:Int) n).toNat=j then fk (qv (rows:Int) (seed:Int) m n d (r:Int) j) (Fe (seed:Int) m d (r:Int) n)else qv (rows:Int) (seed:Int) m n d (r:Int) j:=by
   unfold qv
   rw[ep,dX];rfl
  have hl:=Zd (seed:=seed) (d:=d) (r:=r) hm n
  rw[e,QG]
  by_cases hj:(vL (rows:Int) (seed:Int) d (r:Int) n).toNat=j
  ·rw[if_pos hj,show bf (wrN rows seed d r n) j=true by rw[←hj,hw];exact iA _]
   refine⟨by rw[eF];omega,?_⟩
   rw[adm (by omega),q2,akg hm];rfl
  ·rw[if_neg hj,show bf (wrN rows seed d r n) j=false from jM.2 fun q=>hj (by rw[hw];exact av q)]
   exact⟨q1,q2⟩
theorem Zf(key:Nat): ∀(k:Nat) (l:List Nat) (h:Nat),k≤l.length→goN key k l h=bf (abX (l.drop k)) (OA (qd (l.take k) h) key)
 |0,l,h,_=>by rw[goN,eV,lZ];rfl
 |k+1,[],h,hk=>absurd hk (by simp)
 |k+1,b::l,h,hk=>by
  rw[goN,Zf key k l _ (by simpa using hk)];rfl
theorem ahZ{key c:Nat}{cell:List UInt8}(hk:iC (key:Int)=true)(hc:c≤1000)(hl:cell.length=24):IT (key:Int) (c:Int) cell=afv key c (gx cell):=by
 unfold afv
 rw[Zf _ _ _ _ (by rw[OH];omega),Sa hk (by rw[dD];omega) hl]
 have h1:kR (key:Int) (c:Int) (cell.take 20)=((OA (qd ((gx cell).take 20) (qd [71,c] (OA 11 key))) key:Nat):Int):=by
  rw[adj]
  unfold gx
  rw[List.map_take]
 have h2:Up cell=((abX ((gx cell).drop 20):Nat):Int):=by
  have:=XN hl
  have e:(gx cell).drop 20=gx (cell.drop 20):=by unfold gx;rw[LZ]
  rw[e,this]
  show Up cell=(((cell.getD 20 (aO .u8)).toNat+(256*(cell.getD 21 (aO .u8)).toNat+(65536*(cell.getD 22 (aO .u8)).toNat+16777216*(cell.getD 23 (aO .u8)).toNat)):Nat):Int)
  unfold Up
  omega
 rw[h1,h2]
 by_cases e:abX ((gx cell).drop 20)=OA (qd ((gx cell).take 20) (qd [71,c] (OA 11 key))) key
 ·rw[e,iA,decide_eq_true rfl]
 ·rw[show bf _ _=false from jM.2 fun q=>e (av q),decide_eq_false (by omega)]
theorem ado(h:1≤rows∧rows≤64)(hr:r≤100000)(hm:m.length≤14){c:Nat}(hc:c≤1000)(i:Nat):QC (rows:Int) (seed:Int) m n d (r:Int) c i= !Y7 rows seed (gx m) n d r c i:=by
 have hk:=BW ((kN seed i:Nat):Int) ((LY 1 (yA i):Nat):Int)
 rw[abZ]at hk
 have e:I5 (rows:Int) (seed:Int) (r:Int) i=abY rows seed r i:=by
  unfold I5 abY
  rw[OC,Za,Zb h hr];rfl
 obtain⟨q1,q2⟩:=Ze (seed:=seed) (d:=d) h hr hm (abY rows seed r i) n
 unfold QC Y7
 rw[e,OC,Za,abZ,ahZ hk hc q1,q2,Nn]
theorem S2: ∀{a b:List Nat},a=b→eqN a b=true
 | [],_,rfl=>rfl
 |x::a,_,rfl=>by rw[eqN,iA,S2 rfl];rfl
theorem afB{a b:Nat}(h:bf a b=false):a≠b:=fun e=>by rw[e,iA]at h;cases h
theorem adp(h:1≤rows∧rows≤64)(hr:r≤100000):afw rows seed n d r=true↔Im (rows:Int) (seed:Int) n d (r:Int):=by
 constructor
 ·intro ha i hi e q
  have:=qg ha i hi
  rw[dh]at this
  rcases this with h1|h1
  ·exact e (av h1)
  ·rw[bp]at h1
   rw[Zc h hr,Zc h hr]at q
   exact afB h1 (by omega)
 ·intro ha
  have key: ∀k,k≤n→tN (fun i=>or (bf i d) (not (bf (wrN rows seed d r i) (wrN rows seed d r d)))) k=true:=by
   intro k
   induction k with
   |zero=>intro _;rfl
   |succ k ih=>
    intro hk
    rw[tN,ih (by omega),qH]
    by_cases e:k=d
    ·rw[e];simp only[iA,Bool.true_or]
    ·have:=ha k (by omega) e
     rw[Zc h hr,Zc h hr]at this
     rw[dh,bp]
     exact Or.inr (jM.2 fun q=>this (by rw[av q]))
  exact key n (bh _)
theorem J9(h:1≤rows∧rows≤64)(hm:m.length≤14): ∀(k r:Nat),r+k≤100000→QH rows seed (gx m) n d k r=true→ ∃K,r≤K∧K<r+k∧Im (rows:Int) (seed:Int) n d (K:Int)∧(∀i,i<n→i≠d^^^1→QC (rows:Int) (seed:Int) m n d (K:Int) 0 i=false)∧
  (∀q,r≤q→q<K→ ¬Im (rows:Int) (seed:Int) n d (q:Int)∧(qv (rows:Int) (seed:Int) m n d (q:Int) (AV (rows:Int) (seed:Int) (q:Int) d)==wK (seed:Int) m d)=false∧ ∀i,i<n→QC (rows:Int) (seed:Int) m n d (q:Int) 0 i=false)
 |0,_,_,hc=>by cases hc
 |k+1,r,hr,hc=>by
  rw[QH]at hc
  cases ha:afw rows seed n d r with
  |true=>
   rw[ha]at hc
   refine⟨r,bh _,by omega,(adp h (by omega)).1 ha,fun i hi e=> ?_,fun q h1 h2=>by omega⟩
   have:=qg hc i hi
   rw[dh]at this
   rcases this with h1|h1
   ·exact absurd (av h1) e
   ·rw[ado h (by omega) hm (by omega),h1];rfl
  |false=>
   rw[ha]at hc
   have hc:(not (eqN (QG rows seed (gx m) d r (QE (kN seed d) r (yA d) rows) n) (Y6 seed (gx m) d))&&(tN (Y7 rows seed (gx m) n d r 0) n&&QH rows seed (gx m) n d k (r+1)))=true:=hc
   simp only[aj,bp]at hc
   obtain⟨c1,c2,c3⟩:=hc
   obtain⟨K,k1,k2,k3,k4,k5⟩:=J9 h hm k (r+1) (by omega) c3
   refine⟨K,by omega,by omega,k3,k4,fun q q1 q2=> ?_⟩
   by_cases e:q=r
   ·subst e
    refine⟨fun q3=>(by rw[(adp h (by omega)).2 q3]at ha;cases ha),?_,fun i hi=>by rw[ado h (by omega) hm (by omega),qg c2 i hi];rfl⟩
    rw[beq_eq_false_iff_ne]
    intro e
    have e2:AV (rows:Int) (seed:Int) (q:Int) d=QE (kN seed d) q (yA d) rows:=by
     unfold AV
     rw[OC,S0,Zb h (by omega)];rfl
    rw[e2]at e
    have e3:=(Ze (seed:=seed) (d:=d) h (by omega:q≤100000) hm (QE (kN seed d) q (yA d) rows) n).2
    rw[e,adl seed d hm]at e3
    rw[S2 e3.symm]at c1
    cases c1
   ·exact k5 q (by omega) q2
end
end
end
section
def hsK(h v:Nat):Nat:=pE (iz (iz (vN h 1000003) v) 13) 2147483647
def sqK(h:Nat):Nat:=pE (iz (vN h h) 5) 2147483647
theorem afC(h v:Nat):hs1 (h:Int) (v:Int)=((hsK h v:Nat):Int):=by
 show((h:Int)*1000003+(v:Int)% 2147483647+13)% 2147483647=(((h*1000003+v+13)% 2147483647:Nat):Int)
 omega
theorem afD(h:Nat):((h:Int)*h+5)% 2147483647=((sqK h:Nat):Int):=by
 have e:sqK h=(h*h+5)% 2147483647:=rfl
 rw[e,wj,Int.natCast_add,Int.natCast_mul];rfl
instance hfK:HF:=⟨hsK,sqK,afC,afD,fun _ _=>CA _ (by decide)⟩
end
section
theorem afE{seed:Int}{m:List UInt8}{i:Nat}(hi:i<8)(hm:m.length≤14):fG (DG (Oj seed i) m)=true:=by
 have h:=Qy (seed:=seed) hi
 simp only[fG,aj]at h ⊢
 obtain⟨⟨⟨⟨⟨⟨⟨⟨⟨h1,h2⟩,h3⟩,h4⟩,h5⟩,h6⟩,h7⟩,h8⟩,h9⟩,h10⟩:=h
 refine⟨⟨⟨⟨⟨⟨⟨⟨⟨h1,h2⟩,h3⟩,h4⟩,by simp[DG,Oj]⟩,h6⟩,?_⟩,h8⟩,by simp[DG,Oj,inr]⟩,h10⟩
 have:long m=false:=by unfold long;rw[decide_eq_false];omega
 simp[DG,Oj,this]
section
variable{rows seed:Int}{s p d:Nat}{m:List UInt8}
theorem Zi(hr:1≤rows∧rows≤64)(hs:2≤s∧s≤4)(hp:1≤p∧p≤4)(hd:d<2*p)(hm:m.length≤14):Qs (ou rows s p seed) (d:Int) m=true∧AtH rows seed m (2*p) d (LJ (ou rows s p seed) (d:Int) m) 0 false 0∧(LJ (ou rows s p seed) (d:Int) m).replaced= []∧(LJ (ou rows s p seed) (d:Int) m).cancelled=0∧(LJ (ou rows s p seed) (d:Int) m).aC.length=s∧(LJ (ou rows s p seed) (d:Int) m).seed=seed∧Ok (LJ (ou rows s p seed) (d:Int) m) 0:=by
 have hw:=SL (seed:=seed) hr hs hp
 have hD:Ok (ou rows s p seed) 0:=⟨hw,fT 0,fT 0,bh 0⟩
 have hl:(ou rows s p seed).aq.length=2*p:=FO seed (2*p)
 have hg: ∀i,i<2*p→(ou rows s p seed).aq.getD i (aO .cD)=nwD seed i:=fun i hi=>gj _ _ _ _ hi
 have hc:qy (ou rows s p seed) (d:Int)=true:=by
  unfold qy
  rw[hw,dj]
  unfold vv
  rw[dD,hl];omega
 have hv:IX (ou rows s p seed) (d:Int)=nwD seed d:=hg d hd
 have hod:fJ (nwD seed d)=true:=by
  have:=qL hw (i:=d) (by omega)
  simp only[okD,aj]at this
  rw[←hg d hd]
  exact this.1.1.1.1
 have hq:yd (Oj seed d) m=true:=by
  unfold yd
  rw[Qy (by omega),afE (by omega) hm];rfl
 have hsb:DH (nwD seed d) m=true:=by
  unfold DH
  rw[hod]
  show((true&&yd (Oj seed d) m)&&yd (Oj seed d) m)=true
  rw[hq];rfl
 have hsD:DI (nwD seed d) m=⟨DG (Oj seed d) m,DG (Oj seed d) m⟩:=by
  unfold DI
  rw[if_pos hsb]
  show(⟨nZ (Oj seed d) m,nZ (Oj seed d) m⟩:cD)=_
  unfold nZ
  rw[if_pos hq]
 have e:LJ (ou rows s p seed) (d:Int) m=Yg (ou rows s p seed) d ⟨DG (Oj seed d) m,DG (Oj seed d) m⟩:=by
  unfold LJ
  rw[if_pos hc,hv,hsD];rfl
 have hD2:Ok (LJ (ou rows s p seed) (d:Int) m) 0:=hD.sm
 refine⟨by unfold Qs;rw[hc,hv,hsb];rfl,?_,by rw[e];rfl,by rw[e];rfl,by rw[e];exact FN rows s,by rw[e];rfl,hD2⟩
 have ho:=hD2.ok
 rw[e]at ho ⊢
 refine⟨⟨ho,rfl,?_,rfl,by show eC ⟨rows,[]⟩<_;rw[Ig rfl];decide,bh _,fun i hi=> ?_⟩,fun i hi=> ?_,by show(0:Int)<1000000;decide⟩
 ·show((ou rows s p seed).aq.set d _).length=_
  rw[bH,hl]
 ·show(((ou rows s p seed).aq.set d _).getD i (aO .cD)).live=_
  rw[uK _ _ (by rw[hl];exact hi)]
  unfold iy mO
  by_cases e2:d=i
  ·subst e2
   rw[if_pos rfl,if_pos rfl];rfl
  ·rw[if_neg e2,if_neg (fun q=>e2 q.symm),hg i hi];rfl
 ·have hi':i<s:=by have:i<(Ct rows s).length:=hi;rw[FN]at this;exact this
  show((Ct rows s).getD i (aO .cg)).behavior=0
  rw[show(Ct rows s).getD i (aO .cg)=nwS rows i from gj _ _ _ _ hi'];rfl
end
section
variable{rows seed:Int}{m:List UInt8}{n d:Nat}{x:cm}
theorem ab2(h:At rows seed m n d x 0 false 0)(hd:d<n):(coll x=0∧Im rows seed n d 0)∨coll x=1:=by
 have hw: ∀i,i<n→waiting (x.aq.getD i (aO .cD)).live=if i=d then 1 else 0:=by
  intro i hi
  have e:(x.aq.getD i (aO .cD)).live=iy seed m d false i ((0:Nat):Int):=h.lv i hi
  rw[e]
  show an.wrap (((mO m d i).length:Int)-0)=_
  by_cases h1:i=d
  ·subst h1
   rw[yy,if_pos rfl]
   show an.wrap (1-0)=1
   decide
  ·rw[yz h1,if_neg h1];decide
 have hc: ∀i,i<n→i≠d→AU x i=false:=fun i hi e=>by unfold AU;rw[hw i hi,if_neg e];rfl
 have key: ∀k,k≤n→DZ x k=if d<k∧AU x d=true then 1 else 0:=by
  intro k
  induction k with
  |zero=>intro _;rfl
  |succ k ih=>
   intro hk
   have ih:=ih (by omega)
   by_cases e:k=d
   ·subst e
    cases hb:AU x k with
    |true=>rw[Ot hb,ih,if_neg (by omega),if_pos ⟨wh k,rfl⟩]
    |false=>rw[D0 hb,ih,if_neg (by omega),if_neg (by rintro⟨_,q⟩;cases q)]
   ·rw[D0 (hc k (by omega) e),ih]
    by_cases h2:d<k∧AU x d=true
    ·rw[if_pos h2,if_pos ⟨by omega,h2.2⟩]
    ·rw[if_neg h2,if_neg (fun q=>h2 ⟨by omega,q.2⟩)]
 have e:coll x=(DZ x n:Int):=by unfold coll;rw[if_pos h.ok,h.nd]
 rw[e,key n (bh _)]
 cases hb:AU x d with
 |true=>right;rw[if_pos ⟨hd,rfl⟩];rfl
 |false=>
  left
  refine⟨by rw[if_neg (by rintro⟨_,q⟩;cases q)];rfl,fun i hi hne hq=> ?_⟩
  have hh:abO (qc x) d (qc x).length=false:=by
   unfold AU at hb
   rw[hw d hd,if_pos rfl]at hb
   simpa using hb
  have hlen:(qc x).length=n:=by rw[DY,h.nd]
  unfold abO at hh
  rw[bK]at hh
  have:=hh i (bV.2 (by omega))
  simp only[aj,bp,decide_eq_false_iff_not,decide_eq_true_eq,not_and]at this
  refine this hne ?_
  rw[y8 (by rw[h.nd];exact hi),y8 (by rw[h.nd];exact hd)]
  have q1:=h.wr hi
  have q2:=h.wr hd
  exact q1.trans (hq.trans q2.symm)
theorem Zj(h0:AtH rows seed m n d x 0 false 0){K:Nat}(hK:K<90000)(hq: ∀q:Nat,q<K→(qv rows seed m n d (q:Int) (AV rows seed (q:Int) d)==wK seed m d)=false∧ ∀i,i<n→QC rows seed m n d (q:Int) 0 i=false): ∀r,r≤K→AtH rows seed m n d (gT x r) r false r
 |0,_=>h0
 |r+1,hr=>by
  have ih:=Zj h0 hK hq r (by omega)
  obtain⟨q1,q2⟩:=hq r (by omega)
  exact ih.mk' (by omega) (ih.toAt.stay (ih.rnd (by omega)).1 (by omega) q1 q2)
theorem OI{K:Nat}(h1: ∀k,k≤K→jy (gT x k)=false)(h2:jy (gT x (K+1))=true): ∀(a k:Nat),k+a=K+1→ ∀N,a≤N→Yu x k N=((K+1:Nat):Int)
 |0,k,e,N,_=>by
  have:k=K+1:=by omega
  subst this
  exact SE h2
 |a+1,k,e,N,hN=>by
  rw[Yv (h1 k (by omega)) (by omega)]
  exact OI h1 h2 a (k+1) (by omega) (N-1) (by omega)
end
theorem afF [HF]{rows seed n d:Nat}{m:List UInt8}{x:cm}(h0:AtH (rows:Int) (seed:Int) m n d x 0 false 0)(hr:1≤rows∧rows≤64)(hd:d<n)(hm:m.length≤14)(hc:QH rows seed (gx m) n d 60 0=true):
  ∃K:Nat,K<60∧delay x 60=((K+1:Nat):Int)∧jy (gT x (K+1))=true∧jy (gT x K)=false∧delay x 0= -1∧((coll x=0∧K=0)∨coll x=1):=by
 obtain⟨K,k1,k2,k3,k4,k5⟩:=J9 (n:=n) (d:=d) (seed:=seed) hr hm 60 0 (by omega) hc
 have hA:=Zj h0 (K:=K) (by omega) (fun q hq=>(k5 q (by omega) hq).2)
 have hl: ∀k,k≤K→jy (gT x k)=false:=fun k hk=>(hA k hk).toAt.aj9 hd
 have hAK:=hA K (bh _)
 have hAL:=hAK.mk' (by omega) (hAK.toAt.aj7 (hAK.rnd (by omega)).1 (by omega) hd hm k3 k4)
 have hz:jy (gT x (K+1))=true:=(quiet_of hAL.nd hAL.lv).2.2
 refine⟨K,by omega,?_,hz,hl K (bh _),?_,?_⟩
 ·exact OI hl hz (K+1) 0 (by omega) _ (by show K+1≤zC 60;rw[show zC 60=60 by decide];omega)
 ·unfold delay
  rw[show zC 0=0 by decide]
  exact SF (hl 0 (by omega))
 ·rcases ab2 h0.toAt hd with⟨c1,c2⟩|c1
  ·left
   refine⟨c1,?_⟩
   by_cases e:K=0
   ·exact e
   ·exact absurd c2 (k5 0 (by omega) (by omega)).1
  ·exact Or.inr c1
def Fg [HF](seed:Nat):Bool:=tN (fun q=>tN (fun p=>tN (fun d=>QH (iz 16 q) seed [7] (vN 2 (vM p)) d 60 0) (vN 2 (vM p))) 2) 48
theorem Zk [HF]{seed:Nat}(h:Fg seed=true){rows p d:Nat}(hr:16≤rows∧rows<64)(hp:1≤p∧p≤2)(hd:d<2*p):QH rows seed [7] (2*p) d 60 0=true:=by
 have h1:=qg h (rows-16) (by omega)
 have h2:=qg h1 (p-1) (by omega)
 have e:vN 2 (vM (p-1))=2*p:=by show 2*(p-1+1)=_;omega
 have h3:=qg h2 d (by rw[e];exact hd)
 rw[e,show iz 16 (rows-16)=rows by show 16+(rows-16)=rows;omega]at h3
 exact h3
end
section
set_option maxRecDepth 100000
theorem dk0:tN (fun s=>Fg (iz 0 s)) 32=true:=by decide+kernel
theorem dk1:tN (fun s=>Fg (iz 32 s)) 32=true:=by decide+kernel
theorem dk2:tN (fun s=>Fg (iz 64 s)) 32=true:=by decide+kernel
theorem dk3:tN (fun s=>Fg (iz 96 s)) 32=true:=by decide+kernel
theorem dk4:tN (fun s=>Fg (iz 128 s)) 32=true:=by decide+kernel
theorem dk5:tN (fun s=>Fg (iz 160 s)) 32=true:=by decide+kernel
theorem dk6:tN (fun s=>Fg (iz 192 s)) 32=true:=by decide+kernel
theorem dk7:tN (fun s=>Fg (iz 224 s)) 32=true:=by decide+kernel
theorem Zl{seed:Nat}(h:seed<256):Fg seed=true:=by
 have key: ∀q,q≤seed→seed<q+32→tN (fun s=>Fg (iz q s)) 32=true→Fg seed=true:=by
  intro q h1 h2 h3
  have h4:=qg h3 (seed-q) (by omega)
  rwa [show iz q (seed-q)=seed by show q+(seed-q)=seed;omega]at h4
 rcases(by omega:(0≤seed∧seed<32)∨(32≤seed∧seed<64)∨(64≤seed∧seed<96)∨(96≤seed∧seed<128)∨(128≤seed∧seed<160)∨(160≤seed∧seed<192)∨(192≤seed∧seed<224)∨(224≤seed∧seed<256))with⟨h1,h2⟩| ⟨h1,h2⟩| ⟨h1,h2⟩| ⟨h1,h2⟩| ⟨h1,h2⟩| ⟨h1,h2⟩| ⟨h1,h2⟩| ⟨h1,h2⟩
 ·exact key 0 h1 h2 dk0
 ·exact key 32 h1 h2 dk1
 ·exact key 64 h1 h2 dk2
 ·exact key 96 h1 h2 dk3
 ·exact key 128 h1 h2 dk4
 ·exact key 160 h1 h2 dk5
 ·exact key 192 h1 h2 dk6
 ·exact key 224 h1 h2 dk7
end
end Go.Proofs.YtkcegdacbddipaaGreat.G
