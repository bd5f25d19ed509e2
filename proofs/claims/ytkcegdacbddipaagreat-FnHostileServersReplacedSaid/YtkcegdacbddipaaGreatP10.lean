/-
  The hash's step and a square's as they are. No program in sight.
-/
import Derived.KernelRfl
import Derived.Test.YtkcegdacbddipaaGreatProg
import Derived.Test.YtkcegdacbddipaaGreatP9
open BitVec renaming ofInt→aV,ofInt_natCast→iJ,toNat_ofNat→jL,toNat_xor→FY
open Bool renaming and_eq_false_iff→lS,and_eq_true→ak,and_false→qa,and_true→rC,eq_false_iff→gP,eq_iff_iff→Ij,false_and→AF,not_eq_true'→bq,not_not→OB,or_eq_true→c8,true_and→c9
open Go.IntKind renaming bits→Ol,i64→aq,signed→JR,u8→cE,wrap→Ok
open Go.Proofs.Tryz renaming prog→bC
open Int renaming emod_lt_of_pos→jK,emod_nonneg→j9,eq_ofNat_of_zero_le→vW,fdiv_eq_ediv_of_nonneg→jv,le_refl→fE,le_trans→Pw,natCast_emod→w8,toNat→cL,toNat_natCast→jc
open List renaming all_append→H7,all_eq_false→pF,all_eq_true→bw,any_eq_false→bR,any_eq_true→eZ,append_assoc→ct,append_nil→cS,cons_append→iG,drop_eq_getElem_cons→eG,drop_of_length_le→gJ,drop_succ_cons→jj,drop_zero→eS,ext_getElem→kS,filter_append→oG,filter_cons→F5,filter_eq_nil_iff→oX,flatMap_append→fC,flatMap_eq_nil_iff→wG,foldl_append→ep,foldl_cons→cK,foldl_map→J3,foldl_nil→J4,forall_mem_cons→zZ,getD_eq_getElem?_getD→an,getElem?_append_right→bU,getElem?_drop→cN,getElem?_eq_getElem→au,getElem?_eq_some_iff→aI,getElem?_map→dR,getElem?_replicate→iO,getElem?_zipWith→qA,getElem_map→w7,getElem_mem→mR,getElem_zipWith→Ao,length→aQ,length_append→aY,length_cons→b9,length_drop→bW,length_eq_zero_iff→fJ,length_map→bg,length_nil→fF,length_range→EU,length_replicate→jI,length_set→bA,length_singleton→lI,length_take→bV,length_zipWith→jk,map→MX,map_append→eu,map_cons→cA,map_drop→M0,map_map→lD,mem_append→aL,mem_cons_of_mem→aK,mem_cons_self→dU,mem_flatMap→kM,mem_iff_getElem→ef,mem_iff_getElem?→jO,mem_map→cq,mem_of_getElem?→dL,mem_of_mem_drop→iM,mem_or_eq_of_mem_set→gd,mem_range→cm,mem_replicate→tW,mem_singleton→aR,nil_append→eM,range→bD,range_succ→eN,replicate→eF,set_append_right→yj,sum_cons→rH,take_left'→sq,take_length→mV,take_of_length_le→aB,take_replicate→A8,take_succ_cons→kB,take_zero→mH,zipWith→dz
open Nat renaming add→iR,add_comm→yM,add_mul→cJ,beq→aU,beq_refl→gZ,ble→mO,div→wI,eq_of_beq_eq_true→ay,le_add_right→w5,le_refl→aZ,le_trans→dy,min_eq_left→Ir,mod→oN,mod_eq_of_lt→kO,mod_lt→Dy,mul→Dj,not_lt_zero→lU,sub→MZ,sub_self→qn,succ→GL,xor→rK,xor_assoc→Dd,xor_div_two→Ii,xor_self→FH,xor_zero→FI,zero_add→dZ,zero_le→aD
open UInt8 renaming ofNat→dP,toNat→RX,toNat_xor→HZ,xor_assoc→eB,xor_comm→uB,xor_self→kW,xor_zero→gX,zero_xor→eg
namespace Go.Proofs.YtkcegdacbddipaaGreat.G
set_option linter.all false
open Go.RowKit L D
section
theorem aeS:(bC.info? 3).map (fun i=>(i.zero,i.size,i.bytes))=some (some (.int .i64 0),1,8):=by kernel_rfl
theorem aeT:(bC.info? 5).map (fun i=>(i.zero,i.size,i.bytes))=some (some (.int .u8 0),1,1):=by kernel_rfl
theorem aeU:(bC.info? 9).map (fun i=>(i.zero,i.size,i.bytes))=some (some (.string ⟨#[]⟩),1,16):=by kernel_rfl
theorem Yr:(bC.info? 22).map (fun i=>(i.zero,i.size,i.bytes))=some (some (.slice none 0 0),1,24):=by kernel_rfl
theorem Ys:(bC.info? 29).map (fun i=>(i.zero,i.size,i.bytes))=some (some (.slice none 0 0),1,24):=by kernel_rfl
theorem agM:(bC.info? 54).map (fun i=>(i.zero,i.size,i.bytes))=some (some (.slice none 0 0),1,24):=by kernel_rfl
theorem Q3:(bC.info? 86).map (fun i=>(i.zero,i.size,i.bytes))=some (some (.agg #[.slice none 0 0]),1,24):=by kernel_rfl
theorem L8:(bC.info? 110).map (fun i=>(i.zero,i.size,i.bytes))=some (some (.agg #[.int .i64 0, .slice none 0 0]),2,32):=by kernel_rfl
theorem Q4:(bC.info? 52).map (fun i=>(i.zero,i.size,i.bytes))=some (some (.agg #[.int .i64 0, .int .i64 0, .int .i64 0, .slice none 0 0, .int .i64 0]),5,56):=by kernel_rfl
theorem L9:(bC.info? 113).map (fun i=>(i.zero,i.size,i.bytes))=some (some (.agg #[.int .i64 0, .slice none 0 0]),2,32):=by kernel_rfl
theorem Yt:(bC.info? 28).map (fun i=>(i.zero,i.size,i.bytes))=some (some (.agg #[.int .i64 0, .slice none 0 0]),2,32):=by kernel_rfl
theorem Yu:(bC.info? 56).map (fun i=>(i.zero,i.size,i.bytes))=some (some (.agg #[.int .i64 0, .int .i64 0, .int .i64 0, .int .i64 0, .slice none 0 0, .int .i64 0, .slice none 0 0, .int .i64 0]),8,96):=by kernel_rfl
theorem Q5:(bC.info? 58).map (fun i=>(i.zero,i.size,i.bytes))=some (some (.agg #[.int .i64 0, .int .i64 0, .int .i64 0, .int .i64 0, .slice none 0 0, .int .i64 0, .slice none 0 0, .int .i64 0, .int .i64 0, .int .i64 0, .int .i64 0, .int .i64 0, .slice none 0 0, .int .i64 0, .slice none 0 0, .int .i64 0]),16,192):=by kernel_rfl
theorem Yv:(bC.info? 31).map (fun i=>(i.zero,i.size,i.bytes))=some (some (.agg #[.int .i64 0, .slice none 0 0, .slice none 0 0, .int .i64 0, .slice none 0 0, .int .i64 0, .int .i64 0, .int .i64 0, .slice none 0 0, .int .i64 0]),10,144):=by kernel_rfl
theorem Ma:(bC.info? 120).map (fun i=>(i.zero,i.size,i.bytes))=some (some (.agg #[.int .i64 0, .int .i64 0, .int .i64 0, .int .i64 0, .int .i64 0]),5,40):=by kernel_rfl
theorem SN:(bC.info? 143).map (fun i=>(i.zero,i.size,i.bytes))=some (some (.agg #[.int .i64 0, .slice none 0 0]),2,32):=by kernel_rfl
theorem Mb:(bC.info? 131).map (fun i=>(i.zero,i.size,i.bytes))=some (some (.agg #[.int .i64 0, .int .i64 0, .slice none 0 0, .slice none 0 0, .int .i64 0]),5,72):=by kernel_rfl
theorem wO{P:Program}{i:Nat}{z:Option Value}{k b:Nat}(h:(P.info? i).map (fun i=>(i.zero,i.size,i.bytes))=some (z,k,b)):(P.info? i).map (·.size)=some k:=by
 cases hq:P.info? i with
 |none=>simp[hq]at h
 |some x=>simp[hq]at h;simp[h]
theorem acA{P:Program}{i:Nat}{z:Option Value}{k b:Nat}(h:(P.info? i).map (fun i=>(i.zero,i.size,i.bytes))=some (z,k,b)):(P.info? i).map (fun i=>(i.size,i.zero))=some (k,z):=by
 cases hq:P.info? i with
 |none=>simp[hq]at h
 |some x=>simp[hq]at h;simp[h]
theorem yd{P:Program}{t:Nat}{z:List Value}{tg:List (Option Tag)}{fo:List Nat}{fs:Array Field}{b:Nat}(hu:P.underlying t=some (.struct fs))(hi:(P.info? t).map (fun i=>(i.zero,i.size,i.bytes))=some (some (.agg z.toArray),z.length,b))(hz:z.all (·.oneCell')=true)(hf:BN P z.length fs.toList fo=true):fK P t (.st z tg fo):=
 ⟨fs,hu,acA hi,fun v hv=>bw.1 hz v hv,fun f k h=>by obtain⟨fd,h1,h2⟩:=(xQ hf).1 f k h;exact⟨fd,by simpa using h1,h2⟩,(xQ hf).2⟩
theorem jR{P:Program}{i:Nat}(h:(P.info? i).map (fun i=>aU i.size 1)=some true):(P.info? i).map (·.size)=some 1:=by
 cases hq:P.info? i with
 |none=>simp[hq]at h
 |some x=>simp[hq]at h;simp[h]
def tys:List (Nat×TK):= [(3, .int .i64),
 (2, .int .i64),
 (21, .int .i32),
 (5, .int .u8),
 (214, .int .u32),
 (170, .int .u64),
 (12, .int .u64),
 (4, .bool),
 (9, .str),
 (86, .st [.slice none 0 0] [some (.sl .u8)] [0]),
 (110, .st [.int .i64 0, .slice none 0 0] [none,some (.sl .u8)] [0,1]),
 (52, .st [.int .i64 0, .int .i64 0, .int .i64 0, .slice none 0 0, .int .i64 0] [none,none,none,some .bE,none] [0,1,2,3,4]),
 (113, .st [.int .i64 0, .slice none 0 0] [none,some (.sl .u8)] [0,1]),
 (28, .st [.int .i64 0, .slice none 0 0] [none,some .bz] [0,1]),
 (56, .st [.int .i64 0, .int .i64 0, .int .i64 0, .int .i64 0, .slice none 0 0, .int .i64 0, .slice none 0 0, .int .i64 0] [none,none,none,none,some (.sl .u8),none,some (.sl .u8),none] [0,1,2,3,4,5,6,7]),
 (58, .st [.int .i64 0, .int .i64 0, .int .i64 0, .int .i64 0, .slice none 0 0, .int .i64 0, .slice none 0 0, .int .i64 0, .int .i64 0, .int .i64 0, .int .i64 0, .int .i64 0, .slice none 0 0, .int .i64 0, .slice none 0 0, .int .i64 0] [none,none,none,none,some (.sl .u8),none,some (.sl .u8),none,none,none,none,none,some (.sl .u8),none,some (.sl .u8),none] [0,8]),
 (31, .st [.int .i64 0, .slice none 0 0, .slice none 0 0, .int .i64 0, .slice none 0 0, .int .i64 0, .int .i64 0, .int .i64 0, .slice none 0 0, .int .i64 0] [none,some .bZ,some .cz,none,some .bz,none,none,none,some .int,none] [0,1,2,3,5,6,7,8,9]),
 (120, .st [.int .i64 0, .int .i64 0, .int .i64 0, .int .i64 0, .int .i64 0] [none,none,none,none,none] [0,1,2,3,4]),
 (143, .st [.int .i64 0, .slice none 0 0] [none,some .u8] [0,1]),
 (131, .st [.int .i64 0, .int .i64 0, .slice none 0 0, .slice none 0 0, .int .i64 0] [none,none,some .int,some .u8,none] [0,1,2,3,4]),
 (29, .sl .int 3),
 (22, .sl .u8 5),
 (68, .sl .str 9),
 (54, .sl (.sl .u8) 22),
 (163, .sl (.sl .int) 29),
 (83, .sl .DB 86),
 (50, .sl .bE 110),
 (24, .sl .bZ 52),
 (26, .sl .bz 113),
 (25, .sl .cz 58),
 (80, .sl .gK 120),
 (162, .sl .eU 131)]
def Γ(t:Nat):TK:=match look tys t with|some k=>k|none=> .other
def ty:Tag→Nat
 | .int=>3
 | .u8=>5
 | .str=>9
 | (.sl .u8)=>22
 | (.sl .int)=>29
 | (.sl (.sl .u8))=>54
 | .DB=>86
 | .bE=>110
 | .bZ=>52
 | .bz=>113
 | .mE=>28
 | .gQ=>56
 | .cz=>58
 | .ck=>31
 | .gK=>120
 | .Plain=>143
 | .eU=>131
 |_=>1000000000
theorem agN:fK bC 3 (.int .i64):=Tryz.underlying3
theorem agO:fK bC 2 (.int .i64):=Tryz.underlying2
theorem acB:fK bC 21 (.int .i32):=Tryz.underlying21
theorem agP:fK bC 5 (.int .u8):=Tryz.underlying5
theorem Yw:fK bC 214 (.int .u32):=Tryz.underlying214
theorem Yx:fK bC 170 (.int .u64):=Tryz.underlying170
theorem acC:fK bC 12 (.int .u64):=Tryz.underlying12
theorem agQ:fK bC 4 (.bool):=Tryz.underlying4
theorem agR:fK bC 9 (.str):=Tryz.underlying9
theorem acD:fK bC 86 (.st [.slice none 0 0] [some (.sl .u8)] [0]):=yd Tryz.underlying86 Q3 rfl (by kernel_rfl)
theorem Yy:fK bC 110 (.st [.int .i64 0, .slice none 0 0] [none,some (.sl .u8)] [0,1]):=yd Tryz.underlying110 L8 rfl (by kernel_rfl)
theorem acE:fK bC 52 (.st [.int .i64 0, .int .i64 0, .int .i64 0, .slice none 0 0, .int .i64 0] [none,none,none,some .bE,none] [0,1,2,3,4]):=yd Tryz.underlying52 Q4 rfl (by kernel_rfl)
theorem Yz:fK bC 113 (.st [.int .i64 0, .slice none 0 0] [none,some (.sl .u8)] [0,1]):=yd Tryz.underlying113 L9 rfl (by kernel_rfl)
theorem acF:fK bC 28 (.st [.int .i64 0, .slice none 0 0] [none,some .bz] [0,1]):=yd Tryz.underlying28 Yt rfl (by kernel_rfl)
theorem acG:fK bC 56 (.st [.int .i64 0, .int .i64 0, .int .i64 0, .int .i64 0, .slice none 0 0, .int .i64 0, .slice none 0 0, .int .i64 0] [none,none,none,none,some (.sl .u8),none,some (.sl .u8),none] [0,1,2,3,4,5,6,7]):=yd Tryz.underlying56 Yu rfl (by kernel_rfl)
theorem acH:fK bC 58 (.st [.int .i64 0, .int .i64 0, .int .i64 0, .int .i64 0, .slice none 0 0, .int .i64 0, .slice none 0 0, .int .i64 0, .int .i64 0, .int .i64 0, .int .i64 0, .int .i64 0, .slice none 0 0, .int .i64 0, .slice none 0 0, .int .i64 0] [none,none,none,none,some (.sl .u8),none,some (.sl .u8),none,none,none,none,none,some (.sl .u8),none,some (.sl .u8),none] [0,8]):=yd Tryz.underlying58 Q5 rfl (by kernel_rfl)
theorem acI:fK bC 31 (.st [.int .i64 0, .slice none 0 0, .slice none 0 0, .int .i64 0, .slice none 0 0, .int .i64 0, .int .i64 0, .int .i64 0, .slice none 0 0, .int .i64 0] [none,some .bZ,some .cz,none,some .bz,none,none,none,some .int,none] [0,1,2,3,5,6,7,8,9]):=yd Tryz.underlying31 Yv rfl (by kernel_rfl)
theorem YA:fK bC 120 (.st [.int .i64 0, .int .i64 0, .int .i64 0, .int .i64 0, .int .i64 0] [none,none,none,none,none] [0,1,2,3,4]):=yd Tryz.underlying120 Ma rfl (by kernel_rfl)
theorem YB:fK bC 143 (.st [.int .i64 0, .slice none 0 0] [none,some .u8] [0,1]):=yd Tryz.underlying143 SN rfl (by kernel_rfl)
theorem YC:fK bC 131 (.st [.int .i64 0, .int .i64 0, .slice none 0 0, .slice none 0 0, .int .i64 0] [none,none,some .int,some .u8,none] [0,1,2,3,4]):=yd Tryz.underlying131 Mb rfl (by kernel_rfl)
theorem acJ:fK bC 29 (.sl .int 3):=⟨Tryz.underlying29,wO aeS⟩
theorem acK:fK bC 22 (.sl .u8 5):=⟨Tryz.underlying22,wO aeT⟩
theorem acL:fK bC 68 (.sl .str 9):=⟨Tryz.underlying68,wO aeU⟩
theorem acM:fK bC 54 (.sl (.sl .u8) 22):=⟨Tryz.underlying54,wO Yr⟩
theorem YD:fK bC 163 (.sl (.sl .int) 29):=⟨Tryz.underlying163,wO Ys⟩
theorem acN:fK bC 83 (.sl .DB 86):=⟨Tryz.underlying83,wO Q3⟩
theorem acO:fK bC 50 (.sl .bE 110):=⟨Tryz.underlying50,wO L8⟩
theorem acP:fK bC 24 (.sl .bZ 52):=⟨Tryz.underlying24,wO Q4⟩
theorem acQ:fK bC 26 (.sl .bz 113):=⟨Tryz.underlying26,wO L9⟩
theorem acR:fK bC 25 (.sl .cz 58):=⟨Tryz.underlying25,wO Q5⟩
theorem acS:fK bC 80 (.sl .gK 120):=⟨Tryz.underlying80,wO Ma⟩
theorem YE:fK bC 162 (.sl .eU 131):=⟨Tryz.underlying162,wO Mb⟩
set_option maxRecDepth 100000 in
theorem kinds: ∀e,e∈tys→fK bC e.1 e.2:=by
 simp only[tys,zZ]
 exact⟨agN,agO,acB,agP,Yw,Yx,acC,agQ,agR,acD,Yy,acE,Yz,acF,acG,acH,acI,YA,YB,YC,acJ,acK,acL,acM,YD,acN,acO,acP,acQ,acR,acS,YE,by simp⟩
set_option maxRecDepth 100000 in
theorem al9: ∀e,e∈tys→(∀z tg fo,e.2≠ .st z tg fo)→(bC.info? e.1).map (·.size)=some 1:=by
 simp only[tys,zZ]
 refine⟨fun _=>jR (by kernel_rfl),fun _=>jR (by kernel_rfl),fun _=>jR (by kernel_rfl),fun _=>jR (by kernel_rfl),fun _=>jR (by kernel_rfl),fun _=>jR (by kernel_rfl),fun _=>jR (by kernel_rfl),fun _=>jR (by kernel_rfl),fun _=>jR (by kernel_rfl),fun h=>absurd rfl (h _ _ _),fun h=>absurd rfl (h _ _ _),fun h=>absurd rfl (h _ _ _),fun h=>absurd rfl (h _ _ _),fun h=>absurd rfl (h _ _ _),fun h=>absurd rfl (h _ _ _),fun h=>absurd rfl (h _ _ _),fun h=>absurd rfl (h _ _ _),fun h=>absurd rfl (h _ _ _),fun h=>absurd rfl (h _ _ _),fun h=>absurd rfl (h _ _ _),fun _=>jR (by kernel_rfl),fun _=>jR (by kernel_rfl),fun _=>jR (by kernel_rfl),fun _=>jR (by kernel_rfl),fun _=>jR (by kernel_rfl),fun _=>jR (by kernel_rfl),fun _=>jR (by kernel_rfl),fun _=>jR (by kernel_rfl),fun _=>jR (by kernel_rfl),fun _=>jR (by kernel_rfl),fun _=>jR (by kernel_rfl),fun _=>jR (by kernel_rfl),by simp⟩
theorem X:Ctx bC ty Γ where
 kind:=fun t=>by
  unfold Γ
  split
  ·rename_i k hk;exact kinds (t,k) (ji hk)
  ·trivial
 one:=fun t h1 h2=>by
  unfold Γ at h1 h2
  split at h1
  ·rename_i k hk;exact al9 (t,k) (ji hk) h1
  ·rename_i hk;rw[hk]at h2;exact absurd rfl h2
theorem bM(t:Tag)(h:ty t<1000000000):El bC ty t:=by
 unfold ty at h
 split at h
 ·exact aeS
 ·exact aeT
 ·exact aeU
 ·exact Yr
 ·exact Ys
 ·exact agM
 ·exact Q3
 ·exact L8
 ·exact Q4
 ·exact L9
 ·exact Yt
 ·exact Yu
 ·exact Q5
 ·exact Yv
 ·exact Ma
 ·exact SN
 ·exact Mb
 ·exact absurd h (by decide)
abbrev So:=Sound ty bC
end
section
theorem MO:bC.follows .mixedOrders=true:=by kernel_rfl
theorem nb:(∀(p:Prop) [Decidable p],(decide p=true)=p)∧(∀(p:Prop) [Decidable p],(decide p=false)= ¬p)∧(∀b:Bool,((!b)=true)=(b=false))∧(∀b:Bool,((!b)=false)=(b=true))∧
  (∀(α:Type) [BEq α] [LawfulBEq α] (a b:α),((a==b)=true)=(a=b))∧(∀(α:Type) [BEq α] [LawfulBEq α] (a b:α),((a !=b)=true)=(¬a=b))∧(∀(α:Type) [BEq α] [LawfulBEq α] (a b:α),((a==b)=false)=(¬a=b))∧(∀(α:Type) [BEq α] [LawfulBEq α] (a b:α),((a !=b)=false)=(a=b))∧
  (∀(α:Type) (a b:α),(a≠b)= ¬a=b)∧(∀a b:Int,(a>b)=(b<a))∧(∀a b:Int,(a≥b)=(b≤a))∧(∀a b:Nat,(a>b)=(b<a))∧(∀a b:Nat,(a≥b)=(b≤a))∧(∀a b:Int,(¬a<b)=(b≤a))∧(∀a b:Int,(¬a≤b)=(b<a))∧
  (∀(p:Prop) [Decidable p],(¬ ¬p)=p)∧(∀n:Nat,(n:Int).toNat=n)∧(∀m n:Nat,((m:Int)<n)=(m<n))∧(∀m n:Nat,((m:Int)≤n)=(m≤n))∧(∀a b:Nat,(¬a<b)=(b≤a))∧(∀a b:Nat,(¬a≤b)=(b<a))∧
  (∀(p:Prop) [Decidable p] (b:Bool),(if p then b else false)=(decide p&&b))∧(∀(p:Prop) [Decidable p] (b:Bool),(if p then true else b)=(decide p||b))∧(∀(p:Prop) [Decidable p] (b:Bool),(if p then false else b)=(!decide p&&b))∧(∀(p:Prop) [Decidable p] (b:Bool),(if p then b else true)=(!decide p||b))∧
  (∀a b:Bool,((a&&b)=true)=(a=true∧b=true))∧(∀a b:Bool,((a||b)=true)=(a=true∨b=true))∧(∀a b:Bool,((a&&b)=false)=(a=false∨b=false))∧(∀a b:Bool,((a||b)=false)=(a=false∧b=false))∧(∀(b:Bool),decide (b=true)=b):=by
 refine⟨by simp,by simp,by simp,by simp,fun _ _ _ a b=>propext beq_iff_eq,fun _ _ _ a b=>propext bne_iff_ne,fun _ _ _ a b=>propext beq_eq_false_iff_ne,fun _ _ _ a b=>propext bne_eq_false_iff_eq,by simp,by simp,by simp,by simp,by simp,by simp,by simp,by simp,by simp,by simp,by simp,by simp,by simp,by simp,by simp,by simp,by simp,by simp,by simp,by simp,by simp,by simp⟩
theorem lens:(∀n:Nat,(n:Int).toNat=n)∧(∀(α:Type) (a b:List α),(a++b).length=a.length+b.length)∧(∀(α:Type) (a:α),[a].length=1)∧(∀(α:Type) (a:α) (l:List α),(a::l).length=l.length+1)∧(∀(α:Type),([]:List α).length=0)∧(∀(α:Type) (n:Nat) (a:α),(eF n a).length=n)∧
  (∀(α:Type) (l:List α) (n:Nat) (a:α),(l.set n a).length=l.length)∧(∀(α β:Type) (f:α→β) (l:List α),(l.map f).length=l.length)∧(∀(α:Type) (l:List α) (n:Nat),(l.take n).length=min n l.length)∧(∀(α:Type) (l:List α) (n:Nat),(l.drop n).length=l.length-n)∧(∀n:Nat,(bD n).length=n):=by
 refine⟨by simp,by simp,by simp,by simp,by simp,by simp,by simp,by simp,by simp,by simp,by simp⟩
theorem bJ{p:Prop}{l:List Prop}(h:p)(k:qK l):qK (p::l):=⟨h,k⟩
theorem bF:qK []:=True.intro
theorem cM{α:Type}(l:List α)(k:Nat)(d:α)(h:k<l.length):l.take (k+1)=l.take k++ [l.getD k d]:=by
 rw[List.take_add_one,an,au h];rfl
theorem dh(a:Int)(n:Nat)(h:a=n)(h2:n<9223372036854775807):aq.wrap (a+1)=((n+1:Nat):Int):=by
 subst h;rw[IntWalk.i64_in _ (by omega)];omega
theorem YF{P:Program}{ty:Tag→Nat}{f:FuncId}{xs:List S1}{v:Value}(h:Sound ty P f xs [.a (.lit v)]){w:World}{us:List Value}(ha:cT (Ly w) xs us)(hA:Lr w:=by first|assumption|exact trivial):Calls P f us.toArray w (aen w v):=by
 refine(h.2 w us hA ha).mono ?_
 rintro e w' ⟨u,fp,rfl,hb,_,f1,f2,⟨rfl,_⟩,_⟩
 exact⟨rfl,hb⟩
theorem eV{P:Program}{ty:Tag→Nat}{w0:eK}{c:Code}{Q:Post}{st:St}(d:Nat){t:Tag}{l:List (T t)}(h:look st.sl d=some (.one (.a (.sl t l))))(k:l.length≤9223372036854775807→W P ty w0 c Q st):W P ty w0 c Q st:=by
 intro a w iv
 obtain⟨env,g⟩:=iv.good
 obtain⟨fp,⟨oa,cap,_,h1,h2,_⟩,_⟩:=g.slot d _ h
 have e:maxLen=9223372036854775807:=by decide
 exact k (by omega) a w iv
theorem dn{P:Program}{ty:Tag→Nat}{w0:eK}{c:Code}{Q:Post}{st:St}(d i:Nat){cs:List V}{t:Tag}{l:List (T t)}(h:look st.sl d=some (.one (.agg cs)))(hc:cs[i]? =some (.sl t l))(k:l.length≤9223372036854775807→W P ty w0 c Q st):W P ty w0 c Q st:=by
 intro a w iv
 obtain⟨env,g⟩:=iv.good
 obtain⟨us,_,hr⟩:=g.slot d _ h
 obtain⟨u,_,fp,⟨oa,cap,_,h1,h2,_⟩,_⟩:=hr.at hc
 have e:maxLen=9223372036854775807:=by decide
 exact k (by omega) a w iv
theorem rD{α:Type} [DecidableEq α](a b:List α)(d:α)(k:Nat)(ha:k<a.length)(hb:k<b.length)(h:a.take k=b.take k)(he:a.getD k d=b.getD k d):a.take (k+1)=b.take (k+1):=by
 rw[cM a k d ha,cM b k d hb,h,he]
theorem AW{α:Type} [BEq α] [LawfulBEq α](a b:List α)(d:α)(k:Nat)(he:a.getD k d≠b.getD k d):(a==b)=false:=by
 rw[beq_eq_false_iff_ne];rintro rfl;exact he rfl
theorem vV{α:Type} [BEq α] [LawfulBEq α](a b:List α)(k:Nat)(hk:k=a.length)(hl:a.length=b.length)(h:a.take k=b.take k):(a==b)=true:=by
 rw[aB (by omega),aB (by omega)]at h
 rw[h];simp
theorem DZ{α:Type} [BEq α] [LawfulBEq α](a b:List α)(hl:(a.length:Int)≠b.length):(a==b)=false:=by
 rw[beq_eq_false_iff_ne];rintro rfl;exact hl rfl
theorem YG{x y:UInt8}(h:(x.toNat:Int)=y.toNat):x=y:=by
 have:x.toNat=y.toNat:=by omega
 exact UInt8.toNat_inj.1 this
theorem Vq(a:List UInt8):(sk a).data.toList=a:=rfl
theorem D0(a:List UInt8):(sk a).size=a.length:=rfl
theorem Oj(l:List (List UInt8)):l.map ((fun x:ByteArray=>x.data.toList)∘sk)=l:=List.map_id l
end
section
theorem YI{α:Type}(f:α→Nat)(l:List α)(d:α)(k:Nat)(h:k<l.length):((l.take (k+1)).map f).sum=((l.take k).map f).sum+f (l.getD k d):=
 Nq l f k _ (by rw[an,au h];rfl)
theorem acT(x:UInt8):dP (cL ((x.toNat:Nat):Int))=x:=by simp
theorem kA(n:Int):0≤cE.wrap n∧cE.wrap n<256:=by
 unfold Ok
 simp only[JR,Ol]
 simp
 omega
theorem uA(x:UInt8):0≤((x.toNat:Nat):Int)∧((x.toNat:Nat):Int)<256:=by
 have:=x.toNat_lt
 omega
theorem ajy(n:Int):(((dP (cE.wrap n).toNat).toNat:Nat):Int)=cE.wrap n:=by
 have h:=kA n
 generalize cE.wrap n=m at h
 simp
 omega
section
variable{α:Type}{mk:Int→α→α}{mn:α→Nat}
end
end
section
theorem cV{a:Int}(h: -9223372036854775808≤a∧a≤9223372036854775807):aq.wrap a=a:=IntWalk.i64_in _ (by omega)
theorem AX(n:Int):cE.wrap n=n % 256:=by
 unfold Ok
 simp only[JR,Ol]
 simp
def b8(n:Int):UInt8:=dP (cE.wrap n).toNat
theorem qv(n:Int):((b8 n).toNat:Int)=n % 256:=by unfold b8;rw[ajy,AX]
theorem Mc{x y:UInt8}(h:(x.toNat:Int)=y.toNat):x=y:=YG h
theorem ofNat_toNat(n:Int)(h0:0≤n)(h1:n<256):((dP n.toNat).toNat:Int)=n:=by
 simp;omega
theorem ofNat_eq{n:Int}{x:UInt8}(h0:0≤n)(h1:n<256)(h:n=x.toNat):dP n.toNat=x:=by
 apply Mc;rw[ofNat_toNat n h0 h1,h]
theorem yf{a b:Int}(h:a % 256=b % 256):b8 a=b8 b:=by
 apply Mc;rw[qv,qv,h]
theorem acU(x:UInt8):b8 x.toNat=x:=by
 apply Mc;rw[qv];have:=x.toNat_lt;omega
theorem gx{a b:Int}(h:0≤a):a.tmod b=a % b:=Int.tmod_eq_emod_of_nonneg h
theorem Ci{a b:Int}(h:0≤a):a.tdiv b=a/b:=Int.tdiv_eq_ediv_of_nonneg h
theorem md_eq(p q:Int)(h1:1≤q)(h2:q≤1000000000000):(aq.wrap (p.tmod q+q)).tmod q=p % q:=by
 have hb: -q<p.tmod q∧p.tmod q<q:=⟨Int.lt_tmod_of_pos p (by omega),Int.tmod_lt_of_pos p (by omega)⟩
 rw[cV (by omega),gx (by omega),Int.add_emod_right]
 rcases Int.le_total 0 p with h|h
 ·rw[gx h,Int.emod_emod_of_dvd _ (Int.dvd_refl q)]
 ·have e:p.tmod q=p-q*p.tdiv q:=by have:=Int.tmod_add_mul_tdiv p q;omega
  rw[e,Int.sub_mul_emod_self_left]
def hs1(h v:Int):Int:=(h*1000003+v % 2147483647+13)% 2147483647
def hsh(l:List Int):Int:=l.foldl hs1 11
def kh(k:Int)(l:List Int):Int:=hsh (k::(l++ [k]))
theorem Vr(h v:Int):0≤hs1 h v∧hs1 h v<2147483647:=⟨j9 _ (by decide),jK _ (by decide)⟩
theorem AY{α β:Type}(f:β→α→β)(b:β)(l:List α)(k:Nat)(d:α)(h:k<l.length):(l.take (k+1)).foldl f b=f ((l.take k).foldl f b) (l.getD k d):=by
 rw[cM l k d h,ep];rfl
theorem D1: ∀l:List Int,0≤hsh l∧hsh l<2147483647:=by
 have g: ∀(l:List Int) (a:Int),(0≤a∧a<2147483647)→0≤l.foldl hs1 a∧l.foldl hs1 a<2147483647:=by
  intro l
  induction l with
  |nil=>intro a h;exact h
  |cons x r ih=>intro a _;exact ih _ (Vr a x)
 exact fun l=>g l 11 (by decide)
theorem gm(k:Int)(l:List Int):0≤kh k l∧kh k l<2147483647:=D1 _
theorem agS{h v:Int}(h0:0≤h)(h1:h<2147483647):(aq.wrap (aq.wrap (aq.wrap (h*1000003)+v % 2147483647)+13)).tmod 2147483647=hs1 h v:=by
 have hv:0≤v % 2147483647∧v % 2147483647<2147483647:=⟨j9 _ (by decide),jK _ (by decide)⟩
 rw[cV (a:=h*1000003) (by omega),cV (a:=h*1000003+v % 2147483647) (by omega),cV (by omega),gx (by omega)]
 rfl
def Fl(n:Int):Int:=if n=0 then 1 else n
theorem Gt{n:Int}(h:0≤n):(if n>1 then n else 1)=Fl n:=by
 unfold Fl;split<;>split<;>omega
theorem zG{n:Int}(h:0≤n∧n<2147483647):1≤Fl n∧Fl n<2147483647:=by unfold Fl;split<;>omega
theorem ajz{h:Int}(h0:0≤h)(h1:h<2147483647):0≤h*h∧h*h≤4611686009837453316:=by
 have:=Int.mul_le_mul (show h≤2147483646 by omega) (show h≤2147483646 by omega) h0 (by decide)
 exact⟨Int.mul_nonneg h0 h0,by omega⟩
def cs(s k:Int):Int:=(kh s [47,k]*kh s [47,k]+5)% 2147483647
theorem yg(s k:Int):0≤cs s k∧cs s k<2147483647:=⟨j9 _ (by decide),jK _ (by decide)⟩
theorem cs_eq{h:Int}(h0:0≤h)(h1:h<2147483647):(aq.wrap (aq.wrap (h*h)+5)).tmod 2147483647=(h*h+5)% 2147483647:=by
 have:=ajz h0 h1
 rw[cV (a:=h*h) (by omega),cV (by omega),gx (by omega)]
theorem ama{x:Int}(h:0≤x):aq.wrap (aV aq.bits x&&&aV aq.bits 1).toNat=x % 2:=by
 obtain⟨n,rfl⟩:=vW h
 have e:(aV aq.bits (n:Int)&&&aV aq.bits 1).toNat=n % 2:=by
  rw[BitVec.toNat_and]
  have h1:(aV aq.bits 1).toNat=1:=by decide
  have h2:(aV aq.bits (n:Int)).toNat=n % 2^64:=by
   rw[iJ,jL];rfl
  rw[h1,h2,Nat.and_one_is_mod]
  omega
 rw[e,cV (by omega)]
 omega
def rsb(h:Int):Int:=h*h % 2147483647/512 % 2
theorem agT{h:Int}(h0:0≤h)(h1:h<2147483647):aq.wrap (aV aq.bits (((aq.wrap (h*h)).tmod 2147483647).fdiv (2^(min (cL 9) aq.bits)))&&&aV aq.bits 1).toNat=rsb h:=by
 have:=ajz h0 h1
 have e:(2:Int)^(min (cL 9) aq.bits)=512:=by decide
 rw[cV (a:=h*h) (by omega),gx (by omega),e,jv _ (by decide)]
 have hm:0≤h*h % 2147483647:=j9 _ (by decide)
 rw[ama (by omega)]
 rfl
theorem Vt(h:Int):rsb h=0∨rsb h=1:=by unfold rsb;omega
def fG:List UInt8→List UInt8→List UInt8
 | [],b=>b
 |a,[]=>a
 |x::a,y::b=>(x^^^y)::fG a b
theorem lK(a:List UInt8):fG a []=a:=by cases a<;>rfl
theorem p8(a:List UInt8):fG [] a=a:=by cases a<;>rfl
theorem eI: ∀a b:List UInt8,(fG a b).length=max a.length b.length
 | [],b=>by simp[fG]
 |x::a,[]=>by simp[fG]
 |x::a,y::b=>by simp[fG,eI a b]
theorem KC: ∀a b:List UInt8,fG a b=fG b a
 | [],b=>by rw[p8,lK]
 |x::a,[]=>by rw[p8,lK]
 |x::a,y::b=>by rw[fG,fG,KC a b,uB]
theorem YJ(x y:UInt8):dP (cE.wrap ((aV cE.bits (x.toNat:Int)^^^aV cE.bits (y.toNat:Int)).toNat:Int)).toNat=x^^^y:=by
 have h:(aV cE.bits (x.toNat:Int)^^^aV cE.bits (y.toNat:Int)).toNat=(x^^^y).toNat:=by
  rw[iJ,iJ,FY,jL,jL,HZ]
  have hx:=x.toNat_lt
  have hy:=y.toNat_lt
  show x.toNat % 2^8^^^y.toNat % 2^8=_
  rw[kO (by omega),kO (by omega)]
 rw[h,AX]
 apply ofNat_eq<;>have:=(x^^^y).toNat_lt<;>omega
def uS(l:List UInt8)(i:Nat):UInt8:=l.getD i 0
theorem uT: ∀(a b:List UInt8) (k:Nat),k<max a.length b.length→(fG a b).take (k+1)=(fG a b).take k++ [uS a k^^^uS b k]
 | [],b,k,h=>by
   rw[p8,cM b k 0 (by simpa using h)]
   simp[uS]
 |x::a,[],k,h=>by
  rw[lK,cM (x::a) k 0 (by simpa using h)]
  simp[uS]
 |x::a,y::b,0,h=>by simp[fG,uS]
 |x::a,y::b,k+1,h=>by
  rw[fG,kB,kB,uT a b k (by simp at h;omega)]
  simp[uS]
theorem nA{α:Type}(l:List α)(k:Nat)(d:α)(h:k<l.length):l.drop k=l.getD k d::l.drop (k+1):=by
 rw[eG h,an,au h];rfl
theorem yh{α:Type}(f l:List α)(k:Nat)(d y:α)(h:k<l.length)(hf:k<f.length)(hy:f.getD k d=y):(f.take k++l.drop k).set k y=f.take (k+1)++l.drop (k+1):=by
 have hk:(f.take k).length=k:=by rw[bV];omega
 rw[yj _ _ (by omega),hk,qn,nA l k d h,List.set_cons_zero,cM f k d hf,ct,hy]
 rfl
theorem nW{α:Type}(f l:List α)(k:Nat)(d:α)(hf:k≤f.length):(f.take k++l.drop k).getD k d=l.getD k d:=by
 have hk:(f.take k).length=k:=by rw[bV];omega
 rw[an,bU (by omega),hk,qn,cN,an,Nat.add_zero]
theorem nX{α:Type}(f l:List α)(k:Nat)(hf:f.length=l.length)(h:k≤l.length):(f.take k++l.drop k).length=l.length:=by
 rw[aY,bV,bW];omega
theorem qw{α β:Type}(f:α→β)(l:List α)(k:Nat)(d:α)(h:k<l.length):(l.take (k+1)).map f=(l.take k).map f++ [f (l.getD k d)]:=by
 rw[cM l k d h,eu];rfl
theorem AZ{β:Type}(f:Nat→β)(k:Nat):(bD (k+1)).map f=(bD k).map f++ [f k]:=by
 rw[eN,eu];rfl
theorem H6{α:Type}(p:α→Bool)(l:List α)(k:Nat)(d:α)(h:k<l.length):(l.take (k+1)).all p=((l.take k).all p&&p (l.getD k d)):=by
 rw[cM l k d h,H7];simp
theorem YK{α:Type}(p:α→Bool)(l:List α)(k:Nat)(d:α)(h:k<l.length):(l.take (k+1)).any p=((l.take k).any p||p (l.getD k d)):=by
 rw[cM l k d h,List.any_append];simp
theorem Gu{α:Type}(l:List α)(p:α→Bool)(d:α)(k:Nat)(h:k<l.length)(h2:p (l.getD k d)=true):l.any p=true:=by
 rw[eZ]
 refine⟨l.getD k d,?_,h2⟩
 rw[an,au h];simp
theorem Q6{α:Type}(l:List α)(p:α→Bool)(d:α)(k:Nat)(h:k<l.length)(h2:p (l.getD k d)=false):l.all p=false:=by
 rw[pF]
 refine⟨l.getD k d,?_,by rw[h2];decide⟩
 rw[an,au h];simp
theorem Q7{α:Type}(l:List α)(k:Nat)(d:α)(h:k<l.length):l[k]? =some (l.getD k d):=by
 rw[an,au h];rfl
theorem cG{α:Type}(l:List α)(k:Nat):(l.take k).length≤k:=by rw[bV];omega
def inr(x lo hi:Int):Bool:=if decide (x≥lo)then decide (x≤hi)else false
theorem dD{x lo hi:Int}:(inr x lo hi=true)=(lo≤x∧x≤hi):=by simp[inr]
theorem aeX{x lo hi:Int}:(inr x lo hi=false)= ¬(lo≤x∧x≤hi):=by rw[←dD];simp
theorem Vu{α:Type}{l:List α}:(l.isEmpty=true)=(l= []):=by simp
theorem bO:((∀(p:Prop) [Decidable p],(decide p=true)=p)∧(∀(p:Prop) [Decidable p],(decide p=false)= ¬p)∧(∀b:Bool,((!b)=true)=(b=false))∧(∀b:Bool,((!b)=false)=(b=true))∧(∀(α:Type) [BEq α] [LawfulBEq α] (a b:α),((a==b)=true)=(a=b))∧(∀(α:Type) [BEq α] [LawfulBEq α] (a b:α),((a !=b)=true)=(¬a=b))∧(∀(α:Type) [BEq α] [LawfulBEq α] (a b:α),((a==b)=false)=(¬a=b))∧(∀(α:Type) [BEq α] [LawfulBEq α] (a b:α),((a !=b)=false)=(a=b))∧(∀(α:Type) (a b:α),(a≠b)= ¬a=b)∧(∀a b:Int,(a>b)=(b<a))∧(∀a b:Int,(a≥b)=(b≤a))∧(∀a b:Nat,(a>b)=(b<a))∧(∀a b:Nat,(a≥b)=(b≤a))∧(∀a b:Int,(¬a<b)=(b≤a))∧(∀a b:Int,(¬a≤b)=(b<a))∧(∀(p:Prop) [Decidable p],(¬ ¬p)=p)∧(∀n:Nat,(n:Int).toNat=n)∧(∀m n:Nat,((m:Int)<n)=(m<n))∧(∀m n:Nat,((m:Int)≤n)=(m≤n))∧(∀a b:Nat,(¬a<b)=(b≤a))∧(∀a b:Nat,(¬a≤b)=(b<a))∧(∀(p:Prop) [Decidable p] (b:Bool),(if p then b else false)=(decide p&&b))∧(∀(p:Prop) [Decidable p] (b:Bool),(if p then true else b)=(decide p||b))∧(∀(p:Prop) [Decidable p] (b:Bool),(if p then false else b)=(!decide p&&b))∧(∀(p:Prop) [Decidable p] (b:Bool),(if p then b else true)=(!decide p||b))∧(∀a b:Bool,((a&&b)=true)=(a=true∧b=true))∧(∀a b:Bool,((a||b)=true)=(a=true∨b=true))∧(∀a b:Bool,((a&&b)=false)=(a=false∨b=false))∧(∀a b:Bool,((a||b)=false)=(a=false∧b=false))∧(∀(b:Bool),decide (b=true)=b))∧(∀x lo hi:Int,(inr x lo hi=true)=(lo≤x∧x≤hi))∧(∀x lo hi:Int,(inr x lo hi=false)= ¬(lo≤x∧x≤hi))∧(∀(α:Type) (l:List α),(l.isEmpty=true)=(l= [])):=⟨nb,fun _ _ _=>dD,fun _ _ _=>aeX,fun _ _=>Vu⟩
theorem On(l:List Int)(k:Nat)(h:k<l.length):hsh (l.take (k+1))=(aq.wrap (aq.wrap (aq.wrap (hsh (l.take k)*1000003)+(l.getD k (aP .int))% 2147483647)+13)).tmod 2147483647:=by
 rw[agS (D1 _).1 (D1 _).2]
 exact AY hs1 11 l k _ h
def JC(l:List UInt8):List Int:=(l.length:Int)::l.map fun c=>(c.toNat:Int)
theorem Oo(l:List UInt8)(k:Nat)(h:k<l.length):(l.length:Int)::(l.take (k+1)).map (fun c=>(c.toNat:Int))=((l.length:Int)::(l.take k).map (fun c=>(c.toNat:Int)))++ [aq.wrap ((l.getD k (aP .u8)).toNat:Int)]:=by
 have:=(l.getD k (aP .u8)).toNat_lt
 rw[cV (by omega),qw (fun c:UInt8=>(c.toNat:Int)) l k (aP .u8) h]
 rfl
def stream(s:Int)(n:Nat):List UInt8:=(bD n).map fun i:Nat=>b8 (cs s (100+(i:Int))/256)
theorem gN(s:Int)(n:Nat):(stream s n).length=n:=by simp[stream]
theorem Fm(s:Int)(k:Nat)(h:k≤1000):stream s (k+1)=stream s k++ [dP (cE.wrap (aq.wrap ((cs s (aq.wrap (100+(k:Int)))).tdiv 256))).toNat]:=by
 have h1:=yg s (100+(k:Int))
 rw[cV (a:=100+(k:Int)) (by omega),Ci h1.1,cV (by omega)]
 exact AZ (fun i:Nat=>b8 (cs s (100+(i:Int))/256)) k
theorem Oq{α:Type}(l:List (List α))(d:List α)(k:Nat)(h:k<l.length):((l.take (k+1)).map aQ).sum=((l.take k).map aQ).sum+(l.getD k d).length:=YI aQ l d k h
theorem Md{α:Type}(l:List (List α))(d:List α)(k:Nat)(h:k<l.length):(l.take (k+1)).flatten=(l.take k).flatten++l.getD k d:=by
 rw[cM l k d h,List.flatten_append];simp
theorem Fo{α:Type}(l:List (List α))(k:Nat):(l.take k).flatten.length≤(l.map aQ).sum:=by
 rw[List.length_flatten];exact qd l aQ k
end
section
theorem vY{α:Type}(f l:List α)(k:Nat)(d y:α)(h:k<l.length)(hf:f.length=l.length)(hy:f.getD k d=y):f.take (k+1)++l.drop (k+1)=(f.take k++l.drop k).set k y:=(yh f l k d y h (by omega) hy).symm
theorem Fp{α:Type}(f:List α)(k:Nat)(d y:α)(h:k<f.length)(hy:f.getD k d=y):f.take (k+1)=f.take k++ [y]:=by rw[cM f k d h,hy]
theorem rE{α:Type}(f l:List α)(k:Nat)(hf:f.length=l.length)(h:l.length≤k):f.take k++l.drop k=f:=by
 rw[aB (by omega),List.drop_eq_nil_of_le h,cS]
theorem fM{β:Type}(n:Nat)(g:Nat→β)(k:Nat)(d:β)(h:k<n):((bD n).map g).getD k d=g k:=by
 rw[an,dR,List.getElem?_range h];rfl
def lM(s:Int)(l:List UInt8):List UInt8:=(bD l.length).map fun i:Nat=>b8 ((l.getD i (aP .u8)).toNat+kh s [(i:Int)]% 256)
theorem gI(s:Int)(l:List UInt8):(lM s l).length=l.length:=by simp[lM]
theorem Cj(s:Int)(l:List UInt8)(k:Nat)(h:k<l.length):(lM s l).getD k (aP .u8)=b8 ((l.getD k (aP .u8)).toNat+kh s [(k:Int)]% 256):=fM _ _ k _ h
theorem Vx(s:Int)(l:List UInt8)(k:Nat)(h:k<l.length):(lM s l).take (k+1)++l.drop (k+1)=((lM s l).take k++l.drop k).set k (dP (cE.wrap ((((lM s l).take k++l.drop k).getD k (aP .u8)).toNat+cE.wrap ((kh s [(k:Int)]).tmod 256))).toNat):=by
 refine vY _ _ k (aP .u8) _ h (gI s l) ?_
 rw[Cj s l k h,nW _ _ _ _ (by rw[gI];omega)]
 refine yf ?_
 have:=gm s [(k:Int)]
 rw[AX ((kh s [(k:Int)]).tmod 256),gx this.1]
 omega
theorem Vy(s:Int)(l:List UInt8)(k:Nat)(h:k<l.length):(lM s l).take (k+1)=(lM s l).take k++ [dP (cE.wrap ((aq.wrap (aq.wrap ((l.getD k (aP .u8)).toNat:Int)+(kh s [(k:Int)]).tmod 256)).tmod 256)).toNat]:=by
 refine Fp _ k (aP .u8) _ (by rw[gI];exact h) ?_
 rw[Cj s l k h]
 refine yf ?_
 have:=gm s [(k:Int)]
 have hx:=(l.getD k (aP .u8)).toNat_lt
 rw[gx this.1,cV (a:=((l.getD k (aP .u8)).toNat:Int)) (by omega),cV (by omega),gx (by omega)]
 omega
def decr(s:Int)(l:List UInt8):List UInt8:=(bD l.length).map fun i:Nat=>b8 ((l.getD i (aP .u8)).toNat-kh s [(i:Int)]% 256)
theorem qx(s:Int)(l:List UInt8):(decr s l).length=l.length:=by simp[decr]
theorem H9(s:Int)(l:List UInt8)(k:Nat)(h:k<l.length):(decr s l).getD k (aP .u8)=b8 ((l.getD k (aP .u8)).toNat-kh s [(k:Int)]% 256):=fM _ _ k _ h
theorem Vz(s:Int)(l:List UInt8)(k:Nat)(h:k<l.length):(decr s l).take (k+1)++l.drop (k+1)=((decr s l).take k++l.drop k).set k (dP (cE.wrap ((((decr s l).take k++l.drop k).getD k (aP .u8)).toNat-cE.wrap ((kh s [(k:Int)]).tmod 256))).toNat):=by
 refine vY _ _ k (aP .u8) _ h (qx s l) ?_
 rw[H9 s l k h,nW _ _ _ _ (by rw[qx];omega)]
 refine yf ?_
 have:=gm s [(k:Int)]
 rw[AX ((kh s [(k:Int)]).tmod 256),gx this.1]
 omega
theorem VA(s:Int)(l:List UInt8)(k:Nat)(h:k<l.length):(decr s l).take (k+1)=(decr s l).take k++ [dP (cE.wrap ((aq.wrap (aq.wrap ((l.getD k (aP .u8)).toNat:Int)-(kh s [(k:Int)]).tmod 256))% 256)).toNat]:=by
 refine Fp _ k (aP .u8) _ (by rw[qx];exact h) ?_
 rw[H9 s l k h]
 refine yf ?_
 have:=gm s [(k:Int)]
 have hx:=(l.getD k (aP .u8)).toNat_lt
 rw[gx this.1,cV (a:=((l.getD k (aP .u8)).toNat:Int)) (by omega),cV (by omega)]
 omega
theorem YO(a b:List UInt8)(k:Nat)(h:k<max a.length b.length):(fG a b).getD k (aP .u8)=a.getD k 0^^^b.getD k 0:=by
 have h1:=uT a b k h
 have h2:=cM (fG a b) k (aP .u8) (by rw[eI];exact h)
 rw[h1]at h2
 have:=List.append_inj_right h2 rfl
 simp only[List.cons.injEq,and_true]at this
 rw[←this];rfl
theorem Oz(p q:List UInt8)(k:Nat)(h:k<q.length)(hl:q.length≤p.length):(fG p q).take (k+1)++p.drop (k+1)=((fG p q).take k++p.drop k).set k (dP (cE.wrap ((aV cE.bits ((((fG p q).take k++p.drop k).getD k (aP .u8)).toNat:Int)^^^aV cE.bits ((q.getD k (aP .u8)).toNat:Int)).toNat:Int)).toNat):=by
 refine vY _ _ k (aP .u8) _ (by omega) (by rw[eI];omega) ?_
 rw[YO p q k (by omega),nW _ _ _ _ (by rw[eI];omega),YJ]
 rfl
theorem OA(p q:List UInt8)(k:Nat)(h:q.length≤k)(hl:q.length≤p.length)(hk:k≤q.length):(fG p q).take k++p.drop k=fG p q:=by
 have hk:k=q.length:=by omega
 subst hk
 have key: ∀p q:List UInt8,q.length≤p.length→(fG p q).take q.length++p.drop q.length=fG p q:=by
  intro p
  induction p with
  |nil=>intro q h;cases q with|nil=>rfl|cons _ _=>simp at h
  |cons x p ih=>intro q h;cases q with
   |nil=>rw[lK];rfl
   |cons y q=>simp only[fG,b9,kB,jj,iG];rw[ih q (by simpa using h)]
 exact key p q hl
theorem agW(a b:List UInt8)(k:Nat)(ha:k<a.length)(hb:k<b.length):(fG a b).take (k+1)=(fG a b).take k++ [dP (cE.wrap ((aV cE.bits ((a.getD k (aP .u8)).toNat:Int)^^^aV cE.bits ((b.getD k (aP .u8)).toNat:Int)).toNat:Int)).toNat]:=by
 rw[uT a b k (by omega),YJ];rfl
theorem Ia{α:Type}(l:List α)(k:Nat)(d:α)(h:l.length≤k):l.getD k d=d:=by
 rw[an,List.getElem?_eq_none h];rfl
theorem ajB(a b:List UInt8)(k:Nat)(ha:k<a.length)(hb:b.length≤k):(fG a b).take (k+1)=(fG a b).take k++ [dP (((a.getD k (aP .u8)).toNat:Int)).toNat]:=by
 rw[uT a b k (by omega),acT]
 have:uS b k=0:=Ia b k 0 hb
 rw[this];simp;rfl
theorem ajC(a b:List UInt8)(k:Nat)(ha:a.length≤k)(hb:k<b.length):(fG a b).take (k+1)=(fG a b).take k++ [dP (cE.wrap ((aV cE.bits (0:Int)^^^aV cE.bits ((b.getD k (aP .u8)).toNat:Int)).toNat:Int)).toNat]:=by
 rw[uT a b k (by omega)]
 have:uS a k=0:=Ia a k 0 ha
 rw[this]
 have:=YJ 0 (b.getD k (aP .u8))
 rw[show((0:UInt8).toNat:Int)=0 from rfl]at this
 rw[this];rfl
theorem YP{l:List (List UInt8)}(h:fU aQ l≤1048576)(k:Nat)(hk:k<l.length):(l.getD k (aP (.sl .u8))).length≤1048576:=nN h (Q7 l k _ hk)
def iQ(key round dir rows:Int):Int:=if(1≤rows∧rows≤64)∧0≤round∧round≤1000000000000 then cs (kh key [79,round,dir]) 0 % rows else-1
def A3(seed round rows:Int):Int:=if 1≤rows∧rows≤64 then cs (kh seed [157,round]) 0 % rows else-1
def lN(key counter:Int)(data:List UInt8):Int:=kh key ([71,counter]++data.map fun c=>(c.toNat:Int))
theorem S8(l:List UInt8)(counter:Int)(k:Nat)(h:k<l.length): [71,counter]++(l.take (k+1)).map (fun c=>(c.toNat:Int))=([71,counter]++(l.take k).map (fun c=>(c.toNat:Int)))++ [aq.wrap ((l.getD k (aP .u8)).toNat:Int)]:=by
 have:=(l.getD k (aP .u8)).toNat_lt
 rw[cV (by omega),qw (fun c:UInt8=>(c.toNat:Int)) l k (aP .u8) h,ct]
def four(n:Int):List UInt8:= [b8 n,b8 (n/256),b8 (n/65536),b8 (n/16777216)]
theorem S9(n:Int): [dP (cE.wrap n).toNat,dP (cE.wrap (n.fdiv (2^(min (cL 8) aq.bits)))).toNat,dP (cE.wrap (n.fdiv (2^(min (cL 16) aq.bits)))).toNat,dP (cE.wrap (n.fdiv (2^(min (cL 24) aq.bits)))).toNat]=four n:=by
 have e1:(2:Int)^(min (cL 8) aq.bits)=256:=by decide
 have e2:(2:Int)^(min (cL 16) aq.bits)=65536:=by decide
 have e3:(2:Int)^(min (cL 24) aq.bits)=16777216:=by decide
 rw[e1,e2,e3,jv _ (by decide),jv _ (by decide),jv _ (by decide)]
 rfl
def jY(p:Plain):Bool:=(inr p.kind 0 3)&&decide ((p.body.length:Int)≤14)
def iT(k:Int):Bool:=inr k 1 2147483646
def jx(key counter:Int)(p:Plain):Bool:=iT key&&(inr counter 0 1000000000000)&&jY p
def gj(key counter:Int)(p:Plain):List UInt8:= [b8 p.kind,b8 p.body.length]++p.body++(stream (kh key [61,counter]) 18).drop p.body.length
def nJ(key counter:Int):Int:=Fl (kh key [67,counter])
def kr(key counter:Int)(p:Plain):List UInt8:=if jx key counter p then lM (nJ key counter) (gj key counter p)++four (lN key counter (lM (nJ key counter) (gj key counter p)))else []
def mK(key dir:Int):Int:=Fl (kh key [83,dir])
def cover(seed:Int):List UInt8:=stream (kh seed [73]) 24
end
section
theorem agX(b c:Bool):(if b=true then true else c)=(b||c):=by cases b<;>rfl
theorem YR(b c:Bool):(if b=true then c else false)=(b&&c):=by cases b<;>rfl
theorem acX(a b:Int):(!decide (a<b))=decide (b≤a):=by rw[←decide_not];congr 1;exact propext Int.not_lt
theorem acY(a b:Int):(!decide (a≤b))=decide (b<a):=by rw[←decide_not];congr 1;exact propext Int.not_le
theorem bne_not(a b:Int):(a !=b)= !(a==b):=rfl
theorem deq(a b:Int):decide (a=b)=(a==b):=rfl
theorem bG:(∀b c:Bool,(if b=true then true else c)=(b||c))∧(∀b c:Bool,(if b=true then c else false)=(b&&c))∧(∀a b:Int,a>b↔b<a)∧(∀a b:Nat,a>b↔b<a)∧(∀a b:Int,a≥b↔b≤a)∧(∀a b:Nat,a≥b↔b≤a)∧(∀a b:Int,(!decide (a<b))=decide (b≤a))∧(∀a b:Int,(!decide (a≤b))=decide (b<a))∧(∀a b:Int,(a !=b)= !(a==b))∧(∀a b:Int,decide (a=b)=(a==b))∧(∀(p:Prop) [Decidable p] [Decidable (¬p)],decide (¬p)= !decide p)∧(∀(α:Type) (a b:α),(a≠b)= ¬a=b)∧(∀a b:Bool,(!(a&&b))=(!a|| !b))∧(∀a b:Bool,(!(a||b))=(!a&& !b))∧(∀b:Bool,(!!b)=b)∧(∀b:Bool,(b&&true)=b)∧(∀b:Bool,(true&&b)=b)∧(∀b:Bool,(b||false)=b)∧(∀b:Bool,(false||b)=b)∧(∀n:Nat,(n:Int).toNat=n):=⟨agX,YR,fun _ _=>Iff.rfl,fun _ _=>Iff.rfl,fun _ _=>Iff.rfl,fun _ _=>Iff.rfl,acX,acY,bne_not,deq,fun _=>decide_not,fun _ _ _=>rfl,Bool.not_and,Bool.not_or,OB,rC,c9,Bool.or_false,Bool.false_or,jc⟩
theorem ajD{E R S:Bool}(h:E=true)(he:E= !R):(R&&S)=false:=by
 rw[h]at he
 cases R with
 |false=>rfl
 |true=>exact absurd he (by decide)
theorem dG{E R:Bool}(h:E=true)(he:E= !R):R=false:=by
 rw[h]at he
 cases R with
 |false=>rfl
 |true=>exact absurd he (by decide)
theorem dF{E R:Bool}(h:E=false)(he:E= !R):R=true:=by
 rw[h]at he
 cases R with
 |true=>rfl
 |false=>exact absurd he (by decide)
def eC(d:DB):Bool:=decide ((d.rows.length:Int)≤64)&&d.rows.all fun r=>decide ((r.length:Int)=24)
def sM(rows:Int)(l:List bE)(i:Nat):Bool:=inr (l.getD i (aP .bE)).client 0 7&& !(decide ((0:Int)<i)&&decide ((l.getD i (aP .bE)).client≤(l.getD (i-1) (aP .bE)).client))&&eC (l.getD i (aP .bE)).share&&(((l.getD i (aP .bE)).share.rows.length:Int)==rows)
def Az(s:bZ):Bool:=inr s.id 0 3&&inr s.rows 1 64&&inr s.behavior 0 3&&inr s.round 0 100000&&decide ((s.received.length:Int)≤8)
def dN(s:bZ):Bool:=Az s&&(bD s.received.length).all (sM s.rows s.received)
def vZ(rows:Int)(l:List bz)(i:Nat):Bool:=inr (l.getD i (aP .bz)).round 0 100000&& !(decide ((0:Int)<i)&&decide ((l.getD i (aP .bz)).round≤(l.getD (i-1) (aP .bz)).round))&&eC (l.getD i (aP .bz)).db&&(((l.getD i (aP .bz)).db.rows.length:Int)==rows)
def Ih(a:mE):Bool:=inr a.rows 1 64&&decide ((a.rounds.length:Int)≤8)
def iU(a:mE):Bool:=Ih a&&(bD a.rounds.length).all (vZ a.rows a.rounds)
def dK(a:mE):Int:=if a.rounds.length=0 then-1 else(a.rounds.getD (a.rounds.length-1) (aP .bz)).round
def long(b:List UInt8):Bool:=decide ((14:Int)<b.length)
def fP(c:gQ):Bool:=inr c.id 0 7&&inr c.gE 0 7&& !(c.id==c.gE)&&iT c.key&&decide ((c.bu.length:Int)≤16)&&decide ((c.inbox.length:Int)≤16)&& !c.bu.any long&& !c.inbox.any long&&inr c.sent 0 c.bu.length&&inr c.next 0 100000
def n7(a b:gQ):Bool:=(a.id==b.id)&&(a.gE==b.gE)&&(a.key==b.key)&&(a.seed==b.seed)&&(a.bu==b.bu)
def D6(a b:List (List UInt8)):Bool:=decide ((a.length:Int)≤b.length)&&(a==b.take a.length)
def fX(d:cz):Bool:=fP d.live&&fP d.saved&&n7 d.live d.saved&&decide (d.saved.sent≤d.live.sent)&&decide (d.saved.next≤d.live.next)&&D6 d.saved.inbox d.live.inbox
def eA(n:Int):Bool:=inr n 2 4
def KE(x:ck)(i:Nat):Bool:=dN (x.av.getD i (aP .bZ))&&((x.av.getD i (aP .bZ)).id==(i:Int))&&((x.av.getD i (aP .bZ)).rows==x.rows)&&((x.av.getD i (aP .bZ)).round==x.round)&&decide (((x.av.getD i (aP .bZ)).received.length:Int)≤0)
def okD(x:ck)(i:Nat):Bool:=fX (x.af.getD i (aP .cz))&&((x.af.getD i (aP .cz)).live.id==(i:Int))&&((x.af.getD i (aP .cz)).live.gE==((i^^^1:Nat):Int))&&((x.af.getD i (aP .cz)).live.key==(x.af.getD (i^^^1) (aP .cz)).live.key)&&decide ((x.af.getD i (aP .cz)).live.next≤x.round)
def Nd(x:ck):Bool:=inr x.rows 1 64&&eA x.av.length&&inr x.af.length 2 8&&((x.af.length:Int).tmod 2==0)&&iU x.aJ&&(x.aJ.rows==x.rows)&&decide (dK x.aJ<x.round)&&iT x.bS&&inr x.round 0 100000&&decide (0≤x.cancelled)
def okW(x:ck):Bool:=Nd x&&(bD x.av.length).all (KE x)&&(bD x.af.length).all (okD x)
theorem nC{p:Nat→Bool}{k:Nat}(h:(bD k).all p=true)(hk:p k=true):(bD (k+1)).all p=true:=by
 rw[eN,H7,h];simp[hk]
theorem qy{p:Nat→Bool}{k n:Nat}(h:k<n)(hk:p k=false):(bD n).all p=false:=by
 rw[pF]
 exact⟨k,cm.2 h,by rw[hk];decide⟩
def fidx{α:Type}(p:α→Bool)(l:List α):Int:=if l.any p then(l.findIdx p:Int)else-1
theorem Cl{α:Type}{p:α→Bool}{l:List α}{k:Nat}(d:α)(h:k<l.length)(h1:(l.take k).any p=false)(h2:p (l.getD k d)=true):fidx p l=k:=by
 have ha:l.any p=true:=Gu l p d k h h2
 have e:l=l.take k++l.getD k d::l.drop (k+1):=by rw[←nA l k d h,List.take_append_drop]
 unfold fidx
 rw[if_pos ha]
 have hf:l.findIdx p=k:=by
  rw[List.findIdx_eq h]
  refine⟨?_,fun j hj=> ?_⟩
  ·rw[an,au h]at h2;exact h2
  ·rw[bR]at h1
   have:=h1 l[j] (by rw[List.mem_take_iff_getElem];exact⟨j,by omega,rfl⟩)
   simpa using this
 rw[hf]
theorem KF{α:Type}{p:α→Bool}{l:List α}(h:l.any p=false):fidx p l= -1:=by unfold fidx;rw[if_neg (by rw[h];decide)]
theorem Ta{α:Type}(p:α→Bool)(l:List α):decide (fidx p l≥0)=l.any p:=by
 unfold fidx
 cases h:l.any p
 ·rw[if_neg (by decide)];rfl
 ·rw[if_pos rfl];simp
theorem A4{α:Type}{p:α→Bool}{l:List α}{k:Nat}(d:α)(h:k<l.length)(h1:(l.take k).any p=false)(h2:p (l.getD k d)=false):(l.take (k+1)).any p=false:=by
 rw[YK p l k d h,h1,h2];rfl
theorem yq{α:Type}(l:List α)(p:α→Bool):l.all p= !(l.any fun b=> !p b):=by
 induction l with
 |nil=>rfl
 |cons a r ih=>simp[ih]
end
section
theorem yt(k n:Nat)(h:k<n)(he:n % 2=0):k^^^1<n:=by
 have h1:(k^^^1)/2=k/2:=by
  have:=Ii (a:=k) (b:=1)
  simpa using this
 have h2:k^^^1<2*(k/2)+2:=by
  have:=Nat.div_add_mod (k^^^1) 2
  have:=Dy (k^^^1) (show 0<2 by decide)
  omega
 omega
theorem YT(k:Nat)(h:k<2^62):aq.wrap (aV aq.bits (k:Int)^^^aV aq.bits 1).toNat=((k^^^1:Nat):Int):=by
 have h2:(aV aq.bits (k:Int)^^^aV aq.bits 1).toNat=k^^^1:=by
  rw[FY]
  have h1:(aV aq.bits 1).toNat=1:=by decide
  have h2:(aV aq.bits (k:Int)).toNat=k % 2^64:=by rw[iJ,jL];rfl
  rw[h1,h2,kO (by omega)]
 have hx:=Nat.xor_lt_two_pow (n:=62) h (show 1<2^62 by decide)
 rw[h2,cV (by omega)]
theorem v8{x:ck}(h:Nd x=true):x.af.length % 2=0∧x.af.length≤8∧2≤x.af.length:=by
 simp only[Nd,dD,ak,beq_iff_eq]at h
 have h1:=h.1.1.1.1.1.1.2
 have h2:=h.1.1.1.1.1.1.1.2
 rw[gx (by omega)]at h1
 omega
theorem pM{x:ck}(h:okW x=true):Nd x=true:=by simp only[okW,ak]at h;exact h.1.1
theorem gw{x:ck}(h:okW x=true):x.av.length≤4∧2≤x.av.length:=by
 have:=pM h
 simp only[Nd,eA,dD,ak,beq_iff_eq]at this
 have h1:=this.1.1.1.1.1.1.1.1.2
 omega
def svW(x:ck):Bool:=(bD x.av.length).all (KE x)&&eA x.av.length
def dvW(x:ck):Bool:=((x.af.length:Int).tmod 2==0)&&inr x.af.length 2 8&&(bD x.af.length).all (okD x)
def rF(x:ck)(c:Int):Bool:=inr c 0 (x.af.length-1)
def A5(x:ck)(c:Int):Bool:=rF x c&&decide (((c.toNat^^^1:Nat):Int)<x.af.length)
def eP(c:gQ):Int:=if c.id<c.gE then 0 else 1
def sP(c:gQ)(at':Int):List UInt8:=kr (mK c.key (eP c)) at' ⟨1,c.bu.getD at'.toNat (aP (.sl .u8))⟩
def sQ(c:gQ)(r n:Int):Bool:=fP c&&inr r 0 100000&&inr n 1 64
def jq(c:gQ)(r n:Int):Int:=if sQ c r n=true then(if c.sent<c.bu.length then iQ c.key r (eP c) n else A3 c.seed r n)else 0
def gl(c:gQ)(r n:Int):List UInt8:=if sQ c r n=true then(if c.sent<c.bu.length then sP c c.sent else cover (kh c.seed [r]))else []
theorem D8{c:gQ}{r n:Int}(h:sQ c r n=true):0≤c.sent∧c.sent≤c.bu.length:=by
 simp only[sQ,fP,dD,ak]at h
 exact h.1.1.1.2
theorem tT{k c:Int}{p:Plain}(h:jx k c p=true):p.body.length≤14:=by
 simp only[jx,jY,ak,decide_eq_true_eq]at h
 omega
theorem VB{x:ck}{c:Int}(hd:x.af.length≤1048576):(rF x c&&rF x (aq.wrap (aV aq.bits c^^^aV aq.bits 1).toNat))=A5 x c:=by
 by_cases hc:rF x c=true
 ·have LL:0≤c∧c<x.af.length:=by simp only[rF,dD]at hc;omega
  obtain⟨n,rfl⟩:=vW LL.1
  rw[YT n (by omega),A5,hc]
  simp only[c9,rF,jc]
  rw[Ij,dD,decide_eq_true_eq]
  omega
 ·rw[Bool.not_eq_true]at hc
  rw[A5,hc];rfl
end
section
def agZ(s:Int)(i:Nat):Int:=rsb (kh s [(i:Int),41])
def cO(s rows:Int):List Int:=if 0≤rows∧rows≤64 then(bD rows.toNat).map (agZ s)else []
theorem lP(s rows:Int):(cO s rows).length≤64:=by
 unfold cO
 split
 ·simp;omega
 ·simp
theorem Il(s rows:Int)(k:Nat)(h0:(k:Int)<rows)(h1:rows≤64):k<(cO s rows).length:=by
 rw[cO,if_pos (by omega)];simp;omega
theorem Cp(s rows:Int)(k:Nat)(h0:(k:Int)<rows)(h1:rows≤64):(cO s rows).take (k+1)=(cO s rows).take k++ [aq.wrap (aV aq.bits (((aq.wrap (kh s [(k:Int),41]*kh s [(k:Int),41])).tmod 2147483647).fdiv (2^(min (cL 9) aq.bits)))&&&aV aq.bits 1).toNat]:=by
 rw[agT (gm _ _).1 (gm _ _).2,cM _ _ 0 (Il s rows k h0 h1)]
 congr 2
 rw[cO,if_pos (by omega),fM _ _ _ _ (by omega)]
 rfl
theorem Fu(s rows:Int)(k:Nat)(h:rows≤64→rows≤k):(cO s rows).take k=cO s rows:=by
 refine aB ?_
 unfold cO
 split
 ·simp;omega
 ·simp
def fB(v:List Int)(rows:Int):Bool:=(decide ((v.length:Int)=rows)&&decide (rows≤64))&&v.all fun x=>inr x 0 1
theorem Rb(v:List Int)(rows:Int):fB v rows=((inr rows 0 64&&decide ((v.length:Int)=rows))&& !(v.any fun x=> !inr x 0 1)):=by
 have e:(v.all fun x=>inr x 0 1)= !(v.any fun x=> !inr x 0 1):=by rw[List.not_any_eq_all_not];simp
 rw[fB,e]
 by_cases h:(v.length:Int)=rows
 ·subst h;simp[inr]
 ·simp[h]
theorem nD{v:List Int}{r:Int}(h:fB v r=true):(v.length:Int)=r∧r≤64:=by
 simp only[fB,ak,decide_eq_true_eq]at h
 exact h.1
theorem zH{v:List Int}{r:Int}(h:fB v r=true)(k:Nat)(hk:k<v.length):v.getD k (aP .int)=0∨v.getD k (aP .int)=1:=by
 simp only[fB,ak,bw,dD]at h
 have:=h.2 (v.getD k (aP .int)) (by rw[an,au hk];exact mR _)
 omega
def xb(x y:Int):Int:=if x=y then 0 else 1
theorem ajE{x y:Int}(hx:x=0∨x=1)(hy:y=0∨y=1):aq.wrap (aV aq.bits x^^^aV aq.bits y).toNat=xb x y:=by
 rcases hx with rfl|rfl<;>rcases hy with rfl|rfl<;>decide
def oo(a b:List Int):Bool:=fB a a.length&&fB b a.length
def pN(a b:List Int):List Int:=if oo a b then dz xb a b else []
theorem rO{a b:List Int}(h:oo a b=true):b.length=a.length∧a.length≤64:=by
 simp only[oo,ak]at h
 have h1:=nD h.1
 have h2:=nD h.2
 omega
theorem we{a b:List Int}(h:oo a b=true):pN a b=dz xb a b:=by rw[pN,if_pos h]
theorem Cq{a b:List Int}(h:oo a b=true):(dz xb a b).length=a.length:=by
 have:=rO h
 rw[jk];omega
theorem Rc(a b:List Int):(pN a b).length≤64:=by
 cases h:oo a b with
 |true=>rw[we h,Cq h];exact(rO h).2
 |false=>rw[pN,if_neg (by rw[h];decide)];simp
theorem Tc{a b:List Int}(h:oo a b=true)(k:Nat)(hk:k<a.length):(dz xb a b).getD k (aP .int)=aq.wrap (aV aq.bits (a.getD k (aP .int))^^^aV aq.bits (b.getD k (aP .int))).toNat:=by
 have hl:=rO h
 have h':=h
 simp only[oo,ak]at h'
 rw[ajE (zH h'.1 k hk) (zH h'.2 k (by omega))]
 rw[an,an,an,qA,au hk,au (show k<b.length by omega)]
 rfl
theorem OC{a b:List Int}(h:oo a b=true)(k:Nat)(hk:k<b.length):(dz xb a b).take (k+1)++a.drop (k+1)=((dz xb a b).take k++a.drop k).set k (aq.wrap (aV aq.bits (((dz xb a b).take k++a.drop k).getD k (aP .int))^^^aV aq.bits (b.getD k (aP .int))).toNat):=by
 have hl:=rO h
 have hz:=Cq h
 rw[yh _ _ k (aP .int) _ (by omega) (by omega)]
 rw[nW _ _ _ _ (by omega),Tc h k (by omega)]
theorem OD{a b:List Int}(h:oo a b=true)(k:Nat)(hk:k<a.length):(dz xb a b).take (k+1)=(dz xb a b).take k++ [aq.wrap (aV aq.bits (a.getD k (aP .int))^^^aV aq.bits (b.getD k (aP .int))).toNat]:=by
 rw[cM _ k (aP .int) (by rw[Cq h];exact hk),Tc h k hk]
def kD(rows i:Int):Bool:=inr rows 1 64&&inr i 0 (aq.wrap (rows-1))
def qV(rows i:Int):List Int:=if kD rows i then(eF rows.toNat (aP .int)).set i.toNat 1 else []
theorem uY{rows i:Int}(h:kD rows i=true):1≤rows∧rows≤64∧0≤i∧i<rows:=by
 simp only[kD,ak,dD]at h
 rw[cV (by omega)]at h
 omega
theorem rP{rows i:Int}(h:kD rows i=true):qV rows i=(eF rows.toNat (aP .int)).set i.toNat 1:=by rw[qV,if_pos h]
theorem D9{rows i:Int}(h:kD rows i=false):qV rows i= []:=by rw[qV,if_neg (by rw[h];decide)]
theorem Ea(rows i:Int):(qV rows i).length≤64:=by
 cases h:kD rows i with
 |true=>rw[rP h];have:=uY h;simp;omega
 |false=>rw[D9 h];simp
def Cr(rows i:Int)(sd:List Int):Bool:= !decide (((qV rows i).length:Int)=0)&&eA (aq.wrap ((sd.length:Int)+1))
def yw(rows i:Int)(sd:List Int):List Int:=sd.foldl (fun l s=>pN l (cO s rows)) (qV rows i)
def mm(rows i:Int)(sd:List Int):List (List Int):=if Cr rows i sd then sd.map (fun s=>cO s rows)++ [yw rows i sd]else []
theorem Im(rows i:Int)(sd:List Int)(k:Nat)(h:k<sd.length):yw rows i (sd.take (k+1))=pN (yw rows i (sd.take k)) (cO (sd.getD k (aP .int)) rows):=AY _ _ sd k _ h
theorem Eb(rows i:Int)(sd:List Int):(yw rows i sd).length≤64:=by
 rcases List.eq_nil_or_concat sd with rfl| ⟨l,x,rfl⟩
 ·exact Ea _ _
 ·rw[List.concat_eq_append,yw,ep];exact Rc _ _
theorem OG{rows i:Int}{sd:List Int}(h:Cr rows i sd=true)(hl:sd.length≤1048576):sd.length≤3:=by
 simp only[Cr,eA,ak,dD]at h
 rw[cV (by omega)]at h
 omega
def jS(n:Nat)(r row s:Int):List Int:=(bD (n-1)).map fun i:Nat=>kh s [229,r,row,(i:Int)]
theorem pO(n:Nat)(r row s:Int):(jS n r row s).length=n-1:=by simp[jS]
theorem Fv(n:Nat)(r row s:Int)(k:Nat)(h:k<n-1):(jS n r row s).take (k+1)=(jS n r row s).take k++ [kh s [229,r,row,(k:Int)]]:=by
 rw[cM _ k (aP .int) (by rw[pO];exact h),jS,fM _ _ _ _ h]
theorem Td(n:Nat)(h:n≤1048576):UJ 0 (aq.wrap ((n:Int)-1))=((n-1:Nat):Int):=by
 rw[cV (by omega)];unfold UJ;split<;>omega
theorem Io{x:ck}(h:okW x=true):1≤x.rows∧x.rows≤64:=by
 have:=pM h
 simp only[Nd,dD,ak]at this
 have h1:=this.1.1.1.1.1.1.1.1.1
 omega
end
section
set_option maxRecDepth 100000
theorem getD_some{α:Type}(l:List α)(d:α)(k:Nat)(h:k<l.length):l[k]? =some (l.getD k d):=by
 rw[an,au h];rfl
def Tf(x:DB):Nat:=(fU aQ) x.rows
def Fw(x:bE):Nat:=Tf x.share
def gy(x:bZ):Nat:=(fU Fw) x.received
def eO(x:gQ):Nat:=(fU aQ) x.bu+(fU aQ) x.inbox
def cX(x:cz):Nat:=eO x.live+eO x.saved
def ij(x:bz):Nat:=Tf x.db
def iL(x:mE):Nat:=(fU ij) x.rounds
def Cs(x:ck):Nat:=(fU gy) x.av+(fU cX) x.af+iL x.aJ+aQ x.replaced
end
section
def Nf:List UInt8:=eF 24 (aP .u8)
def fk(rows:Int):DB:=⟨if 0≤rows∧rows≤64 then eF rows.toNat Nf else []⟩
theorem YY{α:Type}(n k:Nat)(x:α)(h:k<n):(eF n x).take (k+1)=(eF n x).take k++ [x]:=by
 rw[A8,A8,Ir (by omega),Ir (by omega),List.replicate_succ']
theorem rR(rows:Int):(fk rows).rows.length≤64:=by
 unfold fk;dsimp only;split
 ·simp;omega
 ·simp
theorem rS{rows:Int}(h:0≤rows∧rows≤64):(fk rows).rows=eF rows.toNat Nf:=by unfold fk;dsimp only;rw[if_pos h]
theorem Is(rows:Int)(k:Nat)(h0:(k:Int)<rows)(h1:rows≤64):(fk rows).rows.take (k+1)=(fk rows).rows.take k++ [Nf]:=by
 rw[rS (by omega)];exact YY _ _ _ (by omega)
theorem YZ(rows:Int)(k:Nat)(h0:(k:Int)<rows)(h1:rows≤64):k<(fk rows).rows.length:=by
 rw[rS (by omega)];simp;omega
theorem KH(rows:Int)(k:Nat)(h:rows≤64→rows≤k):(fk rows).rows.take k=(fk rows).rows:=by
 refine aB ?_
 unfold fk;dsimp only;split
 ·simp;omega
 ·simp
def ou(d:DB)(i:Int)(c:List UInt8):Bool:=inr i 0 (aq.wrap ((d.rows.length:Int)-1))&&decide ((c.length:Int)=24)
def Fx(d:DB)(i:Int)(c:List UInt8):DB:=if ou d i c then⟨d.rows.set i.toNat c⟩else d
theorem Gv{d:DB}{i:Int}{c:List UInt8}(hl:d.rows.length≤1048576)(h:ou d i c=true):0≤i∧i<d.rows.length∧c.length=24:=by
 simp only[ou,ak,dD,decide_eq_true_eq]at h
 rw[cV (by omega)]at h
 omega
theorem uZ{d:DB}{i:Int}{c:List UInt8}(h:ou d i c=true):Fx d i c=⟨d.rows.set i.toNat c⟩:=by rw[Fx,if_pos h]
theorem KI{d:DB}{i:Int}{c:List UInt8}(h:ou d i c=false):Fx d i c=d:=by rw[Fx,if_neg (by rw[h];decide)]
def k7(a b:DB):Bool:=(eC a&&eC b)&&decide ((a.rows.length:Int)=b.rows.length)
def jy(a b:DB):List (List UInt8):=dz fG a.rows b.rows
def jl(a b:DB):DB:=if k7 a b then⟨jy a b⟩else a
theorem It{d:DB}(h:eC d=true):d.rows.length≤64:=by
 simp only[eC,ak,decide_eq_true_eq]at h;omega
theorem p9{d:DB}(h:eC d=true)(k:Nat)(hk:k<d.rows.length):(d.rows.getD k (aP (.sl .u8))).length=24:=by
 simp only[eC,ak,bw,decide_eq_true_eq]at h
 have:=h.2 (d.rows.getD k (aP (.sl .u8))) (by rw[an,au hk];exact mR _)
 omega
theorem wg{a b:DB}(h:k7 a b=true):eC a=true∧eC b=true∧a.rows.length=b.rows.length∧a.rows.length≤64:=by
 simp only[k7,ak,decide_eq_true_eq]at h
 have:=It h.1.1
 exact⟨h.1.1,h.1.2,by omega,this⟩
theorem lQ{a b:DB}(h:k7 a b=true):(jy a b).length=a.rows.length:=by
 have:=wg h
 rw[jy,jk];omega
theorem wh{a b:DB}(h:k7 a b=true)(k:Nat)(hk:k<a.rows.length):(jy a b).getD k (aP (.sl .u8))=fG (a.rows.getD k (aP (.sl .u8))) (b.rows.getD k (aP (.sl .u8))):=by
 have hb:=wg h
 rw[jy,an,an,an,qA,au hk,au (show k<b.rows.length by omega)]
 rfl
theorem OI{a b:DB}(h:k7 a b=true)(k:Nat)(hk:k<a.rows.length):(jy a b).take (k+1)=(jy a b).take k++ [fG (a.rows.getD k (aP (.sl .u8))) (b.rows.getD k (aP (.sl .u8)))]:=by
 rw[cM _ k (aP (.sl .u8)) (by rw[lQ h];exact hk),wh h k hk]
theorem OJ{a b:DB}(h:k7 a b=true)(k:Nat)(hk:k<b.rows.length):(jy a b).take (k+1)++a.rows.drop (k+1)=((jy a b).take k++a.rows.drop k).set k (fG (((jy a b).take k++a.rows.drop k).getD k (aP (.sl .u8))) (b.rows.getD k (aP (.sl .u8)))):=by
 have hb:=wg h
 have hl:=lQ h
 rw[yh _ _ k (aP (.sl .u8)) _ (by omega) (by omega)]
 rw[nW _ _ _ _ (by omega),wh h k (by omega)]
theorem ac1{a b:DB}(h:k7 a b=true)(k:Nat)(hk:k<b.rows.length):((jy a b).take k++a.rows.drop k).getD k (aP (.sl .u8))=a.rows.getD k (aP (.sl .u8)):=by
 have hb:=wg h
 have hl:=lQ h
 rw[nW _ _ _ _ (by omega)]
theorem rT{a b:DB}(h:k7 a b=true):jl a b=⟨jy a b⟩:=by rw[jl,if_pos h]
theorem va{a b:DB}(h:k7 a b=false):jl a b=a:=by rw[jl,if_neg (by rw[h];decide)]
def jz(x:ck)(c:Int):List Int:=(bD (x.av.length-1)).map fun i:Nat=>kh x.seed [223,x.round,c,(i:Int)]
theorem nj(x:ck)(c:Int):(jz x c).length=x.av.length-1:=by simp[jz]
theorem Fy(x:ck)(c:Int)(k:Nat)(h:k<x.av.length-1):(jz x c).take (k+1)=(jz x c).take k++ [kh x.seed [223,x.round,c,(k:Int)]]:=by
 rw[cM _ k (aP .int) (by rw[nj];exact h),jz,fM _ _ _ _ h]
def qB(rows i:Int)(c:List UInt8):Bool:=inr rows 1 64&&ou (fk rows) i c
def Ng(rows i:Int)(c:List UInt8):DB:=if inr rows 1 64 then Fx (fk rows) i c else⟨[]⟩
theorem ox:Nf.length=24:=by simp[Nf]
theorem KJ(rows:Int):fU aQ (fk rows).rows≤1048576:=by
 have h:=rR rows
 have h2:((fk rows).rows.map aQ).sum≤24*(fk rows).rows.length:=by
  unfold fk;dsimp only;split
  ·simp[ox];omega
  ·simp
 unfold fU;omega
end
section
theorem oy{d:DB}:eC d=true↔d.rows.length≤64∧ ∀r,r∈d.rows→r.length=24:=by
 simp only[eC,ak,decide_eq_true_eq,bw]
 constructor
 ·rintro⟨h1,h2⟩;exact⟨by omega,fun r hr=>by have:=h2 r hr;omega⟩
 ·rintro⟨h1,h2⟩;exact⟨by omega,fun r hr=>by have:=h2 r hr;omega⟩
theorem gz{d:DB}(h:eC d=true):fU aQ d.rows≤1048576:=by
 obtain⟨h1,h2⟩:=oy.1 h
 have h3: ∀l:List (List UInt8),(∀r,r∈l→r.length=24)→(l.map aQ).sum=24*l.length:=by
  intro l
  induction l with
  |nil=>intro _;rfl
  |cons x r ih=>intro hl;rw[cA,rH,ih fun y hy=>hl y (by simp[hy]),hl x (by simp),b9];omega
 have:=h3 _ h2
 unfold fU;omega
theorem Iy{a b:DB}(ha:eC a=true)(hb:eC b=true):eC (jl a b)=true:=by
 cases h:k7 a b with
 |false=>rw[va h];exact ha
 |true=>
  rw[rT h,oy]
  have hl:=lQ h
  refine⟨by have:=It ha;show(jy a b).length≤64;omega,fun r hr=> ?_⟩
  obtain⟨k,hk⟩:=List.getElem?_of_mem hr
  have hk2:k<(jy a b).length:=(aI.1 hk).1
  have hg:=wh h k (by omega)
  rw[an,hk]at hg
  have hx:=wg h
  rw[show r=_ from hg,eI,p9 ha k (by omega),p9 hb k (by omega)];rfl
def jZ(s rows:Int):List (List UInt8):=(bD rows.toNat).map fun r:Nat=>stream (aq.wrap (s+aq.wrap (1000*(r:Int)))) (24:Int).toNat
def JX(s rows:Int):DB:=⟨jZ s rows⟩
theorem nF(s rows:Int):(jZ s rows).length=rows.toNat:=by simp[jZ]
theorem Cz(s rows:Int)(k:Nat)(h:k<rows.toNat):(jZ s rows).take (k+1)=(jZ s rows).take k++ [stream (aq.wrap (s+aq.wrap (1000*(k:Int)))) (24:Int).toNat]:=by
 rw[cM _ k (aP (.sl .u8)) (by rw[nF];exact h),jZ,fM _ _ _ _ h]
theorem Iz(s rows:Int)(h:rows≤64):eC (JX s rows)=true:=by
 rw[oy]
 refine⟨by show(jZ s rows).length≤64;rw[nF];omega,fun r hr=> ?_⟩
 obtain⟨k,_,rfl⟩:=cq.1 (show r∈jZ s rows from hr)
 exact gN _ _
def tI(rows i:Int)(c:List UInt8)(sd:List Int):Bool:=qB rows i c&&eA (aq.wrap ((sd.length:Int)+1))
def qW(rows i:Int)(c:List UInt8)(sd:List Int):DB:=sd.foldl (fun d s=>jl d (JX s rows)) (Ng rows i c)
def qX(rows i:Int)(c:List UInt8)(sd:List Int):List DB:=if tI rows i c sd then sd.map (fun s=>JX s rows)++ [qW rows i c sd]else []
theorem Ba{rows i:Int}{c:List UInt8}(h:qB rows i c=true):eC (Ng rows i c)=true∧1≤rows∧rows≤64:=by
 simp only[qB,ak]at h
 obtain⟨h1,h2⟩:=h
 have hr:1≤rows∧rows≤64:=by rw[dD]at h1;exact h1
 have hb:=Gv (dy (rR rows) (by decide)) h2
 refine⟨?_,hr⟩
 rw[Ng,if_pos h1,uZ h2,oy,rS (by omega)]
 refine⟨by simp;omega,fun r hr=> ?_⟩
 rcases gd hr with h|rfl
 ·rw[(tW.1 h).2,ox]
 ·exact hb.2.2
theorem IA(rows i:Int)(c:List UInt8)(sd:List Int)(k:Nat)(h:k<sd.length):qW rows i c (sd.take (k+1))=jl (qW rows i c (sd.take k)) (JX (sd.getD k (aP .int)) rows):=AY _ _ sd k _ h
theorem IB{rows i:Int}{c:List UInt8}(h:qB rows i c=true)(sd:List Int):eC (qW rows i c sd)=true:=by
 have hu:=Ba h
 have g: ∀(l:List Int) (d:DB),eC d=true→eC (l.foldl (fun d s=>jl d (JX s rows)) d)=true:=by
  intro l
  induction l with
  |nil=>intro d hd;exact hd
  |cons x r ih=>intro d hd;exact ih _ (Iy hd (Iz x rows hu.2.2))
 exact g sd _ hu.1
theorem OS{rows i:Int}{c:List UInt8}{sd:List Int}(h:tI rows i c sd=true)(hl:sd.length≤1048576):qB rows i c=true∧sd.length≤3:=by
 simp only[tI,eA,ak,dD]at h
 rw[cV (by omega)]at h
 exact⟨h.1,by omega⟩
theorem IC(rows i:Int)(c:List UInt8):qB rows i c=(inr rows 1 64&&inr i 0 (aq.wrap (rows-1))&&decide ((c.length:Int)=24)):=by
 unfold qB
 cases h:inr rows 1 64 with
 |false=>rfl
 |true=>
  rw[dD]at h
  have:((fk rows).rows.length:Int)=rows:=by rw[rS (by omega)];simp;omega
  rw[ou,this]
  simp
theorem ac7{rows i:Int}{c:List UInt8}{sd:List Int}(h:tI rows i c sd=true):Fx (fk rows) i c=Ng rows i c:=by
 simp only[tI,qB,ak]at h
 rw[Ng,if_pos h.1.1]
end
section
theorem VE(k c:Int)(p:Plain):(kr k c p).length≤100:=by
 unfold kr
 split
 ·rename_i h
  have hb:=tT h
  have hp:(gj k c p).length≤40:=by
   unfold gj
   simp only[aY,bW,b9,fF,gN];omega
  rw[aY,gI]
  simp only[four,b9,fF];omega
 ·exact aD _
theorem ID(c:gQ)(r n:Int):(gl c r n).length≤1048576:=by
 unfold gl
 split
 ·split
  ·exact dy (VE _ _ _) (by decide)
  ·unfold cover;rw[gN];decide
 ·exact aD _
def jV(x:ck)(c:Int):gQ:=(x.af.getD c.toNat (aP .cz)).live
def eY(x:ck)(c:Int):List DB:=qX x.rows (jq (jV x c) x.round x.rows) (gl (jV x c) x.round x.rows) (jz x c)
theorem OT{x:ck}{c:Int}(h:sQ (jV x c) x.round x.rows=false):eY x c= []:=by
 have hc:gl (jV x c) x.round x.rows= []:=by rw[gl,if_neg (by rw[h];decide)]
 unfold eY qX
 rw[hc]
 rw[if_neg]
 simp[tI,qB,ou]
def OU(x:ck)(c:Int):Bool:=okW x&&rF x c
def oz(x:ck)(c:Int):List DB:=if OU x c then eY x c else []
theorem ahe{x:ck}{c:Int}(h:OU x c=true):0≤c∧c<x.af.length:=by
 simp only[OU,rF,dD,ak]at h
 omega
end
section
theorem l8{E R:Bool}(h:E=true)(he:E=R):R=true:=by rw[←he];exact h
theorem pQ{E R:Bool}(h:E=false)(he:E=R):R=false:=by rw[←he];exact h
theorem rI{x:ck}(h:okW x=true){i:Nat}(hi:i<x.af.length):okD x i=true:=by
 simp only[okW,ak,bw]at h
 exact h.2 i (cm.2 hi)
theorem Mm{x:ck}(h:okW x=true){i:Nat}(hi:i<x.av.length):KE x i=true:=by
 simp only[okW,ak,bw]at h
 exact h.1.2 i (cm.2 hi)
theorem Y3{x:ck}{i:Nat}(h:okD x i=true):fP (x.af.getD i (aP .cz)).live=true:=by
 simp only[okD,fX,ak]at h
 exact h.1.1.1.1.1.1.1.1.1
theorem qN{x:ck}(h:okW x=true):(1≤x.rows∧x.rows≤64)∧0≤x.round∧x.round≤100000:=by
 have h:=pM h
 simp only[Nd,ak,dD]at h
 omega
theorem Y4{x:ck}{c:Int}(h:okW x=true)(hc:0≤c∧c<x.af.length):fP (jV x c)=true:=Y3 (rI h (by omega))
theorem Rn{x:ck}{c:Int}(h:okW x=true)(hc:0≤c∧c<x.af.length):sQ (jV x c) x.round x.rows=true:=by
 have:=qN h
 simp only[sQ,Y4 h hc,ak,dD]
 exact⟨⟨trivial,this.2⟩,this.1⟩
theorem Bb{key r d n:Int}(h:(1≤n∧n≤64)∧0≤r∧r≤1000000000000):0≤iQ key r d n∧iQ key r d n<n:=by
 unfold iQ
 rw[if_pos h]
 exact⟨j9 _ (by omega),jK _ (by omega)⟩
theorem IE{s r n:Int}(h:1≤n∧n≤64):0≤A3 s r n∧A3 s r n<n:=by
 unfold A3
 rw[if_pos h]
 exact⟨j9 _ (by omega),jK _ (by omega)⟩
theorem OV{c:gQ}{r n:Int}(h:sQ c r n=true):0≤jq c r n∧jq c r n<n:=by
 have hb:(0≤r∧r≤100000)∧1≤n∧n≤64:=by
  simp only[sQ,ak,dD]at h;exact⟨h.1.2,h.2⟩
 rw[jq,if_pos h]
 split
 ·exact Bb (by omega)
 ·exact IE (by omega)
theorem CA(k d:Int):iT (mK k d)=true:=by
 have:=zG (gm k [83,d])
 simp only[iT,dD];unfold mK;omega
theorem vg{c:gQ}(h:fP c=true):c.bu.length≤16∧c.inbox.length≤16∧(∀b,b∈c.bu→b.length≤14)∧(∀b,b∈c.inbox→b.length≤14)∧0≤c.sent∧c.sent≤c.bu.length∧0≤c.next∧c.next≤100000:=by
 simp only[fP,ak,bq,bR,dD,decide_eq_true_eq]at h
 obtain⟨⟨⟨⟨⟨⟨_,h1⟩,h2⟩,h3⟩,h4⟩,h5⟩,h6⟩:=h
 refine⟨by omega,by omega,fun b hb=> ?_,fun b hb=> ?_,h5.1,h5.2,h6.1,h6.2⟩
 ·have:=h3 b hb;simp only[long,decide_eq_true_eq]at this;omega
 ·have:=h4 b hb;simp only[long,decide_eq_true_eq]at this;omega
theorem getD_in{α:Type}{l:List α}{k:Nat}(d:α)(h:k<l.length):l.getD k d∈l:=by
 rw[an,au h];exact mR h
theorem tX{k c:Int}{p:Plain}(h:jx k c p=true):(kr k c p).length=24:=by
 have hb:=tT h
 rw[kr,if_pos h,aY,gI]
 simp only[gj,four,aY,bW,b9,fF,gN];omega
theorem VF{c:gQ}(h:fP c=true){a:Int}(h0:0≤a)(h1:a<c.bu.length):(sP c a).length=24:=by
 obtain⟨q1,_,q2,_⟩:=vg h
 apply tX
 simp only[jx,CA,jY,ak,dD,decide_eq_true_eq]
 have:=q2 _ (getD_in (aP (.sl .u8)) (show a.toNat<c.bu.length by omega))
 refine⟨⟨trivial,by omega⟩,by omega,by omega⟩
theorem CB{c:gQ}{r n:Int}(h:sQ c r n=true):(gl c r n).length=24:=by
 rw[gl,if_pos h]
 split
 ·rename_i hs
  have hc:fP c=true:=by simp only[sQ,ak]at h;exact h.1.1
  exact VF hc (D8 h).1 hs
 ·rw[cover,gN]
theorem Eo{x:ck}{c:Int}(h:okW x=true)(hc:0≤c∧c<x.af.length):tI x.rows (jq (jV x c) x.round x.rows) (gl (jV x c) x.round x.rows) (jz x c)=true:=by
 have hw:=Rn h hc
 have hr:=qN h
 have hs:=gw h
 have hrow:=OV hw
 have hcell:=CB hw
 simp only[tI,IC,eA,ak,dD,decide_eq_true_eq,nj]
 rw[cV (by omega),cV (by omega)]
 omega
theorem lR{x:ck}{c:Int}(h:okW x=true)(hc:0≤c∧c<x.af.length):(eY x c).length=x.av.length:=by
 have hs:=gw h
 rw[eY,qX,if_pos (Eo h hc),aY,bg,nj]
 simp;omega
theorem IF{x:ck}{c:Int}(h:okW x=true)(hc:0≤c∧c<x.af.length):oz x c=eY x c:=by
 rw[oz,if_pos]
 simp only[OU,h,rF,c9,dD]
 omega
end
section
theorem Y5{rows i:Int}{c:List UInt8}{sd:List Int}(hr:rows≤64): ∀d,d∈qX rows i c sd→eC d=true:=by
 intro d hd
 unfold qX at hd
 split at hd
 ·rename_i hm
  have hu:qB rows i c=true:=by simp only[tI,ak]at hm;exact hm.1
  rcases aL.1 hd with h|h
  ·obtain⟨s,_,rfl⟩:=cq.1 h
   exact Iz s rows hr
  ·rw[aR.1 h];exact IB hu _
 ·cases hd
def ahf(d:DB):Nat:=(d.rows.map aQ).sum
theorem ac8{d:DB}(h:eC d=true):ahf d≤1536:=by
 obtain⟨h1,h2⟩:=oy.1 h
 have h3: ∀l:List (List UInt8),(∀r,r∈l→r.length=24)→(l.map aQ).sum=24*l.length:=by
  intro l
  induction l with
  |nil=>intro _;rfl
  |cons x r ih=>intro hl;rw[cA,rH,ih fun y hy=>hl y (by simp[hy]),hl x (by simp),b9];omega
 have:=h3 _ h2
 unfold ahf;omega
theorem ae6{α:Type}(f:α→Nat)(C:Nat): ∀(l:List α),(∀x,x∈l→f x≤C)→(l.map f).sum≤C*l.length
 | [],_=>by simp
 |x::r,h=>by
  have:=ae6 f C r fun y hy=>h y (by simp[hy])
  have:=h x (by simp)
  rw[cA,rH,b9,Nat.mul_add]
  omega
end
section
def sW(s:bZ):Prop:=s.received.length≤1048576∧ ∀r,r∈s.received→fU aQ r.share.rows≤1048576
theorem KO{l:List bZ}(h:fU gy l≤1048576){i:Nat}{s:bZ}(hs:l[i]? =some s):sW s:=by
 have h1:fU Fw s.received≤1048576:=nN h hs
 refine⟨gr h1,fun r hr=> ?_⟩
 obtain⟨j,hj⟩:=jO.1 hr
 exact nN h1 hj
def wB(x:ck):Prop:=fU gy x.av≤1048576∧fU cX x.af≤1048576∧iL x.aJ≤1048576∧x.replaced.length≤4194304
theorem FB{x:ck}(h:wB x):x.av.length≤1048576:=gr h.1
theorem OW{x:ck}(h:wB x):x.af.length≤1048576:=gr h.2.1
def oA(s:bZ)(c:Int)(d:DB):bZ:=⟨s.id,s.rows,s.round,s.received++ [⟨c,d⟩],s.behavior⟩
def oB(s:bZ)(c:Int)(d:DB):Bool:=dN s&&dN (oA s c d)
def Ro(s:bZ)(c:Int)(d:DB):bZ:=if oB s c d then oA s c d else s
def below(s:bZ)(c:Int):Prop:= ∀r,r∈s.received→r.client<c
theorem VG{s:bZ}{c e:Int}{d:DB}(h:below s c)(hc:c<e):below (Ro s c d) e:=by
 intro r hr
 unfold Ro at hr
 split at hr
 ·rcases aL.1 hr with h1|h1
  ·have:=h r h1;omega
  ·rw[aR.1 h1];exact hc
 ·have:=h r hr;omega
theorem VH{s:bZ}{c:Int}{d:DB}(h:sW s)(hd:eC d=true):sW (Ro s c d):=by
 unfold Ro
 split
 ·rename_i hk
  have h1:(oA s c d).received.length≤8:=by
   simp only[oB,dN,Az,ak,decide_eq_true_eq]at hk;omega
  refine⟨by omega,fun r hr=> ?_⟩
  rcases aL.1 hr with h2|h2
  ·exact h.2 r h2
  ·rw[aR.1 h2];exact gz hd
 ·exact h
def WE(c:Int)(r:bE):Bool:=r.client==c
def oV(l:List bE)(c:Int):Bool:=l.any (WE c)
def Bd(l:List bE)(c:Int):DB:=if oV l c then(l.getD (fidx (WE c) l).toNat (aP .bE)).share else⟨[]⟩
theorem Rp{l:List bE}{c:Int}{k:Nat}(h:k<l.length)(h1:(l.take k).any (WE c)=false)(h2:WE c (l.getD k (aP .bE))=true):oV l c=true∧Bd l c=(l.getD k (aP .bE)).share:=by
 have ha:oV l c=true:=Gu l (WE c) (aP .bE) k h h2
 exact⟨ha,by rw[Bd,if_pos ha,Cl (aP .bE) h h1 h2];rfl⟩
theorem Gx{l:List bE}{c:Int}(h:l.any (WE c)=false):oV l c=false∧Bd l c=⟨[]⟩:=⟨h,by rw[Bd,oV,h];rfl⟩
theorem Y6{s:bZ}{c:Int}(h:below s c):oV s.received c=false:=by
 unfold oV
 rw[bR]
 intro r hr
 have:=h r hr
 simp only[WE,beq_iff_eq];omega
theorem IG{l:List bE}{c:Int}(h: ∀r,r∈l→fU aQ r.share.rows≤1048576):fU aQ (Bd l c).rows≤1048576:=by
 unfold Bd
 split
 ·rw[an]
  cases hq:l[(fidx (WE c) l).toNat]? with
  |none=>exact by decide
  |some r=>exact h r (dL hq)
 ·exact by decide
theorem Rq{s:bZ}{c:Int}{d:DB}(h:oB s c d=false):Ro s c d=s:=by rw[Ro,h];rfl
theorem Mn{s:bZ}{c:Int}{d:DB}(h:oB s c d=true):Ro s c d=oA s c d:=by rw[Ro,h];rfl
theorem ac9{s:bZ}{c:Int}{k:Nat}(hb: ∀r,r∈s.received→r.client<c)(hk:k≤s.received.length)(h:(if decide ((k:Int)<(s.received.length:Int))=true then decide ((s.received.getD k (aP .bE)).client<c)else false)=false):k=s.received.length:=by
 by_cases h1:k<s.received.length
 ·rw[if_pos (by simpa using h1)]at h
  have:=hb _ (getD_in (aP .bE) h1)
  simp only[decide_eq_false_iff_not]at h
  omega
 ·omega
theorem ins_eq(l:List bE)(y:bE): []++List.drop (cL 0) (List.take ((l.length:Int)).toNat l)++ [y]++ []=l++ [y]:=by simp
theorem ajV{s:bZ}{c:Int}{d:DB}(h:(if !dN s then true else !dN (oA s c d))=true):oB s c d=false:=by
 unfold oB
 cases h1:dN s<;>cases h2:dN (oA s c d)<;>simp_all
theorem ajW{s:bZ}{c:Int}{d:DB}(h:(if !dN s then true else !dN (oA s c d))=false):oB s c d=true:=by
 unfold oB
 cases h1:dN s<;>cases h2:dN (oA s c d)<;>simp_all
def Mo(d:DB):Int:=hsh ((d.rows.length:Int)::d.rows.flatMap JC)
theorem wj(l:List UInt8):(JC l).length=l.length+1:=by simp[JC]
theorem Y7(l:List (List UInt8)): ∀k,((l.take k).flatMap JC).length≤fU aQ l:=by
 have key: ∀m:List (List UInt8),(m.flatMap JC).length=fU aQ m:=by
  intro m
  induction m with
  |nil=>rfl
  |cons x r ih=>rw[List.flatMap_cons,aY,ih,wj];unfold fU;simp only[b9,cA,rH];omega
 intro k
 rw[key]
 have h1:=qd l aQ k
 unfold fU
 have:(l.take k).length≤l.length:=List.length_take_le' _ _
 omega
theorem Tm(l:List (List UInt8))(k:Nat)(h:k<l.length):(l.take (k+1)).flatMap JC=(l.take k).flatMap JC++JC (l.getD k (aP (.sl .u8))):=by
 rw[cM l k (aP (.sl .u8)) h,fC];simp
def kG(m s:Int):Int:=Fl (kh m [173,s])
theorem Y8{m s:Int}:(if kh m [173,s]>1 then kh m [173,s]else 1)=kG m s:=by
 have:=gm m [173,s]
 unfold kG Fl
 split<;>split<;>omega
def II(c r:Int)(d:DB):Int:=hsh [179,c,r,Mo d]
def VI(key s c r g:Int):Int:=kh key [181,s,c,r,g]
def mkR(key s c r:Int)(d:DB):gK:=⟨s,c,r,II c r d,VI key s c r (II c r d)⟩
def Tn(l:List bZ)(c:Int)(ds:List DB):List bZ:=dz (fun s d=>Ro s c d) l ds
def Ab(x:ck):Nat→List bZ
 |0=>x.av
 |k+1=>Tn (Ab x k) (k:Int) (eY x (k:Int))
def ahh(x:ck)(c:Nat)(i:Nat):List gK:= [mkR (kG x.bS (i:Int)) (i:Int) (c:Int) x.round ((eY x (c:Int)).getD i (aP .DB))]
def IJ(x:ck)(c:Nat)(n:Nat):List gK:=(bD n).flatMap (ahh x c)
def IK(x:ck)(n:Nat):List gK:=(bD n).flatMap fun c=>IJ x c x.av.length
theorem Er(x:ck)(c n:Nat):IJ x c (n+1)=IJ x c n++ [mkR (kG x.bS (n:Int)) (n:Int) (c:Int) x.round ((eY x (c:Int)).getD n (aP .DB))]:=by
 unfold IJ
 rw[eN,fC];simp[ahh]
theorem Es(x:ck)(n:Nat):IK x (n+1)=IK x n++IJ x n x.av.length:=by
 unfold IK
 rw[eN,fC];simp
theorem CC(x:ck)(c:Nat): ∀n,(IJ x c n).length=n
 |0=>rfl
 |n+1=>by rw[Er,aY,CC x c n];rfl
theorem IL(x:ck): ∀n,(IK x n).length=n*x.av.length
 |0=>by simp[IK]
 |n+1=>by rw[Es,aY,IL x n,CC,cJ];omega
structure Col(x:ck)(k:Nat):Prop where
 len:(Ab x k).length=x.av.length
 bel: ∀s,s∈Ab x k→below s (k:Int)
 sml: ∀s,s∈Ab x k→sW s
theorem zL{x:ck}(h:okW x=true): ∀s,s∈x.av→s.received= []:=by
 intro s hs
 obtain⟨i,hi,rfl⟩:=ef.1 hs
 have h1:=Mm h hi
 have e:x.av.getD i (aP .bZ)=x.av[i]:=by rw[an,au hi];rfl
 simp only[KE,e,ak,decide_eq_true_eq]at h1
 have h2:x.av[i].received.length=0:=by omega
 exact fJ.1 h2
theorem Be{x:ck}{c:Int}(h:okW x=true): ∀d,d∈eY x c→eC d=true:=by
 have:=qN h
 exact Y5 (by omega)
theorem OY{l:List bZ}{c:Int}{ds:List DB}{s:bZ}(h:s∈Tn l c ds): ∃t d,t∈l∧d∈ds∧s=Ro t c d:=by
 induction l generalizing ds with
 |nil=>cases h
 |cons t l ih=>
  cases ds with
  |nil=>cases h
  |cons d ds=>
   rcases List.mem_cons.1 h with h1|h1
   ·exact⟨t,d,dU ..,dU ..,h1⟩
   ·obtain⟨t',d',q1,q2,q3⟩:=ih h1
    exact⟨t',d',aK _ q1,aK _ q2,q3⟩
theorem col{x:ck}(h:okW x=true): ∀k,k≤x.af.length→Col x k
 |0,_=>by
  have he:=zL h
  refine⟨rfl,fun s hs=> ?_,fun s hs=> ?_⟩
  ·intro r hr;rw[he s hs]at hr;cases hr
  ·refine⟨by rw[he s hs];decide,fun r hr=> ?_⟩
   rw[he s hs]at hr;cases hr
 |k+1,hk=>by
  have ih:=col h k (by omega)
  have hl:(eY x (k:Int)).length=x.av.length:=lR h (by omega)
  refine⟨?_,fun s hs=> ?_,fun s hs=> ?_⟩
  ·show(dz _ _ _).length=_
   rw[jk,ih.len,hl];omega
  ·obtain⟨t,d,h1,h2,rfl⟩:=OY hs
   exact VG (ih.bel t h1) (by omega)
  ·obtain⟨t,d,h1,h2,rfl⟩:=OY hs
   exact VH (ih.sml t h1) (Be h d h2)
theorem oC{x:ck}(h:okW x=true){k:Nat}(hk:k≤x.af.length):(Ab x k).length=x.av.length:=(col h k hk).len
theorem OZ{x:ck}(h:okW x=true){k i:Nat}(hk:k<x.af.length)(hi:i<x.av.length):(Ab x (k+1)).getD i (aP .bZ)=Ro ((Ab x k).getD i (aP .bZ)) (k:Int) ((eY x (k:Int)).getD i (aP .DB)):=by
 have hl:(eY x (k:Int)).length=x.av.length:=lR h (by omega)
 have h2:=oC h (k:=k) (by omega)
 show(dz _ _ _).getD i _=_
 rw[an,an,an,qA,au (show i<(Ab x k).length by omega),au (show i<(eY x (k:Int)).length by omega)]
 rfl
def Ac(x:ck)(k i:Nat):List bZ:=(Ab x (k+1)).take i++(Ab x k).drop i
theorem O0{x:ck}(h:okW x=true){k i:Nat}(hk:k<x.af.length)(hi:i≤x.av.length):(Ac x k i).length=x.av.length:=by
 have h1:=oC h (k:=k) (by omega)
 have h2:=oC h (k:=k+1) (by omega)
 unfold Ac
 rw[nX _ _ _ (by omega) (by omega),h1]
theorem O1{x:ck}(h:okW x=true){k i:Nat}(hk:k<x.af.length)(hi:i<x.av.length):(Ac x k i).getD i (aP .bZ)=(Ab x k).getD i (aP .bZ):=by
 have h2:=oC h (k:=k+1) (by omega)
 exact nW _ _ _ _ (by omega)
theorem KP{x:ck}(h:okW x=true){k i:Nat}(hk:k<x.af.length)(hi:i<x.av.length):(Ac x k i).set i (Ro ((Ac x k i).getD i (aP .bZ)) (k:Int) ((eY x (k:Int)).getD i (aP .DB)))=Ac x k (i+1):=by
 have h1:=oC h (k:=k) (by omega)
 have h2:=oC h (k:=k+1) (by omega)
 rw[O1 h hk hi]
 exact yh _ _ _ (aP .bZ) _ (by omega) (by omega) (OZ h hk hi)
theorem O2{x:ck}(h:okW x=true){k i:Nat}(hk:k<x.af.length)(hi:x.av.length≤i):Ac x k i=Ab x (k+1):=by
 have h1:=oC h (k:=k) (by omega)
 have h2:=oC h (k:=k+1) (by omega)
 unfold Ac
 rw[aB (by omega),gJ (by omega),cS]
theorem O3{x:ck}(h:okW x=true){k i:Nat}(hk:k<x.af.length)(hi:i<x.av.length):below ((Ac x k i).getD i (aP .bZ)) (k:Int)∧sW ((Ac x k i).getD i (aP .bZ))∧fU aQ ((eY x (k:Int)).getD i (aP .DB)).rows≤1048576:=by
 rw[O1 h hk hi]
 have c:=col h k (by omega)
 have hl:(eY x (k:Int)).length=x.av.length:=lR h (by omega)
 exact⟨c.bel _ (getD_in _ (by rw[c.len];exact hi)),c.sml _ (getD_in _ (by rw[c.len];exact hi)),gz (Be h _ (getD_in _ (by omega)))⟩
def cg(x:ck):List bZ:=if okW x then Ab x x.af.length else []
def jA(x:ck):List gK:=if okW x then IK x x.af.length else []
end
section
def jB(l:List bz)(f:Int):List Int:=(l.filter fun r=>decide (f≤r.round)).map bz.round
theorem IP(l:List bz)(f:Int)(k:Nat)(h:k<l.length)(h2:f≤(l.getD k (aP .bz)).round):jB (l.take (k+1)) f=jB (l.take k) f++ [(l.getD k (aP .bz)).round]:=by
 unfold jB
 rw[cM l k (aP .bz) h,oG,eu]
 generalize l.getD k (aP .bz)=r at h2 ⊢
 simp[F5,h2]
theorem FC(l:List bz)(f:Int)(k:Nat)(h:k<l.length)(h2: ¬f≤(l.getD k (aP .bz)).round):jB (l.take (k+1)) f=jB (l.take k) f:=by
 unfold jB
 rw[cM l k (aP .bz) h,oG,eu]
 generalize l.getD k (aP .bz)=r at h2 ⊢
 simp[F5,h2]
theorem Bh(l:List bz)(f:Int):(jB l f).length≤l.length:=by
 unfold jB
 rw[bg];exact List.length_filter_le _ _
theorem FD(l:List bz)(f:Int)(k:Nat):(jB (l.take k) f).length≤k:=by
 have h1:=Bh (l.take k) f
 rw[bV]at h1
 omega
end
section
def JD(key c:Int)(cell:List UInt8):List UInt8:=decr (nJ key c) (cell.take 20)
def JE(key c:Int)(cell:List UInt8):Bool:=iT key&&inr c 0 1000000000000&&decide ((cell.length:Int)=24)&&(cell.drop 20==four (lN key c (cell.take 20)))
def opB(key c:Int)(cell:List UInt8):Bool:=inr ((JD key c cell).getD 0 (aP .u8)).toNat 0 3&&decide ((((JD key c cell).getD 1 (aP .u8)).toNat:Int)≤14)
def pS(key c:Int)(cell:List UInt8):Bool:=JE key c cell&&opB key c cell
def O5(key c:Int)(cell:List UInt8):Plain:=if pS key c cell then⟨((JD key c cell).getD 0 (aP .u8)).toNat,((JD key c cell).take (2+((JD key c cell).getD 1 (aP .u8)).toNat)).drop 2⟩else⟨0,[]⟩
theorem Mr{key c:Int}{cell:List UInt8}(h:JE key c cell=true):(JD key c cell).length=20∧cell.length=24:=by
 simp only[JE,ak,decide_eq_true_eq]at h
 have:cell.length=24:=by omega
 refine⟨?_,this⟩
 unfold JD
 rw[qx,bV];omega
theorem qO{key c:Int}{cell:List UInt8}(h:pS key c cell=false):O5 key c cell=⟨0,[]⟩:=by rw[O5,h];rfl
theorem Zd(key c:Int)(cell:List UInt8):(O5 key c cell).body.length≤14:=by
 unfold O5
 split
 ·rename_i h
  simp only[pS,opB,ak,decide_eq_true_eq]at h
  simp only[bW,bV];omega
 ·exact aD _
theorem Ze(a b c d:UInt8)(n:Int)(h0:0≤n)(h1:n<4294967296):([a,b,c,d]==four n)=decide ((a.toNat:Int)+256*b.toNat+65536*c.toNat+16777216*d.toNat=n):=by
 have ha:=a.toNat_lt;have hb:=b.toNat_lt;have hc:=c.toNat_lt;have hd:=d.toNat_lt
 rw[Ij,beq_iff_eq,decide_eq_true_eq]
 have key: ∀(x:UInt8) (m:Int),x=b8 m↔(x.toNat:Int)=m % 256:=by
  intro x m
  constructor
  ·rintro rfl;exact qv m
  ·intro h;apply Mc;rw[qv];exact h
 unfold four
 simp only[List.cons.injEq,and_true,key]
 constructor
 ·rintro⟨q1,q2,q3,q4⟩;omega
 ·intro h;omega
def Tp(r:Int)(a:bz):Bool:=a.round==r
def kQ(l:List bz)(r:Int):Bool:=l.any (Tp r)
def jW(l:List bz)(r:Int):DB:=if kQ l r then(l.getD (fidx (Tp r) l).toNat (aP .bz)).db else⟨[]⟩
theorem Rr{l:List bz}{r:Int}{k:Nat}(h:k<l.length)(h1:(l.take k).any (Tp r)=false)(h2:Tp r (l.getD k (aP .bz))=true):kQ l r=true∧jW l r=(l.getD k (aP .bz)).db:=by
 have ha:kQ l r=true:=Gu l (Tp r) (aP .bz) k h h2
 exact⟨ha,by rw[jW,if_pos ha,Cl (aP .bz) h h1 h2];rfl⟩
theorem Gy{l:List bz}{r:Int}(h:l.any (Tp r)=false):kQ l r=false∧jW l r=⟨[]⟩:=⟨h,by rw[jW,kQ,h];rfl⟩
def adb(rows:List (List UInt8))(v:List Int)(o:List UInt8)(k:Nat):List UInt8:=if decide ((k:Int)<v.length)&&(v.getD k (aP .int)==1)then fG o (rows.getD k (aP (.sl .u8)))else o
def vi(rows:List (List UInt8))(v:List Int)(k:Nat):List UInt8:=(bD k).foldl (adb rows v) []
def Bk(rows:List (List UInt8))(v:List Int):List UInt8:=vi rows v rows.length
theorem KR(rows:List (List UInt8))(v:List Int)(k:Nat):vi rows v (k+1)=adb rows v (vi rows v k) k:=by
 unfold vi
 rw[eN,ep];rfl
theorem yI{rows:List (List UInt8)}{v:List Int}{k:Nat}(h:k<v.length)(h1:v.getD k (aP .int)=1):vi rows v (k+1)=fG (vi rows v k) (rows.getD k (aP (.sl .u8))):=by
 rw[KR,adb,if_pos]
 simp only[ak,decide_eq_true_eq,beq_iff_eq]
 exact⟨by omega,h1⟩
theorem rU{rows:List (List UInt8)}{v:List Int}{k:Nat}(h: ¬(k<v.length∧v.getD k (aP .int)=1)):vi rows v (k+1)=vi rows v k:=by
 rw[KR,adb,if_neg]
 simp only[ak,decide_eq_true_eq,beq_iff_eq]
 intro h2
 exact h ⟨by omega,h2.2⟩
theorem KS(rows:List (List UInt8))(v:List Int)(k:Nat)(h:v.length≤k): ∀n,vi rows v (k+n)=vi rows v k
 |0=>rfl
 |n+1=>by rw[←Nat.add_assoc,rU (by omega)];exact KS rows v k h n
theorem O6{rows:List (List UInt8)}{v:List Int}{k:Nat}(hk:k≤rows.length)(h:rows.length≤k∨v.length≤k):vi rows v k=Bk rows v:=by
 unfold Bk
 rcases h with h|h
 ·rw[show k=rows.length by omega]
 ·have:=KS rows v k h (rows.length-k)
  rw[show k+(rows.length-k)=rows.length by omega]at this
  exact this.symm
theorem yJ{rows:List (List UInt8)}(v:List Int)(h: ∀r,r∈rows→r.length≤1048576): ∀k,k≤rows.length→(vi rows v k).length≤1048576
 |0,_=>aD _
 |k+1,hk=>by
  have ih:=yJ v h k (by omega)
  by_cases hh:k<v.length∧v.getD k (aP .int)=1
  ·rw[yI hh.1 hh.2,eI]
   have:=h _ (getD_in (aP (.sl .u8)) (show k<rows.length by omega))
   omega
  ·rw[rU hh];exact ih
def iz(d:DB)(v:List Int):List UInt8:=if eC d&&fB v d.rows.length then fG Nf (Bk d.rows v)else []
theorem yK(d:DB)(v:List Int):(iz d v).length=24∨iz d v= []:=by
 unfold iz
 split
 ·left
  rename_i h
  simp only[ak]at h
  have key: ∀k,k≤d.rows.length→(vi d.rows v k).length≤24:=by
   intro k
   induction k with
   |zero=>intro _;exact aD _
   |succ k ih=>
    intro hk
    by_cases hh:k<v.length∧v.getD k (aP .int)=1
    ·rw[yI hh.1 hh.2,eI,p9 h.1 k (by omega)]
     have:=ih (by omega);omega
    ·rw[rU hh];exact ih (by omega)
  have:=key d.rows.length (aZ _)
  unfold Bk
  rw[eI,ox];omega
 ·right;rfl
def IQ(key sv r:Int)(v:List Int)(b:List UInt8):Int:=kh key ([191,sv,r,(v.length:Int)]++v++JC b)
def mkA(key sv r:Int)(v:List Int)(b:List UInt8):eU:=⟨sv,r,v,b,IQ key sv r v b⟩
def nK(d:DB)(v:List Int):Bool:= !((iz d v).length==0)
def noA:eU:=⟨0,0,[],[],0⟩
def tD(key sv r:Int)(d:DB)(v:List Int):eU:=if nK d v then mkA key sv r v (iz d v)else noA
def KT(b:List UInt8):List UInt8:=b.set 0 (b.getD 0 (aP .u8)^^^128)
def Ms(s:bZ)(key r:Int)(d:DB)(v:List Int):eU:=if nK d v then(if s.behavior=3 then mkA key s.id r v (KT (iz d v))else mkA key s.id r v (iz d v))else noA
theorem Zf(s:bZ)(key r:Int)(d:DB)(v:List Int):(Ms s key r d v).data.length=24∨(nK d v=false∧(Ms s key r d v).data= []):=by
 unfold Ms
 cases h:nK d v with
 |false=>right;exact⟨rfl,rfl⟩
 |true=>
  left
  have h1:=yK d v
  have h2:(iz d v).length=24:=by
   rcases h1 with h1|h1
   ·exact h1
   ·rw[nK,h1]at h;cases h
  simp only[if_true]
  split
  ·show(KT (iz d v)).length=24
   unfold KT;rw[bA];exact h2
  ·exact h2
def kR(l:List (List UInt8)):Bool:=eA l.length&&l.all fun a=>decide ((a.length:Int)=24)
def yL(l:List (List UInt8)):List UInt8:=l.foldl fG []
def cmb(l:List (List UInt8)):List UInt8:=if kR l then yL l else []
theorem Eu(l:List (List UInt8))(k:Nat)(h:k<l.length):yL (l.take (k+1))=fG (yL (l.take k)) (l.getD k (aP (.sl .u8))):=by
 unfold yL
 rw[cM l k (aP (.sl .u8)) h,ep];rfl
theorem O7{l:List (List UInt8)}(h: ∀a,a∈l→a.length≤1048576): ∀k,(yL (l.take k)).length≤1048576:=by
 intro k
 induction k with
 |zero=>exact aD _
 |succ k ih=>
  by_cases hk:k<l.length
  ·rw[Eu l k hk,eI]
   have:=h _ (getD_in (aP (.sl .u8)) hk)
   omega
  ·rw[aB (by omega)]at ih ⊢
   exact ih
def Zg(x:ck)(r:Int)(d:DB)(q:List (List Int))(i:Nat):eU:=Ms (x.av.getD i (aP .bZ)) (kG x.bS (i:Int)) r d (q.getD i (aP (.sl .int)))
def wS(x:ck)(r:Int)(d:DB)(q:List (List Int))(n:Nat):List eU:=(bD n).map (Zg x r d q)
theorem IS(x:ck)(r:Int)(d:DB)(q:List (List Int))(n:Nat):wS x r d q (n+1)=wS x r d q n++ [Zg x r d q n]:=by
 unfold wS
 rw[eN,eu];rfl
theorem KU(x:ck)(r:Int)(d:DB)(q:List (List Int))(n:Nat):(wS x r d q n).length=n:=by simp[wS]
def query'(x:ck)(r row s:Int):List (List Int):=mm x.rows row (jS x.av.length r row s)
def wT(x:ck)(r row s:Int):List (List UInt8):=(wS x r (jW x.aJ.rounds r) (query' x r row s) (query' x r row s).length).map eU.data
def FE(x:ck)(r row s:Int):Bool:=kQ x.aJ.rounds r&&kR (wT x r row s)
def Mt(x:ck)(r row s:Int):List UInt8:=if kQ x.aJ.rounds r then cmb (wT x r row s)else []
theorem Zh{x:ck}{r row s:Int}{k:Nat}(hk:k<(query' x r row s).length)(h:nK (jW x.aJ.rounds r) ((query' x r row s).getD k (aP (.sl .int)))=false):kR (wT x r row s)=false:=by
 unfold kR
 have h1:(Zg x r (jW x.aJ.rounds r) (query' x r row s) k).data∈wT x r row s:=by
  unfold wT wS
  rw[lD]
  exact cq.2 ⟨k,cm.2 hk,rfl⟩
 have h2:(Zg x r (jW x.aJ.rounds r) (query' x r row s) k).data= []:=by
  rcases Zf (x.av.getD k (aP .bZ)) (kG x.bS (k:Int)) r (jW x.aJ.rounds r) ((query' x r row s).getD k (aP (.sl .int)))with h3|h3
  ·unfold Zg;unfold Ms;rw[h];rfl
  ·exact h3.2
 have h3:((wT x r row s).all fun a=>decide ((a.length:Int)=24))=false:=by
  rw[pF]
  exact⟨_,h1,by rw[h2];decide⟩
 rw[h3,qa]
def pT(c:gQ)(r:Int):Bool:=fP c&&inr r c.next 99999
def lu(c:gQ)(own:List UInt8):Bool:=decide (c.sent<(c.bu.length:Int))&&(own==sP c c.sent)
def wU(c:gQ):Int:=mK c.key (1-eP c)
def jP(c:gQ)(other:List UInt8):Bool:=(pS (wU c) (c.inbox.length:Int) other&&((O5 (wU c) (c.inbox.length:Int) other).kind==1))&&decide ((c.inbox.length:Int)<16)
def gR(c:gQ)(r:Int)(own other:List UInt8):gQ:=if pT c r then⟨c.id,c.gE,c.key,c.seed,c.bu,if lu c own then c.sent+1 else c.sent,if jP c other then c.inbox++ [(O5 (wU c) (c.inbox.length:Int) other).body]else c.inbox,r+1⟩else c
def AB(d:cz):Bool:=fX d&&decide (4≤aq.wrap (d.live.next-d.saved.next))
def wm(d:cz)(r:Int):Bool:=pT d.live r&&fX d
def qD(d:cz)(r:Int)(own other:List UInt8):cz:=⟨gR d.live r own other,d.saved⟩
def rdev(d:cz)(r:Int)(own other:List UInt8):cz:=if wm d r then(if AB (qD d r own other)then⟨gR d.live r own other,gR d.live r own other⟩else qD d r own other)else d
def wV(a b:gQ):Prop:=a.id=b.id∧a.gE=b.gE∧a.key=b.key∧a.seed=b.seed
theorem Bl(c:gQ)(r:Int)(own other:List UInt8):wV (gR c r own other) c:=by
 unfold gR
 split
 ·exact⟨rfl,rfl,rfl,rfl⟩
 ·exact⟨rfl,rfl,rfl,rfl⟩
theorem VK(d:cz)(r:Int)(own other:List UInt8):wV (rdev d r own other).live d.live:=by
 unfold rdev
 split
 ·split
  ·exact Bl _ _ _ _
  ·exact Bl _ _ _ _
 ·exact⟨rfl,rfl,rfl,rfl⟩
theorem Rs{a b:gQ}(h:wV a b):eP a=eP b:=by unfold eP;rw[h.1,h.2.1]
def Mu(x:ck)(d0 d:cz)(r:Int):cz:=rdev d r (Mt x r (iQ d0.live.key r (eP d0.live) x.rows) d0.live.seed) (Mt x r (iQ d0.live.key r (1-eP d0.live) x.rows) d0.live.seed)
def Mv(x:ck)(d0:cz)(l:List Int):cz:=l.foldl (Mu x d0) d0
theorem VL(x:ck)(d0:cz)(l:List Int)(k:Nat)(h:k<l.length):Mv x d0 (l.take (k+1))=Mu x d0 (Mv x d0 (l.take k)) (l.getD k (aP .int)):=by
 unfold Mv
 rw[cM l k (aP .int) h,ep];rfl
theorem Ew(x:ck)(d0:cz): ∀(l:List Int) (d:cz),wV d.live d0.live→wV (l.foldl (Mu x d0) d).live d0.live
 | [],_,h=>h
 |r::l,d,h=>by
  refine Ew x d0 l _ ?_
  have:=VK d r (Mt x r (iQ d0.live.key r (eP d0.live) x.rows) d0.live.seed) (Mt x r (iQ d0.live.key r (1-eP d0.live) x.rows) d0.live.seed)
  exact⟨this.1.trans h.1,this.2.1.trans h.2.1,this.2.2.1.trans h.2.2.1,this.2.2.2.trans h.2.2.2⟩
def uc(x:ck)(d:cz):List Int:=jB x.aJ.rounds d.live.next
def oH(x:ck)(d:cz):cz:=Mv x d (uc x d)
def vB(x:ck)(k i:Nat):List cz:=(x.af.map (oH x)).take k++(Mv x (x.af.getD k (aP .cz)) ((uc x (x.af.getD k (aP .cz))).take i)::x.af.drop (k+1))
def WG(x:ck)(k:Nat):List cz:=(x.af.map (oH x)).take k++x.af.drop k
theorem Zi(x:ck)(k:Nat)(h:k<x.af.length):vB x k 0=WG x k:=by
 unfold vB WG
 rw[mH,eG h,show x.af[k]=x.af.getD k (aP .cz)by rw[an,au h];rfl];rfl
theorem CD(x:ck)(k:Nat)(h:k<x.af.length):((x.af.map (oH x)).take k).length=k:=by
 rw[bV,bg];omega
theorem Tq(x:ck)(k i:Nat)(h:k<x.af.length):(vB x k i).length=x.af.length:=by
 unfold vB
 rw[aY,CD x k h,b9,bW];omega
theorem Gz(x:ck)(k i:Nat)(h:k<x.af.length):(vB x k i).getD k (aP .cz)=Mv x (x.af.getD k (aP .cz)) ((uc x (x.af.getD k (aP .cz))).take i):=by
 unfold vB
 rw[an,bU (by rw[CD x k h];omega),CD x k h,qn];rfl
theorem O8(x:ck)(k i:Nat)(h:k<x.af.length)(hi:i<(uc x (x.af.getD k (aP .cz))).length):(vB x k i).set k (Mu x (x.af.getD k (aP .cz)) ((vB x k i).getD k (aP .cz)) ((uc x (x.af.getD k (aP .cz))).getD i (aP .int)))=vB x k (i+1):=by
 rw[Gz x k i h, ←VL x _ _ i hi]
 unfold vB
 rw[yj _ _ (by rw[CD x k h];omega),CD x k h,qn];rfl
theorem Tr(x:ck)(k i:Nat)(h:k<x.af.length)(hi:(uc x (x.af.getD k (aP .cz))).length≤i):vB x k i=WG x (k+1):=by
 unfold vB WG
 rw[aB hi,cM (x.af.map (oH x)) k (aP .cz) (by rw[bg];exact h),ct]
 congr 1
 rw[show(x.af.map (oH x)).getD k (aP .cz)=oH x (x.af.getD k (aP .cz))by
  rw[an,an,dR,au h];rfl]
 rfl
theorem Tt(x:ck)(k:Nat)(h:k<x.af.length):(WG x k).getD k (aP .cz)=x.af.getD k (aP .cz):=by rw[←Zi x k h,Gz x k 0 h];rfl
theorem Tu(x:ck)(k:Nat)(h:k≤x.af.length):(WG x k).length=x.af.length:=by
 unfold WG
 rw[nX _ _ _ (by rw[bg]) h]
def Dt(x:ck):ck:=if okW x then⟨x.rows,x.av,x.af.map (oH x),x.aJ,x.bS,x.seed,x.round,x.replaced,x.cancelled⟩else x
theorem Tv(x:ck)(k:Nat)(hk:k≤x.af.length)(h:x.af.length≤k):WG x k=x.af.map (oH x):=by
 unfold WG
 rw[aB (by rw[bg];exact h),gJ h,cS]
end
section
theorem VM(x:UInt8):aq.wrap (x.toNat:Int)=x.toNat:=cV (by have:=x.toNat_lt;omega)
def WH(key c:Int)(cell:List UInt8):Int:=((JD key c cell).getD 0 (aP .u8)).toNat
def GA(key c:Int)(cell:List UInt8):Nat:=((JD key c cell).getD 1 (aP .u8)).toNat
def opb(key c:Int)(cell:List UInt8):List UInt8:=((JD key c cell).take (2+GA key c cell)).drop 2
theorem ahk(key c:Int)(cell:List UInt8):GA key c cell<256:=((JD key c cell).getD 1 (aP .u8)).toNat_lt
theorem Zj(key c:Int)(cell:List UInt8):decr (nJ key c) ((cell.take (20:Int).toNat).drop (0:Int).toNat)=JD key c cell:=by unfold JD;simp
theorem Rt(key c:Int)(cell:List UInt8):((JD key c cell).take (aq.wrap (2+aq.wrap (((JD key c cell).getD (cL 1) (aP .u8)).toNat:Int))).toNat).drop (cL 2)=opb key c cell:=by
 have h:=ahk key c cell
 rw[VM,cV (by show _∧2+(GA key c cell:Int)≤_;show _≤2+(GA key c cell:Int)∧_;omega)]
 show((JD key c cell).take (2+(GA key c cell:Int)).toNat).drop 2=_
 rw[show(2+(GA key c cell:Int)).toNat=2+GA key c cell by omega];rfl
theorem ae8{key c:Int}{cell:List UInt8}(h:14<GA key c cell):pS key c cell=false:=by
 have:opB key c cell=false:=by
  simp only[opB,lS,decide_eq_false_iff_not]
  right
  show¬((GA key c cell:Int)≤14)
  omega
 rw[pS,this,qa]
theorem IT{key c:Int}{cell:List UInt8}(h:JE key c cell=false):pS key c cell=false:=by rw[pS,h];rfl
theorem Mw{key c:Int}{cell:List UInt8}(hA:JE key c cell=true)(h:GA key c cell≤14):(opb key c cell).length=GA key c cell:=by
 have:=(Mr hA).1
 unfold opb
 rw[bW,bV];omega
theorem ajZ{key c:Int}{cell:List UInt8}(hA:JE key c cell=true)(h:GA key c cell≤14):jY ⟨WH key c cell,opb key c cell⟩=pS key c cell:=by
 have hl:=Mw hA h
 rw[pS,hA,c9,jY,opB]
 show(inr (WH key c cell) 0 3&&decide (((opb key c cell).length:Int)≤14))=(inr (WH key c cell) 0 3&&decide ((GA key c cell:Int)≤14))
 rw[hl]
theorem CE{key c:Int}{cell:List UInt8}(h:pS key c cell=true):O5 key c cell=⟨WH key c cell,opb key c cell⟩:=by rw[O5,if_pos h];rfl
theorem ae9{key c:Int}{cell:List UInt8}(hA:JE key c cell=true)(h:GA key c cell≤14)(hk:WH key c cell≤3):pS key c cell=true:=by
 rw[pS,hA,c9,opB]
 simp only[ak,dD,decide_eq_true_eq]
 exact⟨⟨by omega,hk⟩,by show(GA key c cell:Int)≤14;omega⟩
theorem ahl{key c:Int}{cell:List UInt8}(h:3<WH key c cell):pS key c cell=false:=by
 have:opB key c cell=false:=by
  simp only[opB,lS]
  left
  rw[aeX]
  show¬(0≤WH key c cell∧WH key c cell≤3)
  omega
 rw[pS,this,qa]
theorem ahm(a b k:Nat)(h:a<2^k):a||| (b*2^k)=a+b*2^k:=by
 have:=Nat.two_pow_add_eq_or_of_lt h b
 rw[Nat.mul_comm b,Nat.or_comm, ←this,yM]
theorem aho{a:Nat}{b k:Nat}(ha:a<2^k)(hb:b<256)(hk:k=8∨k=16∨k=24):aq.wrap (aV aq.bits (a:Int)|||aV aq.bits (aq.wrap ((b:Int)*2^k))).toNat=((a+b*2^k:Nat):Int):=by
 have hp:b*2^k<2^32:=by
  rcases hk with rfl|rfl|rfl<;>omega
 have ha2:a<2^24:=by
  rcases hk with rfl|rfl|rfl<;>omega
 have e:((b:Int)*2^k)=((b*2^k:Nat):Int):=by push_cast;rfl
 rw[e,cV (a:=((b*2^k:Nat):Int)) (by omega),iJ,iJ,BitVec.toNat_or,jL,jL]
 show aq.wrap (((a % 2^64|||b*2^k % 2^64:Nat)):Int)=_
 rw[kO (by omega),kO (by omega),ahm a b k ha,cV (by omega)]
def VN(cell:List UInt8):Int:=((cell.getD 20 (aP .u8)).toNat:Int)+256*(cell.getD 21 (aP .u8)).toNat+65536*(cell.getD 22 (aP .u8)).toNat+16777216*(cell.getD 23 (aP .u8)).toNat
theorem adf(cell:List UInt8):aq.wrap (aV aq.bits (aq.wrap (aV aq.bits (aq.wrap (aV aq.bits (aq.wrap ((cell.getD (cL 20) (aP .u8)).toNat:Int))|||aV aq.bits (aq.wrap (aq.wrap ((cell.getD (cL 21) (aP .u8)).toNat:Int)*2^(min (cL 8) aq.bits)))).toNat)|||aV aq.bits (aq.wrap (aq.wrap ((cell.getD (cL 22) (aP .u8)).toNat:Int)*2^(min (cL 16) aq.bits)))).toNat)|||aV aq.bits (aq.wrap (aq.wrap ((cell.getD (cL 23) (aP .u8)).toNat:Int)*2^(min (cL 24) aq.bits)))).toNat=VN cell:=by
 have h0:=(cell.getD 20 (aP .u8)).toNat_lt
 have h1:=(cell.getD 21 (aP .u8)).toNat_lt
 have h2:=(cell.getD 22 (aP .u8)).toNat_lt
 have h3:=(cell.getD 23 (aP .u8)).toNat_lt
 rw[VM,VM,VM,VM]
 show aq.wrap (aV aq.bits (aq.wrap (aV aq.bits (aq.wrap (aV aq.bits (((cell.getD 20 (aP .u8)).toNat:Nat):Int)|||aV aq.bits (aq.wrap ((((cell.getD 21 (aP .u8)).toNat:Nat):Int)*2^8))).toNat)|||aV aq.bits (aq.wrap ((((cell.getD 22 (aP .u8)).toNat:Nat):Int)*2^16))).toNat)|||aV aq.bits (aq.wrap ((((cell.getD 23 (aP .u8)).toNat:Nat):Int)*2^24))).toNat=_
 rw[aho (k:=8) h0 h1 (by omega),aho (k:=16) (by omega) h2 (by omega),aho (k:=24) (by omega) h3 (by omega)]
 unfold VN
 omega
theorem Zl{cell:List UInt8}(h:cell.length=24):cell.drop 20= [cell.getD 20 (aP .u8),cell.getD 21 (aP .u8),cell.getD 22 (aP .u8),cell.getD 23 (aP .u8)]:=by
 rw[nA cell 20 (aP .u8) (by omega),nA cell 21 (aP .u8) (by omega),nA cell 22 (aP .u8) (by omega),nA cell 23 (aP .u8) (by omega),gJ (by omega)]
theorem Tw{key c:Int}{cell:List UInt8}(h1:iT key=true)(h2:inr c 0 1000000000000=true)(h3:cell.length=24):JE key c cell=decide (VN cell=lN key c (cell.take 20)):=by
 have hr:=gm key (71::c::(cell.take 20).map (fun x=>(x.toNat:Int)))
 have FL:0≤lN key c (cell.take 20)∧lN key c (cell.take 20)<2147483647:=hr
 rw[JE,h1,h2,show decide ((cell.length:Int)=24)=true by rw[decide_eq_true_eq];omega,c9,c9,c9,Zl h3,Ze _ _ _ _ _ FL.1 (by omega)]
 rfl
def opH(key c:Int)(cell:List UInt8):Bool:=iT key&&inr c 0 1000000000000&&decide ((cell.length:Int)=24)
theorem ahp{key c:Int}{cell:List UInt8}(h:opH key c cell=false):pS key c cell=false:=by
 apply IT
 unfold opH at h
 rw[JE,h];rfl
theorem aj0{key c:Int}{cell:List UInt8}(h:opH key c cell=true):iT key=true∧inr c 0 1000000000000=true∧cell.length=24:=by
 simp only[opH,ak,decide_eq_true_eq]at h
 exact⟨h.1.1,h.1.2,by omega⟩
theorem Zm(l:List UInt8):l.set (cL 0) (dP (cE.wrap ((aV cE.bits (((l.getD (cL 0) (aP .u8)).toNat:Nat):Int)^^^aV cE.bits 128).toNat:Int)).toNat)=KT l:=by
 have:=YJ (l.getD (cL 0) (aP .u8)) 128
 rw[show(((128:UInt8).toNat:Nat):Int)=128 from rfl]at this
 rw[this];rfl
theorem Tx{d:DB}{v:List Int}(h:(iz d v).length=0):nK d v=false:=by rw[nK,h];rfl
theorem CF{d:DB}{v:List Int}(h: ¬(iz d v).length=0):nK d v=true:=by
 rw[nK,bq]
 exact beq_eq_false_iff_ne.2 h
theorem Zn{key sv r:Int}{d:DB}{v:List Int}(h:nK d v=false):tD key sv r d v=noA:=by rw[tD,h];rfl
theorem GB{key sv r:Int}{d:DB}{v:List Int}(h:nK d v=true):tD key sv r d v=mkA key sv r v (iz d v):=by rw[tD,if_pos h]
theorem zN{d:DB}{v:List Int}(h:nK d v=true):(iz d v).length=24:=by
 rcases yK d v with h1|h1
 ·exact h1
 ·rw[nK,h1]at h;cases h
theorem Zo{s:bZ}{key r:Int}{d:DB}{v:List Int}(h:(nK d v&&(s.behavior==3))=false):Ms s key r d v=tD key s.id r d v:=by
 unfold Ms tD
 cases hk:nK d v with
 |false=>rfl
 |true=>
  rw[hk,c9,beq_eq_false_iff_ne]at h
  rw[if_pos rfl,if_pos rfl,if_neg h]
theorem Ty{s:bZ}{key r:Int}{d:DB}{v:List Int}(h:(nK d v&&(s.behavior==3))=true):nK d v=true∧Ms s key r d v=mkA key s.id r v (KT (iz d v)):=by
 rw[ak,beq_iff_eq]at h
 exact⟨h.1,by rw[Ms,if_pos h.1,if_pos h.2]⟩
theorem Mx(b:List UInt8):(KT b).length=b.length:=by unfold KT;rw[bA]
theorem afb(s:bZ)(key r:Int)(d:DB){v:List Int}(hv:v.length≤262144):(Ms s key r d v).selection.length≤262144∧(Ms s key r d v).data.length≤262144:=by
 have h:=yK d v
 have h2:(iz d v).length≤262144:=by
  rcases h with h|h
  ·omega
  ·rw[h];exact aD _
 unfold Ms
 split
 ·split
  ·exact⟨hv,by show(KT (iz d v)).length≤_;rw[Mx];exact h2⟩
  ·exact⟨hv,h2⟩
 ·exact⟨aD _,aD _⟩
theorem My{l:List (List UInt8)}(h:kR l=true):cmb l=yL l:=by rw[cmb,if_pos h]
theorem GC{l:List (List UInt8)}(h:kR l=false):cmb l= []:=by rw[cmb,h];rfl
theorem O9{l:List (List UInt8)}(h:kR l=true): ∀a,a∈l→a.length≤1048576:=by
 intro a ha
 simp only[kR,ak,bw,decide_eq_true_eq]at h
 have:=h.2 a ha
 omega
theorem adg{l:List (List UInt8)}{k:Nat}(hk:k<l.length)(h: ¬(l.getD k (aP (.sl .u8))).length=24):kR l=false:=by
 have h2:(l.all fun a=>decide ((a.length:Int)=24))=false:=Q6 _ _ (aP (.sl .u8)) k hk (by rw[decide_eq_false_iff_not];omega)
 rw[kR,h2,qa]
theorem Zp(rows i:Int)(sd:List Int): ∀v,v∈mm rows i sd→v.length≤64:=by
 intro v hv
 unfold mm at hv
 split at hv
 ·rcases aL.1 hv with h|h
  ·obtain⟨s,_,rfl⟩:=cq.1 h
   exact lP _ _
  ·rw[aR.1 h]
   exact Eb rows i sd
 ·cases hv
theorem Zq(rows i:Int)(sd:List Int):(mm rows i sd).length≤sd.length+1:=by
 unfold mm
 split
 ·rw[aY,bg];simp
 ·exact aD _
theorem Tz{x:ck}(r row s:Int)(h:okW x=true):(query' x r row s).length≤x.av.length:=by
 have h1:=Zq x.rows row (jS x.av.length r row s)
 have h2:=pO x.av.length r row s
 have h3:=(gw h).2
 unfold query'
 omega
theorem Zr(x:ck)(r row s:Int)(k:Nat):((query' x r row s).getD k (aP (.sl .int))).length≤64:=by
 rw[an]
 cases hq:(query' x r row s)[k]? with
 |none=>exact aD _
 |some v=>exact Zp _ _ _ v (dL hq)
theorem Mz{x:ck}{r row s:Int}(h:kQ x.aJ.rounds r=false):Mt x r row s= []∧FE x r row s=false:=⟨by rw[Mt,h];rfl,by rw[FE,h];rfl⟩
theorem TA{x:ck}{r row s:Int}(h:kQ x.aJ.rounds r=true):Mt x r row s=cmb (wT x r row s)∧FE x r row s=kR (wT x r row s):=⟨by rw[Mt,if_pos h],by rw[FE,h,c9]⟩
theorem MA{x:ck}(h:okW x=true):x.aJ.rounds.length≤8∧ ∀y,y∈x.aJ.rounds→fU aQ y.db.rows≤1048576:=by
 have ha:=pM h
 simp only[Nd,ak]at ha
 have ha:iU x.aJ=true:=ha.1.1.1.1.1.2
 simp only[iU,Ih,ak,bw,cm,decide_eq_true_eq]at ha
 refine⟨by omega,fun y hy=> ?_⟩
 obtain⟨i,hi,rfl⟩:=ef.1 hy
 have h2:=ha.2 i hi
 have e:x.aJ.rounds.getD i (aP .bz)=x.aJ.rounds[i]:=by rw[an,au hi];rfl
 simp only[vZ,e,ak]at h2
 exact gz h2.1.2
end
section
def iq(rows:Int)(l:List bE):DB:=l.foldl (fun d r=>jl d r.share) (fk rows)
theorem KW(rows:Int)(l:List bE)(k:Nat)(h:k<l.length):iq rows (l.take (k+1))=jl (iq rows (l.take k)) (l.getD k (aP .bE)).share:=by
 unfold iq
 rw[cM l k (aP .bE) h,ep];rfl
theorem Pc(rows:Int):eC (fk rows)=true:=by
 rw[oy]
 refine⟨rR rows,fun r hr=> ?_⟩
 unfold fk at hr
 dsimp only at hr
 split at hr
 ·rw[(tW.1 hr).2];exact ox
 ·cases hr
theorem wq(a b:DB):(jl a b).rows.length=a.rows.length:=by
 cases h:k7 a b with
 |true=>rw[rT h];exact lQ h
 |false=>rw[va h]
theorem zO{a b:DB}(ha:eC a=true):eC (jl a b)=true:=by
 cases h:k7 a b with
 |true=>exact Iy ha (wg h).2.1
 |false=>rw[va h];exact ha
theorem TC(rows:Int): ∀(l:List bE) (d:DB),eC d=true→eC (l.foldl (fun d r=>jl d r.share) d)=true∧(l.foldl (fun d r=>jl d r.share) d).rows.length=d.rows.length
 | [],d,h=>⟨h,rfl⟩
 |r::l,d,h=>by
  have ih:=TC rows l (jl d r.share) (zO h)
  rw[wq]at ih
  exact ih
theorem Ez(rows:Int)(l:List bE):eC (iq rows l)=true∧(iq rows l).rows.length=(fk rows).rows.length:=TC rows l _ (Pc rows)
theorem TD(rows:Int)(l:List bE):fU aQ (iq rows l).rows≤1048576:=gz (Ez rows l).1
theorem TF{s:bZ}(h:dN s=true):(1≤s.rows∧s.rows≤64)∧s.received.length≤8:=by
 simp only[dN,Az,ak,dD,decide_eq_true_eq]at h
 omega
theorem CI{s:bZ}(h:dN s=true): ∀r,r∈s.received→fU aQ r.share.rows≤1048576:=by
 intro r hr
 obtain⟨i,hi,rfl⟩:=ef.1 hr
 simp only[dN,ak,bw,cm]at h
 have h2:=h.2 i hi
 have e:s.received.getD i (aP .bE)=s.received[i]:=by rw[an,au hi];rfl
 simp only[sM,e,ak]at h2
 exact gz h2.1.2
theorem VQ(rows:Int)(l:List bE)(f k:Nat)(h:k<l.length)(hf:f≤k):iq rows ((l.drop f).take (k+1-f))=jl (iq rows ((l.drop f).take (k-f))) (l.getD k (aP .bE)).share:=by
 rw[show k+1-f=(k-f)+1 by omega,KW _ _ _ (by rw[bW];omega)]
 congr 2
 rw[an,cN,show f+(k-f)=k by omega];rfl
theorem Zw(rows:Int)(l:List bE)(f k:Nat)(h:l.length≤k):iq rows ((l.drop f).take (k-f))=iq rows (l.drop f):=by
 rw[aB (by rw[bW];omega)]
def oR(s:bZ):DB:=if dN s then iq s.rows s.received else⟨[]⟩
def alt(d:DB):DB:=⟨d.rows.set 0 ((d.rows.getD 0 (aP (.sl .u8))).set 0 ((d.rows.getD 0 (aP (.sl .u8))).getD 0 (aP .u8)^^^1))⟩
def rcvd(s:bZ):List bE:=if s.behavior=1 then s.received.drop 1 else s.received
def kq(s:bZ):DB:=if dN s then(if s.behavior=2 then alt (iq s.rows (rcvd s))else iq s.rows (rcvd s))else⟨[]⟩
theorem alt_eq(d:DB):d.rows.set (cL 0) ((d.rows.getD (cL 0) (aP (.sl .u8))).set (cL 0) (dP (cE.wrap ((aV cE.bits ((((d.rows.getD (cL 0) (aP (.sl .u8))).getD (cL 0) (aP .u8)).toNat:Nat):Int)^^^aV cE.bits 1).toNat:Int)).toNat))=(alt d).rows:=by
 have:=YJ ((d.rows.getD (cL 0) (aP (.sl .u8))).getD (cL 0) (aP .u8)) 1
 rw[show(((1:UInt8).toNat:Nat):Int)=1 from rfl]at this
 rw[this];rfl
theorem Zx(a b:Int):JJ a b≤a∧JJ a b≤b∧(JJ a b=a∨JJ a b=b):=by unfold JJ;split<;>omega
theorem Zy(l:List bE):l.drop (JJ 1 (l.length:Int)).toNat=l.drop 1:=by
 have:=Zx 1 (l.length:Int)
 cases l with
 |nil=>simp
 |cons x r=>
  have h1:JJ 1 (((x::r).length:Nat):Int)=1:=by rw[b9]at this ⊢;omega
  rw[h1];rfl
theorem Rv{s:bZ}(h:dN s=true):0<(iq s.rows (rcvd s)).rows.length∧0<((iq s.rows (rcvd s)).rows.getD 0 (aP (.sl .u8))).length:=by
 have h1:=TF h
 have h2:=Ez s.rows (rcvd s)
 have h3:(fk s.rows).rows.length=s.rows.toNat:=by rw[rS (by omega)];simp
 have h4:0<(iq s.rows (rcvd s)).rows.length:=by omega
 exact⟨h4,by rw[p9 h2.1 0 h4];decide⟩
theorem EA(s:bZ):s.behavior=1→rcvd s=s.received.drop 1:=fun h=>if_pos h
theorem IW(s:bZ): ¬s.behavior=1→rcvd s=s.received:=fun h=>if_neg h
theorem Zz{d:DB}(h:eC d=true):eC (alt d)=true:=by
 rw[oy]at h ⊢
 refine⟨by unfold alt;dsimp only;rw[bA];exact h.1,fun r hr=> ?_⟩
 unfold alt at hr
 dsimp only at hr
 rcases gd hr with h1|h1
 ·exact h.2 r h1
 ·subst h1
  rw[bA]
  cases hd:d.rows with
  |nil=>rw[hd]at hr;cases hr
  |cons b l=>exact h.2 b (by rw[hd];exact dU ..)
theorem adk(s:bZ):fU aQ (kq s).rows≤1048576:=by
 unfold kq
 split
 ·split
  ·exact gz (Zz (Ez _ _).1)
  ·exact gz (Ez _ _).1
 ·exact by decide
theorem ZA(s:bZ): ∀r,r∈rcvd s→r∈s.received:=by
 intro r hr
 unfold rcvd at hr
 split at hr
 ·exact iM hr
 ·exact hr
def Rw(key:Int)(r:gK):Bool:=r.P5==VI key r.server r.client r.round r.rY
def td(key:Int)(s:bZ)(r:gK):Bool:=(r.server !=s.id||r.round !=s.round)|| !Rw key r
def MB(r:gK)(d:DB):Bool:=r.rY==II r.client r.round d
def lT(key:Int)(s:bZ)(r:gK):Int:=if td key s r then 0 else if oV s.received r.client then(if MB r (Bd s.received r.client)then 0 else 2)else 1
def CJ(key:Int)(s:bZ)(p:DB):List gK→Int
 | []=>if dN s&&(p.rows==(oR s).rows)then 0 else 3
 |r::l=>if lT key s r=0 then CJ key s p l else lT key s r
theorem EB(key:Int)(s:bZ)(p:DB): ∀(l:List gK) (k:Nat),(∀j,j<k→lT key s (l.getD j (aP .gK))=0)→CJ key s p (l.drop k)=CJ key s p l
 |l,0,_=>by rw[eS]
 | [],k+1,_=>by simp
 |r::l,k+1,h=>by
  have h0:=h 0 (by omega)
  rw[jj,EB key s p l k fun j hj=>by simpa using h (j+1) (by omega)]
  show CJ key s p l=if lT key s r=0 then CJ key s p l else lT key s r
  rw[if_pos (by simpa using h0)]
theorem CK{key:Int}{s:bZ}{p:DB}{l:List gK}{k:Nat}(h: ∀j,j<k→lT key s (l.getD j (aP .gK))=0)(hk:k<l.length)(hn:lT key s (l.getD k (aP .gK))≠0):CJ key s p l=lT key s (l.getD k (aP .gK)):=by
 rw[←EB key s p l k h,eG hk,show l[k]=l.getD k (aP .gK)by rw[an,au hk];rfl]
 exact if_neg hn
theorem vn{key:Int}{s:bZ}{p:DB}{l:List gK}{k:Nat}(h: ∀j,j<k→lT key s (l.getD j (aP .gK))=0)(hk:l.length≤k):CJ key s p l=if dN s&&(p.rows==(oR s).rows)then 0 else 3:=by
 rw[←EB key s p l k h,gJ hk];rfl
theorem wu{key:Int}{s:bZ}{l:List gK}{k:Nat}(h: ∀j,j<k→lT key s (l.getD j (aP .gK))=0)(hk:lT key s (l.getD k (aP .gK))=0): ∀j,j<k+1→lT key s (l.getD j (aP .gK))=0:=by
 intro j hj
 by_cases hjk:j=k
 ·subst hjk;exact hk
 ·exact h j (by omega)
def Ad(m:Int)(sv:List bZ)(pb:List DB)(rc:List gK)(i:Nat):Bool:=decide ((pb.length:Int)≤(i:Int))|| !(CJ (kG m (sv.getD i (aP .bZ)).id) (sv.getD i (aP .bZ)) (pb.getD i (aP .DB)) rc==0)
def VR(m:Int)(sv:List bZ)(pb:List DB)(rc:List gK)(i:Nat):List Int:=if Ad m sv pb rc i then [(sv.getD i (aP .bZ)).id]else []
def mh(m:Int)(sv:List bZ)(pb:List DB)(rc:List gK)(n:Nat):List Int:=(bD n).flatMap (VR m sv pb rc)
theorem IX{m:Int}{sv:List bZ}{pb:List DB}{rc:List gK}{n:Nat}(h:Ad m sv pb rc n=true):mh m sv pb rc (n+1)=mh m sv pb rc n++ [(sv.getD n (aP .bZ)).id]:=by
 unfold mh
 rw[eN,fC];simp[VR,h]
theorem EC{m:Int}{sv:List bZ}{pb:List DB}{rc:List gK}{n:Nat}(h:Ad m sv pb rc n=false):mh m sv pb rc (n+1)=mh m sv pb rc n:=by
 unfold mh
 rw[eN,fC];simp[VR,h]
theorem th(m:Int)(sv:List bZ)(pb:List DB)(rc:List gK): ∀n,(mh m sv pb rc n).length≤n
 |0=>aZ _
 |n+1=>by
  have ih:=th m sv pb rc n
  cases h:Ad m sv pb rc n with
  |true=>rw[IX h,aY];simp;omega
  |false=>rw[EC h];omega
def dA(sv:List bZ):List DB:=sv.map kq
theorem KX(sv:List bZ)(k:Nat)(h:k<sv.length):(dA sv).take (k+1)=(dA sv).take k++ [kq (sv.getD k (aP .bZ))]:=by
 rw[cM (dA sv) k (aP .DB) (by unfold dA;rw[bg];exact h)]
 congr 2
 unfold dA
 rw[an,an,dR,au h];rfl
theorem TG(sv:List bZ): ∀d,d∈dA sv→fU aQ d.rows≤1048576:=by
 intro d hd
 obtain⟨s,_,rfl⟩:=cq.1 hd
 exact adk s
theorem Pd{pb:List DB}(h: ∀d,d∈pb→fU aQ d.rows≤1048576)(k:Nat):fU aQ (pb.getD k (aP .DB)).rows≤1048576:=by
 rw[an]
 cases hq:pb[k]? with
 |none=>exact by decide
 |some d=>exact h d (dL hq)
theorem IY{x:ck}(h:okW x=true): ∀s,s∈cg x→sW s:=by
 rw[cg,if_pos h];exact(col h _ (aZ _)).sml
theorem ir{x:ck}(h:okW x=true):(cg x).length=x.av.length:=by
 rw[cg,if_pos h];exact oC h (aZ _)
theorem aj2{key:Int}{s:bZ}{r:gK}(h:td key s r=false)(h1:oV s.received r.client=false):lT key s r=1:=by rw[lT,h,h1];rfl
theorem aj3{key:Int}{s:bZ}{r:gK}(h:td key s r=false)(h1:oV s.received r.client=true)(h2:MB r (Bd s.received r.client)=false):lT key s r=2:=by rw[lT,h,h1,h2];rfl
theorem ahr{key:Int}{s:bZ}{r:gK}(h:td key s r=false)(h1:oV s.received r.client=true)(h2:MB r (Bd s.received r.client)=true):lT key s r=0:=by rw[lT,h,h1,h2];rfl
theorem ahs{key:Int}{s:bZ}{r:gK}(h:td key s r=true):lT key s r=0:=by rw[lT,h];rfl
end
section
def Ni:DB→List DB→Option DB
 |a,[]=>some a
 |a,s::r=>if k7 a s then Ni (jl a s) r else none
def Rx(l:List DB):Option DB:=if eA l.length then Ni (l.getD 0 (aP .DB)) (l.drop 1)else none
def F6(l:List DB):Bool:=(Rx l).isSome
def jw(l:List DB):DB:=(Rx l).getD ⟨[]⟩
def F7(l:List DB)(k:Nat):DB:=((l.drop 1).take k).foldl jl (l.getD 0 (aP .DB))
theorem CL(l:List DB)(k:Nat)(h:k<(l.drop 1).length):F7 l (k+1)=jl (F7 l k) ((l.drop 1).getD k (aP .DB)):=by
 unfold F7
 rw[cM (l.drop 1) k (aP .DB) h,ep];rfl
theorem Pe{α:Type}(l:List α)(k:Nat)(d:α)(h:k<l.length):l.drop k=l.getD k d::l.drop (k+1):=by
 rw[eG h,show l[k]=l.getD k d by rw[an,au h];rfl]
theorem Pf(l:List DB)(k:Nat)(h:k<(l.drop 1).length)(hx:k7 (F7 l k) ((l.drop 1).getD k (aP .DB))=true):Ni (F7 l k) ((l.drop 1).drop k)=Ni (F7 l (k+1)) ((l.drop 1).drop (k+1)):=by
 rw[Pe _ k (aP .DB) h,Ni,if_pos hx,CL l k h]
theorem ZB(l:List DB)(k:Nat)(h:k<(l.drop 1).length)(hx:k7 (F7 l k) ((l.drop 1).getD k (aP .DB))=false):Ni (F7 l k) ((l.drop 1).drop k)=none:=by
 rw[Pe _ k (aP .DB) h,Ni,hx];rfl
theorem TH(l:List DB)(k:Nat)(h:(l.drop 1).length≤k):Ni (F7 l k) ((l.drop 1).drop k)=some (F7 l k):=by
 rw[gJ h];rfl
def yQ(l:List DB):Prop:= ∀d,d∈l→eC d=true
theorem pW{l:List DB}(h:yQ l)(k:Nat):eC (l.getD k (aP .DB))=true:=by
 rw[an]
 cases hq:l[k]? with
 |none=>exact by decide
 |some d=>exact h d (dL hq)
theorem ZC{l:List DB}(h:yQ l): ∀k,eC (F7 l k)=true:=by
 intro k
 induction k with
 |zero=>exact pW h 0
 |succ k ih=>
  by_cases hk:k<(l.drop 1).length
  ·rw[CL l k hk];exact zO ih
  ·have e:F7 l (k+1)=F7 l k:=by unfold F7;rw[aB (by omega),aB (by omega)]
   rw[e];exact ih
theorem Ry{l:List DB}(h:yQ l):yQ (l.drop 1):=fun d hd=>h d (iM hd)
theorem IZ{l:List DB}(h:Rx l=none):jw l=⟨[]⟩∧F6 l=false:=by unfold jw F6;rw[h];exact⟨rfl,rfl⟩
theorem MC{l:List DB}{d:DB}(h:Rx l=some d):jw l=d∧F6 l=true:=by unfold jw F6;rw[h];exact⟨rfl,rfl⟩
theorem TI{l:List DB}(h:eA l.length=false):Rx l=none:=by rw[Rx,h];rfl
theorem TJ{l:List DB}(h:eA l.length=true):Rx l=Ni (F7 l 0) ((l.drop 1).drop 0):=by rw[Rx,if_pos h];rfl
theorem I0{l:List DB}(h:eA l.length=true):2≤l.length∧l.length≤4:=by simp only[eA,dD]at h;omega
theorem adl(s:bZ):eC (kq s)=true:=by
 unfold kq
 split
 ·split
  ·exact Zz (Ez _ _).1
  ·exact(Ez _ _).1
 ·exact by decide
theorem uf(sv:List bZ):yQ (dA sv):=by
 intro d hd
 obtain⟨s,_,rfl⟩:=cq.1 hd
 exact adl s
theorem KY(l:List DB)(h:yQ l):eC (jw l)=true:=by
 cases hq:Rx l with
 |none=>rw[(IZ hq).1];decide
 |some d=>
  rw[(MC hq).1]
  have key: ∀(r:List DB) (a:DB),eC a=true→Ni a r=some d→eC d=true:=by
   intro r
   induction r with
   |nil=>intro a ha hj;simp only[Ni,oI]at hj;exact hj▸ha
   |cons s r ih=>
    intro a ha hj
    simp only[Ni]at hj
    split at hj
    ·exact ih _ (zO ha) hj
    ·cases hj
  unfold Rx at hq
  split at hq
  ·exact key _ _ (pW h 0) hq
  ·cases hq
def vo(a:mE)(r:Int)(d:DB):Bool:=(((iU a&&inr r 0 100000)&& !decide (r≤dK a))&&eC d)&&decide ((d.rows.length:Int)=a.rows)
def xE(a:mE)(r:Int)(d:DB):List bz:=a.rounds++ [⟨r,d⟩]
def ED(a:mE)(r:Int)(d:DB):List bz:=if vo a r d then(if(8:Int)<(xE a r d).length then(xE a r d).drop 1 else xE a r d)else a.rounds
def I1(id rows b:Int):Bool:=inr id 0 3&&inr rows 1 64&&inr b 0 3
def newS(id rows b:Int):bZ:=if I1 id rows b then⟨id,rows,0,[],b⟩else⟨0,0,0,[],0⟩
def I2(s:bZ):Bool:=dN s&& !(s.round==100000)
def kj(s:bZ):bZ:=if I2 s then⟨s.id,s.rows,aq.wrap (s.round+1),[],s.behavior⟩else s
def Ae(l:List bZ)(id:Int):Bool:=inr id 0 (aq.wrap ((l.length:Int)-1))
def CM(rows rd:Int)(p:List bZ×List Int)(id:Int):List bZ×List Int:=if Ae p.1 id then(p.1.set id.toNat ⟨id,rows,rd,[],0⟩,p.2++ [id])else p
def I3(rows rd:Int)(p:List bZ×List Int)(g:List Int):List bZ×List Int:=g.foldl (CM rows rd) p
theorem I4(rows rd:Int)(p:List bZ×List Int)(g:List Int)(k:Nat)(h:k<g.length):I3 rows rd p (g.take (k+1))=CM rows rd (I3 rows rd p (g.take k)) (g.getD k (aP .int)):=by
 unfold I3
 rw[cM g k (aP .int) h,ep];rfl
theorem MD(rows rd:Int)(p:List bZ×List Int)(id:Int):(CM rows rd p id).1.length=p.1.length∧(CM rows rd p id).2.length≤p.2.length+1:=by
 unfold CM
 split
 ·simp
 ·exact⟨rfl,Nat.le_succ _⟩
theorem ME(rows rd:Int)(p:List bZ×List Int)(g:List Int): ∀k,k≤g.length→(I3 rows rd p (g.take k)).1.length=p.1.length∧(I3 rows rd p (g.take k)).2.length≤p.2.length+k
 |0,_=>⟨rfl,aZ _⟩
 |k+1,hk=>by
  have ih:=ME rows rd p g k (by omega)
  rw[I4 _ _ _ _ k (by omega)]
  have:=MD rows rd (I3 rows rd p (g.take k)) (g.getD k (aP .int))
  omega
def I5(rd:Int)(l:List bZ):Prop:= ∀s,s∈l→s.round=rd∧sW s
theorem aj4{rows rd:Int}{p:List bZ×List Int}{id:Int}(h:I5 rd p.1):I5 rd (CM rows rd p id).1:=by
 unfold CM
 split
 ·intro s hs
  rcases gd hs with h1|h1
  ·exact h s h1
  ·subst h1
   exact⟨rfl,aD _,fun r hr=>by cases hr⟩
 ·exact h
theorem ZD{rows rd:Int}{p:List bZ×List Int}(g:List Int)(h:I5 rd p.1): ∀k,k≤g.length→I5 rd (I3 rows rd p (g.take k)).1
 |0,_=>h
 |k+1,hk=>by
  rw[I4 _ _ _ _ k (by omega)]
  exact aj4 (ZD g h k (by omega))
theorem ZE(l:List bZ)(k:Nat)(h:k<l.length):((l.map kj).take k++l.drop k).set k (kj (((l.map kj).take k++l.drop k).getD k (aP .bZ)))=(l.map kj).take (k+1)++l.drop (k+1):=by
 rw[nW _ _ _ _ (by rw[bg];omega)]
 refine yh _ _ _ (aP .bZ) _ h (by rw[bg];exact h) ?_
 rw[an,an,dR,au h];rfl
def nL(x:ck):Bool:=okW x&& !decide (x.round≥99999)
def wv(x:ck)(g:List Int):List bZ×List Int:=I3 x.rows x.round (x.av,x.replaced) g
def dJ(x:ck)(g:List Int)(d:DB):ck:=if nL x then⟨x.rows,(wv x g).1.map kj,x.af,⟨x.aJ.rows,if g.length=0 then ED x.aJ x.round d else x.aJ.rounds⟩,x.bS,x.seed,aq.wrap (x.round+1),(wv x g).2,if g.length=0 then x.cancelled else aq.wrap (x.cancelled+1)⟩else x
theorem afc{x:ck}(h:okW x=true):I5 x.round x.av:=by
 intro s hs
 obtain⟨i,hi,rfl⟩:=ef.1 hs
 have h1:=Mm h hi
 have e:x.av.getD i (aP .bZ)=x.av[i]:=by rw[an,au hi];rfl
 have he:=zL h _ hs
 simp only[KE,e,ak,beq_iff_eq]at h1
 exact⟨h1.1.2,by rw[he];decide,fun r hr=>by rw[he]at hr;cases hr⟩
def VS(key:Int)(a:eU):Bool:=a.P5==IQ key a.server a.round a.selection a.data
def fls(key:Int)(d:DB)(a:eU):Bool:=VS key a&& !(a.data==iz d a.selection)
def tsK(x:ck)(i:Nat):Int:=kG x.bS (i:Int)
def tsA(x:ck)(i:Nat):eU:=Ms (x.av.getD i (aP .bZ)) (tsK x i) (dK x.aJ) (jW x.aJ.rounds (dK x.aJ)) (cO (kh x.seed [227,x.round,(i:Int)]) x.rows)
def WI(x:ck)(i:Nat):Bool:=fls (tsK x i) (jW x.aJ.rounds (dK x.aJ)) (tsA x i)
def JF(x:ck)(n:Nat):List Int:=(bD n).flatMap fun i=>if WI x i then [(i:Int)]else []
theorem TL{x:ck}{n:Nat}(h:WI x n=true):JF x (n+1)=JF x n++ [(n:Int)]:=by
 unfold JF
 rw[eN,fC];simp[h]
theorem I6{x:ck}{n:Nat}(h:WI x n=false):JF x (n+1)=JF x n:=by
 unfold JF
 rw[eN,fC];simp[h]
def Du(x:ck)(n:Nat):List bZ×List Int:=I3 x.rows x.round (x.av,x.replaced) (JF x n)
theorem TM{x:ck}{n:Nat}(h:WI x n=true):Du x (n+1)=CM x.rows x.round (Du x n) (n:Int):=by
 unfold Du I3
 rw[TL h,ep];rfl
theorem Pg{x:ck}{n:Nat}(h:WI x n=false):Du x (n+1)=Du x n:=by unfold Du;rw[I6 h]
def xl(x:ck):Bool:=okW x&&kQ x.aJ.rounds (dK x.aJ)
def testW(x:ck):ck:=if xl x then⟨x.rows,(Du x x.av.length).1,x.af,x.aJ,x.bS,x.seed,x.round,(Du x x.av.length).2,x.cancelled⟩else x
def dc(x:ck):ck:=if nL x then Dt (testW (dJ x (mh x.bS (cg x) (dA (cg x)) (jA x) (cg x).length) (jw (dA (cg x)))))else x
def jX(x:ck):Nat→ck
 |0=>x
 |k+1=>dc (jX x k)
end
section
theorem F8{α:Type}(f:α→Nat)(C n:Nat)(l:List α)(h: ∀y,y∈l→f y≤C)(hl:l.length≤n):fU f l≤(C+1)*n:=by
 have h1:=ae6 f C l h
 have h2:(C+1)*l.length≤(C+1)*n:=Nat.mul_le_mul_left _ hl
 unfold fU
 rw[cJ,Nat.one_mul]at h2
 omega
theorem MF{d:DB}(h:eC d=true):fU aQ d.rows≤1600:=by
 have h1:=ac8 h
 have h2:=It h
 unfold ahf at h1;unfold fU;omega
def MG(c:gQ):Prop:=c.bu.length≤16∧c.inbox.length≤16∧(∀b,b∈c.bu→b.length≤14)∧ ∀b,b∈c.inbox→b.length≤14
theorem CN{c:gQ}(h:fP c=true):MG c:=by
 obtain⟨h1,h2,h3,h4,_⟩:=vg h
 exact⟨h1,h2,h3,h4⟩
theorem KZ{c:gQ}(h:MG c):eO c≤480:=by
 have h1:=F8 aQ 14 16 c.bu h.2.2.1 h.1
 have h2:=F8 aQ 14 16 c.inbox h.2.2.2 h.2.1
 unfold eO;omega
theorem CP{c:gQ}(h:MG c)(r:Int)(own other:List UInt8):MG (gR c r own other):=by
 unfold gR
 split
 ·refine⟨h.1,?_,h.2.2.1,?_⟩
  ·dsimp only
   split
   ·rename_i hg
    simp only[jP,ak,decide_eq_true_eq]at hg
    rw[aY,lI];omega
   ·exact h.2.1
  ·dsimp only
   split
   ·intro b hb
    rcases aL.1 hb with h1|h1
    ·exact h.2.2.2 b h1
    ·rw[aR.1 h1];exact Zd _ _ _
   ·exact h.2.2.2
 ·exact h
def MH(d:cz):Prop:=MG d.live∧MG d.saved
theorem ahv{d:cz}(h:MH d)(r:Int)(own other:List UInt8):MH (rdev d r own other):=by
 unfold rdev
 split
 ·split
  ·exact⟨CP h.1 _ _ _,CP h.1 _ _ _⟩
  ·exact⟨CP h.1 _ _ _,h.2⟩
 ·exact h
theorem RC(x:ck)(d0:cz): ∀(l:List Int) (d:cz),MH d→MH (l.foldl (Mu x d0) d)
 | [],_,h=>h
 |r::l,_,h=>RC x d0 l _ (ahv h _ _ _)
theorem rV{d:cz}(h:MH d):cX d≤960:=by
 have h1:=KZ h.1
 have h2:=KZ h.2
 unfold cX;omega
theorem aj5{x:ck}{i:Nat}(h:okD x i=true):MH (x.af.getD i (aP .cz)):=by
 simp only[okD,fX,ak]at h
 exact⟨CN h.1.1.1.1.1.1.1.1.1,CN h.1.1.1.1.1.1.1.1.2⟩
theorem Ph{x:ck}(h:okW x=true): ∀d,d∈x.af→MH d:=by
 intro d hd
 obtain⟨i,hi,rfl⟩:=ef.1 hd
 have h1:=aj5 (rI h hi)
 rwa [an,au hi]at h1
def wC(x:ck)(n:Nat):Prop:=fU gy x.av≤1048576∧fU cX x.af≤1048576∧iL x.aJ≤1048576∧x.replaced.length≤n
theorem Pj{x:ck}{n:Nat}(h:wC x n)(hn:n≤4194304):wB x:=⟨h.1,h.2.1,h.2.2.1,dy h.2.2.2 hn⟩
theorem rJ{x:ck}{n m:Nat}(h:wC x n)(hn:n≤m):wC x m:=⟨h.1,h.2.1,h.2.2.1,dy h.2.2.2 hn⟩
theorem aj6{x:ck}{n:Nat}(h:wC x n):wC (Dt x) n:=by
 unfold Dt
 split
 ·rename_i hk
  refine⟨h.1,?_,h.2.2.1,h.2.2.2⟩
  have h1:fU cX (x.af.map (oH x))≤(960+1)*8:=by
   refine F8 cX 960 8 _ (fun d hd=> ?_) (by rw[bg];exact(v8 (pM hk)).2.1)
   obtain⟨e,he,rfl⟩:=cq.1 hd
   exact rV (RC x e _ _ (Ph hk e he))
  exact dy h1 (by decide)
 ·exact h
theorem amz{s:bZ}(h:s.received= []):gy s=0:=by unfold gy;rw[h];rfl
def FF(l:List bZ):Prop:=l.length≤4∧ ∀s,s∈l→s.received= []
theorem Bm{l:List bZ}(h:FF l):fU gy l≤1048576:=
 dy (F8 gy 0 4 l (fun s hs=>by rw[amz (h.2 s hs)];exact aZ 0) h.1) (by decide)
theorem aj7{rows rd:Int}{p:List bZ×List Int}{id:Int}(h:FF p.1):FF (CM rows rd p id).1:=by
 unfold CM
 split
 ·refine⟨by rw[bA];exact h.1,fun s hs=> ?_⟩
  rcases gd hs with h1|h1
  ·exact h.2 s h1
  ·subst h1;rfl
 ·exact h
theorem ZF{rows rd:Int}: ∀(g:List Int) {p:List bZ×List Int},FF p.1→FF (I3 rows rd p g).1∧(I3 rows rd p g).2.length≤p.2.length+g.length
 | [],_,h=>⟨h,aZ _⟩
 |i::g,p,h=>by
  have h1:=ZF (rows:=rows) (rd:=rd) g (aj7 (rows:=rows) (rd:=rd) (id:=i) h)
  have h2:=(MD rows rd p i).2
  refine⟨h1.1,?_⟩
  have h3:(I3 rows rd p (i::g)).2.length≤(CM rows rd p i).2.length+g.length:=h1.2
  rw[b9];omega
theorem ZG{x:ck}(h:okW x=true):FF x.av:=⟨(gw h).1,zL h⟩
theorem ahw{l:List bZ}(h:FF l):FF (l.map kj):=by
 refine⟨by rw[bg];exact h.1,fun s hs=> ?_⟩
 obtain⟨t,ht,rfl⟩:=cq.1 hs
 unfold kj
 split
 ·rfl
 ·exact h.2 t ht
theorem aj8{a:mE}{r:Int}{d:DB}(ha:iU a=true)(hd:eC d=true):fU ij (ED a r d)≤1048576:=by
 have h8:a.rounds.length≤8:=by simp only[iU,Ih,ak,decide_eq_true_eq]at ha;omega
 have hm: ∀y,y∈a.rounds→ij y≤1600:=by
  intro y hy
  obtain⟨i,hi,rfl⟩:=ef.1 hy
  simp only[iU,ak,bw,cm]at ha
  have h2:=ha.2 i hi
  have e:a.rounds.getD i (aP .bz)=a.rounds[i]:=by rw[an,au hi];rfl
  simp only[vZ,e,ak]at h2
  exact MF h2.1.2
 have hL: ∀y,y∈xE a r d→ij y≤1600:=by
  intro y hy
  rcases aL.1 hy with h1|h1
  ·exact hm y h1
  ·rw[aR.1 h1];exact MF hd
 have hl:(xE a r d).length≤9:=by unfold xE;rw[aY,lI];omega
 have key:fU ij (ED a r d)≤(1600+1)*9:=by
  unfold ED
  split
  ·split
   ·exact F8 _ _ _ _ (fun y hy=>hL y (iM hy)) (by rw[bW];omega)
   ·exact F8 _ _ _ _ hL hl
  ·exact F8 _ _ _ _ hm (by omega)
 exact dy key (by decide)
theorem adm{x:ck}(h:okW x=true):iU x.aJ=true:=by
 have h:=pM h
 simp only[Nd,ak]at h
 exact h.1.1.1.1.1.2
theorem Pk{x:ck}{g:List Int}{d:DB}{n:Nat}(h:wC x n)(hd:eC d=true):wC (dJ x g d) (n+g.length):=by
 unfold dJ
 split
 ·rename_i hk
  simp only[nL,ak]at hk
  have h0:=ZF (rows:=x.rows) (rd:=x.round) g (p:=(x.av,x.replaced)) (ZG hk.1)
  refine⟨Bm (ahw h0.1),h.2.1,?_,?_⟩
  ·show fU ij _≤_
   dsimp only
   split
   ·exact aj8 (adm hk.1) hd
   ·exact h.2.2.1
  ·have h1:=h0.2
   have h2:=h.2.2.2
   show(I3 x.rows x.round (x.av,x.replaced) g).2.length≤_
   dsimp only at h1
   omega
 ·exact rJ h (w5 _ _)
theorem MI(x:ck): ∀n,(JF x n).length≤n
 |0=>aZ _
 |n+1=>by
  have ih:=MI x n
  cases h:WI x n with
  |true=>rw[TL h,aY];simp;omega
  |false=>rw[I6 h];omega
theorem TN{x:ck}{n:Nat}(h:wC x n):wC (testW x) (n+4):=by
 unfold testW
 split
 ·rename_i hk
  simp only[xl,ak]at hk
  have h0:=ZF (rows:=x.rows) (rd:=x.round) (JF x x.av.length) (p:=(x.av,x.replaced)) (ZG hk.1)
  have h4:=(gw hk.1).1
  have h5:=MI x x.av.length
  refine⟨Bm h0.1,h.2.1,h.2.2.1,?_⟩
  have h1:=h0.2
  have h2:=h.2.2.2
  show(I3 x.rows x.round (x.av,x.replaced) (JF x x.av.length)).2.length≤_
  dsimp only at h1
  omega
 ·exact rJ h (w5 _ _)
theorem Pm{x:ck}{n:Nat}(h:wC x n):wC (dc x) (n+8):=by
 unfold dc
 split
 ·rename_i hk
  simp only[nL,ak]at hk
  have h1:=th x.bS (cg x) (dA (cg x)) (jA x) (cg x).length
  rw[ir hk.1]at h1
  have h4:=(gw hk.1).1
  have h2:=TN (Pk (g:=mh x.bS (cg x) (dA (cg x)) (jA x) (cg x).length) (d:=jw (dA (cg x))) h (KY _ (uf _)))
  rw[ir hk.1]at h2 ⊢
  exact rJ (aj6 h2) (by omega)
 ·exact rJ h (w5 _ _)
theorem MJ{x:ck}{n:Nat}(h:wC x n): ∀k,wC (jX x k) (n+8*k)
 |0=>h
 |k+1=>rJ (Pm (MJ h k)) (by omega)
end
section
def EE(c:gQ)(b:List UInt8):gQ:=⟨c.id,c.gE,c.key,c.seed,c.bu++ [b],c.sent,c.inbox,c.next⟩
def yR(c:gQ)(b:List UInt8):Bool:=fP c&&fP (EE c b)
def oJ(c:gQ)(b:List UInt8):gQ:=if yR c b then EE c b else c
def EF(d:cz)(b:List UInt8):Bool:=(fX d&&yR d.live b)&&yR d.saved b
def EG(d:cz)(b:List UInt8):cz:=if EF d b then⟨oJ d.live b,oJ d.saved b⟩else d
def Qg(d:cz):cz:=if fX d then⟨d.live,d.live⟩else d
def ZH(x:ck)(i:Nat)(d:cz):ck:=⟨x.rows,x.av,x.af.set i d,x.aJ,x.bS,x.seed,x.round,x.replaced,x.cancelled⟩
def I7(x:ck)(i:Nat)(s:bZ):ck:=⟨x.rows,x.av.set i s,x.af,x.aJ,x.bS,x.seed,x.round,x.replaced,x.cancelled⟩
def qY(x:ck)(c:Int):Bool:=okW x&&rF x c
def J1(x:ck)(c:Int):cz:=x.af.getD c.toNat (aP .cz)
def MK(x:ck)(c:Int)(b:List UInt8):Bool:=qY x c&&EF (J1 x c) b
def w6(x:ck)(c:Int)(b:List UInt8):ck:=if qY x c then ZH x c.toNat (EG (J1 x c) b)else x
def adn(x:ck)(c:Int):ck:=if qY x c then ZH x c.toNat (Qg (J1 x c))else x
def beh(s:bZ)(b:Int):bZ:=⟨s.id,s.rows,s.round,s.received,b⟩
def CQ(x:ck)(i b:Int):Bool:=(okW x&&inr i 0 (aq.wrap ((x.av.length:Int)-1)))&&inr b 0 3
def Bz(x:ck)(i b:Int):ck:=if CQ x i b then I7 x i.toNat (beh (x.av.getD i.toNat (aP .bZ)) b)else x
theorem ML{x:ck}{c:Int}(h:qY x c=true):okW x=true∧0≤c∧c<x.af.length:=by
 simp only[qY,rF,ak,dD]at h
 exact⟨h.1,by omega⟩
theorem ahx{x:ck}{c:Int}(h:qY x c=true):MH (J1 x c):=by
 obtain⟨h1,h2⟩:=ML h
 exact Ph h1 _ (getD_in _ (by omega))
theorem ZI{x:ck}{i b:Int}(h:CQ x i b=true):okW x=true∧(0≤i∧i<x.av.length)∧0≤b∧b≤3:=by
 simp only[CQ,ak,dD]at h
 have:=gw h.1.1
 rw[cV (a:=(x.av.length:Int)-1) (by omega)]at h
 exact⟨h.1.1,by omega,h.2⟩
end
section
theorem CS(c:gQ):mK c.key (aq.wrap (1-eP c))=wU c:=by
 unfold wU
 rw[cV (by unfold eP;split<;>omega)]
theorem Pn{c:gQ}{r:Int}{own other:List UInt8}(h:pT c r=false):gR c r own other=c:=by rw[gR,h];rfl
theorem ZJ{c:gQ}{r:Int}(h:pT c r=true):fP c=true∧c.next≤r∧r≤99999∧0≤c.next:=by
 simp only[pT,ak,dD]at h
 have:=(vg h.1).2.2.2.2.2.2.1
 exact⟨h.1,h.2.1,h.2.2,this⟩
theorem TO{d:cz}{r:Int}{own other:List UInt8}(h:wm d r=false):rdev d r own other=d:=by rw[rdev,h];rfl
theorem TP{d:cz}{r:Int}{own other:List UInt8}(h:wm d r=true)(hn:AB (qD d r own other)=true):rdev d r own other=Qg (qD d r own other):=by
 have hk:fX (qD d r own other)=true:=by
  simp only[AB,ak]at hn;exact hn.1
 rw[rdev,if_pos h,if_pos hn,Qg,if_pos hk];rfl
theorem TQ{d:cz}{r:Int}{own other:List UInt8}(h:wm d r=true)(hn:AB (qD d r own other)=false):rdev d r own other=qD d r own other:=by
 rw[rdev,if_pos h,hn];rfl
theorem Po{d:cz}{r:Int}{own other:List UInt8}(h:wm d r=true):cX (qD d r own other)≤1048576:=by
 simp only[wm,ak]at h
 have hd:=h.2
 simp only[fX,ak]at hd
 have hb:MH (qD d r own other):=⟨CP (CN hd.1.1.1.1.1) _ _ _,CN hd.1.1.1.1.2⟩
 have:=rV hb
 omega
theorem ahy{x:ck}(h:okW x=true){k:Nat}(hk:k<x.af.length)(l:List Int):cX (Mv x (x.af.getD k (aP .cz)) l)≤1048576:=by
 have:=rV (RC x (x.af.getD k (aP .cz)) l _ (Ph h _ (getD_in (aP .cz) hk)))
 unfold Mv;omega
theorem ZK{x:ck}(h:okW x=true){k:Nat}(hk:k<x.af.length)(i:Nat):cX ((vB x k i).getD k (aP .cz))≤1048576:=by
 rw[Gz x k i hk];exact ahy h hk _
theorem ZL(x:ck)(k i:Nat)(hk:k<x.af.length):wV ((vB x k i).getD k (aP .cz)).live (x.af.getD k (aP .cz)).live:=by
 rw[Gz x k i hk]
 exact Ew x _ _ _ ⟨rfl,rfl,rfl,rfl⟩
theorem ZM(x:ck)(k i:Nat)(h:k<x.af.length)(hi:i<(uc x (x.af.getD k (aP .cz))).length):
  (vB x k i).set k (rdev ((vB x k i).getD k (aP .cz)) ((uc x (x.af.getD k (aP .cz))).getD i (aP .int))
   (Mt x ((uc x (x.af.getD k (aP .cz))).getD i (aP .int)) (iQ ((vB x k i).getD k (aP .cz)).live.key ((uc x (x.af.getD k (aP .cz))).getD i (aP .int)) (eP ((vB x k i).getD k (aP .cz)).live) x.rows) ((vB x k i).getD k (aP .cz)).live.seed)
   (Mt x ((uc x (x.af.getD k (aP .cz))).getD i (aP .int)) (iQ ((vB x k i).getD k (aP .cz)).live.key ((uc x (x.af.getD k (aP .cz))).getD i (aP .int)) (1-eP ((vB x k i).getD k (aP .cz)).live) x.rows) ((vB x k i).getD k (aP .cz)).live.seed))=vB x k (i+1):=by
 have hs:=ZL x k i h
 rw[Rs hs,hs.2.2.1,hs.2.2.2]
 exact O8 x k i h hi
theorem ZN{x:ck}(h:okW x=false):Dt x=x:=by rw[Dt,h];rfl
theorem zP{x:ck}(h:okW x=true):Dt x=⟨x.rows,x.av,x.af.map (oH x),x.aJ,x.bS,x.seed,x.round,x.replaced,x.cancelled⟩:=by rw[Dt,if_pos h]
theorem ZO(c:gQ):aq.wrap (1-eP c)=1-eP c:=cV (by unfold eP;split<;>omega)
end
section
theorem aka(l:List DB):(l.take ((l.length:Int)).toNat).drop (cL 1)=l.drop 1:=by simp
theorem Pp{α:Type}(l:List α)(k:Nat)(d:α):(l.drop 1).getD k d=l.getD (k+1) d:=by
 rw[an,an,cN,yM]
theorem amE{l:List DB}(ha:yQ l)(h:(if(!eA l.length)=true then true else !eC (l.getD (cL 0) (aP .DB)))=true):eA l.length=false:=by
 cases hs:eA l.length with
 |false=>rfl
 |true=>
  rw[hs]at h
  have:=pW ha 0
  have h2:eC (l.getD (cL 0) (aP .DB))=true:=this
  rw[h2]at h
  cases h
theorem akb{l:List DB}(h:(if(!eA l.length)=true then true else !eC (l.getD (cL 0) (aP .DB)))=false):eA l.length=true:=by
 cases hs:eA l.length with
 |true=>rfl
 |false=>rw[hs]at h;cases h
theorem amF{l:List DB}(h:(!eA (l.length:Int))=false):(0:Int)≤0∧(0:Int)<(l.length:Int):=by
 have h2:eA (l.length:Int)=true:=by simpa using h
 have:=I0 h2
 omega
theorem TR{rows rd:Int}{p:List bZ×List Int}{id:Int}(h:Ae p.1 id=true):CM rows rd p id=(p.1.set id.toNat ⟨id,rows,rd,[],0⟩,p.2++ [id]):=by rw[CM,if_pos h]
theorem TS{rows rd:Int}{p:List bZ×List Int}{id:Int}(h:Ae p.1 id=false):CM rows rd p id=p:=by rw[CM,h];rfl
theorem ZQ{l:List bZ}{id:Int}(hl:l.length≤4)(h:Ae l id=true):0≤id∧id<l.length:=by
 simp only[Ae,dD]at h
 rw[cV (by omega)]at h
 omega
theorem I9{id rows:Int}(h:0≤id∧id≤3)(hr:1≤rows∧rows≤64):newS id rows 0=⟨id,rows,0,[],0⟩:=by
 have:I1 id rows 0=true:=by simp only[I1,ak,dD];omega
 rw[newS,if_pos this]
def Ja(x:ck)(g:List Int)(k:Nat):List bZ×List Int:=I3 x.rows x.round (x.av,x.replaced) (g.take k)
theorem Pq{x:ck}{g:List Int}{k:Nat}(h:k<g.length):CM x.rows x.round (Ja x g k) (g.getD k (aP .int))=Ja x g (k+1):=(I4 _ _ _ _ k h).symm
theorem zQ{x:ck}{g:List Int}{k:Nat}(h:g.length≤k):Ja x g k=wv x g:=by unfold Ja wv;rw[aB h]
theorem C3{x:ck}{g:List Int}{k:Nat}(h:k≤g.length):(Ja x g k).1.length=x.av.length∧(Ja x g k).2.length≤x.replaced.length+k:=ME _ _ _ g k h
theorem Pr{x:ck}{g:List Int}{k:Nat}(hk:okW x=true)(h:k≤g.length):I5 x.round (Ja x g k).1:=ZD g (afc hk) k h
theorem afd{x:ck}(g:List Int)(hk:okW x=true):I5 x.round (wv x g).1:=by
 have:=Pr (g:=g) hk (aZ _)
 rwa [zQ (aZ _)]at this
theorem TT(x:ck)(g:List Int):(wv x g).1.length=x.av.length∧(wv x g).2.length≤x.replaced.length+g.length:=by
 have:=C3 (x:=x) (g:=g) (aZ _)
 rwa [zQ (aZ _)]at this
theorem vr{rd:Int}{l:List bZ}(h:I5 rd l){k:Nat}(hk:k<l.length):(l.getD k (aP .bZ)).round=rd∧sW (l.getD k (aP .bZ)):=h _ (getD_in (aP .bZ) hk)
def F9(l:List bZ)(k:Nat):List bZ:=(l.map kj).take k++l.drop k
theorem TU(l:List bZ):F9 l 0=l:=by unfold F9;simp
theorem C4{l:List bZ}{k:Nat}(h:k<l.length):(F9 l k).set k (kj ((F9 l k).getD k (aP .bZ)))=F9 l (k+1):=ZE l k h
theorem GF{l:List bZ}{k:Nat}(h:k<l.length):(F9 l k).getD k (aP .bZ)=l.getD k (aP .bZ):=nW _ _ _ _ (by rw[bg];omega)
theorem GG{l:List bZ}{k:Nat}(h:k≤l.length):(F9 l k).length=l.length:=nX _ _ _ (by rw[bg]) h
theorem GH{l:List bZ}{k:Nat}(h:l.length≤k):F9 l k=l.map kj:=by
 unfold F9
 rw[aB (by rw[bg];exact h),gJ h,cS]
theorem K0{x:ck}{g:List Int}{d:DB}(h:nL x=false):dJ x g d=x:=by rw[dJ,h];rfl
theorem C5{x:ck}{g:List Int}{d:DB}(h:nL x=true)(hg:g.length=0):dJ x g d=⟨x.rows,(wv x g).1.map kj,x.af,⟨x.aJ.rows,ED x.aJ x.round d⟩,x.bS,x.seed,aq.wrap (x.round+1),(wv x g).2,x.cancelled⟩:=by
 rw[dJ,if_pos h,if_pos hg,if_pos hg]
theorem Jb{x:ck}{g:List Int}{d:DB}(h:nL x=true)(hg: ¬g.length=0):dJ x g d=⟨x.rows,(wv x g).1.map kj,x.af,x.aJ,x.bS,x.seed,aq.wrap (x.round+1),(wv x g).2,aq.wrap (x.cancelled+1)⟩:=by
 rw[dJ,if_pos h,if_neg hg,if_neg hg]
theorem MM{x:ck}(h:nL x=true):okW x=true∧x.round<99999:=by
 simp only[nL,ak,bq,decide_eq_false_iff_not]at h
 exact⟨h.1,by omega⟩
theorem ZR{a:mE}{r:Int}{d:DB}(h:vo a r d=false):ED a r d=a.rounds:=by rw[ED,h];rfl
theorem MN{a:mE}{r:Int}{d:DB}(h:vo a r d=true):ED a r d=if(8:Int)<(xE a r d).length then(xE a r d).drop 1 else xE a r d:=by rw[ED,if_pos h]
theorem ZS{a:mE}{r:Int}{d:DB}(h:vo a r d=true):a.rounds.length≤8∧eC d=true:=by
 simp only[vo,iU,Ih,ak,decide_eq_true_eq]at h
 exact⟨by omega,h.1.2⟩
theorem yX{s rows:Int}(h:1≤rows∧rows≤64):fB (cO s rows) rows=true:=by
 have e:cO s rows=(bD rows.toNat).map (agZ s):=by rw[cO,if_pos (by omega)]
 simp only[fB,ak,decide_eq_true_eq,bw,dD]
 refine⟨⟨by rw[e];simp;omega,h.2⟩,fun v hv=> ?_⟩
 rw[e]at hv
 obtain⟨i,_,rfl⟩:=cq.1 hv
 have:=Vt (kh s [(i:Int),41])
 unfold agZ
 omega
theorem Pt{x:ck}(h:okW x=true){r:Int}(hh:kQ x.aJ.rounds r=true):eC (jW x.aJ.rounds r)=true∧((jW x.aJ.rounds r).rows.length:Int)=x.rows:=by
 have ha:=pM h
 simp only[Nd,ak,beq_iff_eq]at ha
 have har:x.aJ.rows=x.rows:=ha.1.1.1.1.2
 have hok:iU x.aJ=true:=ha.1.1.1.1.1.2
 simp only[iU,ak,bw,cm]at hok
 have hi:(x.aJ.rounds.findIdx (Tp r))<x.aJ.rounds.length:=by
  rw[List.findIdx_lt_length]
  obtain⟨y,h1,h2⟩:=eZ.1 hh
  exact⟨y,h1,h2⟩
 have hd:=hok.2 _ hi
 simp only[vZ,ak,beq_iff_eq]at hd
 have e:jW x.aJ.rounds r=(x.aJ.rounds.getD (x.aJ.rounds.findIdx (Tp r)) (aP .bz)).db:=by
  rw[jW,if_pos hh]
  have hh2:x.aJ.rounds.any (Tp r)=true:=hh
  rw[fidx,if_pos hh2];rfl
 rw[e]
 exact⟨hd.1.2,by rw[←har];exact hd.2⟩
theorem TV{x:ck}(h:okW x=true){r:Int}(hh:kQ x.aJ.rounds r=true)(s:Int):nK (jW x.aJ.rounds r) (cO s x.rows)=true:=by
 obtain⟨h1,h2⟩:=Pt h hh
 apply CF
 have hs:fB (cO s x.rows) ((jW x.aJ.rounds r).rows.length:Int)=true:=by rw[h2];exact yX (qN h).1
 rw[iz,h1,hs]
 simp only[Bool.and_self,if_true]
 rw[eI,ox]
 omega
theorem afe{x:ck}(h:okW x=true)(k:Nat)(hk:k≤x.av.length):I5 x.round (Du x k).1∧(Du x k).1.length=x.av.length∧(Du x k).2.length≤x.replaced.length+k:=by
 have h1:=ZD (rows:=x.rows) (rd:=x.round) (p:=(x.av,x.replaced)) (JF x k) (afc h) (JF x k).length (aZ _)
 have h2:=ME x.rows x.round (x.av,x.replaced) (JF x k) (JF x k).length (aZ _)
 rw[mV]at h1 h2
 have h3:=MI x k
 exact⟨h1,h2.1,by have h4:=h2.2;show(I3 x.rows x.round (x.av,x.replaced) (JF x k)).2.length≤_;dsimp only at h4;omega⟩
theorem Jc{x:ck}(h:xl x=false):testW x=x:=by rw[testW,h];rfl
theorem zR{x:ck}(h:xl x=true):testW x=⟨x.rows,(Du x x.av.length).1,x.af,x.aJ,x.bS,x.seed,x.round,(Du x x.av.length).2,x.cancelled⟩:=by rw[testW,if_pos h]
theorem K1{x:ck}(h:nL x=false):dc x=x:=by rw[dc,h];rfl
theorem tq{x:ck}(h:nL x=true):dc x=Dt (testW (dJ x (mh x.bS (cg x) (dA (cg x)) (jA x) (cg x).length) (jw (dA (cg x))))):=by rw[dc,if_pos h]
theorem aff{x:ck}(h:wB x):x.aJ.rounds.length≤1048576∧ ∀y,y∈x.aJ.rounds→fU aQ y.db.rows≤1048576:=by
 have h2:fU ij x.aJ.rounds≤1048576:=h.2.2.1
 refine⟨gr h2,fun y hy=> ?_⟩
 obtain⟨i,hi⟩:=jO.1 hy
 exact nN h2 hi
end
section
theorem TW{x:ck}(h:wB x)(hok:okW x=true)(hr:x.replaced.length≤4194000):wB (dJ x (mh x.bS (cg x) (dA (cg x)) (jA x) (cg x).length) (jw (dA (cg x))))∧wB (testW (dJ x (mh x.bS (cg x) (dA (cg x)) (jA x) (cg x).length) (jw (dA (cg x))))):=by
 have h1:=th x.bS (cg x) (dA (cg x)) (jA x) (cg x).length
 have h4:=(gw hok).1
 rw[ir hok]at h1
 have hc:wC x 4194000:=⟨h.1,h.2.1,h.2.2.1,hr⟩
 have h2:=Pk (g:=mh x.bS (cg x) (dA (cg x)) (jA x) (cg x).length) (d:=jw (dA (cg x))) hc (KY _ (uf _))
 rw[ir hok]at h2 ⊢
 exact⟨Pj h2 (by omega),Pj (TN h2) (by omega)⟩
def wR(x:ck):Prop:=wB x∧x.replaced.length≤4194000
theorem afg{x:ck}{n:Nat}(h:wC x n)(hn:n≤4194000):wR x:=⟨Pj h (by omega),dy h.2.2.2 hn⟩
theorem ahB{x:ck}{n k:Nat}(h:wC x n)(hn:n+8*k≤4194000):wR (jX x k):=afg (MJ h k) hn
end
section
theorem ZT(a b c:Int):aq.wrap (a+aq.wrap (b-c))=aq.wrap (aq.wrap (a+b)-c):=by
 simp only[IntKind.wrap_i64];omega
def waiting(c:gQ):Int:=aq.wrap ((c.bu.length:Int)-c.sent)
def Bt(l:List cz):Nat→Int
 |0=>0
 |k+1=>aq.wrap (Bt l k+waiting (l.getD k (aP .cz)).live)
def Nk(l:List cz):Nat→Int
 |0=>0
 |k+1=>if(k^^^1)<l.length then aq.wrap (aq.wrap (Nk l k+((l.getD k (aP .cz)).live.bu.length:Int))-((l.getD (k^^^1) (aP .cz)).live.inbox.length:Int))else Nk l k
theorem MP{l:List cz}{k:Nat}(h:(k^^^1)<l.length):Nk l (k+1)=aq.wrap (aq.wrap (Nk l k+((l.getD k (aP .cz)).live.bu.length:Int))-((l.getD (k^^^1) (aP .cz)).live.inbox.length:Int)):=if_pos h
theorem Pu{l:List cz}{k:Nat}(h: ¬(k^^^1)<l.length):Nk l (k+1)=Nk l k:=if_neg h
theorem Jd{x:ck}{k:Nat}(h:k<x.af.length):A5 x (k:Int)=decide ((k^^^1)<x.af.length):=by
 have:rF x (k:Int)=true:=by rw[rF,dD];omega
 rw[A5,this,c9]
 simp only[jc,Int.ofNat_lt]
end
section
def Ge(c:Int):Nat:=if 0≤c∧c≤400 then c.toNat else 0
theorem ZU(c:Int):Ge c≤400:=by unfold Ge;split<;>omega
theorem ahC{c:Int}(h:0≤c∧c≤400):(Ge c:Int)=c:=by unfold Ge;rw[if_pos h];omega
theorem adq{c:Int}(h: ¬(0≤c∧c≤400)):Ge c=0:=by unfold Ge;rw[if_neg h]
def zc(x:ck):Bool:=(Bt x.af x.af.length==0)&&(Nk x.af x.af.length==0)
def wA(x:ck):Int:=JJ 400 (aq.wrap (20+aq.wrap (8*UJ (UJ 0 (Bt x.af x.af.length)) (Nk x.af x.af.length))))
def mx(a b:Int):Int:=if b>a then b else a
theorem ahD{x:ck}(h:wC x 4100000){k:Nat}(hk:k≤401):wR (jX x k)∧(jX x k).af.length≤1048576:=by
 have h1:=ahB h (k:=k) (by omega)
 exact⟨h1,OW h1.1⟩
end
section
theorem adr{c:gQ}{b:List UInt8}(h:yR c b=false):oJ c b=c:=by rw[oJ,h];rfl
theorem Je{c:gQ}{b:List UInt8}(h:yR c b=true):oJ c b=EE c b:=by rw[oJ,if_pos h]
theorem ads{d:cz}{b:List UInt8}(h:EF d b=false):EG d b=d:=by rw[EG,h];rfl
theorem ZV{d:cz}{b:List UInt8}(h:EF d b=true):EG d b=⟨oJ d.live b,oJ d.saved b⟩:=by rw[EG,if_pos h]
theorem ahE{x:ck}{c:Int}(h:qY x c=true):cX (x.af.getD c.toNat (aP .cz))≤1048576:=by
 have:=rV (ahx h)
 unfold J1 at this
 omega
theorem ahF{x:ck}{c:Int}{b:List UInt8}(h:qY x c=false):w6 x c b=x∧MK x c b=false:=⟨by rw[w6,h];rfl,by rw[MK,h];rfl⟩
theorem adt{x:ck}{c:Int}{b:List UInt8}(h:qY x c=true):w6 x c b=ZH x c.toNat (EG (J1 x c) b)∧MK x c b=EF (J1 x c) b:=⟨by rw[w6,if_pos h],by rw[MK,h,c9]⟩
theorem ahG{x:ck}{i b:Int}(h:CQ x i b=false):Bz x i b=x:=by rw[Bz,h];rfl
theorem adu{x:ck}{i b:Int}(h:CQ x i b=true):Bz x i b=I7 x i.toNat (beh (x.av.getD i.toNat (aP .bZ)) b):=by rw[Bz,if_pos h]
end
section
theorem EN{α:Type}{l m:List α}{k:Nat}(d:α)(h:k<l.length):(l++m).getD k d=l.getD k d:=by
 rw[an,an,List.getElem?_append_left h]
theorem K2{α:Type}{l:List α}{y:α}(d:α):(l++ [y]).getD l.length d=y:=by
 rw[an,bU (aZ _)];simp
theorem Bu{α:Type}(l:List α)(k:Nat)(d:α):(l.drop 1).getD k d=l.getD (k+1) d:=by
 rw[an,an,cN,yM]
theorem ko{α:Type}{l:List α}{i k:Nat}(d y:α)(h:k<l.length):(l.set i y).getD k d=if i=k then y else l.getD k d:=by
 rw[an,an,List.getElem?_set]
 split
 ·rename_i e;subst e;simp[h]
 ·rfl
theorem getD_map{α β:Type}(f:α→β){l:List α}{k:Nat}(d:β)(e:α)(h:k<l.length):(l.map f).getD k d=f (l.getD k e):=by
 rw[an,an,dR,au h];rfl
def sOK(rows rd:Int)(i:Nat)(s:bZ):Prop:=s.id=(i:Int)∧s.rows=rows∧s.round=rd∧s.received= []∧0≤s.behavior∧s.behavior≤3
def svs(rows rd:Int)(l:List bZ):Prop:= ∀i,i<l.length→sOK rows rd i (l.getD i (aP .bZ))
theorem ZW{rows rd:Int}{i:Nat}{s:bZ}(h:sOK rows rd i s)(hr:1≤rows∧rows≤64)(hd:0≤rd∧rd≤100000)(hi:i≤3):dN s=true:=by
 obtain⟨h1,h2,h3,h4,h5⟩:=h
 simp only[dN,Az,ak,dD,decide_eq_true_eq,h4,fF]
 refine⟨⟨⟨⟨⟨by omega,by omega⟩,by omega⟩,by omega⟩,by omega⟩,by simp⟩
theorem MQ{x:ck}{i:Nat}(hr:1≤x.rows∧x.rows≤64)(hd:0≤x.round∧x.round≤100000)(hi:i≤3):KE x i=true↔sOK x.rows x.round i (x.av.getD i (aP .bZ)):=by
 constructor
 ·intro h
  simp only[KE,ak,beq_iff_eq,decide_eq_true_eq]at h
  obtain⟨⟨⟨⟨h1,h2⟩,h3⟩,h4⟩,h5⟩:=h
  simp only[dN,Az,ak,dD]at h1
  exact⟨h2,h3,h4,fJ.1 (by omega),h1.1.1.1.2⟩
 ·intro h
  have h1:=ZW h hr hd hi
  obtain⟨h2,h3,h4,h5,_⟩:=h
  simp only[KE,ak,beq_iff_eq,decide_eq_true_eq]
  exact⟨⟨⟨⟨h1,h2⟩,h3⟩,h4⟩,by rw[h5];decide⟩
def inc(rows:Int)(l:List bz):Prop:= ∀i,i<l.length→vZ rows l i=true
theorem pX{a:mE}:iU a=true↔((1≤a.rows∧a.rows≤64)∧a.rounds.length≤8)∧inc a.rows a.rounds:=by
 simp only[iU,Ih,ak,dD,decide_eq_true_eq,bw,cm]
 constructor
 ·rintro⟨⟨h1,h2⟩,h3⟩;exact⟨⟨h1,by omega⟩,h3⟩
 ·rintro⟨⟨h1,h2⟩,h3⟩;exact⟨⟨h1,by omega⟩,h3⟩
theorem oM{rows:Int}{l:List bz}{i:Nat}:vZ rows l i=true↔(0≤(l.getD i (aP .bz)).round∧(l.getD i (aP .bz)).round≤100000)∧(0<i→(l.getD (i-1) (aP .bz)).round<(l.getD i (aP .bz)).round)∧eC (l.getD i (aP .bz)).db=true∧((l.getD i (aP .bz)).db.rows.length:Int)=rows:=by
 simp only[vZ,ak,dD,beq_iff_eq,bq,lS,decide_eq_false_iff_not]
 constructor
 ·rintro⟨⟨⟨h1,h2⟩,h3⟩,h4⟩
  refine⟨h1,fun hi=> ?_,h3,h4⟩
  rcases h2 with h2|h2
  ·omega
  ·omega
 ·rintro⟨h1,h2,h3,h4⟩
  refine⟨⟨⟨h1,?_⟩,h3⟩,h4⟩
  by_cases hi:0<i
  ·right;have:=h2 hi;omega
  ·left;omega
theorem ZX{rows:Int}{l:List bz}(h:inc rows l):inc rows (l.drop 1):=by
 intro i hi
 have hi:i+1<l.length:=by rw[bW]at hi;omega
 have h1:=oM.1 (h (i+1) hi)
 rw[oM,Bu]
 refine⟨h1.1,fun hp=> ?_,h1.2.2⟩
 rw[Bu,show i-1+1=i by omega]
 exact h1.2.1 (by omega)
theorem ZY{rows:Int}{l:List bz}{r:Int}{d:DB}(h:inc rows l)(h0:0≤r∧r≤100000)(hl:0<l.length→(l.getD (l.length-1) (aP .bz)).round<r)(hd:eC d=true)(hr:(d.rows.length:Int)=rows):inc rows (l++ [⟨r,d⟩]):=by
 intro i hi
 rw[aY,lI]at hi
 by_cases hil:i<l.length
 ·have h1:=oM.1 (h i hil)
  rw[oM,EN _ hil]
  refine⟨h1.1,fun hp=> ?_,h1.2.2⟩
  rw[EN _ (by omega)]
  exact h1.2.1 hp
 ·obtain rfl:i=l.length:=by omega
  rw[oM,K2]
  refine⟨h0,fun hp=> ?_,hd,hr⟩
  rw[EN _ (by omega)]
  exact hl hp
theorem ZZ{rows:Int}{l:List bz}(h:inc rows l): ∀(j i:Nat),i<j→j<l.length→(l.getD i (aP .bz)).round<(l.getD j (aP .bz)).round
 |0,i,h1,_=>by omega
 |j+1,i,h1,h2=>by
  have h3:=(oM.1 (h (j+1) h2)).2.1 (by omega)
  rw[show j+1-1=j by omega]at h3
  by_cases e:i=j
  ·subst e;exact h3
  ·have:=ZZ h j i (by omega) (by omega);omega
theorem vv{a:mE}(h:0<a.rounds.length):dK a=(a.rounds.getD (a.rounds.length-1) (aP .bz)).round:=by rw[dK,if_neg (by omega)]
theorem Bv{a:mE}(h:a.rounds= []):dK a= -1:=by rw[dK,h];rfl
theorem MR{a:mE}(h:iU a=true): ∀y,y∈a.rounds→0≤y.round∧y.round≤dK a:=by
 intro y hy
 have h2:=(pX.1 h).2
 obtain⟨i,hi,rfl⟩:=ef.1 hy
 have e:a.rounds[i]=a.rounds.getD i (aP .bz):=by rw[an,au hi];rfl
 rw[vv (by omega),e]
 refine⟨(oM.1 (h2 i hi)).1.1,?_⟩
 by_cases hl:i=a.rounds.length-1
 ·rw[hl];exact fE _
 ·exact Int.le_of_lt (ZZ h2 _ _ (by omega) (by omega))
theorem adv{a:mE}{r:Int}{d:DB}(h:iU a=true)(h0:0≤r∧r≤100000)(hl:dK a<r)(hd:eC d=true)(hr:(d.rows.length:Int)=a.rows):vo a r d=true:=by
 simp only[vo,ak,h,hd,dD,h0,hr,bq,decide_eq_false_iff_not,decide_true]
 exact⟨⟨⟨⟨trivial,⟨trivial,trivial⟩⟩,by omega⟩,trivial⟩,trivial⟩
theorem adw{a:mE}{r:Int}{d:DB}(h:vo a r d=true):ED a r d=if(8:Int)<(xE a r d).length then(xE a r d).drop 1 else xE a r d:=by rw[ED,if_pos h]
theorem Z0{a:mE}{r:Int}{d:DB}:(xE a r d).length=a.rounds.length+1∧ ∀e,(xE a r d).getD a.rounds.length e=⟨r,d⟩:=by
 unfold xE
 exact⟨by rw[aY];rfl,fun e=>K2 e⟩
theorem RG{a:mE}{r:Int}{d:DB}(h:iU a=true)(h0:0≤r∧r≤100000)(hl:dK a<r)(hd:eC d=true)(hr:(d.rows.length:Int)=a.rows):
  iU ⟨a.rows,ED a r d⟩=true∧dK ⟨a.rows,ED a r d⟩=r∧0<(ED a r d).length∧(ED a r d).getD ((ED a r d).length-1) (aP .bz)=⟨r,d⟩:=by
 have ha:=pX.1 h
 have hi:inc a.rows (xE a r d):=ZY ha.2 h0 (fun hp=>by rw[vv hp]at hl;exact hl) hd hr
 obtain⟨hL,hG⟩:=Z0 (a:=a) (r:=r) (d:=d)
 rw[adw (adv h h0 hl hd hr)]
 split
 ·rename_i h8
  have hlen:((xE a r d).drop 1).length=a.rounds.length:=by rw[bW];omega
  have hg:((xE a r d).drop 1).getD (((xE a r d).drop 1).length-1) (aP .bz)=⟨r,d⟩:=by
   rw[hlen,Bu,show a.rounds.length-1+1=a.rounds.length by omega];exact hG _
  refine⟨pX.2 ⟨⟨ha.1.1,by show((xE a r d).drop 1).length≤8;omega⟩,ZX hi⟩,?_,by omega,hg⟩
  rw[vv (by show 0<((xE a r d).drop 1).length;omega)]
  exact congrArg bz.round hg
 ·rename_i h8
  have hg:(xE a r d).getD ((xE a r d).length-1) (aP .bz)=⟨r,d⟩:=by
   rw[hL,show a.rounds.length+1-1=a.rounds.length by omega];exact hG _
  refine⟨pX.2 ⟨⟨ha.1.1,by show(xE a r d).length≤8;omega⟩,hi⟩,?_,by omega,hg⟩
  rw[vv (by show 0<(xE a r d).length;omega)]
  exact congrArg bz.round hg
structure Dv(x:ck):Prop where
 rows:1≤x.rows∧x.rows≤64
 nsv:2≤x.av.length∧x.av.length≤4
 ndv:2≤x.af.length∧x.af.length≤8
 even:x.af.length % 2=0
 K3:iU x.aJ=true
 Da:x.aJ.rows=x.rows
 last:dK x.aJ<x.round
 key:iT x.bS=true
 round:0≤x.round∧x.round≤100000
 qF:0≤x.cancelled
 sv:svs x.rows x.round x.av
 dv: ∀i,i<x.af.length→okD x i=true
theorem Dv.of{x:ck}(h:okW x=true):Dv x:=by
 have hh:=pM h
 have he:=v8 hh
 have hs:=gw h
 have hh2:=hh
 simp only[Nd,ak,dD,beq_iff_eq,decide_eq_true_eq]at hh
 obtain⟨⟨⟨⟨⟨⟨⟨⟨⟨h1,h2⟩,h3⟩,h4⟩,h5⟩,h6⟩,h7⟩,h8⟩,h9⟩,h10⟩:=hh
 exact⟨h1,⟨hs.2,hs.1⟩,⟨he.2.2,he.2.1⟩,he.1,h5,h6,h7,h8,h9,h10,fun i hi=>(MQ h1 h9 (by omega)).1 (Mm h hi),fun i hi=>rI h hi⟩
theorem Dv.ok{x:ck}(h:Dv x):okW x=true:=by
 obtain⟨h1,h2,h3,h4,h5,h6,h7,h8,h9,h10,h11,h12⟩:=h
 have ht:(x.af.length:Int).tmod 2=0:=by rw[gx (by omega)];omega
 simp only[okW,Nd,eA,ak,dD,beq_iff_eq,decide_eq_true_eq,bw,cm]
 exact⟨⟨⟨⟨⟨⟨⟨⟨⟨⟨⟨h1,by omega⟩,by omega⟩,ht⟩,h5⟩,h6⟩,h7⟩,h8⟩,h9⟩,h10⟩,fun i hi=>(MQ h1 h9 (by omega)).2 (h11 i hi)⟩,h12⟩
theorem adA{rows rd:Int}{p:List bZ×List Int}{id:Int}(hl:p.1.length≤4)(h:svs rows rd p.1):svs rows rd (CM rows rd p id).1:=by
 unfold CM
 split
 ·rename_i hk
  simp only[Ae,dD]at hk
  rw[cV (by omega)]at hk
  intro i hi
  rw[bA]at hi
  show sOK rows rd i ((p.1.set id.toNat ⟨id,rows,rd,[],0⟩).getD i (aP .bZ))
  rw[ko _ _ hi]
  split
  ·rename_i e
   exact⟨by show id=(i:Int);omega,rfl,rfl,rfl,fE _,by show(0:Int)≤3;decide⟩
  ·exact h i hi
 ·exact h
theorem MS{rows rd:Int}: ∀(g:List Int) {p:List bZ×List Int},p.1.length≤4→svs rows rd p.1→svs rows rd (I3 rows rd p g).1∧(I3 rows rd p g).1.length=p.1.length
 | [],_,_,h=>⟨h,rfl⟩
 |i::g,p,hl,h=>by
  have ru:=(MD rows rd p i).1
  have:=MS g (p:=CM rows rd p i) (by omega) (adA (id:=i) hl h)
  exact⟨this.1,this.2.trans ru⟩
theorem adB{rows rd:Int}{i:Nat}{s:bZ}(h:sOK rows rd i s)(hr:1≤rows∧rows≤64)(hd:0≤rd∧rd<100000)(hi:i≤3):sOK rows (rd+1) i (kj s):=by
 have hk:=ZW h hr (by omega) hi
 obtain⟨h1,h2,h3,h4,h5⟩:=h
 have hb:I2 s=true:=by
  simp only[I2,hk,c9,bq,beq_eq_false_iff_ne];omega
 rw[kj,if_pos hb]
 refine⟨h1,h2,?_,rfl,h5⟩
 show aq.wrap (s.round+1)=rd+1
 rw[cV (by omega),h3]
theorem K4{x y:ck}{i:Nat}(hd:y.af=x.af)(hr:x.round≤y.round)(h:okD x i=true):okD y i=true:=by
 simp only[okD,ak,decide_eq_true_eq]at h ⊢
 rw[hd]
 exact⟨h.1,by omega⟩
theorem pY{x:ck}(h:okW x=true)(hr:x.round<99999):nL x=true:=by
 simp only[nL,h,c9,bq,decide_eq_false_iff_not];omega
theorem EO{x:ck}{g:List Int}{d:DB}(h:okW x=true)(hr:x.round<99999)(hc:x.cancelled<9223372036854775807)(hd:g= []→eC d=true∧(d.rows.length:Int)=x.rows):okW (dJ x g d)=true:=by
 have w:=Dv.of h
 have hp:=MS (rows:=x.rows) (rd:=x.round) g (p:=(x.av,x.replaced)) w.nsv.2 w.sv
 have w1:=w.rows;have w2:=w.nsv;have w3:=w.round;have w4:=w.qF
 have hrd:aq.wrap (x.round+1)=x.round+1:=cV (by omega)
 rw[dJ,if_pos (pY h hr)]
 have qT:svs x.rows (x.round+1) ((wv x g).1.map kj):=by
  intro i hi
  rw[bg]at hi
  have hi4:i≤3:=by have:=hp.2;unfold wv at hi;dsimp only at this;omega
  rw[getD_map kj _ (aP .bZ) hi]
  exact adB (hp.1 i hi) w1 (by omega) hi4
 have hlen:((wv x g).1.map kj).length=x.av.length:=by rw[bg];exact hp.2
 have akf:iU ⟨x.aJ.rows,if g.length=0 then ED x.aJ x.round d else x.aJ.rounds⟩=true∧dK ⟨x.aJ.rows,if g.length=0 then ED x.aJ x.round d else x.aJ.rounds⟩<x.round+1:=by
  by_cases hg:g.length=0
  ·obtain⟨q1,q2⟩:=hd (fJ.1 hg)
   rw[if_pos hg]
   have:=RG w.K3 (by omega:0≤x.round∧x.round≤100000) w.last q1 (by rw[w.Da];exact q2)
   exact⟨this.1,by rw[this.2.1];omega⟩
  ·rw[if_neg hg]
   have:=w.last
   exact⟨w.K3,by show dK x.aJ<_;omega⟩
 refine Dv.ok ⟨w1,by dsimp only;rw[hlen];exact w2,w.ndv,w.even,akf.1,w.Da,?_,w.key,?_,?_,?_,fun i hi=> ?_⟩
 ·dsimp only;rw[hrd];exact akf.2
 ·dsimp only;rw[hrd];omega
 ·dsimp only
  split
  ·exact w4
  ·rw[cV (by omega)];omega
 ·dsimp only;rw[hrd];exact qT
 ·exact K4 (x:=x) rfl (by dsimp only;rw[hrd];omega) (w.dv i hi)
theorem Pv{x:ck}(h:okW x=true):okW (testW x)=true:=by
 unfold testW
 split
 ·have w:=Dv.of h
  have hp:=MS (rows:=x.rows) (rd:=x.round) (JF x x.av.length) (p:=(x.av,x.replaced)) w.nsv.2 w.sv
  have w2:=w.nsv
  refine Dv.ok ⟨w.rows,?_,w.ndv,w.even,w.K3,w.Da,w.last,w.key,w.round,w.qF,hp.1,fun i hi=>K4 (x:=x) rfl (fE _) (w.dv i hi)⟩
  have hp2:(I3 x.rows x.round (x.av,x.replaced) (JF x x.av.length)).1.length=x.av.length:=hp.2
  show 2≤(I3 x.rows x.round (x.av,x.replaced) (JF x x.av.length)).1.length∧(I3 x.rows x.round (x.av,x.replaced) (JF x x.av.length)).1.length≤4
  rw[hp2];exact w2
 ·exact h
theorem Jf{a b:List (List UInt8)}:D6 a b=true↔a.length≤b.length∧a=b.take a.length:=by
 simp only[D6,ak,decide_eq_true_eq,beq_iff_eq]
 constructor
 ·rintro⟨h1,h2⟩;exact⟨by omega,h2⟩
 ·rintro⟨h1,h2⟩;exact⟨by omega,h2⟩
theorem EP(a:List (List UInt8)):D6 a a=true:=Jf.2 ⟨aZ _,(mV).symm⟩
theorem Z1{a b c:List (List UInt8)}(h:D6 a b=true):D6 a (b++c)=true:=by
 obtain⟨h1,h2⟩:=Jf.1 h
 refine Jf.2 ⟨by rw[aY];omega,?_⟩
 rw[List.take_append_of_le_length h1];exact h2
theorem ES{c:gQ}:fP c=true↔(((0≤c.id∧c.id≤7)∧(0≤c.gE∧c.gE≤7))∧c.id≠c.gE∧iT c.key=true)∧MG c∧(0≤c.sent∧c.sent≤c.bu.length)∧0≤c.next∧c.next≤100000:=by
 simp only[fP,MG,ak,bq,bR,dD,decide_eq_true_eq,beq_eq_false_iff_ne]
 have hl: ∀b:List UInt8, ¬long b=true↔b.length≤14:=by
  intro b;simp only[long,decide_eq_true_eq];omega
 constructor
 ·rintro⟨⟨⟨⟨⟨⟨⟨⟨⟨h1,h2⟩,h3⟩,h4⟩,h5⟩,h6⟩,h7⟩,h8⟩,h9⟩,h10⟩
  exact⟨⟨⟨h1,h2⟩,h3,h4⟩,⟨by omega,by omega,fun b hb=>(hl b).1 (h7 b hb),fun b hb=>(hl b).1 (h8 b hb)⟩,h9,h10⟩
 ·rintro⟨⟨⟨h1,h2⟩,h3,h4⟩,⟨h5,h6,h7,h8⟩,h9,h10⟩
  exact⟨⟨⟨⟨⟨⟨⟨⟨⟨h1,h2⟩,h3⟩,h4⟩,by omega⟩,by omega⟩,fun b hb=>(hl b).2 (h7 b hb)⟩,fun b hb=>(hl b).2 (h8 b hb)⟩,h9⟩,h10⟩
theorem Z2{c:gQ}{r:Int}{own other:List UInt8}(h:fP c=true):fP (gR c r own other)=true:=by
 by_cases hk:pT c r=true
 ·have hB:=CP (CN h) r own other
  rw[gR,if_pos hk]at hB ⊢
  obtain⟨h1,_,h3,h4⟩:=ES.1 h
  simp only[pT,ak,dD]at hk
  refine ES.2 ⟨h1,hB,?_,?_⟩
  ·dsimp only
   split
   ·rename_i hh
    simp only[lu,ak,decide_eq_true_eq]at hh
    omega
   ·exact h3
  ·dsimp only;omega
 ·rw[gR,if_neg hk];exact h
structure Z3(d:cz):Prop where
 live:fP d.live=true
 saved:fP d.saved=true
 same:n7 d.live d.saved=true
 sent:d.saved.sent≤d.live.sent
 next:d.saved.next≤d.live.next
 pre:D6 d.saved.inbox d.live.inbox=true
theorem Z3.iff{d:cz}:fX d=true↔Z3 d:=by
 simp only[fX,ak,decide_eq_true_eq]
 constructor
 ·rintro⟨⟨⟨⟨⟨h1,h2⟩,h3⟩,h4⟩,h5⟩,h6⟩;exact⟨h1,h2,h3,h4,h5,h6⟩
 ·rintro⟨h1,h2,h3,h4,h5,h6⟩;exact⟨⟨⟨⟨⟨h1,h2⟩,h3⟩,h4⟩,h5⟩,h6⟩
theorem lV{a b:gQ}:n7 a b=true↔wV a b∧a.bu=b.bu:=by
 simp only[n7,wV,ak,beq_iff_eq]
 constructor
 ·rintro⟨⟨⟨⟨h1,h2⟩,h3⟩,h4⟩,h5⟩;exact⟨⟨h1,h2,h3,h4⟩,h5⟩
 ·rintro⟨⟨h1,h2,h3,h4⟩,h5⟩;exact⟨⟨⟨⟨h1,h2⟩,h3⟩,h4⟩,h5⟩
theorem VW(c:gQ)(r:Int)(own other:List UInt8):(gR c r own other).bu=c.bu∧c.sent≤(gR c r own other).sent∧(gR c r own other).sent≤c.sent+1∧c.next≤(gR c r own other).next∧ ∃m,(gR c r own other).inbox=c.inbox++m:=by
 unfold gR
 split
 ·rename_i hk
  simp only[pT,ak,dD]at hk
  refine⟨rfl,?_,?_,?_,?_⟩
  ·dsimp only;split<;>omega
  ·dsimp only;split<;>omega
  ·dsimp only;omega
  ·dsimp only
   split
   ·exact⟨_,rfl⟩
   ·exact⟨[],(cS _).symm⟩
 ·exact⟨rfl,fE _,by omega,fE _,[],(cS _).symm⟩
theorem adE{d:cz}{r:Int}{own other:List UInt8}(h:fX d=true):fX (rdev d r own other)=true:=by
 have hd:=Z3.iff.1 h
 unfold rdev
 split
 ·have hc:=Z2 (r:=r) (own:=own) (other:=other) hd.live
  split
  ·exact Z3.iff.2 ⟨hc,hc,lV.2 ⟨⟨rfl,rfl,rfl,rfl⟩,rfl⟩,fE _,fE _,EP _⟩
  ·obtain⟨q1,q2,_,q3,m,q4⟩:=VW d.live r own other
   obtain⟨p1,p2⟩:=lV.1 hd.same
   have p3:=Bl d.live r own other
   refine Z3.iff.2 ⟨hc,hd.saved,lV.2 ⟨⟨p3.1.trans p1.1,p3.2.1.trans p1.2.1,p3.2.2.1.trans p1.2.2.1,p3.2.2.2.trans p1.2.2.2⟩,q1.trans p2⟩,Pw hd.sent q2,Pw hd.next q3,?_⟩
   show D6 d.saved.inbox (gR d.live r own other).inbox=true
   rw[q4]
   exact Z1 hd.pre
 ·exact h
theorem VX{d:cz}{r:Int}{own other:List UInt8}{R:Int}(h:d.live.next≤R)(hr:r+1≤R):(rdev d r own other).live.next≤R:=by
 have key:(gR d.live r own other).next≤R:=by
  unfold gR
  split
  ·exact hr
  ·exact h
 unfold rdev
 split
 ·split
  ·exact key
  ·exact key
 ·exact h
theorem TX(x:ck)(d0:cz){R:Int}: ∀(l:List Int) (d:cz),(∀r,r∈l→r+1≤R)→fX d=true→d.live.next≤R→fX (l.foldl (Mu x d0) d)=true∧(l.foldl (Mu x d0) d).live.next≤R
 | [],_,_,h1,h2=>⟨h1,h2⟩
 |r::l,d,hl,h1,h2=>TX x d0 l _ (fun q hq=>hl q (aK _ hq)) (adE h1) (VX h2 (hl r (dU ..)))
theorem RH{l:List bz}{f r:Int}(h:r∈jB l f):f≤r∧ ∃y,y∈l∧y.round=r:=by
 unfold jB at h
 obtain⟨y,hy,rfl⟩:=cq.1 h
 rw[List.mem_filter]at hy
 exact⟨by simpa using hy.2,y,hy.1,rfl⟩
theorem Px{x:ck}{i:Nat}(h:okW x=true)(hi:i<x.af.length):fX (oH x (x.af.getD i (aP .cz)))=true∧(oH x (x.af.getD i (aP .cz))).live.next≤x.round∧wV (oH x (x.af.getD i (aP .cz))).live (x.af.getD i (aP .cz)).live:=by
 have w:=Dv.of h
 have hd:=rI h hi
 simp only[okD,ak,decide_eq_true_eq]at hd
 have h1:=TX x (x.af.getD i (aP .cz)) (R:=x.round) (uc x (x.af.getD i (aP .cz))) _ (fun r hr=>by
  obtain⟨_,y,hy,rfl⟩:=RH hr
  have:=(MR w.K3 y hy).2
  have:=w.last
  omega) hd.1.1.1.1 hd.2
 exact⟨h1.1,h1.2,Ew x _ _ _ ⟨rfl,rfl,rfl,rfl⟩⟩
theorem MT{x:ck}(h:okW x=true):okW (Dt x)=true:=by
 have w:=Dv.of h
 rw[Dt,if_pos h]
 have hg: ∀i,i<x.af.length→(x.af.map (oH x)).getD i (aP .cz)=oH x (x.af.getD i (aP .cz)):=fun i hi=>getD_map _ _ _ hi
 refine Dv.ok ⟨w.rows,w.nsv,by dsimp only;rw[bg];exact w.ndv,by dsimp only;rw[bg];exact w.even,w.K3,w.Da,w.last,w.key,w.round,w.qF,w.sv,fun i hi=> ?_⟩
 have hi:i<x.af.length:=by dsimp only at hi;rwa [bg]at hi
 obtain⟨q1,q2,q3⟩:=Px h hi
 have hd:=rI h hi
 have hx:=yt i x.af.length hi w.even
 obtain⟨_,_,p3⟩:=Px h hx
 simp only[okD,ak,decide_eq_true_eq,beq_iff_eq]at hd ⊢
 rw[hg i hi,hg _ hx]
 exact⟨⟨⟨⟨q1,q3.1.trans hd.1.1.1.2⟩,q3.2.1.trans hd.1.1.2⟩,by rw[q3.2.2.1,p3.2.2.1];exact hd.1.2⟩,q2⟩
end
section
theorem wE{rows:Int}(h:0≤rows∧rows≤64):((fk rows).rows.length:Int)=rows:=by
 rw[rS h,jI];omega
theorem Py{rows i:Int}{c:List UInt8}(h:qB rows i c=true):((Ng rows i c).rows.length:Int)=rows:=by
 have h':=h
 simp only[qB,ak]at h'
 have hr:1≤rows∧rows≤64:=by have:=h'.1;rw[dD]at this;exact this
 rw[Ng,if_pos h'.1,uZ h'.2]
 show(((fk rows).rows.set i.toNat c).length:Int)=rows
 rw[bA];exact wE (by omega)
theorem K5{α:Type}(f:α→DB): ∀(l:List α) (d:DB),(l.foldl (fun d s=>jl d (f s)) d).rows.length=d.rows.length:=by
 intro l
 induction l with
 |nil=>intro d;rfl
 |cons x r ih=>intro d;rw[cK,ih,wq]
theorem RJ{rows i:Int}{c:List UInt8}(h:qB rows i c=true)(sd:List Int):((qW rows i c sd).rows.length:Int)=rows:=by
 unfold qW;rw[K5 (fun s=>JX s rows)];exact Py h
theorem RK{rows i:Int}{c:List UInt8}{sd:List Int}: ∀d,d∈qX rows i c sd→(d.rows.length:Int)=rows:=by
 intro d hd
 unfold qX at hd
 split at hd
 ·rename_i h
  have hu:qB rows i c=true:=by simp only[tI,ak]at h;exact h.1
  rcases aL.1 hd with h1|h1
  ·obtain⟨s,_,rfl⟩:=cq.1 h1
   have:=(Ba hu).2
   show((jZ s rows).length:Int)=rows
   rw[nF];omega
  ·rw[aR.1 h1];exact RJ hu sd
 ·cases hd
def ET(x:ck)(i:Nat)(c:Nat):DB:=(eY x (c:Int)).getD i (aP .DB)
def rcs(x:ck)(i n:Nat):List bE:=(bD n).map fun c:Nat=>⟨(c:Int),ET x i c⟩
theorem Z4(x:ck)(i n:Nat):rcs x i (n+1)=rcs x i n++ [⟨(n:Int),ET x i n⟩]:=by
 unfold rcs;rw[eN,eu];rfl
theorem MU(x:ck)(i n:Nat):(rcs x i n).length=n:=by simp[rcs]
theorem Db(x:ck)(i n:Nat){k:Nat}(h:k<n):(rcs x i n).getD k (aP .bE)=⟨(k:Int),ET x i k⟩:=fM _ _ _ _ h
def iy(x:ck)(k i:Nat):bZ:=⟨(x.av.getD i (aP .bZ)).id,(x.av.getD i (aP .bZ)).rows,(x.av.getD i (aP .bZ)).round,rcs x i k,(x.av.getD i (aP .bZ)).behavior⟩
theorem Z5{x:ck}(h:okW x=true):2≤x.af.length∧x.af.length≤8:=by
 have:=pM h
 simp only[Nd,ak,dD]at this
 omega
theorem RL{x:ck}(h:okW x=true){i c:Nat}(hi:i<x.av.length)(hc:c<x.af.length):eC (ET x i c)=true∧((ET x i c).rows.length:Int)=x.rows:=by
 have hl:(eY x (c:Int)).length=x.av.length:=lR h (by omega)
 have hm:ET x i c∈eY x (c:Int):=getD_in _ (by omega)
 exact⟨Be h _ hm,RK _ hm⟩
theorem FG{x:ck}(h:okW x=true){i:Nat}(hi:i<x.av.length):(x.av.getD i (aP .bZ)).id=(i:Int)∧(x.av.getD i (aP .bZ)).rows=x.rows∧(x.av.getD i (aP .bZ)).round=x.round∧(x.av.getD i (aP .bZ)).received= []∧0≤(x.av.getD i (aP .bZ)).behavior∧(x.av.getD i (aP .bZ)).behavior≤3:=by
 have hs:=gw h
 have hr:=qN h
 exact(MQ hr.1 hr.2 (by omega)).1 (Mm h hi)
theorem uk{x:ck}(h:okW x=true){k i:Nat}(hi:i<x.av.length)(hk:k≤x.af.length):dN (iy x k i)=true:=by
 have hs:=gw h
 have hr:=qN h
 have hn:=Z5 h
 obtain⟨h1,h2,h3,h4,h5⟩:=FG h hi
 have hl:(iy x k i).received.length=k:=MU x i k
 simp only[dN,Az,ak,dD,decide_eq_true_eq,bw,hl]
 refine⟨⟨⟨⟨⟨?_,?_⟩,?_⟩,?_⟩,?_⟩,fun j hj=> ?_⟩
 ·show 0≤(x.av.getD i (aP .bZ)).id∧(x.av.getD i (aP .bZ)).id≤3
  omega
 ·show 1≤(x.av.getD i (aP .bZ)).rows∧(x.av.getD i (aP .bZ)).rows≤64
  omega
 ·exact h5
 ·show 0≤(x.av.getD i (aP .bZ)).round∧(x.av.getD i (aP .bZ)).round≤100000
  omega
 ·omega
 ·have hj':j<k:=cm.1 hj
  have e:(iy x k i).received.getD j (aP .bE)=⟨(j:Int),ET x i j⟩:=Db x i k hj'
  have ho:=RL h hi (show j<x.af.length by omega)
  have er:(iy x k i).rows=x.rows:=h2
  simp only[sM,e,ak,dD,beq_iff_eq,bq,lS,decide_eq_false_iff_not,er]
  refine⟨⟨⟨by omega,?_⟩,ho.1⟩,ho.2⟩
  by_cases hz:j=0
  ·left;omega
  ·right
   have e':(iy x k i).received.getD (j-1) (aP .bE)=⟨((j-1:Nat):Int),ET x i (j-1)⟩:=Db x i k (by omega)
   rw[e']
   show¬(j:Int)≤((j-1:Nat):Int)
   omega
theorem TY{x:ck}(h:okW x=true){i:Nat}(hi:i<x.av.length): ∀k,k≤x.af.length→(Ab x k).getD i (aP .bZ)=iy x k i
 |0,_=>by
  have h4:=(FG h hi).2.2.2.1
  show x.av.getD i (aP .bZ)=iy x 0 i
  unfold iy
  have e:rcs x i 0=(x.av.getD i (aP .bZ)).received:=by rw[h4];rfl
  rw[e]
 |k+1,hk=>by
  have ha:oA (iy x k i) (k:Int) (ET x i k)=iy x (k+1) i:=by
   unfold oA
   show(⟨_,_,_,rcs x i k++ [⟨(k:Int),ET x i k⟩],_⟩:bZ)=_
   rw[←Z4];rfl
  rw[OZ h (by omega) hi,TY h hi k (by omega)]
  show Ro (iy x k i) (k:Int) (ET x i k)=_
  rw[Mn (by unfold oB;rw[ha,uk h hi (by omega),uk h hi hk];rfl),ha]
theorem wF{x:ck}(h:okW x=true){i:Nat}(hi:i<x.av.length):(cg x).getD i (aP .bZ)=iy x x.af.length i:=by
 rw[cg,if_pos h];exact TY h hi _ (aZ _)
theorem adF(x:ck)(i n:Nat){a:Nat}(ha:a<n):oV (rcs x i n) (a:Int)=true∧Bd (rcs x i n) (a:Int)=ET x i a:=by
 have hg:=Db x i n ha
 have:=Rp (l:=rcs x i n) (c:=(a:Int)) (k:=a) (by rw[MU];exact ha) (by
  rw[bR]
  intro r hr
  obtain⟨j,hj⟩:=jO.1 hr
  have hj2:j<a:=by
   have:=(aI.1 hj).1
   rw[bV]at this;omega
  rw[List.getElem?_take,if_pos hj2]at hj
  have e:r=⟨(j:Int),ET x i j⟩:=by
   rw[←Db x i n (show j<n by omega),an,hj];rfl
  rw[e];simp only[WE,beq_iff_eq];omega) (by rw[hg];simp[WE])
 rw[hg]at this;exact this
theorem K6(rows:Int)(l:List bE):(iq rows l).rows.length=(fk rows).rows.length:=K5 (fun r:bE=>r.share) l _
theorem Z6(d:DB):(alt d).rows.length=d.rows.length:=bA ..
theorem Z7{x:ck}(h:okW x=true){d:DB}(hd:d∈dA (cg x)):(d.rows.length:Int)=x.rows:=by
 obtain⟨s,hs,rfl⟩:=cq.1 hd
 obtain⟨i,hi⟩:=jO.1 hs
 have hl:i<x.av.length:=by
  have:=(aI.1 hi).1
  rw[ir h]at this;exact this
 have e:s=iy x x.af.length i:=by
  rw[←wF h hl,an,hi];rfl
 have hr:s.rows=x.rows:=by rw[e];exact(FG h hl).2.1
 have hk:dN s=true:=by rw[e];exact uk h hl (aZ _)
 have hw:=qN h
 have hn:((fk s.rows).rows.length:Int)=x.rows:=by rw[hr];exact wE (by omega)
 unfold kq
 rw[if_pos hk]
 split
 ·rw[Z6,K6];exact hn
 ·rw[K6];exact hn
theorem Pz: ∀(l:List DB) (a:DB),eC a=true→(∀d,d∈l→eC d=true∧d.rows.length=a.rows.length)→ ∃d,Ni a l=some d∧d.rows.length=a.rows.length
 | [],a,_,_=>⟨a,rfl,rfl⟩
 |s::r,a,ha,hl=>by
  have hs:=hl s (dU ..)
  have hx:k7 a s=true:=by
   simp only[k7,ak,decide_eq_true_eq]
   exact⟨⟨ha,hs.1⟩,by omega⟩
  have he:=wq a s
  obtain⟨d,h1,h2⟩:=Pz r (jl a s) (zO ha) (fun d hd=>by
   have:=hl d (aK _ hd)
   exact⟨this.1,by omega⟩)
  exact⟨d,by rw[Ni,if_pos hx,h1],by omega⟩
theorem PA{x:ck}(h:okW x=true):F6 (dA (cg x))=true∧((jw (dA (cg x))).rows.length:Int)=x.rows:=by
 have hs:=gw h
 have hl:(dA (cg x)).length=x.av.length:=by rw[show(dA (cg x)).length=(cg x).length from bg ..,ir h]
 have h0:(dA (cg x)).getD 0 (aP .DB)∈dA (cg x):=getD_in _ (by omega)
 have e0:=Z7 h h0
 obtain⟨d,h1,h2⟩:=Pz ((dA (cg x)).drop 1) ((dA (cg x)).getD 0 (aP .DB)) (uf (cg x) _ h0) (fun d hd=>by
  have hm:=iM hd
  have:=Z7 h hm
  exact⟨uf (cg x) _ hm,by omega⟩)
 have e:Rx (dA (cg x))=some d:=by
  rw[Rx,if_pos (by simp only[eA,dD];omega),h1]
 exact⟨by rw[F6,e];rfl,by rw[jw,e];show(d.rows.length:Int)=x.rows;omega⟩
theorem TZ{x:ck}{d:DB}(h:okW x=true)(hr:x.round<99999)(hc:x.cancelled<9223372036854775807)(hd:eC d=true)(hn:(d.rows.length:Int)=x.rows):
  (dJ x [] d).round=x.round+1∧okW (dJ x [] d)=true∧dK (dJ x [] d).aJ=x.round∧(dJ x [] d).cancelled=x.cancelled:=by
 have w:=Dv.of h
 have w3:=w.round
 have hp:=pY h hr
 refine⟨?_,EO h hr hc (fun _=>⟨hd,hn⟩),?_,?_⟩
 ·rw[dJ,if_pos hp];exact cV (by omega)
 ·rw[dJ,if_pos hp]
  show dK ⟨x.aJ.rows,ED x.aJ x.round d⟩=x.round
  exact(RG w.K3 w3 w.last hd (by rw[w.Da];exact hn)).2.1
 ·rw[dJ,if_pos hp];rfl
end
section
structure VY where
 b:List UInt8
 i:Nat
 h:Int
def VY.h1(c:VY):Int:=aq.wrap (aq.wrap (c.h*6364136223846793005)+1442695040888963407)
def VY.n(c:VY):VY:=⟨c.b,if c.i<c.b.length then c.i+1 else c.i,c.h1⟩
def adG(c:VY)(n:Int):VY:=if n≤0 then c else if n≤256 then c.n else c.n.n.n
def PB(seed:Int)(i:Nat):gQ:=⟨(i:Int),((i^^^1:Nat):Int),Fl (kh seed [199,(i:Int).tdiv 2]),kh seed [211,(i:Int)],[],0,[],0⟩
def nwD(seed:Int)(i:Nat):cz:=⟨PB seed i,PB seed i⟩
def nwS(rows:Int)(i:Nat):bZ:=⟨(i:Int),rows,0,[],0⟩
def Dc(rows:Int)(n:Nat):List bZ:=(bD n).map (nwS rows)
def zg(seed:Int)(n:Nat):List cz:=(bD n).map (nwD seed)
def jC(rows:Int)(s p:Nat)(seed:Int):ck:=⟨rows,Dc rows s,zg seed (2*p),⟨rows,[]⟩,Fl (kh seed [197]),seed,0,[],0⟩
theorem GI(rows:Int)(n:Nat):(Dc rows n).length=n:=by simp[Dc]
theorem MV(seed:Int)(n:Nat):(zg seed n).length=n:=by simp[zg]
theorem Z8(rows:Int)(k:Nat):Dc rows (k+1)=Dc rows k++ [nwS rows k]:=AZ _ k
theorem Z9(seed:Int)(k:Nat):zg seed (k+1)=zg seed k++ [nwD seed k]:=AZ _ k
theorem K7(i:Nat):((i^^^1:Nat):Int).tdiv 2=(i:Int).tdiv 2:=by
 have h:(i^^^1)/2=i/2:=by
  rw[Ii]
  simp
 rw[Ci (by omega),Ci (by omega)]
 omega
theorem T0(i:Nat):i^^^1≠i:=by
 intro h
 have h2:(i^^^1)^^^i=i^^^i:=by rw[h]
 rw[Nat.xor_comm i 1,Dd,FH,FI]at h2
 cases h2
theorem RM{seed:Int}{i:Nat}(hi:i<8):fP (PB seed i)=true:=by
 have hk:=zG (gm seed [199,(i:Int).tdiv 2])
 have hx:i^^^1<8:=yt i 8 hi (by decide)
 have hn:=T0 i
 have hB:MG (PB seed i):=by
  refine⟨aD _,aD _,?_,?_⟩<;>(intro b hb;cases hb)
 refine ES.2 ⟨⟨⟨by show 0≤(i:Int)∧(i:Int)≤7;omega,by show 0≤((i^^^1:Nat):Int)∧((i^^^1:Nat):Int)≤7;omega⟩,by show(i:Int)≠((i^^^1:Nat):Int);omega,?_⟩,hB,by show(0:Int)≤0∧(0:Int)≤0;omega,by show(0:Int)≤0;omega,by show(0:Int)≤100000;omega⟩
 show iT (Fl _)=true
 unfold iT
 rw[dD];omega
theorem T1{rows seed:Int}{s p:Nat}(hr:1≤rows∧rows≤64)(hs:2≤s∧s≤4)(hp:1≤p∧p≤4):okW (jC rows s p seed)=true:=by
 have hl1:=GI rows s
 have ru:=MV seed (2*p)
 have hk:=zG (gm seed [197])
 refine Dv.ok ⟨hr,by show 2≤(Dc rows s).length∧(Dc rows s).length≤4;omega,by show 2≤(zg seed (2*p)).length∧(zg seed (2*p)).length≤8;omega,by show(zg seed (2*p)).length % 2=0;omega,pX.2 ⟨⟨hr,by show 0≤8;omega⟩,fun i hi=>by cases hi⟩,rfl,?_,?_,by show(0:Int)≤0∧(0:Int)≤100000;omega,by show(0:Int)≤0;omega,fun i hi=> ?_,fun i hi=> ?_⟩
 ·show dK ⟨rows,[]⟩<0
  rw[Bv rfl];decide
 ·show iT (Fl _)=true
  unfold iT
  rw[dD];omega
 ·have hi':i<s:=by have:i<(Dc rows s).length:=hi;omega
  have e:(Dc rows s).getD i (aP .bZ)=nwS rows i:=fM _ _ _ _ hi'
  show sOK rows 0 i ((Dc rows s).getD i (aP .bZ))
  rw[e]
  exact⟨rfl,rfl,rfl,rfl,by show(0:Int)≤0;omega,by show(0:Int)≤3;omega⟩
 ·have hi':i<2*p:=by have:i<(zg seed (2*p)).length:=hi;omega
  have hx:=yt i (2*p) hi' (by omega)
  have e: ∀j,j<2*p→(zg seed (2*p)).getD j (aP .cz)=nwD seed j:=fun j hj=>fM _ _ _ _ hj
  have hc:=RM (seed:=seed) (i:=i) (by omega)
  have adI:fX (nwD seed i)=true:=Z3.iff.2 ⟨hc,hc,lV.2 ⟨⟨rfl,rfl,rfl,rfl⟩,rfl⟩,fE _,fE _,EP _⟩
  show(fX ((zg seed (2*p)).getD i (aP .cz))&&(((zg seed (2*p)).getD i (aP .cz)).live.id==(i:Int))&&(((zg seed (2*p)).getD i (aP .cz)).live.gE==((i^^^1:Nat):Int))&&(((zg seed (2*p)).getD i (aP .cz)).live.key==((zg seed (2*p)).getD (i^^^1) (aP .cz)).live.key)&&decide (((zg seed (2*p)).getD i (aP .cz)).live.next≤0))=true
  rw[e i hi',e _ hx,adI]
  simp only[ak,beq_iff_eq,decide_eq_true_eq]
  refine⟨⟨⟨⟨trivial,rfl⟩,rfl⟩,?_⟩,fE _⟩
  show Fl (kh seed [199,(i:Int).tdiv 2])=Fl (kh seed [199,((i^^^1:Nat):Int).tdiv 2])
  rw[K7]
theorem akg{x:ck}{n:Nat}(h:okW x=true)(hr:x.replaced.length≤n):wC x n:=by
 have w:=Dv.of h
 refine⟨Bm (ZG h),?_,?_,hr⟩
 ·exact dy (F8 cX 960 8 _ (fun d hd=>rV (Ph h d hd)) w.ndv.2) (by decide)
 ·have ha:=pX.1 w.K3
  refine dy (F8 ij 1600 8 _ (fun y hy=> ?_) ha.1.2) (by decide)
  obtain⟨i,hi,rfl⟩:=ef.1 hy
  have h2:=oM.1 (ha.2 i hi)
  have e:x.aJ.rounds.getD i (aP .bz)=x.aJ.rounds[i]:=by rw[an,au hi];rfl
  rw[e]at h2
  exact MF h2.2.2.1
theorem T2{x:ck}{i:Nat}{d:cz}(h:okW x=true)(hi:i<x.af.length)(hd:fX d=true)(hs:wV d.live (x.af.getD i (aP .cz)).live)(hn:d.live.next≤x.round):okW (ZH x i d)=true:=by
 have w:=Dv.of h
 have hg: ∀j,j<x.af.length→(x.af.set i d).getD j (aP .cz)=if i=j then d else x.af.getD j (aP .cz):=fun j hj=>ko _ _ hj
 refine Dv.ok ⟨w.rows,w.nsv,by show 2≤(x.af.set i d).length∧(x.af.set i d).length≤8;rw[bA];exact w.ndv,by show(x.af.set i d).length % 2=0;rw[bA];exact w.even,w.K3,w.Da,w.last,w.key,w.round,w.qF,w.sv,fun j hj=> ?_⟩
 have hj:j<x.af.length:=by have:j<(x.af.set i d).length:=hj;rwa [bA]at this
 have hx:=yt j x.af.length hj w.even
 have hq:=rI h hj
 have key: ∀m,m<x.af.length→((x.af.set i d).getD m (aP .cz)).live.key=(x.af.getD m (aP .cz)).live.key:=by
  intro m hm
  rw[hg m hm]
  split
  ·rename_i e;subst e;exact hs.2.2.1
  ·rfl
 simp only[okD,ak,decide_eq_true_eq,beq_iff_eq]at hq ⊢
 show(((fX ((x.af.set i d).getD j (aP .cz))=true∧((x.af.set i d).getD j (aP .cz)).live.id=(j:Int))∧((x.af.set i d).getD j (aP .cz)).live.gE=((j^^^1:Nat):Int))∧((x.af.set i d).getD j (aP .cz)).live.key=((x.af.set i d).getD (j^^^1) (aP .cz)).live.key)∧((x.af.set i d).getD j (aP .cz)).live.next≤x.round
 rw[key j hj,key _ hx,hg j hj]
 split
 ·rename_i e
  subst e
  exact⟨⟨⟨⟨hd,hs.1.trans hq.1.1.1.2⟩,hs.2.1.trans hq.1.1.2⟩,hq.1.2⟩,hn⟩
 ·exact hq
theorem afm{x:ck}{c:Int}(h:qY x c=true):c.toNat<x.af.length∧fX (J1 x c)=true∧(J1 x c).live.next≤x.round:=by
 obtain⟨h1,h2,h3⟩:=ML h
 have hi:c.toNat<x.af.length:=by omega
 have hq:=rI h1 hi
 simp only[okD,ak,decide_eq_true_eq]at hq
 exact⟨hi,hq.1.1.1.1,hq.2⟩
theorem T3{c:gQ}{b:List UInt8}(h:fP c=true):fP (oJ c b)=true:=by
 unfold oJ
 split
 ·rename_i hk;simp only[yR,ak]at hk;exact hk.2
 ·exact h
theorem K8(c:gQ)(b:List UInt8):wV (oJ c b) c∧(oJ c b).next=c.next∧(oJ c b).sent=c.sent∧(oJ c b).inbox=c.inbox:=by
 unfold oJ
 split
 ·exact⟨⟨rfl,rfl,rfl,rfl⟩,rfl,rfl,rfl⟩
 ·exact⟨⟨rfl,rfl,rfl,rfl⟩,rfl,rfl,rfl⟩
theorem adJ{d:cz}{b:List UInt8}(h:fX d=true):fX (EG d b)=true∧wV (EG d b).live d.live∧(EG d b).live.next=d.live.next:=by
 unfold EG
 split
 ·rename_i hk
  simp only[EF,ak]at hk
  have hd:=Z3.iff.1 h
  obtain⟨p1,p2⟩:=lV.1 hd.same
  obtain⟨a1,a2,a3,a4⟩:=K8 d.live b
  obtain⟨b1,b2,b3,b4⟩:=K8 d.saved b
  refine⟨Z3.iff.2 ⟨T3 hd.live,T3 hd.saved,lV.2 ⟨⟨a1.1.trans (p1.1.trans b1.1.symm),a1.2.1.trans (p1.2.1.trans b1.2.1.symm),a1.2.2.1.trans (p1.2.2.1.trans b1.2.2.1.symm),a1.2.2.2.trans (p1.2.2.2.trans b1.2.2.2.symm)⟩,?_⟩,?_,?_,?_⟩,a1,a2⟩
  ·show(oJ d.live b).bu=(oJ d.saved b).bu
   rw[Je hk.1.2,Je hk.2]
   show d.live.bu++ [b]=d.saved.bu++ [b]
   rw[p2]
  ·show(oJ d.saved b).sent≤(oJ d.live b).sent
   rw[a3,b3];exact hd.sent
  ·show(oJ d.saved b).next≤(oJ d.live b).next
   rw[a2,b2];exact hd.next
  ·show D6 (oJ d.saved b).inbox (oJ d.live b).inbox=true
   rw[a4,b4];exact hd.pre
 ·exact⟨h,⟨rfl,rfl,rfl,rfl⟩,rfl⟩
theorem ahH{x:ck}{c:Int}{b:List UInt8}(h:okW x=true):okW (w6 x c b)=true:=by
 unfold w6
 split
 ·rename_i hk
  obtain⟨h1,h2,h3⟩:=afm hk
  obtain⟨q1,q2,q3⟩:=adJ (b:=b) h2
  exact T2 h h1 q1 q2 (by rw[q3];exact h3)
 ·exact h
theorem adK{c:gQ}(h:fP c=true):fX ⟨c,c⟩=true:=Z3.iff.2 ⟨h,h,lV.2 ⟨⟨rfl,rfl,rfl,rfl⟩,rfl⟩,fE _,fE _,EP _⟩
theorem ahI{x:ck}{c:Int}(h:okW x=true):okW (adn x c)=true:=by
 unfold adn
 split
 ·rename_i hk
  obtain⟨h1,h2,h3⟩:=afm hk
  rw[Qg,if_pos h2]
  exact T2 h h1 (adK (Z3.iff.1 h2).live) ⟨rfl,rfl,rfl,rfl⟩ h3
 ·exact h
theorem ahJ{x:ck}{i b:Int}(h:okW x=true):okW (Bz x i b)=true:=by
 unfold Bz
 split
 ·rename_i hk
  obtain⟨_,h1,h2⟩:=ZI hk
  have w:=Dv.of h
  refine Dv.ok ⟨w.rows,by show 2≤(x.av.set i.toNat (beh (x.av.getD i.toNat (aP .bZ)) b)).length∧(x.av.set i.toNat (beh (x.av.getD i.toNat (aP .bZ)) b)).length≤4;rw[bA];exact w.nsv,w.ndv,w.even,w.K3,w.Da,w.last,w.key,w.round,w.qF,fun j hj=> ?_,w.dv⟩
  have hj:j<x.av.length:=by have:j<(x.av.set i.toNat (beh (x.av.getD i.toNat (aP .bZ)) b)).length:=hj;rwa [bA]at this
  show sOK x.rows x.round j ((x.av.set i.toNat (beh (x.av.getD i.toNat (aP .bZ)) b)).getD j (aP .bZ))
  rw[ko _ _ hj]
  have hq:=w.sv j hj
  split
  ·rename_i e
   subst e
   obtain⟨q1,q2,q3,q4,_⟩:=hq
   exact⟨q1,q2,q3,q4,h2.1,h2.2⟩
  ·exact hq
 ·exact h
theorem akh(x:ck):(Dt x).round=x.round∧(Dt x).cancelled=x.cancelled∧(Dt x).replaced=x.replaced∧(Dt x).rows=x.rows∧(Dt x).av=x.av∧(Dt x).aJ=x.aJ∧(Dt x).af.length=x.af.length∧(Dt x).bS=x.bS:=by
 unfold Dt
 split
 ·exact⟨rfl,rfl,rfl,rfl,rfl,rfl,bg ..,rfl⟩
 ·exact⟨rfl,rfl,rfl,rfl,rfl,rfl,rfl,rfl⟩
theorem adM(x:ck):(testW x).round=x.round∧(testW x).cancelled=x.cancelled∧(testW x).rows=x.rows∧(testW x).aJ=x.aJ∧(testW x).af=x.af∧(testW x).bS=x.bS:=by
 unfold testW
 split
 ·exact⟨rfl,rfl,rfl,rfl,rfl,rfl⟩
 ·exact⟨rfl,rfl,rfl,rfl,rfl,rfl⟩
theorem VZ{x:ck}(h:okW x=true)(hc:x.cancelled<9223372036854775807):okW (dc x)=true:=by
 unfold dc
 split
 ·rename_i hk
  have hr:x.round<99999:=by simp only[nL,h,c9,bq,decide_eq_false_iff_not]at hk;omega
  exact MT (Pv (EO h hr hc fun _=>⟨KY _ (uf _),(PA h).2⟩))
 ·exact h
theorem aaa{x:ck}(h:okW x=true)(hr:x.round<99999)(hc:x.cancelled<9223372036854775807):(dc x).round=x.round+1∧(dc x).cancelled=(if(mh x.bS (cg x) (dA (cg x)) (jA x) (cg x).length).length=0 then x.cancelled else x.cancelled+1)∧(dc x).rows=x.rows∧(dc x).af.length=x.af.length∧dK (dc x).aJ=(if(mh x.bS (cg x) (dA (cg x)) (jA x) (cg x).length).length=0 then x.round else dK x.aJ):=by
 have w:=Dv.of h
 have w3:=w.round;have w4:=w.qF
 have hk:=pY h hr
 rw[dc,if_pos hk]
 obtain⟨a1,a2,_,a4,_,a6,a7,_⟩:=akh (testW (dJ x (mh x.bS (cg x) (dA (cg x)) (jA x) (cg x).length) (jw (dA (cg x)))))
 obtain⟨b1,b2,b3,b4,b5,_⟩:=adM (dJ x (mh x.bS (cg x) (dA (cg x)) (jA x) (cg x).length) (jw (dA (cg x))))
 have hj:=PA h
 rw[a1,a2,a4,a6,a7,b1,b2,b3,b4,b5,dJ,if_pos hk]
 refine⟨cV (by omega),?_,rfl,rfl,?_⟩
 ·dsimp only
  split
  ·rfl
  ·exact cV (by omega)
 ·dsimp only
  split
  ·exact(RG w.K3 w3 w.last (KY _ (uf _)) (by rw[w.Da];exact hj.2)).2.1
  ·rfl
structure De(x:ck)(n:Nat):Prop where
 ok:okW x=true
 round:x.round≤n
 qF:x.cancelled≤n
 Gf:x.replaced.length≤8*n
theorem De.mono{x:ck}{n m:Nat}(h:De x n)(hn:n≤m):De x m:=⟨h.ok,by have:=h.round;omega,by have:=h.qF;omega,by have:=h.Gf;omega⟩
theorem De.C{x:ck}{n:Nat}(h:De x n):wC x (8*n):=akg h.ok h.Gf
theorem De.B{x:ck}{n:Nat}(h:De x n)(hn:n≤100000):wB x:=Pj h.C (by omega)
theorem De.R{x:ck}{n:Nat}(h:De x n)(hn:n≤100000):wR x:=afg h.C (by omega)
theorem De.sm{x:ck}{n:Nat}{c:Int}{b:List UInt8}(h:De x n):De (w6 x c b) n:=by
 refine⟨ahH h.ok,?_,?_,?_⟩<;>(unfold w6;split)<;>first|exact h.round|exact h.qF|exact h.Gf
theorem De.sv{x:ck}{n:Nat}{c:Int}(h:De x n):De (adn x c) n:=by
 refine⟨ahI h.ok,?_,?_,?_⟩<;>(unfold adn;split)<;>first|exact h.round|exact h.qF|exact h.Gf
theorem De.co{x:ck}{n:Nat}{i b:Int}(h:De x n):De (Bz x i b) n:=by
 refine⟨ahJ h.ok,?_,?_,?_⟩<;>(unfold Bz;split)<;>first|exact h.round|exact h.qF|exact h.Gf
theorem De.rd{x:ck}{n:Nat}(h:De x n)(hn:n≤99998):De (dc x) (n+1):=by
 have h1:=h.round;have h2:=h.qF
 have hf:=aaa h.ok (by omega) (by omega)
 have hC:=Pm h.C
 refine⟨VZ h.ok (by omega),by omega,?_,by have:=hC.2.2.2;omega⟩
 rw[hf.2.1];split<;>omega
end
section
theorem tv: ∀(a b:List UInt8) (i:Nat),uS (fG a b) i=uS a i^^^uS b i
 | [],b,i=>by rw[p8];simp[uS]
 |x::a,[],i=>by rw[lK];simp[uS]
 |x::a,y::b,0=>by simp[fG,uS]
 |x::a,y::b,i+1=>by
  have:=tv a b i
  rw[fG]
  simpa[uS]using this
theorem ahK{a b:List UInt8}(hl:a.length=b.length)(h: ∀i,uS a i=uS b i):a=b:=by
 apply kS hl
 intro i h1 h2
 have:=h i
 unfold uS at this
 rw[an,au h1,an,au h2]at this
 exact this
def sb(rows:List (List UInt8))(v:List Int)(i k:Nat):UInt8:=if k<v.length∧v.getD k (aP .int)=1 then uS (rows.getD k (aP (.sl .u8))) i else 0
def sx(rows:List (List UInt8))(v:List Int)(i:Nat):Nat→UInt8
 |0=>0
 |n+1=>sx rows v i n^^^sb rows v i n
theorem PC(rows:List (List UInt8))(v:List Int)(i:Nat): ∀n,uS (vi rows v n) i=sx rows v i n
 |0=>rfl
 |n+1=>by
  have ih:=PC rows v i n
  by_cases h:n<v.length∧v.getD n (aP .int)=1
  ·rw[yI h.1 h.2,tv,ih,sx,sb,if_pos h]
  ·rw[rU h,ih,sx,sb,if_neg h,gX]
theorem ahL{a b:List Int}(hl:b.length=a.length){k:Nat}(hk:k<a.length):(dz xb a b).getD k (aP .int)=xb (a.getD k (aP .int)) (b.getD k (aP .int)):=by
 have hz:k<(dz xb a b).length:=by rw[jk];omega
 rw[an,au hz,Ao,an,au hk,an,au (show k<b.length by omega)]
 rfl
theorem ahM(rows:List (List UInt8)){a b:List Int}{n:Int}(ha:fB a n=true)(hb:fB b n=true)(i k:Nat):sb rows (dz xb a b) i k=sb rows a i k^^^sb rows b i k:=by
 have h1:=nD ha
 have h2:=nD hb
 have hl:b.length=a.length:=by omega
 have hz:(dz xb a b).length=a.length:=by rw[jk];omega
 unfold sb
 rw[hz,hl]
 by_cases hk:k<a.length
 ·rw[ahL hl hk]
  rcases zH ha k hk with e1|e1<;>rcases zH hb k (by omega)with e2|e2<;>rw[e1,e2]<;>simp[xb,hk]
 ·simp[hk]
theorem aki(a b c d:UInt8):(a^^^b)^^^(c^^^d)=(a^^^c)^^^(b^^^d):=by
 rw[eB,eB, ←eB b c d,uB b c,eB c b d]
theorem aab(rows:List (List UInt8)){a b:List Int}{n:Int}(ha:fB a n=true)(hb:fB b n=true)(i:Nat): ∀k,sx rows (dz xb a b) i k=sx rows a i k^^^sx rows b i k
 |0=>by simp[sx]
 |k+1=>by rw[sx,sx,sx,aab rows ha hb i k,ahM rows ha hb,aki]
theorem adN{a b:List Int}{n:Int}(ha:fB a n=true)(hb:fB b n=true):fB (dz xb a b) n=true:=by
 have h1:=nD ha
 have h2:=nD hb
 have hz:(dz xb a b).length=a.length:=by rw[jk];omega
 simp only[fB,ak,decide_eq_true_eq,bw,dD]
 refine⟨⟨by omega,h1.2⟩,fun x hx=> ?_⟩
 obtain⟨k,hk,rfl⟩:=ef.1 hx
 rw[Ao]
 unfold xb
 split<;>omega
theorem RN{a b:List Int}{n:Int}(ha:fB a n=true)(hb:fB b n=true):pN a b=dz xb a b:=by
 have h1:=nD ha
 apply we
 rw[oo,h1.1,ha,hb];rfl
theorem PD(rows:List (List UInt8)){n:Int}(hn:1≤n∧n≤64)(i k:Nat): ∀(sd:List Int) (l:List Int),fB l n=true→
  fB (sd.foldl (fun l s=>pN l (cO s n)) l) n=true∧sx rows (sd.foldl (fun l s=>pN l (cO s n)) l) i k=sd.foldl (fun z s=>z^^^sx rows (cO s n) i k) (sx rows l i k)
 | [],l,h=>⟨h,rfl⟩
 |s::sd,l,h=>by
  have hr:=yX (s:=s) hn
  have e:=RN h hr
  have hz:=adN h hr
  have ih:=PD rows hn i k sd (dz xb l (cO s n)) hz
  rw[cK,cK,e]
  refine⟨ih.1,?_⟩
  rw[ih.2,aab rows h hr]
theorem MW{α:Type}(g:α→UInt8): ∀(l:List α) (z:UInt8),l.foldl (fun z s=>z^^^g s) z=z^^^l.foldl (fun z s=>z^^^g s) 0
 | [],z=>by simp
 |s::l,z=>by
  rw[cK,cK,MW g l (z^^^g s),MW g l (0^^^g s),eg,eB]
theorem GJ(i:Nat):uS Nf i=0:=by
 unfold uS Nf
 rw[an,iO]
 split<;>rfl
theorem aac{d:DB}{v:List Int}(hd:eC d=true)(hv:fB v d.rows.length=true):iz d v=fG Nf (Bk d.rows v):=by
 rw[iz,hd,hv];rfl
theorem aad{d:DB}{v:List Int}(hd:eC d=true)(hv:fB v d.rows.length=true)(i:Nat):uS (iz d v) i=sx d.rows v i d.rows.length:=by
 rw[aac hd hv,tv,GJ,eg]
 exact PC d.rows v i _
theorem aae{d:DB}{v:List Int}(hd:eC d=true)(hv:fB v d.rows.length=true):nK d v=true:=by
 apply CF
 rw[aac hd hv,eI,ox]
 omega
theorem T4{d:DB}{v:List Int}(hd:eC d=true)(hv:fB v d.rows.length=true):(iz d v).length=24:=zN (aae hd hv)
theorem PE{rows i:Int}(h:kD rows i=true):fB (qV rows i) rows=true:=by
 obtain⟨h1,h2,h3,h4⟩:=uY h
 rw[rP h]
 simp only[fB,ak,decide_eq_true_eq,bw,dD,bA,jI]
 refine⟨⟨by omega,h2⟩,fun x hx=> ?_⟩
 rcases gd hx with h5|h5
 ·have h6:=(tW.1 h5).2
  rw[h6]
  show 0≤(0:Int)∧(0:Int)≤1
  omega
 ·omega
theorem adO(db:List (List UInt8)){rows i:Int}(h:kD rows i=true)(j:Nat): ∀n:Nat,(n:Int)≤rows→sx db (qV rows i) j n=if i<(n:Int)then uS (db.getD i.toNat (aP (.sl .u8))) j else 0:=by
 obtain⟨h1,h2,h3,h4⟩:=uY h
 intro n
 induction n with
 |zero=>intro _;rw[if_neg (by omega)];rfl
 |succ n ih=>
  intro hn
  have hg:(qV rows i).getD n (aP .int)=if i.toNat=n then 1 else 0:=by
   rw[rP h,ko _ _ (by rw[jI];omega)]
   split
   ·rfl
   ·rw[an,iO,if_pos (by omega)];rfl
  have hl:n<(qV rows i).length:=by rw[rP h,bA,jI];omega
  rw[sx,ih (by omega),sb,hg]
  by_cases he:i.toNat=n
  ·rw[if_neg (by omega),if_pos ⟨hl,if_pos he⟩,if_pos (by omega),eg,he]
  ·rw[if_neg (show¬(n<(qV rows i).length∧(if i.toNat=n then(1:Int)else 0)=1)by rw[if_neg he];omega),gX]
   by_cases hi:i<(n:Int)
   ·rw[if_pos hi,if_pos (by omega)]
   ·rw[if_neg hi,if_neg (by omega)]
theorem T5(i:Nat): ∀(l:List (List UInt8)) (a:List UInt8),uS (l.foldl fG a) i=l.foldl (fun z b=>z^^^uS b i) (uS a i)
 | [],_=>rfl
 |b::l,a=>by rw[cK,cK,T5 i l,tv]
theorem PF: ∀(l:List (List UInt8)) (a:List UInt8),(∀b,b∈l→b.length=24)→a.length=24∨(l≠ []∧a.length≤24)→(l.foldl fG a).length=24
 | [],a,_,h=>by
   rcases h with h|h
   ·exact h
   ·exact absurd rfl h.1
 |b::l,a,hb,h=>by
  rw[cK]
  refine PF l _ (fun y hy=>hb y (aK _ hy)) (Or.inl ?_)
  have:=hb b (dU ..)
  rw[eI]
  rcases h with h|h<;>omega
theorem V0{d:DB}{rows row:Int}{sd:List Int}(hd:eC d=true)(hl:(d.rows.length:Int)=rows)(hu:kD rows row=true)(hc:Cr rows row sd=true):
  (∀v,v∈mm rows row sd→fB v d.rows.length=true)∧yL ((mm rows row sd).map (iz d))=d.rows.getD row.toNat (aP (.sl .u8)):=by
 obtain⟨h1,h2,h3,h4⟩:=uY hu
 have hsel: ∀s,fB (cO s rows) rows=true:=fun s=>yX ⟨h1,h2⟩
 have aaf: ∀i k,fB (yw rows row sd) rows=true∧sx d.rows (yw rows row sd) i k=sd.foldl (fun z s=>z^^^sx d.rows (cO s rows) i k) (sx d.rows (qV rows row) i k):=fun i k=>PD d.rows ⟨h1,h2⟩ i k sd _ (PE hu)
 have hv: ∀v,v∈mm rows row sd→fB v d.rows.length=true:=by
  intro v hm
  rw[hl]
  rw[mm,if_pos hc]at hm
  rcases aL.1 hm with h|h
  ·obtain⟨s,_,rfl⟩:=cq.1 h;exact hsel s
  ·rw[aR.1 h];exact(aaf 0 0).1
 refine⟨hv,ahK ?_ fun i=> ?_⟩
 ·rw[p9 hd _ (by omega)]
  refine PF _ _ (fun b hb=> ?_) (Or.inr ⟨?_,by show 0≤24;omega⟩)
  ·obtain⟨v,hm,rfl⟩:=cq.1 hb
   exact T4 hd (hv v hm)
  ·rw[mm,if_pos hc];simp
 ·show uS (((mm rows row sd).map (iz d)).foldl fG []) i=_
  rw[T5,J3,mm,if_pos hc,ep]
  have e0:uS ([]:List UInt8) i=0:=rfl
  have e1:(sd.map fun s=>cO s rows).foldl (fun z v=>z^^^uS (iz d v) i) 0=sd.foldl (fun z s=>z^^^sx d.rows (cO s rows) i d.rows.length) 0:=by
   rw[J3]
   have:(fun(z:UInt8) s=>z^^^uS (iz d (cO s rows)) i)=fun z s=>z^^^sx d.rows (cO s rows) i d.rows.length:=by
    funext z s
    rw[aad hd (by rw[hl];exact hsel s)]
   rw[this]
  rw[e0,e1,cK,J4,aad hd (by rw[hl];exact(aaf 0 0).1),(aaf i d.rows.length).2,MW _ sd (sx d.rows (qV rows row) i d.rows.length),adO d.rows hu i d.rows.length (by omega),if_pos (by omega)]
  rw[uB (uS _ i), ←eB,kW,eg]
theorem Jg{α β:Type}(f:α→β)(l:List α)(d:α):((bD l.length).map fun i=>f (l.getD i d))=l.map f:=by
 apply kS
 ·simp
 ·intro i h1 h2
  simp only[bg,EU]at h1
  simp[an,au h1]
theorem adP{x:ck}{r row s:Int}(h:okW x=true)(hb: ∀i,i<x.av.length→(x.av.getD i (aP .bZ)).behavior≠3)(hh:kQ x.aJ.rounds r=true)(hr:0≤row∧row<x.rows):
  FE x r row s=true∧Mt x r row s=(jW x.aJ.rounds r).rows.getD row.toNat (aP (.sl .u8)):=by
 have hs:=gw h
 have hrw:=(qN h).1
 obtain⟨hd,hl⟩:=Pt h hh
 have hu:kD x.rows row=true:=by
  simp only[kD,ak,dD]
  rw[cV (by omega)];omega
 have Cd:=pO x.av.length r row s
 have P9:=nD (PE hu)
 have hc:Cr x.rows row (jS x.av.length r row s)=true:=by
  simp only[Cr,ak,bq,decide_eq_false_iff_not,eA,dD]
  rw[Cd,cV (by omega)];omega
 obtain⟨q1,q2⟩:=V0 (sd:=jS x.av.length r row s) hd hl hu hc
 have hql:(query' x r row s).length=x.av.length:=by
  show(mm x.rows row (jS x.av.length r row s)).length=_
  rw[mm,if_pos hc,aY,bg,Cd]
  show x.av.length-1+1=_
  omega
 have hp:wT x r row s=(query' x r row s).map (iz (jW x.aJ.rounds r)):=by
  unfold wT wS
  rw[lD, ←Jg (iz (jW x.aJ.rounds r)) (query' x r row s) (aP (.sl .int))]
  apply List.map_congr_left
  intro i hi
  have hi:=cm.1 hi
  have hm:(query' x r row s).getD i (aP (.sl .int))∈query' x r row s:=getD_in _ hi
  have hsg:=aae hd (q1 _ hm)
  show(Ms _ _ _ _ _).data=_
  rw[Ms,if_pos hsg,if_neg (hb i (by omega))]
  rfl
 have hall: ∀a,a∈wT x r row s→a.length=24:=by
  intro a ha
  rw[hp]at ha
  obtain⟨v,hm,rfl⟩:=cq.1 ha
  exact T4 hd (q1 v hm)
 have hcm:kR (wT x r row s)=true:=by
  simp only[kR,ak,bw,decide_eq_true_eq,eA,dD]
  refine⟨?_,fun a ha=>by have:=hall a ha;omega⟩
  rw[hp,bg,hql];omega
 refine⟨by rw[FE,hh,hcm];rfl,?_⟩
 rw[Mt,if_pos hh,My hcm,hp]
 exact q2
theorem ahN{b:List UInt8}(h:0<b.length):KT b≠b:=by
 intro he
 have h1:(KT b).getD 0 (aP .u8)=b.getD 0 (aP .u8):=by rw[he]
 unfold KT at h1
 rw[ko _ _ h,if_pos rfl]at h1
 have h2:b.getD 0 (aP .u8)^^^(b.getD 0 (aP .u8)^^^128)=b.getD 0 (aP .u8)^^^b.getD 0 (aP .u8):=by rw[h1]
 rw[←eB,kW,eg]at h2
 exact absurd h2 (by decide)
theorem RP{x:ck}(h:okW x=true)(hh:kQ x.aJ.rounds (dK x.aJ)=true){k:Nat}(hb:(x.av.getD k (aP .bZ)).behavior=3):WI x k=true:=by
 have hsg:=TV h hh (kh x.seed [227,x.round,(k:Int)])
 have h24:=zN hsg
 have e:tsA x k=mkA (tsK x k) (x.av.getD k (aP .bZ)).id (dK x.aJ) (cO (kh x.seed [227,x.round,(k:Int)]) x.rows) (KT (iz (jW x.aJ.rounds (dK x.aJ)) (cO (kh x.seed [227,x.round,(k:Int)]) x.rows))):=by
  unfold tsA
  rw[Ms,if_pos hsg,if_pos hb]
 unfold WI fls
 rw[e]
 simp only[ak,bq,beq_eq_false_iff_ne]
 exact⟨by unfold VS mkA;simp,ahN (by omega)⟩
theorem Jh{a:mE}(h:0<a.rounds.length):kQ a.rounds (dK a)=true:=by
 rw[vv h]
 refine eZ.2 ⟨a.rounds.getD (a.rounds.length-1) (aP .bz),getD_in _ (by omega),?_⟩
 unfold Tp;simp
theorem adQ{x:ck}(h:okW x=true)(ha:0<x.aJ.rounds.length):xl x=true:=by rw[xl,h,Jh ha];rfl
end
section
def BA(l:List UInt8)(i:Int):Int:=if i<(l.length:Int)then aq.wrap ((l.getD i.toNat (aP .u8)).toNat:Int)else(aq.wrap (aq.wrap (i*31)+aq.wrap ((l.length:Int)*7))).tmod 256
theorem T6(l:List UInt8){i:Int}(hl:l.length≤1048576)(hi:0≤i∧i≤1000):0≤BA l i∧BA l i≤255:=by
 unfold BA
 split
 ·have:=(l.getD i.toNat (aP .u8)).toNat_lt
  rw[cV (by omega)];omega
 ·rw[cV (a:=i*31) (by omega),cV (a:=(l.length:Int)*7) (by omega),cV (by omega),gx (by omega)]
  omega
theorem aag{a n:Int}(h:0≤a)(hn:0<n):0≤a.tmod n∧a.tmod n<n:=by
 rw[gx h]
 exact⟨j9 _ (by omega),jK _ hn⟩
end
section
def gO(d:DB)(j i:Nat):UInt8:=uS (d.rows.getD j (aP (.sl .u8))) i
theorem Ji{d:DB}{j:Nat}(h:d.rows.length≤j)(i:Nat):gO d j i=0:=by
 unfold gO;rw[Ia _ _ _ h];rfl
theorem PG{a b:DB}(h:k7 a b=true)(j i:Nat):gO (jl a b) j i=gO a j i^^^gO b j i:=by
 have hb:=wg h
 by_cases hj:j<a.rows.length
 ·unfold gO
  rw[rT h]
  show uS ((jy a b).getD j (aP (.sl .u8))) i=_
  rw[wh h j hj,tv]
 ·rw[Ji (by rw[rT h];show(jy a b).length≤j;rw[lQ h];omega),Ji (by omega),Ji (by omega)];rfl
def xs{α:Type}(g:α→UInt8)(l:List α):UInt8:=l.foldl (fun z s=>z^^^g s) 0
theorem gY{α:Type}(g:α→UInt8)(a:α)(l:List α):xs g (a::l)=g a^^^xs g l:=by
 unfold xs
 rw[cK,MW,eg]
theorem aai{α:Type}(g:α→UInt8): ∀a b:List α,xs g (a++b)=xs g a^^^xs g b
 | [],b=>by rw[eM];show _=0^^^_;rw[eg]
 |x::a,b=>by rw[iG,gY,gY,aai g a b,eB]
theorem aaj{α:Type}(f g:α→UInt8): ∀l:List α,xs (fun s=>f s^^^g s) l=xs f l^^^xs g l
 | []=>by show(0:UInt8)=0^^^0;rw[gX]
 |a::l=>by rw[gY,gY,gY,aaj f g l,aki]
theorem T7{α:Type}: ∀l:List α,xs (fun _=>0) l=0
 | []=>rfl
 |a::l=>by rw[gY,T7 l];rfl
theorem Dg{α:Type}{f g:α→UInt8}: ∀{l:List α},(∀a,a∈l→f a=g a)→xs f l=xs g l
 | [],_=>rfl
 |a::l,h=>by rw[gY,gY,h a (dU ..),Dg fun b hb=>h b (aK _ hb)]
theorem Jj{α β:Type}(g:β→UInt8)(f:α→β): ∀l:List α,xs g (l.map f)=xs (fun a=>g (f a)) l
 | []=>rfl
 |a::l=>by rw[cA,gY,gY,Jj g f l]
theorem T8{α β:Type}(f:α→β→UInt8)(m:List β): ∀l:List α,xs (fun a=>xs (f a) m) l=xs (fun b=>xs (fun a=>f a b) l) m
 | []=>(T7 m).symm
 |a::l=>by
  rw[gY,T8 f m l, ←aaj]
  exact Dg fun b _=>(gY (fun a=>f a b) a l).symm
def K9(n:Nat)(d:DB):Prop:=eC d=true∧d.rows.length=n
theorem K9.xd{n:Nat}{a b:DB}(ha:K9 n a)(hb:K9 n b):k7 a b=true:=by
 simp only[k7,ha.1,hb.1,c9,decide_eq_true_eq];rw[ha.2,hb.2]
theorem K9.xor{n:Nat}{a b:DB}(ha:K9 n a)(hb:K9 n b):K9 n (jl a b):=⟨Iy ha.1 hb.1,by rw[wq];exact ha.2⟩
theorem EW{α:Type}(f:α→DB)(n j i:Nat): ∀(l:List α) (a:DB),K9 n a→(∀s,s∈l→K9 n (f s))→K9 n (l.foldl (fun d s=>jl d (f s)) a)∧gO (l.foldl (fun d s=>jl d (f s)) a) j i=gO a j i^^^xs (fun s=>gO (f s) j i) l
 | [],a,ha,_=>⟨ha,by show gO a j i=gO a j i^^^0;rw[gX]⟩
 |s::l,a,ha,hl=>by
  have h1:=hl s (dU ..)
  have ih:=EW f n j i l (jl a (f s)) (ha.xor h1) fun t ht=>hl t (aK _ ht)
  rw[cK]
  refine⟨ih.1,ih.2.trans ?_⟩
  rw[PG (ha.xd h1),gY,eB]
theorem aak{rows:Int}(h:0≤rows∧rows≤64):K9 rows.toNat (fk rows):=⟨Pc rows,by have:=wE h;omega⟩
theorem RQ(rows:Int)(j i:Nat):gO (fk rows) j i=0:=by
 unfold gO fk
 dsimp only
 split
 ·rw[an,iO]
  split
  ·exact GJ i
  ·rfl
 ·rfl
theorem afn(s:Int){rows:Int}(h:1≤rows∧rows≤64):K9 rows.toNat (JX s rows):=⟨Iz s rows h.2,nF s rows⟩
theorem akj{rows i:Int}{c:List UInt8}(h:qB rows i c=true):K9 rows.toNat (Ng rows i c):=⟨(Ba h).1,by have:=Py h;omega⟩
theorem aal{rows i:Int}{c:List UInt8}{sd:List Int}(h:tI rows i c sd=true)(j b:Nat):xs (fun d=>gO d j b) (qX rows i c sd)=gO (Ng rows i c) j b:=by
 have hu:qB rows i c=true:=by simp only[tI,ak]at h;exact h.1
 have hr:=(Ba hu).2
 have q:=(EW (fun s=>JX s rows) rows.toNat j b sd (Ng rows i c) (akj hu) fun s _=>afn s hr).2
 rw[qX,if_pos h,aai,Jj,gY]
 show xs (fun s=>gO (JX s rows) j b) sd^^^(gO (qW rows i c sd) j b^^^0)=_
 unfold qW
 rw[q,gX,uB (gO (Ng rows i c) j b), ←eB,kW,eg]
theorem aam{rows i:Int}{c:List UInt8}(h:qB rows i c=true){j:Nat}(hj:(j:Int)<rows)(b:Nat):gO (Ng rows i c) j b=if i.toNat=j then uS c b else 0:=by
 have hr:=(Ba h).2
 have h1:=IC rows i c
 rw[h]at h1
 have h2:=h1.symm
 simp only[ak,dD,decide_eq_true_eq]at h2
 have hn:=wE (rows:=rows) (by omega)
 have hro:ou (fk rows) i c=true:=by
  simp only[qB,ak]at h;exact h.2
 have hb:=Gv (by have:=rR rows;omega) hro
 unfold Ng
 rw[if_pos (by rw[dD];omega),uZ hro]
 unfold gO
 show uS (((fk rows).rows.set i.toNat c).getD j (aP (.sl .u8))) b=_
 rw[ko _ _ (by omega)]
 split
 ·rfl
 ·exact RQ rows j b
def hon(x:ck):Prop:= ∀i,i<x.av.length→(x.av.getD i (aP .bZ)).behavior=0
def RR(x:ck):Prop:= ∀i,i<x.av.length→(x.av.getD i (aP .bZ)).behavior=0∨(x.av.getD i (aP .bZ)).behavior=3
theorem hon.w{x:ck}(h:hon x):RR x:=fun i hi=>Or.inl (h i hi)
theorem aan{α:Type}{l:List α}{a:α}(d:α)(h:a∈l): ∃i,i<l.length∧l.getD i d=a:=by
 obtain⟨i,hi,rfl⟩:=ef.1 h
 exact⟨i,hi,by rw[an,au hi];rfl⟩
theorem aao{x:ck}(h:okW x=true):cg x=(bD x.av.length).map (iy x x.af.length):=by
 apply kS
 ·rw[bg,EU,ir h]
 ·intro i h1 h2
  have hi:i<x.av.length:=by rw[ir h]at h1;exact h1
  have:=wF h hi
  rw[an,au h1]at this
  rw[w7,List.getElem_range]
  exact this
theorem Ua{x:ck}(h:okW x=true)(hh:RR x){i:Nat}(hi:i<x.av.length)(j b:Nat):K9 x.rows.toNat (kq (iy x x.af.length i))∧gO (kq (iy x x.af.length i)) j b=xs (fun c=>gO (ET x i c) j b) (bD x.af.length):=by
 have hk:=uk h hi (aZ x.af.length)
 have hr:=Io h
 have hsr:=(FG h hi).2.1
 have e:kq (iy x x.af.length i)=iq x.rows (rcs x i x.af.length):=by
  unfold kq rcvd
  have hb:(iy x x.af.length i).behavior=0∨(iy x x.af.length i).behavior=3:=hh i hi
  rw[if_pos hk,if_neg (by omega),if_neg (by omega)]
  show iq (x.av.getD i (aP .bZ)).rows _=_
  rw[hsr];rfl
 rw[e]
 unfold iq
 have q:=EW (fun r:bE=>r.share) x.rows.toNat j b (rcs x i x.af.length) (fk x.rows) (aak (by omega)) (fun s hs=>by
  obtain⟨c,hc,rfl⟩:=cq.1 hs
  have hc:=cm.1 hc
  have:=RL h hi hc
  exact⟨this.1,by have:=this.2;show(ET x i c).rows.length=_;omega⟩)
 refine⟨q.1,q.2.trans ?_⟩
 rw[RQ,eg]
 unfold rcs
 rw[Jj]
theorem PI(n j b:Nat): ∀(l:List DB) (a:DB),K9 n a→(∀d,d∈l→K9 n d)→ ∃d,Ni a l=some d∧K9 n d∧gO d j b=gO a j b^^^xs (fun d=>gO d j b) l
 | [],a,ha,_=>⟨a,rfl,ha,by show _=_^^^0;rw[gX]⟩
 |s::l,a,ha,hl=>by
  have h1:=hl s (dU ..)
  obtain⟨d,q1,q2,q3⟩:=PI n j b l (jl a s) (ha.xor h1) fun t ht=>hl t (aK _ ht)
  refine⟨d,?_,q2,q3.trans ?_⟩
  ·rw[Ni,if_pos (ha.xd h1),q1]
  ·rw[PG (ha.xd h1),gY,eB]
theorem PJ{x:ck}(h:okW x=true)(hh:RR x){j:Nat}(hj:(j:Int)<x.rows)(b:Nat):
  K9 x.rows.toNat (jw (dA (cg x)))∧gO (jw (dA (cg x))) j b=xs (fun c:Nat=>if(jq (jV x (c:Int)) x.round x.rows).toNat=j then uS (gl (jV x (c:Int)) x.round x.rows) b else 0) (bD x.af.length):=by
 have hs:=gw h
 have hl:(dA (cg x)).length=x.av.length:=by rw[show(dA (cg x)).length=(cg x).length from bg ..,ir h]
 have e:dA (cg x)=(bD x.av.length).map fun i=>kq (iy x x.af.length i):=by
  unfold dA;rw[aao h,lD];rfl
 have hok: ∀d,d∈dA (cg x)→K9 x.rows.toNat d:=by
  intro d hd
  rw[e]at hd
  obtain⟨i,hi,rfl⟩:=cq.1 hd
  exact(Ua h hh (cm.1 hi) 0 0).1
 obtain⟨d,q1,q2,q3⟩:=PI x.rows.toNat j b ((dA (cg x)).drop 1) ((dA (cg x)).getD 0 (aP .DB)) (hok _ (getD_in _ (by omega))) fun d hd=>hok d (iM hd)
 have ej:jw (dA (cg x))=d:=by
  rw[jw,Rx,if_pos (by simp only[eA,dD];omega),q1];rfl
 rw[ej]
 refine⟨q2,q3.trans ?_⟩
 have e2:gO ((dA (cg x)).getD 0 (aP .DB)) j b^^^xs (fun d=>gO d j b) ((dA (cg x)).drop 1)=xs (fun d=>gO d j b) (dA (cg x)):=by
  have:=nA (dA (cg x)) 0 (aP .DB) (by omega)
  rw[eS]at this
  rw[dZ]at this
  exact(gY (fun d=>gO d j b) ((dA (cg x)).getD 0 (aP .DB)) ((dA (cg x)).drop 1)).symm.trans (congrArg (xs fun d=>gO d j b) this.symm)
 rw[e2,e,Jj]
 rw[Dg (g:=fun i=>xs (fun c=>gO (ET x i c) j b) (bD x.af.length)) fun i hi=>(Ua h hh (cm.1 hi) j b).2]
 rw[T8]
 apply Dg
 intro c hc
 have hc:=cm.1 hc
 have hcc:0≤(c:Int)∧(c:Int)<x.af.length:=by omega
 have hm:=Eo h hcc
 have hu:qB x.rows (jq (jV x c) x.round x.rows) (gl (jV x c) x.round x.rows)=true:=by simp only[tI,ak]at hm;exact hm.1
 have e3:(bD x.av.length).map (fun i=>ET x i c)=eY x (c:Int):=by
  have:=Jg (fun d:DB=>d) (eY x (c:Int)) (aP .DB)
  rw[lR h hcc,List.map_id']at this
  exact this
 rw[←aam hu hj b, ←aal hm j b]
 show _=xs _ (eY x (c:Int))
 rw[←e3,Jj]
def J5(x:ck)(j:Nat):List UInt8:=(bD x.af.length).foldl (fun a (c:Nat)=>if(jq (jV x (c:Int)) x.round x.rows).toNat=j then fG a (gl (jV x (c:Int)) x.round x.rows)else a) Nf
theorem EX(x:ck)(h:okW x=true)(j:Nat): ∀(l:List Nat) (a:List UInt8),a.length=24→(∀c,c∈l→c<x.af.length)→(l.foldl (fun a (c:Nat)=>if(jq (jV x (c:Int)) x.round x.rows).toNat=j then fG a (gl (jV x (c:Int)) x.round x.rows)else a) a).length=24∧ ∀b,uS (l.foldl (fun a (c:Nat)=>if(jq (jV x (c:Int)) x.round x.rows).toNat=j then fG a (gl (jV x (c:Int)) x.round x.rows)else a) a) b=uS a b^^^xs (fun c:Nat=>if(jq (jV x (c:Int)) x.round x.rows).toNat=j then uS (gl (jV x (c:Int)) x.round x.rows) b else 0) l
 | [],a,ha,_=>⟨ha,fun b=>by show _=_^^^0;rw[gX];rfl⟩
 |c::l,a,ha,hl=>by
  have hc:=hl c (dU ..)
  have h24:=CB (Rn h (c:=(c:Int)) (by omega))
  rw[cK]
  by_cases hq:(jq (jV x (c:Int)) x.round x.rows).toNat=j
  ·rw[if_pos hq]
   have ih:=EX x h j l (fG a (gl (jV x (c:Int)) x.round x.rows)) (by rw[eI];omega) fun t ht=>hl t (aK _ ht)
   refine⟨ih.1,fun b=>(ih.2 b).trans ?_⟩
   rw[tv,gY,if_pos hq,eB]
  ·rw[if_neg hq]
   have ih:=EX x h j l a ha fun t ht=>hl t (aK _ ht)
   refine⟨ih.1,fun b=>(ih.2 b).trans ?_⟩
   rw[gY,if_neg hq,eg]
theorem row_eq{x:ck}(h:okW x=true)(hh:RR x){j:Nat}(hj:(j:Int)<x.rows):(jw (dA (cg x))).rows.getD j (aP (.sl .u8))=J5 x j:=by
 have q:=EX x h j (bD x.af.length) Nf ox fun c hc=>cm.1 hc
 have hd:=(PJ h hh hj 0).1
 refine ahK ?_ fun b=> ?_
 ·rw[p9 hd.1 j (by rw[hd.2];omega)];exact q.1.symm
 ·refine((PJ h hh hj b).2).trans ?_
  refine Eq.trans ?_ (q.2 b).symm
  rw[GJ,eg]
end
section
theorem adS{x:ck}(h:okW x=true){r:gK}(hr:r∈jA x): ∃c i:Nat,c<x.af.length∧i<x.av.length∧r=mkR (kG x.bS (i:Int)) (i:Int) (c:Int) x.round (ET x i c):=by
 unfold jA at hr
 rw[if_pos h]at hr
 unfold IK at hr
 obtain⟨c,hc,hr⟩:=kM.1 hr
 unfold IJ at hr
 obtain⟨i,hi,hr⟩:=kM.1 hr
 unfold ahh at hr
 exact⟨c,i,cm.1 hc,cm.1 hi,aR.1 hr⟩
theorem La{x:ck}(h:okW x=true){i:Nat}(hi:i<x.av.length){r:gK}(hr:r∈jA x):lT (kG x.bS (i:Int)) (iy x x.af.length i) r=0:=by
 obtain⟨c,k,hc,hk,rfl⟩:=adS h hr
 cases hs:td (kG x.bS (i:Int)) (iy x x.af.length i) (mkR (kG x.bS (k:Int)) (k:Int) (c:Int) x.round (ET x k c))with
 |true=>exact ahs hs
 |false=>
  have hid:=(FG h hi).1
  have e:k=i:=by
   unfold td mkR at hs
   simp only[Bool.or_eq_false_iff,bne_eq_false_iff_eq]at hs
   have h1:(k:Int)=(iy x x.af.length i).id:=hs.1.1
   have h2:(iy x x.af.length i).id=(i:Int):=hid
   omega
  subst e
  obtain⟨q1,q2⟩:=adF x k x.af.length hc
  refine ahr hs q1 ?_
  show MB (mkR (kG x.bS (k:Int)) (k:Int) (c:Int) x.round (ET x k c)) (Bd (rcs x k x.af.length) (c:Int))=true
  rw[q2]
  unfold MB mkR
  exact beq_self_eq_true _
theorem aap{x:ck}(h:okW x=true){i:Nat}(hi:i<x.av.length)(hb:(x.av.getD i (aP .bZ)).behavior=0∨(x.av.getD i (aP .bZ)).behavior=3):VR x.bS (cg x) (dA (cg x)) (jA x) i= []:=by
 have hl:(dA (cg x)).length=x.av.length:=by rw[show(dA (cg x)).length=(cg x).length from bg ..,ir h]
 have hid:=(FG h hi).1
 have hp:(dA (cg x)).getD i (aP .DB)=kq (iy x x.af.length i):=by
  unfold dA
  rw[getD_map kq _ (aP .bZ) (by rw[ir h];exact hi),wF h hi]
 have hk:=uk h hi (aZ x.af.length)
 have adT:(iy x x.af.length i).id=(i:Int):=hid
 have ha:CJ (kG x.bS (i:Int)) (iy x x.af.length i) (kq (iy x x.af.length i)) (jA x)=0:=by
  rw[vn (k:=(jA x).length) (fun j hj=>La h hi (getD_in _ hj)) (aZ _)]
  have e:(kq (iy x x.af.length i)).rows=(oR (iy x x.af.length i)).rows:=by
   have hb':(iy x x.af.length i).behavior=0∨(iy x x.af.length i).behavior=3:=hb
   unfold kq oR rcvd
   rw[if_pos hk,if_pos hk,if_neg (by omega),if_neg (by omega)]
  rw[hk,e,beq_self_eq_true];rfl
 have hbad:Ad x.bS (cg x) (dA (cg x)) (jA x) i=false:=by
  unfold Ad
  rw[wF h hi,hp,adT,ha,hl,decide_eq_false (by omega)];rfl
 unfold VR
 rw[hbad];rfl
theorem Uc{x:ck}(h:okW x=true)(hh:RR x):mh x.bS (cg x) (dA (cg x)) (jA x) (cg x).length= []:=by
 unfold mh
 rw[wG,ir h]
 intro i hi
 exact aap h (cm.1 hi) (hh i (cm.1 hi))
theorem Ud{y:ck}(h:okW y=true)(ha:kQ y.aJ.rounds (dK y.aJ)=true){i:Nat}(hb:(y.av.getD i (aP .bZ)).behavior≠3):WI y i=false:=by
 have hsg:=TV h ha (kh y.seed [227,y.round,(i:Int)])
 have e:tsA y i=mkA (tsK y i) (y.av.getD i (aP .bZ)).id (dK y.aJ) (cO (kh y.seed [227,y.round,(i:Int)]) y.rows) (iz (jW y.aJ.rounds (dK y.aJ)) (cO (kh y.seed [227,y.round,(i:Int)]) y.rows)):=by
  unfold tsA
  rw[Ms,if_pos hsg,if_neg hb]
 unfold WI fls
 rw[e]
 unfold mkA
 simp
theorem PK{y:ck}(hh:hon y):testW y=y:=by
 cases ht:xl y with
 |false=>exact Jc ht
 |true=>
  have h2:okW y=true∧kQ y.aJ.rounds (dK y.aJ)=true:=by simpa[xl]using ht
  have hI: ∀n,n≤y.av.length→JF y n= []:=by
   intro n
   induction n with
   |zero=>intro _;rfl
   |succ n ih=>intro hn;rw[I6 (Ud h2.1 h2.2 (by rw[hh n (by omega)];decide)),ih (by omega)]
  rw[zR ht]
  unfold Du
  rw[hI _ (aZ _)];rfl
theorem V1{a:mE}{r f:Int}{d:DB}(h:iU a=true)(hl:dK a<r)(h0:0≤r∧r≤100000)(hd:eC d=true)(hr:(d.rows.length:Int)=a.rows)(hf:dK a<f)(hf2:f≤r):jB (ED a r d) f= [r]∧kQ (ED a r d) r=true∧jW (ED a r d) r=d:=by
 have hok:vo a r d=true:=by
  simp only[vo,h,hd,c9,ak,dD,bq,decide_eq_false_iff_not,decide_eq_true_eq]
  exact⟨⟨⟨h0,by omega⟩,trivial⟩,hr⟩
 have key: ∀l:List bz,(∀y,y∈l→y.round≤dK a)→jB (l++ [⟨r,d⟩]) f= [r]∧kQ (l++ [⟨r,d⟩]) r=true∧jW (l++ [⟨r,d⟩]) r=d:=by
  intro l hy
  refine⟨?_,?_⟩
  ·unfold jB
   rw[oG,oX.2 (fun y hm=>by have:=hy y hm;rw[decide_eq_true_eq];omega),eM,List.filter_cons_of_pos (by rw[decide_eq_true_eq];exact hf2)];rfl
  ·have hlen:(l++ [(⟨r,d⟩:bz)]).length=l.length+1:=by simp
   have hg:(l++ [(⟨r,d⟩:bz)]).getD l.length (aP .bz)=⟨r,d⟩:=by
    rw[an,bU (aZ _),qn];rfl
   have q:=Rr (l:=l++ [⟨r,d⟩]) (r:=r) (k:=l.length) (by omega) (by
    rw[sq,bR]
    ·intro y hm;have:=hy y hm;unfold Tp;simp only[beq_iff_eq];omega
    ·rfl) (by rw[hg];unfold Tp;exact beq_self_eq_true _)
   rw[hg]at q
   exact q
 rw[MN hok]
 unfold xE
 split
 ·rename_i h8
  have hne:a.rounds≠ []:=by
   intro e;rw[e]at h8;exact absurd h8 (by show¬(8:Int)<1;decide)
  obtain⟨y,l,e⟩:=List.exists_cons_of_ne_nil hne
  rw[e]
  exact key l fun z hz=>(MR h z (by rw[e];exact aK _ hz)).2
 ·exact key _ fun y hy=>(MR h y hy).2
theorem V2{d:cz}{r:Int}{own other:List UInt8}(h:wm d r=true):(rdev d r own other).live=gR d.live r own other:=by
 unfold rdev
 rw[if_pos h]
 split<;>rfl
structure afo(x y:ck):Prop where
 ok:okW y=true
 rows:y.rows=x.rows
 nd:y.af.length=x.af.length
 ns:y.av.length=x.av.length
 sv: ∀i,i<x.av.length→(y.av.getD i (aP .bZ)).behavior=(x.av.getD i (aP .bZ)).behavior
 round:y.round=x.round+1
 qF:y.cancelled=x.cancelled
 Gf:y.replaced=x.replaced
 K3:dK y.aJ=x.round
 seed:y.seed=x.seed
theorem Jk(s:bZ):(kj s).behavior=s.behavior:=by unfold kj;split<;>rfl
theorem Lb{x y:ck}(h:okW x=true)(hh:RR x)(hy:okW y=true)(hhy:hon y)(hrw:y.rows=x.rows)(VT:y.af=x.af)(har:y.aJ.rounds=ED x.aJ x.round (jw (dA (cg x))))(hr:x.round<99999)
  (hn: ∀i:Nat,i<x.af.length→dK x.aJ<(jV x (i:Int)).next∧(jV x (i:Int)).next≤x.round){i:Nat}(hi:i<x.af.length):
  jV (Dt y) (i:Int)=gR (jV x (i:Int)) x.round (J5 x (iQ (jV x (i:Int)).key x.round (eP (jV x (i:Int))) x.rows).toNat) (J5 x (iQ (jV x (i:Int)).key x.round (1-eP (jV x (i:Int))) x.rows).toNat):=by
 have w:=Dv.of h
 have w1:=w.round
 have wr:=w.rows
 have hj:=(PJ h hh (j:=0) (by omega) 0).1
 have hjl:((jw (dA (cg x))).rows.length:Int)=x.rows:=by have:=hj.2;omega
 have hD:(Dt y).af.getD i (aP .cz)=oH y (x.af.getD i (aP .cz)):=by
  rw[zP hy]
  show(y.af.map _).getD i (aP .cz)=_
  rw[getD_map _ _ (aP .cz) (by rw[VT];exact hi),VT]
 have hni:dK x.aJ<(x.af.getD i (aP .cz)).live.next∧(x.af.getD i (aP .cz)).live.next≤x.round:=hn i hi
 have hds:=V1 w.K3 w.last w1 hj.1 (by rw[w.Da];exact hjl) hni.1 hni.2
 have hqd:=rI h hi
 simp only[okD,ak,decide_eq_true_eq]at hqd
 have adI:=hqd.1.1.1.1
 have hk:wm (x.af.getD i (aP .cz)) x.round=true:=by
  rw[wm,adI,rC]
  simp only[pT,(Z3.iff.1 adI).live,c9,dD];omega
 show((Dt y).af.getD i (aP .cz)).live=_
 rw[hD]
 unfold oH uc
 rw[har]
 unfold Mv
 rw[hds.1]
 show(Mu y (x.af.getD i (aP .cz)) (x.af.getD i (aP .cz)) x.round).live=_
 unfold Mu
 rw[V2 hk,hrw]
 have hread: ∀dd:Int,Mt y x.round (iQ (x.af.getD i (aP .cz)).live.key x.round dd x.rows) (x.af.getD i (aP .cz)).live.seed=J5 x (iQ (x.af.getD i (aP .cz)).live.key x.round dd x.rows).toNat:=by
  intro dd
  have hm:=Bb (key:=(x.af.getD i (aP .cz)).live.key) (r:=x.round) (d:=dd) (n:=x.rows) (by omega)
  have q:=(adP (s:=(x.af.getD i (aP .cz)).live.seed) hy (fun k hk2=>by rw[hhy k hk2];decide) (by rw[har];exact hds.2.1) (row:=iQ (x.af.getD i (aP .cz)).live.key x.round dd x.rows) (by rw[hrw];exact hm)).2
  rw[har,hds.2.2]at q
  rw[q,row_eq h hh (by omega)]
 rw[hread,hread]
 rfl
theorem V3{x:ck}(h:okW x=true)(hh:hon x)(hr:x.round<99999)(hc:x.cancelled<9223372036854775807)(hn: ∀i:Nat,i<x.af.length→dK x.aJ<(jV x (i:Int)).next∧(jV x (i:Int)).next≤x.round):
  afo x (dc x)∧ ∀i:Nat,i<x.af.length→jV (dc x) (i:Int)=gR (jV x (i:Int)) x.round (J5 x (iQ (jV x (i:Int)).key x.round (eP (jV x (i:Int))) x.rows).toNat) (J5 x (iQ (jV x (i:Int)).key x.round (1-eP (jV x (i:Int))) x.rows).toNat):=by
 have w:=Dv.of h
 have wr:=w.rows
 have xA:=pY h hr
 have hj:=(PJ h hh.w (j:=0) (by omega) 0).1
 have hjl:((jw (dA (cg x))).rows.length:Int)=x.rows:=by have:=hj.2;omega
 obtain⟨c1,c2,c3,c4⟩:=TZ (d:=jw (dA (cg x))) h hr hc hj.1 hjl
 have GK:=C5 (g:= []) (d:=jw (dA (cg x))) xA rfl
 generalize hy:dJ x [] (jw (dA (cg x)))=y at*
 have qT:y.av=x.av.map kj:=by rw[GK];rfl
 have VT:y.af=x.af:=by rw[GK]
 have hrw:y.rows=x.rows:=by rw[GK]
 have har:y.aJ.rounds=ED x.aJ x.round (jw (dA (cg x))):=by rw[GK]
 have VU:y.replaced=x.replaced:=by rw[GK];rfl
 have NW: ∀i,i<x.av.length→(y.av.getD i (aP .bZ)).behavior=(x.av.getD i (aP .bZ)).behavior:=fun i hi=>by
  rw[qT,getD_map kj _ (aP .bZ) hi,Jk]
 have hhy:hon y:=fun i hi=>by
  rw[qT,bg]at hi
  rw[NW i hi,hh i hi]
 have e:dc x=Dt y:=by
  rw[tq xA,Uc h hh.w,hy,PK hhy]
 have hrd:=zP c2
 rw[e]
 have hok:=MT c2
 exact⟨⟨hok,by rw[hrd];exact hrw,by rw[hrd];show(MX _ _).length=_;rw[bg,VT],by rw[hrd];show y.av.length=_;rw[qT,bg],fun i hi=>by rw[hrd];exact NW i hi,by rw[hrd];exact c1,by rw[hrd];exact c4,by rw[hrd];exact VU,by rw[hrd];exact c3,by rw[hrd];show y.seed=_;rw[GK]⟩,
  fun i hi=>Lb h hh.w c2 hhy hrw VT har hr hn hi⟩
end
section

end
section
def JH(seed:Int)(i:Nat):Int:=Fl (kh seed [199,(i:Int).tdiv 2])
def sOf(seed:Int)(i:Nat):Int:=kh seed [211,(i:Int)]
def uF(i:Nat):Int:=if(i:Int)<((i^^^1:Nat):Int)then 0 else 1
def k8(m:List UInt8)(d i:Nat):List (List UInt8):=if i=d then [m]else []
def gD(seed:Int)(m:List UInt8)(d:Nat)(st:Bool)(i:Nat)(nx:Int):gQ:=⟨(i:Int),((i^^^1:Nat):Int),JH seed i,sOf seed i,k8 m d i,if st=true then((k8 m d i).length:Int)else 0,if st=true then k8 m d (i^^^1)else [],nx⟩
def Ap(seed:Int)(m:List UInt8)(d:Nat):List UInt8:=kr (mK (JH seed d) (uF d)) 0 ⟨1,m⟩
def wH(rows seed:Int)(d:Nat)(r:Int)(i:Nat):Int:=if i=d then iQ (JH seed i) r (uF i) rows else A3 (sOf seed i) r rows
def Gg(seed:Int)(m:List UInt8)(d:Nat)(r:Int)(i:Nat):List UInt8:=if i=d then Ap seed m d else cover (kh (sOf seed i) [r])
def qR(rows seed:Int)(m:List UInt8)(n d:Nat)(r:Int)(j:Nat):List UInt8:=(bD n).foldl (fun a c=>if(wH rows seed d r c).toNat=j then fG a (Gg seed m d r c)else a) Nf
def dW(n d:Nat)(st:Bool):Nat:=if st=true then n else d
theorem adU(n d:Nat):dW n d false=d:=rfl
theorem akk(n d:Nat):dW n d true=n:=rfl
theorem zh(m:List UInt8)(d:Nat):k8 m d d= [m]:=if_pos rfl
theorem zi{m:List UInt8}{d i:Nat}(h:i≠d):k8 m d i= []:=if_neg h
theorem Jl{α β:Type}{f g:β→α→β}: ∀{l:List α} {a:β},(∀b, ∀c,c∈l→f b c=g b c)→l.foldl f a=l.foldl g a
 | [],_,_=>rfl
 |c::l,a,h=>by
  rw[cK,cK,h a c (dU ..)]
  exact Jl fun b e he=>h b e (aK _ he)
structure At(rows seed:Int)(m:List UInt8)(n d:Nat)(y:ck)(r:Nat)(st:Bool)(nx:Nat):Prop where
 ok:okW y=true
 rows:y.rows=rows
 nd:y.af.length=n
 round:y.round=(r:Int)
 K3:dK y.aJ<(nx:Int)
 le:nx≤r
 lv: ∀i,i<n→jV y (i:Int)=gD seed m d st i (nx:Int)
section
variable{rows seed:Int}{m:List UInt8}{n d:Nat}{y z:ck}{r nx:Nat}{st:Bool}
theorem At.cw(h:At rows seed m n d y r st nx){i:Nat}(hi:i<n):sQ (gD seed m d st i (nx:Int)) (r:Int) rows=true:=by
 have:=Rn h.ok (c:=(i:Int)) (by have:=h.nd;omega)
 rw[h.lv i hi,h.round,h.rows]at this
 exact this
theorem MY(seed:Int)(m:List UInt8)(i:Nat)(nx:Int):sP (gD seed m i false i nx) (gD seed m i false i nx).sent=Ap seed m i:=by
 show kr (mK (JH seed i) (uF i)) 0 ⟨1,(k8 m i i).getD 0 (aP (.sl .u8))⟩=_
 rw[zh];rfl
theorem At.wr(h:At rows seed m n d y r st nx){i:Nat}(hi:i<n):jq (jV y (i:Int)) y.round y.rows=wH rows seed (dW n d st) (r:Int) i:=by
 have hc:=h.cw hi
 rw[h.lv i hi,h.round,h.rows,jq,if_pos hc]
 cases st with
 |true=>
  rw[if_neg (show¬(gD seed m d true i (nx:Int)).sent<(((gD seed m d true i (nx:Int)).bu.length:Nat):Int)by show¬((k8 m d i).length:Int)<((k8 m d i).length:Int);omega),akk]
  unfold wH
  rw[if_neg (show¬i=n by omega)];rfl
 |false=>
  rw[adU]
  unfold wH
  by_cases e:i=d
  ·subst e
   rw[if_pos (show(gD seed m i false i (nx:Int)).sent<(((gD seed m i false i (nx:Int)).bu.length:Nat):Int)by show(0:Int)<((k8 m i i).length:Int);rw[zh];exact(by decide:(0:Int)<1)),if_pos rfl]
   rfl
  ·rw[if_neg (show¬(gD seed m d false i (nx:Int)).sent<(((gD seed m d false i (nx:Int)).bu.length:Nat):Int)by show¬(0:Int)<((k8 m d i).length:Int);rw[zi e];exact(by decide: ¬(0:Int)<0)),if_neg e]
   rfl
theorem At.wc(h:At rows seed m n d y r st nx){i:Nat}(hi:i<n):gl (jV y (i:Int)) y.round y.rows=Gg seed m (dW n d st) (r:Int) i:=by
 have hc:=h.cw hi
 rw[h.lv i hi,h.round,h.rows,gl,if_pos hc]
 cases st with
 |true=>
  rw[if_neg (show¬(gD seed m d true i (nx:Int)).sent<(((gD seed m d true i (nx:Int)).bu.length:Nat):Int)by show¬((k8 m d i).length:Int)<((k8 m d i).length:Int);omega),akk]
  unfold Gg
  rw[if_neg (show¬i=n by omega)];rfl
 |false=>
  rw[adU]
  unfold Gg
  by_cases e:i=d
  ·subst e
   rw[if_pos (show(gD seed m i false i (nx:Int)).sent<(((gD seed m i false i (nx:Int)).bu.length:Nat):Int)by show(0:Int)<((k8 m i i).length:Int);rw[zh];exact(by decide:(0:Int)<1)),if_pos rfl]
   exact MY seed m i (nx:Int)
  ·rw[if_neg (show¬(gD seed m d false i (nx:Int)).sent<(((gD seed m d false i (nx:Int)).bu.length:Nat):Int)by show¬(0:Int)<((k8 m d i).length:Int);rw[zi e];exact(by decide: ¬(0:Int)<0)),if_neg e]
   rfl
theorem At.rw(h:At rows seed m n d y r st nx)(j:Nat):J5 y j=qR rows seed m n (dW n d st) (r:Int) j:=by
 unfold J5 qR
 rw[h.nd]
 refine Jl fun b c hc=> ?_
 have hc:=cm.1 hc
 rw[h.wr hc,h.wc hc]
def Dh(rows seed:Int)(r:Int)(i:Nat):Nat:=(iQ (JH seed i) r (uF i) rows).toNat
def Jm(rows seed:Int)(r:Int)(i:Nat):Nat:=(iQ (JH seed i) r (1-uF i) rows).toNat
def RS(rows seed:Int)(m:List UInt8)(n d:Nat)(r:Int)(c:Nat)(i:Nat):Bool:=JE (mK (JH seed i) (1-uF i)) (c:Int) (qR rows seed m n d r (Jm rows seed r i))
def Reads(y z:ck):Prop:= ∀i:Nat,i<y.af.length→jV z (i:Int)=gR (jV y (i:Int)) y.round (J5 y (iQ (jV y (i:Int)).key y.round (eP (jV y (i:Int))) y.rows).toNat) (J5 y (iQ (jV y (i:Int)).key y.round (1-eP (jV y (i:Int))) y.rows).toNat)
theorem At.next(h:At rows seed m n d y r st nx)(hq:Reads y z): ∀i:Nat,i<n→jV z (i:Int)=gR (gD seed m d st i (nx:Int)) (r:Int) (qR rows seed m n (dW n d st) (r:Int) (Dh rows seed (r:Int) i)) (qR rows seed m n (dW n d st) (r:Int) (Jm rows seed (r:Int) i)):=by
 intro i hi
 have:=hq i (by rw[h.nd];exact hi)
 rw[h.rw,h.rw,h.lv i hi,h.round,h.rows]at this
 exact this
theorem At.pT(h:At rows seed m n d y r st nx)(hr:r<99999){i:Nat}(hi:i<n):pT (gD seed m d st i (nx:Int)) (r:Int)=true:=by
 have:=Y4 h.ok (c:=(i:Int)) (by have:=h.nd;omega)
 rw[h.lv i hi]at this
 have h2:=h.le
 unfold G.pT
 rw[this,c9,dD]
 show(nx:Int)≤r∧_
 omega
theorem Ue{seed:Int}{m:List UInt8}{d i:Nat}{nx:Int}{o:List UInt8}(h:JE (mK (JH seed i) (1-uF i)) ((0:Nat):Int) o=false):jP (gD seed m d false i nx) o=false:=by
 have:pS (wU (gD seed m d false i nx)) (((gD seed m d false i nx).inbox.length:Nat):Int) o=false:=IT h
 unfold jP
 rw[this];rfl
theorem adV{seed:Int}{m:List UInt8}{d i:Nat}{nx:Int}{o:List UInt8}(h:JE (mK (JH seed i) (1-uF i)) (((k8 m d (i^^^1)).length:Nat):Int) o=false):jP (gD seed m d true i nx) o=false:=by
 have:pS (wU (gD seed m d true i nx)) (((gD seed m d true i nx).inbox.length:Nat):Int) o=false:=IT h
 unfold jP
 rw[this];rfl
theorem PL{c:gQ}{r:Int}{own o:List UInt8}(h1:G.pT c r=true)(h2:lu c own=false)(h3:jP c o=false):gR c r own o=⟨c.id,c.gE,c.key,c.seed,c.bu,c.sent,c.inbox,r+1⟩:=by
 unfold gR
 rw[if_pos h1,h2,h3];rfl
theorem aaq{c:gQ}{r:Int}{own o:List UInt8}{s:Int}{l:List (List UInt8)}(h1:G.pT c r=true)(h2:(if lu c own=true then c.sent+1 else c.sent)=s)(h3:(if jP c o=true then c.inbox++ [(O5 (wU c) ((c.inbox.length:Nat):Int) o).body]else c.inbox)=l):gR c r own o=⟨c.id,c.gE,c.key,c.seed,c.bu,s,l,r+1⟩:=by
 unfold gR
 rw[if_pos h1,h2,h3]
theorem At.stay(h:At rows seed m n d y r false nx)(hq:Reads y z)(hr:r<99999)(hm:(qR rows seed m n d (r:Int) (Dh rows seed (r:Int) d)==Ap seed m d)=false)(ho: ∀i,i<n→RS rows seed m n d (r:Int) 0 i=false): ∀i,i<n→jV z (i:Int)=gD seed m d false i ((r+1:Nat):Int):=by
 intro i hi
 have hh:lu (gD seed m d false i (nx:Int)) (qR rows seed m n (dW n d false) (r:Int) (Dh rows seed (r:Int) i))=false:=by
  by_cases e:i=d
  ·subst e
   unfold lu
   have:(qR rows seed m n (dW n i false) (r:Int) (Dh rows seed (r:Int) i)==sP (gD seed m i false i (nx:Int)) (gD seed m i false i (nx:Int)).sent)=false:=by
    rw[MY];exact hm
   rw[this,qa]
  ·have:decide ((gD seed m d false i (nx:Int)).sent<(((gD seed m d false i (nx:Int)).bu.length:Nat):Int))=false:=by
    rw[decide_eq_false_iff_not]
    show¬(0:Int)<((k8 m d i).length:Int)
    rw[zi e];exact(by decide: ¬(0:Int)<0)
   unfold lu
   rw[this,AF]
 rw[h.next hq i hi,PL (h.pT hr hi) hh (Ue (o:=qR rows seed m n (dW n d false) (r:Int) (Jm rows seed (r:Int) i)) (ho i hi))]
 rfl
theorem At.idle(h:At rows seed m n d y r true nx)(hq:Reads y z)(hr:r<99999)(ho: ∀i,i<n→RS rows seed m n n (r:Int) (k8 m d (i^^^1)).length i=false): ∀i,i<n→jV z (i:Int)=gD seed m d true i ((r+1:Nat):Int):=by
 intro i hi
 have hh:lu (gD seed m d true i (nx:Int)) (qR rows seed m n (dW n d true) (r:Int) (Dh rows seed (r:Int) i))=false:=by
  unfold lu
  have:decide ((gD seed m d true i (nx:Int)).sent<(((gD seed m d true i (nx:Int)).bu.length:Nat):Int))=false:=by
   rw[decide_eq_false_iff_not]
   show¬((k8 m d i).length:Int)<((k8 m d i).length:Int)
   omega
  rw[this,AF]
 rw[h.next hq i hi,PL (h.pT hr hi) hh (adV (o:=qR rows seed m n (dW n d true) (r:Int) (Jm rows seed (r:Int) i)) (ho i hi))]
 rfl
theorem PM{d:Nat}(h:d<8):JH seed (d^^^1)=JH seed d:=by unfold JH;rw[K7]
theorem PN{d:Nat}(h:d<8):1-uF (d^^^1)=uF d:=by
 have:d=0∨d=1∨d=2∨d=3∨d=4∨d=5∨d=6∨d=7:=by omega
 rcases this with rfl|rfl|rfl|rfl|rfl|rfl|rfl|rfl<;>decide
theorem V4(k:Int)(l:List UInt8):decr k (lM k l)=l:=by
 apply kS
 ·rw[qx,gI]
 ·intro i h1 h2
  have hi:i<(lM k l).length:=by rw[gI];exact h2
  have e:=H9 k (lM k l) i hi
  rw[Cj k l i h2]at e
  rw[an,au h1,an,au h2]at e
  refine Eq.trans e ?_
  refine Eq.trans (yf (b:=((l[i].toNat:Nat):Int)) ?_) (acU _)
  rw[qv]
  show(((l[i].toNat:Int)+kh k [(i:Int)]% 256)% 256-kh k [(i:Int)]% 256)% 256=(l[i].toNat:Int)% 256
  omega
theorem adX{key c:Int}{b:List UInt8}(hb:b.length≤14):(gj key c ⟨1,b⟩).length=20:=by
 unfold gj
 simp only[aY,b9,fF,bW,gN]
 omega
theorem V5{key:Int}{b:List UInt8}(hk:iT key=true)(hb:b.length≤14):pS key 0 (kr key 0 ⟨1,b⟩)=true∧(O5 key 0 (kr key 0 ⟨1,b⟩))=⟨1,b⟩:=by
 have hs:jx key 0 ⟨1,b⟩=true:=by
  simp only[jx,hk,jY,c9,ak,dD,decide_eq_true_eq]
  omega
 have hl:=adX (key:=key) (c:=0) hb
 have e:kr key 0 ⟨1,b⟩=lM (nJ key 0) (gj key 0 ⟨1,b⟩)++four (lN key 0 (lM (nJ key 0) (gj key 0 ⟨1,b⟩))):=by rw[kr,if_pos hs]
 have hel:=gI (nJ key 0) (gj key 0 ⟨1,b⟩)
 have ht:(kr key 0 ⟨1,b⟩).take 20=lM (nJ key 0) (gj key 0 ⟨1,b⟩):=by rw[e,sq (by omega)]
 have hd:(kr key 0 ⟨1,b⟩).drop 20=four (lN key 0 (lM (nJ key 0) (gj key 0 ⟨1,b⟩))):=by rw[e,List.drop_left' (by omega)]
 have hA:JE key 0 (kr key 0 ⟨1,b⟩)=true:=by
  unfold JE
  rw[hk,ht,hd,tX hs,beq_self_eq_true];rfl
 have hp:JD key 0 (kr key 0 ⟨1,b⟩)=gj key 0 ⟨1,b⟩:=by unfold JD;rw[ht,V4]
 have h1:WH key 0 (kr key 0 ⟨1,b⟩)=1:=by unfold WH;rw[hp];rfl
 have h2:GA key 0 (kr key 0 ⟨1,b⟩)=b.length:=by
  unfold GA;rw[hp]
  show(b8 (b.length:Int)).toNat=_
  have:=qv (b.length:Int)
  omega
 have h3:opb key 0 (kr key 0 ⟨1,b⟩)=b:=by
  unfold opb;rw[hp,h2]
  unfold gj
  show((b8 1::b8 (b.length:Int)::(b++_)).take (2+b.length)).drop 2=b
  rw[yM,kB,kB,jj,jj,eS,sq rfl]
 have ho:pS key 0 (kr key 0 ⟨1,b⟩)=true:=ae9 hA (by rw[h2];exact hb) (by rw[h1];decide)
 exact⟨ho,by rw[CE ho,h1,h3]⟩
theorem RT{rows seed:Int}{m:List UInt8}{n d:Nat}{r:Int}{j:Nat}(hd:d<n)(hj:(wH rows seed d r d).toNat=j)(hl:(Ap seed m d).length=24)(ha: ∀i,i<n→i≠d→(wH rows seed d r i).toNat≠j):qR rows seed m n d r j=Ap seed m d:=by
 have key: ∀k,k≤n→(bD k).foldl (fun a c=>if(wH rows seed d r c).toNat=j then fG a (Gg seed m d r c)else a) Nf=if d<k then Ap seed m d else Nf:=by
  intro k
  induction k with
  |zero=>intro _;rfl
  |succ k ih=>
   intro hk
   rw[eN,ep,ih (by omega)]
   show(if(wH rows seed d r k).toNat=j then fG _ (Gg seed m d r k)else _)=_
   by_cases e:k=d
   ·subst e
    rw[if_pos hj,if_neg (Nat.lt_irrefl _),if_pos (Nat.lt_succ_self _)]
    unfold Gg
    rw[if_pos rfl]
    refine ahK (by rw[eI,ox,hl];rfl) fun i=> ?_
    rw[tv,GJ,eg]
   ·rw[if_neg (ha k (by omega) e)]
    by_cases h2:d<k
    ·rw[if_pos h2,if_pos (by omega)]
    ·rw[if_neg h2,if_neg (by omega)]
 have:=key n (aZ _)
 rw[if_pos hd]at this
 exact this
def aas(rows seed:Int)(n d:Nat)(r:Int):Prop:= ∀i,i<n→i≠d→wH rows seed d r i≠wH rows seed d r d
theorem Jn{rows seed:Int}{d i:Nat}{r:Int}(hr:1≤rows∧rows≤64)(h:0≤r∧r≤100000):0≤wH rows seed d r i:=by
 unfold wH
 split
 ·exact(Bb (by omega)).1
 ·exact(IE hr).1
theorem At.amM(h:At rows seed m n d y r false nx)(hq:Reads y z)(hr:r<99999)(hd:d<n)(hm:m.length≤14)(ha:aas rows seed n d (r:Int))(ho: ∀i,i<n→i≠d^^^1→RS rows seed m n d (r:Int) 0 i=false): ∀i,i<n→jV z (i:Int)=gD seed m d true i ((r+1:Nat):Int):=by
 have w:=Dv.of h.ok
 have hn8:n≤8:=by have:=w.ndv;have:=h.nd;omega
 have hrw:1≤rows∧rows≤64:=by have:=w.rows;rw[h.rows]at this;exact this
 have hdk:=CA (JH seed d) (uF d)
 have hso:jx (mK (JH seed d) (uF d)) 0 ⟨1,m⟩=true:=by
  simp only[jx,hdk,jY,c9,ak,dD,decide_eq_true_eq]
  omega
 have hl:(Ap seed m d).length=24:=tX hso
 have hwd:wH rows seed d (r:Int) d=iQ (JH seed d) (r:Int) (uF d) rows:=by unfold wH;rw[if_pos rfl]
 have hrow:qR rows seed m n d (r:Int) (Dh rows seed (r:Int) d)=Ap seed m d:=by
  refine RT hd (by rw[hwd];rfl) hl fun i hi e he=> ?_
  have h1:=Jn (seed:=seed) (d:=d) (i:=i) (r:=(r:Int)) hrw (by omega)
  have h2:=Jn (seed:=seed) (d:=d) (i:=d) (r:=(r:Int)) hrw (by omega)
  have h3:Dh rows seed (r:Int) d=(wH rows seed d (r:Int) d).toNat:=by rw[hwd];rfl
  exact ha i hi e (by omega)
 have hx8: ∀i:Nat,(i^^^1)^^^1=i:=fun i=>by rw[Dd,FH,FI]
 have amN:Jm rows seed (r:Int) (d^^^1)=Dh rows seed (r:Int) d:=by
  unfold Jm Dh
  rw[PM (by omega),PN (by omega)]
 intro i hi
 have e1:(if lu (gD seed m d false i (nx:Int)) (qR rows seed m n (dW n d false) (r:Int) (Dh rows seed (r:Int) i))=true then(gD seed m d false i (nx:Int)).sent+1 else(gD seed m d false i (nx:Int)).sent)=((k8 m d i).length:Int):=by
  by_cases e:i=d
  ·subst e
   have:lu (gD seed m i false i (nx:Int)) (qR rows seed m n (dW n i false) (r:Int) (Dh rows seed (r:Int) i))=true:=by
    rw[adU,hrow]
    unfold lu
    rw[MY,beq_self_eq_true,rC,decide_eq_true_eq]
    show(0:Int)<((k8 m i i).length:Int)
    rw[zh];exact(by decide:(0:Int)<1)
   rw[if_pos this,zh];rfl
  ·have:lu (gD seed m d false i (nx:Int)) (qR rows seed m n (dW n d false) (r:Int) (Dh rows seed (r:Int) i))=false:=by
    have:decide ((gD seed m d false i (nx:Int)).sent<(((gD seed m d false i (nx:Int)).bu.length:Nat):Int))=false:=by
     rw[decide_eq_false_iff_not]
     show¬(0:Int)<((k8 m d i).length:Int)
     rw[zi e];exact(by decide: ¬(0:Int)<0)
    unfold lu
    rw[this,AF]
   rw[this,zi e];rfl
 have e2:(if jP (gD seed m d false i (nx:Int)) (qR rows seed m n (dW n d false) (r:Int) (Jm rows seed (r:Int) i))=true then(gD seed m d false i (nx:Int)).inbox++ [(O5 (wU (gD seed m d false i (nx:Int))) (((gD seed m d false i (nx:Int)).inbox.length:Nat):Int) (qR rows seed m n (dW n d false) (r:Int) (Jm rows seed (r:Int) i))).body]else(gD seed m d false i (nx:Int)).inbox)=k8 m d (i^^^1):=by
  by_cases e:i=d^^^1
  ·subst e
   obtain⟨o1,o2⟩:=V5 (b:=m) hdk hm
   have hck:wU (gD seed m d false (d^^^1) (nx:Int))=mK (JH seed d) (uF d):=by
    show mK (JH seed (d^^^1)) (1-uF (d^^^1))=_
    rw[PM (by omega),PN (by omega)]
   rw[adU,amN,hrow]
   have hg:jP (gD seed m d false (d^^^1) (nx:Int)) (Ap seed m d)=true:=by
    unfold jP
    rw[hck]
    show((pS (mK (JH seed d) (uF d)) 0 (Ap seed m d)&&((O5 (mK (JH seed d) (uF d)) 0 (Ap seed m d)).kind==1))&&_)=true
    unfold Ap
    rw[o1,o2];rfl
   rw[if_pos hg,hck]
   show []++ [(O5 (mK (JH seed d) (uF d)) 0 (Ap seed m d)).body]=_
   unfold Ap
   rw[o2,hx8 d,zh];rfl
  ·rw[Ue (o:=qR rows seed m n (dW n d false) (r:Int) (Jm rows seed (r:Int) i)) (ho i hi e),zi (fun e2=>e (by rw[←e2,hx8 i]))];rfl
 rw[h.next hq i hi,aaq (h.pT hr hi) e1 e2]
 rfl
theorem quiet_of(hn:y.af.length=n)(h: ∀i:Nat,i<n→jV y (i:Int)=gD seed m d true i (nx:Int)):Bt y.af n=0∧Nk y.af n=0∧zc y=true:=by
 have hs: ∀i,(k8 m d i).length≤1:=fun i=>by unfold k8;split<;>simp
 have k1: ∀k,k≤n→Bt y.af k=0:=by
  intro k
  induction k with
  |zero=>intro _;rfl
  |succ k ih=>
   intro hk
   show aq.wrap (Bt y.af k+waiting (jV y (k:Int)))=_
   rw[ih (by omega),h k (by omega)]
   unfold waiting
   show aq.wrap (0+aq.wrap (((k8 m d k).length:Int)-((k8 m d k).length:Int)))=0
   rw[Int.sub_self];decide
 have k2: ∀k,k≤n→Nk y.af k=0:=by
  intro k
  induction k with
  |zero=>intro _;rfl
  |succ k ih=>
   intro hk
   by_cases hx:(k^^^1)<y.af.length
   ·rw[MP hx,ih (by omega)]
    have q1:(y.af.getD k (aP .cz)).live=gD seed m d true k (nx:Int):=h k (by omega)
    have q2:(y.af.getD (k^^^1) (aP .cz)).live=gD seed m d true (k^^^1) (nx:Int):=h (k^^^1) (by omega)
    rw[q1,q2]
    show aq.wrap (aq.wrap (0+((k8 m d k).length:Int))-((k8 m d ((k^^^1)^^^1)).length:Int))=0
    rw[Dd,FH,FI]
    have:=hs k
    rw[cV (a:=0+((k8 m d k).length:Int)) (by omega),show 0+((k8 m d k).length:Int)-((k8 m d k).length:Int)=0 by omega];decide
   ·rw[Pu hx,ih (by omega)]
 have a1:=k1 n (aZ _)
 have a2:=k2 n (aZ _)
 refine⟨a1,a2,?_⟩
 unfold zc
 rw[hn,a1,a2];rfl
structure WK(rows seed:Int)(m:List UInt8)(n d:Nat)(y:ck)(r:Nat)(st:Bool)(nx:Nat):Prop extends At rows seed m n d y r st nx where
 hon:hon y
 qF:y.cancelled<1000000
theorem WK.rnd(h:WK rows seed m n d y r st nx)(hr:r<99999):Reads y (dc y)∧afo y (dc y)∧G.hon (dc y):=by
 have q:=V3 h.ok h.hon (by rw[h.toAt.round];omega) (by have:=h.qF;omega) (fun i hi=>by
  rw[h.lv i (by rw[←h.nd];exact hi),h.toAt.round]
  have:=h.le
  exact⟨h.K3,by show(nx:Int)≤r;omega⟩)
 refine⟨q.2,q.1,fun i hi=> ?_⟩
 rw[q.1.ns]at hi
 rw[q.1.sv i hi]
 exact h.hon i hi
theorem WK.mk'(h:WK rows seed m n d y r st nx)(hr:r<99999){st':Bool}(hl: ∀i,i<n→jV (dc y) (i:Int)=gD seed m d st' i ((r+1:Nat):Int)):WK rows seed m n d (dc y) (r+1) st' (r+1):=by
 obtain⟨_,k,hh⟩:=h.rnd hr
 refine⟨⟨k.ok,by rw[k.rows,h.rows],by rw[k.nd,h.nd],by rw[k.round,h.toAt.round];omega,by rw[k.K3,h.toAt.round];omega,aZ _,hl⟩,hh,by rw[k.qF];exact h.qF⟩
end
end
section
class HF where
 f:Nat→Nat→Nat
 g:Nat→Nat
 hf: ∀h v:Nat,hs1 (h:Int) (v:Int)=((f h v:Nat):Int)
 hg: ∀h:Nat,((h:Int)*h+5)% 2147483647=((g h:Nat):Int)
 lt: ∀h v:Nat,f h v<2147483647
section
variable [HF]
def PO(h v:Nat):Nat:=HF.f h v
def sqN(h:Nat):Nat:=HF.g h
theorem aat(h v:Nat):hs1 (h:Int) (v:Int)=((PO h v:Nat):Int):=HF.hf h v
theorem amO(h:Nat):((h:Int)*h+5)% 2147483647=((sqN h:Nat):Int):=HF.hg h
def qG:List Nat→Nat→Nat
 | [],h=>h
 |v::l,h=>qG l (PO h v)
def Bw(k:Nat)(l:List Nat):Nat:=PO (qG l (PO 11 k)) k
def csN(s k:Nat):Nat:=sqN (Bw s [47,k])
def aav(n:Nat):Nat:=cond (aU n 0) 1 n
def kN(seed i:Nat):Nat:=aav (Bw seed [199,wI i 2])
def sN(seed i:Nat):Nat:=Bw seed [211,i]
def zj(i:Nat):Nat:=cond (mO (GL i) (rK i 1)) 0 1
def dkN(key dir:Nat):Nat:=aav (Bw key [83,dir])
def RU(key r dir rows:Nat):Nat:=oN (csN (Bw key [79,r,dir]) 0) rows
def akm(s r rows:Nat):Nat:=oN (csN (Bw s [157,r]) 0) rows
def RW(s:Nat):Nat→Nat→List Nat
 |0,_=> []
 |k+1,i=>oN (wI (csN s (iR 100 i)) 256) 256::RW s k (GL i)
def ahP(s:Nat):List Nat:=RW (Bw s [73]) 24 0
def PR(s:Nat):List Nat→Nat→List Nat
 | [],_=> []
 |b::l,i=>oN (iR b (oN (Bw s [i]) 256)) 256::PR s l (GL i)
def aaw(n:Nat):List Nat:= [oN n 256,oN (wI n 256) 256,oN (wI n 65536) 256,oN (wI n 16777216) 256]
def ckN(key:Nat):Nat:=aav (Bw key [67,0])
def akn(key:Nat)(l:List Nat):Nat:=PO (qG l (qG [71,0] (PO 11 key))) key
def ahQ(key:Nat)(m:List Nat):List Nat:=(1::m.length::m)++(RW (Bw key [61,0]) 18 0).drop m.length
def ako(key:Nat)(e:List Nat):List Nat:=e++aaw (akn key e)
def akp(key:Nat)(m:List Nat):List Nat:=ako key (PR (ckN key) (ahQ key m) 0)
def aax(seed:Nat)(m:List Nat)(d:Nat):List Nat:=akp (dkN (kN seed d) (zj d)) m
def V6(rows seed d r i:Nat):Nat:=cond (aU i d) (RU (kN seed i) r (zj i) rows) (akm (sN seed i) r rows)
def wcN(seed:Nat)(m:List Nat)(d r i:Nat):List Nat:=cond (aU i d) (aax seed m d) (ahP (Bw (sN seed i) [r]))
def xoN:List Nat→List Nat→List Nat
 |a::l,b::k=>rK a b::xoN l k
 |_,_=> []
def amQ:List Nat:= [0,0,0,0,0,0,0,0,0,0,0,0,0,0,0,0,0,0,0,0,0,0,0,0]
def Jo(rows seed:Nat)(m:List Nat)(d r j:Nat):Nat→List Nat
 |0=>amQ
 |k+1=>cond (aU (V6 rows seed d r k) j) (xoN (Jo rows seed m d r j k) (wcN seed m d r k)) (Jo rows seed m d r j k)
def adY:List Nat→Nat
 | [a,b,c,d]=>iR a (iR (Dj 256 b) (iR (Dj 65536 c) (Dj 16777216 d)))
 |_=>0
def goN(key:Nat):Nat→List Nat→Nat→Bool
 |0,l,h=>aU (adY l) (PO h key)
 |_+1,[],_=>true
 |n+1,b::l,h=>goN key n l (PO h b)
def ahR(key c:Nat)(cell:List Nat):Bool:=goN key 20 cell (qG [71,c] (PO 11 key))
def eqN:List Nat→List Nat→Bool
 | [],[]=>true
 |a::l,b::k=>and (aU a b) (eqN l k)
 |_,_=>false
def rL(f:Nat→Bool):Nat→Bool
 |0=>true
 |k+1=>and (f k) (rL f k)
theorem qH{f:Nat→Bool}: ∀{n:Nat},rL f n=true→ ∀i,i<n→f i=true
 |0,_,i,hi=>absurd hi (lU i)
 |n+1,h,i,hi=>by
  rw[rL,ak]at h
  by_cases e:i=n
  ·rw[e];exact h.1
  ·exact qH h.2 i (by omega)
def zk(rows seed n d r:Nat):Bool:=rL (fun i=>or (aU i d) (not (aU (V6 rows seed d r i) (V6 rows seed d r d)))) n
def V7(rows seed r i:Nat):Nat:=RU (kN seed i) r (MZ 1 (zj i)) rows
def J6(rows seed:Nat)(m:List Nat)(n d r c i:Nat):Bool:=not (ahR (dkN (kN seed i) (MZ 1 (zj i))) c (Jo rows seed m d r (V7 rows seed r i) n))
def iA(l:List UInt8):List Nat:=l.map RX
def ints(l:List Nat):List Int:=l.map fun(n:Nat)=>(n:Int)
theorem V8(v:Nat)(l:List Nat):ints (v::l)=(v:Int)::ints l:=rfl
theorem aay: ∀(l:List Nat) (h:Nat),(ints l).foldl hs1 (h:Int)=((qG l h:Nat):Int)
 | [],h=>rfl
 |v::l,h=>by rw[V8,cK,aat,aay l,qG]
theorem Dk(k:Nat)(l:List Nat):kh (k:Int) (ints l)=((Bw k l:Nat):Int):=by
 have h11:(11:Int)=((11:Nat):Int):=rfl
 unfold kh hsh Bw
 rw[cK,ep,h11,aat,aay,cK,J4,aat]
theorem adZ(s k:Nat):cs (s:Int) (k:Int)=((csN s k:Nat):Int):=by
 unfold cs csN
 rw[show kh (s:Int) [47,(k:Int)]=((Bw s [47,k]:Nat):Int)from Dk s [47,k],amO]
theorem aaz(n:Nat):Fl (n:Int)=((aav n:Nat):Int):=by
 unfold Fl aav
 by_cases h:n=0
 ·subst h;rfl
 ·rw[if_neg (by omega),show aU n 0=false from gP.2 fun q=>h (ay q)];rfl
theorem PS(seed i:Nat):JH (seed:Int) i=((kN seed i:Nat):Int):=by
 unfold JH
 rw[show kh (seed:Int) [199,(i:Int).tdiv 2]=((Bw seed [199,wI i 2]:Nat):Int)from Dk seed [199,wI i 2],aaz];rfl
theorem afq(seed i:Nat):sOf (seed:Int) i=((sN seed i:Nat):Int):=Dk seed [211,i]
theorem Uf(i:Nat):uF i=((zj i:Nat):Int):=by
 unfold uF zj
 show _=((cond (mO (i+1) (i^^^1)) 0 1:Nat):Int)
 by_cases h:i<i^^^1
 ·rw[if_pos (by omega),Nat.ble_eq_true_of_le h];rfl
 ·rw[if_neg (by omega)]
  cases hb:mO (i+1) (i^^^1)with
  |true=>exact absurd (Nat.le_of_ble_eq_true hb) h
  |false=>rfl
theorem ahS(i:Nat):zj i≤1:=by unfold zj;cases mO (GL i) (rK i 1)<;>decide
theorem aaA(i:Nat):1-uF i=((MZ 1 (zj i):Nat):Int):=by
 rw[Uf]
 have:=ahS i
 show _=((1-zj i:Nat):Int)
 omega
theorem ad0(k d:Nat):mK (k:Int) (d:Int)=((dkN k d:Nat):Int):=by
 unfold mK
 rw[show kh (k:Int) [83,(d:Int)]=((Bw k [83,d]:Nat):Int)from Dk k [83,d],aaz];rfl
theorem aaB{key r dir rows:Nat}(h:1≤rows∧rows≤64)(hr:r≤100000):iQ (key:Int) (r:Int) (dir:Int) (rows:Int)=((RU key r dir rows:Nat):Int):=by
 unfold iQ
 rw[if_pos (by omega),show kh (key:Int) [79,(r:Int),(dir:Int)]=((Bw key [79,r,dir]:Nat):Int)from Dk key [79,r,dir],show(0:Int)=((0:Nat):Int)from rfl,adZ]
 exact(w8 _ _).symm
theorem akr{s r rows:Nat}(h:1≤rows∧rows≤64):A3 (s:Int) (r:Int) (rows:Int)=((akm s r rows:Nat):Int):=by
 unfold A3
 rw[if_pos (by omega),show kh (s:Int) [157,(r:Int)]=((Bw s [157,r]:Nat):Int)from Dk s [157,r],show(0:Int)=((0:Nat):Int)from rfl,adZ]
 exact(w8 _ _).symm
theorem aaC(n:Nat):(b8 (n:Int)).toNat=n % 256:=by
 have:=qv (n:Int)
 omega
theorem afr(s:Nat): ∀k i,RW s k i=(List.range' i k).map fun j=>csN s (100+j)/256 % 256
 |0,_=>rfl
 |k+1,i=>by rw[RW,List.range'_succ,cA,afr s k];rfl
theorem aks(s i:Nat):(b8 (cs (s:Int) (100+(i:Int))/256)).toNat=csN s (100+i)/256 % 256:=by
 rw[show(100+(i:Int))=((100+i:Nat):Int)by omega,adZ]
 generalize csN s (100+i)=c
 rw[show(c:Int)/256=((c/256:Nat):Int)by omega,aaC]
theorem PT(s n:Nat):iA (stream (s:Int) n)=RW s n 0:=by
 rw[afr, ←List.range_eq_range']
 unfold iA stream
 rw[lD]
 simp only[Function.comp_def,aks]
theorem akt(s:Nat):iA (cover (s:Int))=ahP s:=by
 unfold cover ahP
 rw[show kh (s:Int) [73]=((Bw s [73]:Nat):Int)from Dk s [73]]
 exact PT _ 24
theorem PU(s:Nat): ∀(l:List Nat) (i:Nat),(PR s l i).length=l.length
 | [],_=>rfl
 |b::l,i=>by rw[PR,b9,PU s l,b9]
theorem PV(s:Nat): ∀(l:List Nat) (i j:Nat) (h:j<(PR s l i).length) (h2:j<l.length),(PR s l i)[j]=(l[j]+Bw s [i+j]% 256)% 256
 | [],_,_,_,h2=>absurd h2 (lU _)
 |b::l,i,0,_,_=>rfl
 |b::l,i,j+1,h,h2=>by
  show(PR s l (i+1))[j]'_=_
  rw[PV s l (i+1) j _ (by simpa using h2)]
  rw[show i+1+j=i+(j+1)by omega];rfl
theorem PW{l:List UInt8}{i:Nat}(h:i<(iA l).length)(h2:i<l.length):(iA l)[i]=l[i].toNat:=w7 RX
theorem afs(s:Nat)(l:List UInt8):iA (lM (s:Int) l)=PR s (iA l) 0:=by
 apply kS
 ·rw[PU];unfold iA;rw[bg,bg,gI]
 ·intro i h1 h2
  have hi:i<l.length:=by
   have:(iA (lM (s:Int) l)).length=l.length:=by unfold iA;rw[bg,gI]
   omega
  rw[PV s _ _ _ h2 (by unfold iA;rw[bg];exact hi)]
  rw[PW h1 (by rw[gI];exact hi),PW _ hi]
  have e:=Cj (s:Int) l i hi
  rw[an,au (by rw[gI];exact hi),an,au hi]at e
  have e':(lM (s:Int) l)[i]'(by rw[gI];exact hi)=b8 ((l[i].toNat:Int)+kh (s:Int) [(i:Int)]% 256):=e
  rw[e',show kh (s:Int) [(i:Int)]=((Bw s [i]:Nat):Int)from Dk s [i],show((l[i].toNat:Nat):Int)+((Bw s [i]:Nat):Int)% 256=((l[i].toNat+Bw s [i]% 256:Nat):Int)by omega,aaC,dZ]
theorem ahU(n:Nat):iA (four (n:Int))=aaw n:=by
 unfold four iA aaw
 rw[show(n:Int)/256=((n/256:Nat):Int)by omega,show(n:Int)/65536=((n/65536:Nat):Int)by omega,show(n:Int)/16777216=((n/16777216:Nat):Int)by omega]
 simp only[cA,List.map_nil,aaC];rfl
theorem Lc: ∀(a b:List Nat) (h:Nat),qG (a++b) h=qG b (qG a h)
 | [],_,_=>rfl
 |v::a,b,h=>Lc a b (PO h v)
theorem aft(key c:Nat)(l:List UInt8):lN (key:Int) (c:Int) l=((PO (qG (iA l) (qG [71,c] (PO 11 key))) key:Nat):Int):=by
 unfold lN
 have e: [71,(c:Int)]++l.map (fun c=>(c.toNat:Int))=ints ([71,c]++iA l):=by
  unfold ints iA
  rw[eu,lD];rfl
 rw[e,Dk]
 unfold Bw
 rw[Lc]
theorem amR(key:Nat)(l:List UInt8):lN (key:Int) 0 l=((akn key (iA l):Nat):Int):=aft key 0 l
theorem Jp(a b:List UInt8):iA (a++b)=iA a++iA b:=eu ..
theorem PX(l:List UInt8):(iA l).length=l.length:=bg ..
theorem afu(key:Nat){m:List UInt8}(hm:m.length≤14):iA (gj (key:Int) 0 ⟨1,m⟩)=ahQ key (iA m):=by
 unfold gj ahQ
 rw[show kh (key:Int) [61,0]=((Bw key [61,0]:Nat):Int)from Dk key [61,0]]
 rw[Jp,Jp,PX]
 have e:iA ((stream ((Bw key [61,0]:Nat):Int) 18).drop m.length)=(RW (Bw key [61,0]) 18 0).drop m.length:=by
  rw[←PT];unfold iA;rw[M0]
 show iA [b8 1,b8 (m.length:Int)]++iA m++iA ((stream ((Bw key [61,0]:Nat):Int) 18).drop m.length)=_
 rw[e]
 have h1:(b8 1).toNat=1:=by decide
 have h2:(b8 (m.length:Int)).toNat=m.length:=by rw[aaC];omega
 show([(b8 1).toNat,(b8 (m.length:Int)).toNat]++iA m)++_=_
 rw[h1,h2];rfl
theorem afv(seed d:Nat){m:List UInt8}(hm:m.length≤14):iA (Ap (seed:Int) m d)=aax seed (iA m) d:=by
 unfold Ap aax akp ako
 rw[PS,Uf,ad0]
 generalize hk:dkN (kN seed d) (zj d)=k
 have hok:iT (k:Int)=true:=by
  have:=CA ((kN seed d:Nat):Int) ((zj d:Nat):Int)
  rw[ad0,hk]at this
  exact this
 have hs:jx (k:Int) 0 ⟨1,m⟩=true:=by
  simp only[jx,hok,jY,c9,ak,dD,decide_eq_true_eq]
  omega
 have hc:nJ (k:Int) 0=((ckN k:Nat):Int):=by
  unfold nJ ckN
  rw[show kh (k:Int) [67,0]=((Bw k [67,0]:Nat):Int)from Dk k [67,0],aaz]
 rw[kr,if_pos hs,Jp,hc,afs,afu k hm,amR,ahU,afs,afu k hm]
section
variable{rows seed n d r:Nat}{m:List UInt8}
theorem aaD(h:1≤rows∧rows≤64)(hr:r≤100000)(i:Nat):wH (rows:Int) (seed:Int) d (r:Int) i=((V6 rows seed d r i:Nat):Int):=by
 unfold wH V6
 by_cases e:i=d
 ·rw[if_pos e,PS,Uf,aaB h hr,show aU i d=true by rw[e];exact gZ d];rfl
 ·rw[if_neg e,afq,akr h,show aU i d=false from gP.2 fun q=>e (ay q)];rfl
theorem amS(hm:m.length≤14)(i:Nat):iA (Gg (seed:Int) m d (r:Int) i)=wcN seed (iA m) d r i:=by
 unfold Gg wcN
 by_cases e:i=d
 ·rw[if_pos e,afv seed d hm,show aU i d=true by rw[e];exact gZ d];rfl
 ·rw[if_neg e,afq,show kh ((sN seed i:Nat):Int) [(r:Int)]=((Bw (sN seed i) [r]:Nat):Int)from Dk (sN seed i) [r],akt,show aU i d=false from gP.2 fun q=>e (ay q)];rfl
theorem aaE(hm:m.length≤14)(i:Nat):(Gg (seed:Int) m d (r:Int) i).length=24:=by
 unfold Gg
 split
 ·refine tX ?_
  simp only[jx,CA,jY,c9,ak,dD,decide_eq_true_eq]
  omega
 ·exact gN _ _
theorem afw: ∀{a b:List UInt8},a.length=b.length→iA (fG a b)=xoN (iA a) (iA b)
 | [],[],_=>rfl
 | [],_::_,h=>by cases h
 |_::_,[],h=>by cases h
 |x::a,y::b,h=>by
  show(x^^^y).toNat::iA (fG a b)=rK x.toNat y.toNat::xoN (iA a) (iA b)
  rw[afw (Nat.succ.inj h),HZ];rfl
theorem aaF(h:1≤rows∧rows≤64)(hr:r≤100000)(hm:m.length≤14)(j:Nat): ∀n,(qR (rows:Int) (seed:Int) m n d (r:Int) j).length=24∧iA (qR (rows:Int) (seed:Int) m n d (r:Int) j)=Jo rows seed (iA m) d r j n
 |0=>⟨ox,rfl⟩
 |n+1=>by
  obtain⟨q1,q2⟩:=aaF h hr hm j n
  have hw:=aaD (seed:=seed) (d:=d) h hr n
  have e:qR (rows:Int) (seed:Int) m (n+1) d (r:Int) j=if(wH (rows:Int) (seed:Int) d (r:Int) n).toNat=j then fG (qR (rows:Int) (seed:Int) m n d (r:Int) j) (Gg (seed:Int) m d (r:Int) n)else qR (rows:Int) (seed:Int) m n d (r:Int) j:=by
   unfold qR
   rw[eN,ep];rfl
  have hl:=aaE (seed:=seed) (d:=d) (r:=r) hm n
  rw[e,Jo]
  by_cases hj:(wH (rows:Int) (seed:Int) d (r:Int) n).toNat=j
  ·rw[if_pos hj,show aU (V6 rows seed d r n) j=true by rw[←hj,hw];exact gZ _]
   refine⟨by rw[eI];omega,?_⟩
   rw[afw (by omega),q2,amS hm];rfl
  ·rw[if_neg hj,show aU (V6 rows seed d r n) j=false from gP.2 fun q=>hj (by rw[hw];exact ay q)]
   exact⟨q1,q2⟩
theorem aaG(key:Nat): ∀(k:Nat) (l:List Nat) (h:Nat),k≤l.length→goN key k l h=aU (adY (l.drop k)) (PO (qG (l.take k) h) key)
 |0,l,h,_=>by rw[goN,eS,mH];rfl
 |k+1,[],h,hk=>absurd hk (by simp)
 |k+1,b::l,h,hk=>by
  rw[goN,aaG key k l _ (by simpa using hk)];rfl
theorem aku{key c:Nat}{cell:List UInt8}(hk:iT (key:Int)=true)(hc:c≤1000)(hl:cell.length=24):JE (key:Int) (c:Int) cell=ahR key c (iA cell):=by
 unfold ahR
 rw[aaG _ _ _ _ (by rw[PX];omega),Tw hk (by rw[dD];omega) hl]
 have h1:lN (key:Int) (c:Int) (cell.take 20)=((PO (qG ((iA cell).take 20) (qG [71,c] (PO 11 key))) key:Nat):Int):=by
  rw[aft]
  unfold iA
  rw[List.map_take]
 have h2:VN cell=((adY ((iA cell).drop 20):Nat):Int):=by
  have:=Zl hl
  have e:(iA cell).drop 20=iA (cell.drop 20):=by unfold iA;rw[M0]
  rw[e,this]
  show VN cell=(((cell.getD 20 (aP .u8)).toNat+(256*(cell.getD 21 (aP .u8)).toNat+(65536*(cell.getD 22 (aP .u8)).toNat+16777216*(cell.getD 23 (aP .u8)).toNat)):Nat):Int)
  unfold VN
  omega
 rw[h1,h2]
 by_cases e:adY ((iA cell).drop 20)=PO (qG ((iA cell).take 20) (qG [71,c] (PO 11 key))) key
 ·rw[e,gZ,decide_eq_true rfl]
 ·rw[show aU _ _=false from gP.2 fun q=>e (ay q),decide_eq_false (by omega)]
theorem afy(h:1≤rows∧rows≤64)(hr:r≤100000)(hm:m.length≤14){c:Nat}(hc:c≤1000)(i:Nat):RS (rows:Int) (seed:Int) m n d (r:Int) c i= !J6 rows seed (iA m) n d r c i:=by
 have hk:=CA ((kN seed i:Nat):Int) ((MZ 1 (zj i):Nat):Int)
 rw[ad0]at hk
 have e:Jm (rows:Int) (seed:Int) (r:Int) i=V7 rows seed r i:=by
  unfold Jm V7
  rw[PS,aaA,aaB h hr];rfl
 obtain⟨q1,q2⟩:=aaF (seed:=seed) (d:=d) h hr hm (V7 rows seed r i) n
 unfold RS J6
 rw[e,PS,aaA,ad0,aku hk hc q1,q2,OB]
theorem Ug: ∀{a b:List Nat},a=b→eqN a b=true
 | [],_,rfl=>rfl
 |x::a,_,rfl=>by rw[eqN,gZ,Ug rfl];rfl
theorem M1{a b:Nat}(h:aU a b=false):a≠b:=fun e=>by rw[e,gZ]at h;cases h
theorem akv(h:1≤rows∧rows≤64)(hr:r≤100000):zk rows seed n d r=true↔aas (rows:Int) (seed:Int) n d (r:Int):=by
 constructor
 ·intro ha i hi e q
  have:=qH ha i hi
  rw[c8]at this
  rcases this with h1|h1
  ·exact e (ay h1)
  ·rw[bq]at h1
   rw[aaD h hr,aaD h hr]at q
   exact M1 h1 (by omega)
 ·intro ha
  have key: ∀k,k≤n→rL (fun i=>or (aU i d) (not (aU (V6 rows seed d r i) (V6 rows seed d r d)))) k=true:=by
   intro k
   induction k with
   |zero=>intro _;rfl
   |succ k ih=>
    intro hk
    rw[rL,ih (by omega),rC]
    by_cases e:k=d
    ·rw[e];simp only[gZ,Bool.true_or]
    ·have:=ha k (by omega) e
     rw[aaD h hr,aaD h hr]at this
     rw[c8,bq]
     exact Or.inr (gP.2 fun q=>this (by rw[ay q]))
  exact key n (aZ _)
end
end
end
section
theorem ahV{seed:Int}{m:List UInt8}{i:Nat}(hi:i<8)(hm:m.length≤14):fP (EE (PB seed i) m)=true:=by
 have h:=RM (seed:=seed) hi
 simp only[fP,ak]at h ⊢
 obtain⟨⟨⟨⟨⟨⟨⟨⟨⟨h1,h2⟩,h3⟩,h4⟩,h5⟩,h6⟩,h7⟩,h8⟩,h9⟩,h10⟩:=h
 refine⟨⟨⟨⟨⟨⟨⟨⟨⟨h1,h2⟩,h3⟩,h4⟩,by simp[EE,PB]⟩,h6⟩,?_⟩,h8⟩,by simp[EE,PB,inr]⟩,h10⟩
 have:long m=false:=by unfold long;rw[decide_eq_false];omega
 simp[EE,PB,this]
section
variable{rows seed:Int}{s p d:Nat}{m:List UInt8}
theorem aaH(hr:1≤rows∧rows≤64)(hs:2≤s∧s≤4)(hp:1≤p∧p≤4)(hd:d<2*p)(hm:m.length≤14):MK (jC rows s p seed) (d:Int) m=true∧WK rows seed m (2*p) d (w6 (jC rows s p seed) (d:Int) m) 0 false 0∧(w6 (jC rows s p seed) (d:Int) m).replaced= []∧(w6 (jC rows s p seed) (d:Int) m).cancelled=0∧(w6 (jC rows s p seed) (d:Int) m).av.length=s∧(w6 (jC rows s p seed) (d:Int) m).seed=seed∧De (w6 (jC rows s p seed) (d:Int) m) 0:=by
 have hw:=T1 (seed:=seed) hr hs hp
 have hD:De (jC rows s p seed) 0:=⟨hw,fE 0,fE 0,aZ 0⟩
 have hl:(jC rows s p seed).af.length=2*p:=MV seed (2*p)
 have hg: ∀i,i<2*p→(jC rows s p seed).af.getD i (aP .cz)=nwD seed i:=fun i hi=>fM _ _ _ _ hi
 have hc:qY (jC rows s p seed) (d:Int)=true:=by
  unfold qY
  rw[hw,c9]
  unfold rF
  rw[dD,hl];omega
 have hv:J1 (jC rows s p seed) (d:Int)=nwD seed d:=hg d hd
 have hod:fX (nwD seed d)=true:=by
  have:=rI hw (i:=d) (by omega)
  simp only[okD,ak]at this
  rw[←hg d hd]
  exact this.1.1.1.1
 have hq:yR (PB seed d) m=true:=by
  unfold yR
  rw[RM (by omega),ahV (by omega) hm];rfl
 have hsb:EF (nwD seed d) m=true:=by
  unfold EF
  rw[hod]
  show((true&&yR (PB seed d) m)&&yR (PB seed d) m)=true
  rw[hq];rfl
 have hsD:EG (nwD seed d) m=⟨EE (PB seed d) m,EE (PB seed d) m⟩:=by
  unfold EG
  rw[if_pos hsb]
  show(⟨oJ (PB seed d) m,oJ (PB seed d) m⟩:cz)=_
  unfold oJ
  rw[if_pos hq]
 have e:w6 (jC rows s p seed) (d:Int) m=ZH (jC rows s p seed) d ⟨EE (PB seed d) m,EE (PB seed d) m⟩:=by
  unfold w6
  rw[if_pos hc,hv,hsD];rfl
 have hD2:De (w6 (jC rows s p seed) (d:Int) m) 0:=hD.sm
 refine⟨by unfold MK;rw[hc,hv,hsb];rfl,?_,by rw[e];rfl,by rw[e];rfl,by rw[e];exact GI rows s,by rw[e];rfl,hD2⟩
 have ho:=hD2.ok
 rw[e]at ho ⊢
 refine⟨⟨ho,rfl,?_,rfl,by show dK ⟨rows,[]⟩<_;rw[Bv rfl];decide,aZ _,fun i hi=> ?_⟩,fun i hi=> ?_,by show(0:Int)<1000000;decide⟩
 ·show((jC rows s p seed).af.set d _).length=_
  rw[bA,hl]
 ·show(((jC rows s p seed).af.set d _).getD i (aP .cz)).live=_
  rw[ko _ _ (by rw[hl];exact hi)]
  unfold gD k8
  by_cases e2:d=i
  ·subst e2
   rw[if_pos rfl,if_pos rfl];rfl
  ·rw[if_neg e2,if_neg (fun q=>e2 q.symm),hg i hi];rfl
 ·have hi':i<s:=by have:i<(Dc rows s).length:=hi;rw[GI]at this;exact this
  show((Dc rows s).getD i (aP .bZ)).behavior=0
  rw[show(Dc rows s).getD i (aP .bZ)=nwS rows i from fM _ _ _ _ hi'];rfl
end
section
variable{rows seed:Int}{m:List UInt8}{n d:Nat}{x:ck}
end
end
section
theorem Jq{α:Type}{f:Nat→List α}{k:Nat}: ∀n,k<n→(∀i,i<n→i≠k→f i= [])→(bD n).flatMap f=f k
 |0,hk,_=>absurd hk (lU _)
 |n+1,hk,h=>by
  rw[eN,fC]
  by_cases e:k=n
  ·subst e
   have:(bD k).flatMap f= []:=by
    rw[wG]
    intro i hi
    have hi:=cm.1 hi
    exact h i (by omega) (by omega)
   rw[this,eM];simp
  ·rw[Jq n (by omega) fun i hi=>h i (by omega)]
   have:=h n (by omega) (fun q=>e q.symm)
   simp[this]
def RY(x:ck)(k:Nat)(b:Int):Prop:=k<x.av.length∧ ∀i,i<x.av.length→(x.av.getD i (aP .bZ)).behavior=if i=k then b else 0
theorem aaI{x:ck}(h:okW x=true){k:Nat}(hk:k<x.av.length):I3 x.rows x.round (x.av,x.replaced) [(k:Int)]=(x.av.set k ⟨(k:Int),x.rows,x.round,[],0⟩,x.replaced++ [(k:Int)]):=by
 have w:=(Dv.of h).nsv
 have ho:Ae x.av (k:Int)=true:=by
  rw[Ae,dD,cV (by omega)];omega
 show CM x.rows x.round (x.av,x.replaced) (k:Int)=_
 rw[CM,if_pos ho];rfl
theorem Uh{l:List bZ}{k:Nat}{b:Int}{s:bZ}(hk:k<l.length)(h: ∀i,i<l.length→(l.getD i (aP .bZ)).behavior=if i=k then b else 0)(hs:s.behavior=0): ∀i,i<(l.set k s).length→((l.set k s).getD i (aP .bZ)).behavior=0:=by
 intro i hi
 rw[bA]at hi
 rw[ko _ _ hi]
 by_cases e:k=i
 ·rw[if_pos e];exact hs
 ·rw[if_neg e,h i hi,if_neg fun q=>e q.symm]
theorem ad2{l:List bZ}(h: ∀i,i<l.length→(l.getD i (aP .bZ)).behavior=0): ∀i,i<(l.map kj).length→((l.map kj).getD i (aP .bZ)).behavior=0:=by
 intro i hi
 rw[bg]at hi
 rw[getD_map kj _ (aP .bZ) hi,Jk,h i hi]
structure akw(x y:ck)(k:Nat)(c:Int):Prop where
 ok:okW y=true
 rows:y.rows=x.rows
 nd:y.af.length=x.af.length
 ns:y.av.length=x.av.length
 hon:hon y
 round:y.round=x.round+1
 qF:y.cancelled=x.cancelled+c
 Gf:y.replaced=x.replaced++ [(k:Int)]
theorem ad3{x:ck}(h:okW x=true){k:Nat}{b:Int}(hb:RY x k b)(hp: ¬(kq (iy x x.af.length k)).rows=(oR (iy x x.af.length k)).rows):mh x.bS (cg x) (dA (cg x)) (jA x) (cg x).length= [(k:Int)]:=by
 have hk:=hb.1
 have hl:(dA (cg x)).length=x.av.length:=by rw[show(dA (cg x)).length=(cg x).length from bg ..,ir h]
 unfold mh
 rw[ir h,Jq x.av.length hk fun i hi e=>aap h hi (Or.inl (by rw[hb.2 i hi,if_neg e]))]
 have hid:=(FG h hk).1
 have adT:(iy x x.af.length k).id=(k:Int):=hid
 have hp2:(dA (cg x)).getD k (aP .DB)=kq (iy x x.af.length k):=by
  unfold dA
  rw[getD_map kq _ (aP .bZ) (by rw[ir h];exact hk),wF h hk]
 have hok:=uk h hk (aZ x.af.length)
 have ha:CJ (kG x.bS (k:Int)) (iy x x.af.length k) (kq (iy x x.af.length k)) (jA x)=3:=by
  rw[vn (k:=(jA x).length) (fun j hj=>La h hk (getD_in _ hj)) (aZ _)]
  rw[hok,show((kq (iy x x.af.length k)).rows==(oR (iy x x.af.length k)).rows)=false from by rw[beq_eq_false_iff_ne];exact hp];rfl
 have hbad:Ad x.bS (cg x) (dA (cg x)) (jA x) k=true:=by
  unfold Ad
  rw[wF h hk,hp2,adT,ha,c8]
  right;rfl
 unfold VR
 rw[hbad,wF h hk,adT];rfl
theorem RZ{x:ck}(h:okW x=true){k:Nat}{b:Int}(hb:RY x k b)(hp: ¬(kq (iy x x.af.length k)).rows=(oR (iy x x.af.length k)).rows)(hr:x.round<99999)(hc:x.cancelled<1000000)(hn: ∀i:Nat,i<x.af.length→dK x.aJ<(jV x (i:Int)).next):
  akw x (dc x) k 1∧(dc x).aJ=x.aJ∧ ∀i:Nat,i<x.af.length→jV (dc x) (i:Int)=jV x (i:Int):=by
 have w:=Dv.of h
 have xA:=pY h hr
 have hok:=EO (g:= [(k:Int)]) (d:=jw (dA (cg x))) h hr (by omega) (fun q=>by cases q)
 have GK:=Jb (g:= [(k:Int)]) (d:=jw (dA (cg x))) xA (by show¬(1=0);decide)
 have akx:wv x [(k:Int)]=(x.av.set k ⟨(k:Int),x.rows,x.round,[],0⟩,x.replaced++ [(k:Int)]):=aaI h hb.1
 generalize hy:dJ x [(k:Int)] (jw (dA (cg x)))=y at*
 have qT:y.av=(x.av.set k ⟨(k:Int),x.rows,x.round,[],0⟩).map kj:=by rw[GK,akx]
 have VT:y.af=x.af:=by rw[GK]
 have hhy:hon y:=by
  intro i hi
  rw[qT]at hi ⊢
  exact ad2 (Uh hb.1 hb.2 rfl) i hi
 have w1:=w.round;have w2:=w.qF
 have e:dc x=Dt y:=by
  rw[tq xA,ad3 h hb hp,hy,PK hhy]
 have har:y.aJ=x.aJ:=by rw[GK]
 have hdd:y.af.map (oH y)=x.af:=by
  rw[VT]
  apply kS
  ·rw[bg]
  ·intro i h1 h2
   rw[w7]
   have hg:x.af.getD i (aP .cz)=x.af[i]:=by rw[an,au h2];rfl
   have hni:dK x.aJ<x.af[i].live.next:=by rw[←hg];exact hn i h2
   have E9:uc y x.af[i]= []:=by
    unfold uc jB
    rw[har,oX.2 (fun z hz=>by have:=(MR w.K3 z hz).2;rw[decide_eq_true_eq];omega)];rfl
   unfold oH
   rw[E9];rfl
 have hrd:=zP hok
 rw[hdd]at hrd
 rw[e]
 refine⟨⟨MT hok,by rw[hrd];rw[GK],by rw[hrd],by rw[hrd];show y.av.length=_;rw[qT,bg,bA],by rw[hrd];exact hhy,?_,?_,?_⟩,by rw[hrd];exact har,fun i hi=>by rw[hrd];rfl⟩
 ·rw[hrd];show y.round=_;rw[GK];exact cV (by omega)
 ·rw[hrd];show y.cancelled=_;rw[GK];exact cV (by omega)
 ·rw[hrd];show y.replaced=_;rw[GK,akx]
theorem Wa{x:ck}(h:okW x=true){k:Nat}(hb:RY x k 3)(hr:x.round<99999)(hc:x.cancelled<1000000)(hn: ∀i:Nat,i<x.af.length→dK x.aJ<(jV x (i:Int)).next∧(jV x (i:Int)).next≤x.round):
  akw x (dc x) k 0∧dK (dc x).aJ=x.round∧Reads x (dc x):=by
 have w:=Dv.of h
 have wr:=w.rows
 have hW:RR x:=fun i hi=>by
  rw[hb.2 i hi]
  by_cases e:i=k
  ·rw[if_pos e];exact Or.inr rfl
  ·rw[if_neg e];exact Or.inl rfl
 have xA:=pY h hr
 have hj:=(PJ h hW (j:=0) (by omega) 0).1
 have hjl:((jw (dA (cg x))).rows.length:Int)=x.rows:=by have:=hj.2;omega
 obtain⟨c1,c2,c3,c4⟩:=TZ (d:=jw (dA (cg x))) h hr (by omega) hj.1 hjl
 have GK:=C5 (g:= []) (d:=jw (dA (cg x))) xA rfl
 generalize hy:dJ x [] (jw (dA (cg x)))=y at*
 have qT:y.av=x.av.map kj:=by rw[GK];rfl
 have Qa:y.av.length=x.av.length:=by rw[qT,bg]
 have VT:y.af=x.af:=by rw[GK]
 have hrw:y.rows=x.rows:=by rw[GK]
 have har:y.aJ.rounds=ED x.aJ x.round (jw (dA (cg x))):=by rw[GK]
 have VU:y.replaced=x.replaced:=by rw[GK];rfl
 have NW: ∀i,i<y.av.length→(y.av.getD i (aP .bZ)).behavior=if i=k then 3 else 0:=fun i hi=>by
  rw[qT,getD_map kj _ (aP .bZ) (by omega),Jk]
  exact hb.2 i (by omega)
 have hpos:0<y.aJ.rounds.length:=by
  cases hz:y.aJ.rounds.length with
  |zero=>
   have:=Bv (a:=y.aJ) (List.eq_nil_of_length_eq_zero hz)
   have w1:=w.round
   omega
  |succ n=>omega
 have ha:=Jh hpos
 have hI:JF y y.av.length= [(k:Int)]:=by
  unfold JF
  rw[Jq y.av.length (by rw[Qa];exact hb.1) fun i hi e=>by rw[Ud c2 ha (by rw[NW i hi,if_neg e];decide)];rfl]
  rw[RP c2 ha (by rw[NW k (by rw[Qa];exact hb.1),if_pos rfl])];rfl
 have hP:Du y y.av.length=(y.av.set k ⟨(k:Int),y.rows,y.round,[],0⟩,y.replaced++ [(k:Int)]):=by
  unfold Du
  rw[hI]
  exact aaI c2 (by rw[Qa];exact hb.1)
 have ht:=zR (adQ c2 hpos)
 rw[hP]at ht
 have ahW:=Pv c2
 have hht:hon (testW y):=by
  rw[ht]
  exact Uh (by rw[Qa];exact hb.1) NW rfl
 have e:dc x=Dt (testW y):=by rw[tq xA,Uc h hW,hy]
 rw[e]
 have hrd:=zP ahW
 have hdt:(testW y).af=x.af:=by rw[ht];exact VT
 refine⟨⟨MT ahW,by rw[hrd];show(testW y).rows=_;rw[ht];exact hrw,by rw[hrd];show(MX _ _).length=_;rw[bg,hdt],by rw[hrd];show(testW y).av.length=_;rw[ht];show(y.av.set _ _).length=_;rw[bA,Qa],by rw[hrd];exact hht,by rw[hrd];show(testW y).round=_;rw[ht];exact c1,by rw[hrd];show(testW y).cancelled=_;rw[ht];show y.cancelled=_;rw[c4,Int.add_zero],by rw[hrd];show(testW y).replaced=_;rw[ht];show y.replaced++_=_;rw[VU]⟩,?_,fun i hi=> ?_⟩
 ·rw[hrd];show dK (testW y).aJ=_;rw[ht];exact c3
 ·exact Lb h hW ahW hht (by rw[ht];exact hrw) hdt (by rw[ht];exact har) hr hn hi
theorem ahX{d:DB}(h0:0<d.rows.length)(h1:0<(d.rows.getD 0 (aP (.sl .u8))).length): ¬(alt d).rows=d.rows:=by
 intro e
 have h2:((alt d).rows.getD 0 (aP (.sl .u8))).getD 0 (aP .u8)=(d.rows.getD 0 (aP (.sl .u8))).getD 0 (aP .u8):=by rw[e]
 unfold alt at h2
 rw[ko _ _ h0,if_pos rfl,ko _ _ h1,if_pos rfl]at h2
 have h3:(d.rows.getD 0 (aP (.sl .u8))).getD 0 (aP .u8)^^^((d.rows.getD 0 (aP (.sl .u8))).getD 0 (aP .u8)^^^1)=(d.rows.getD 0 (aP (.sl .u8))).getD 0 (aP .u8)^^^(d.rows.getD 0 (aP (.sl .u8))).getD 0 (aP .u8):=by rw[h2]
 rw[←eB,kW,eg]at h3
 exact absurd h3 (by decide)
theorem ad4{x:ck}(h:okW x=true){k:Nat}(hb:RY x k 2): ¬(kq (iy x x.af.length k)).rows=(oR (iy x x.af.length k)).rows:=by
 have hk:=uk h hb.1 (aZ x.af.length)
 have h2:(iy x x.af.length k).behavior=2:=by show(x.av.getD k (aP .bZ)).behavior=2;rw[hb.2 k hb.1,if_pos rfl]
 obtain⟨q1,q2⟩:=Rv hk
 have e:rcvd (iy x x.af.length k)=(iy x x.af.length k).received:=IW _ (by omega)
 rw[e]at q1 q2
 unfold kq oR
 rw[if_pos hk,if_pos hk,if_pos h2,e]
 exact ahX q1 q2
theorem aaJ{x:ck}(h:okW x=true){k:Nat}(hb:RY x k 1){j b:Nat}(hne:gO (ET x k 0) j b≠0): ¬(kq (iy x x.af.length k)).rows=(oR (iy x x.af.length k)).rows:=by
 have hk:=uk h hb.1 (aZ x.af.length)
 have h1:(iy x x.af.length k).behavior=1:=by show(x.av.getD k (aP .bZ)).behavior=1;rw[hb.2 k hb.1,if_pos rfl]
 have hr:=Io h
 have hn:=Z5 h
 have hsr:=(FG h hb.1).2.1
 have e:rcvd (iy x x.af.length k)=(rcs x k x.af.length).drop 1:=EA _ h1
 unfold kq oR
 rw[if_pos hk,if_pos hk,if_neg (by omega),e]
 show¬(iq (x.av.getD k (aP .bZ)).rows _).rows=(iq (x.av.getD k (aP .bZ)).rows (rcs x k x.af.length)).rows
 rw[hsr]
 intro he
 have hok: ∀s,s∈rcs x k x.af.length→K9 x.rows.toNat s.share:=by
  intro s hs
  obtain⟨c,hc,rfl⟩:=cq.1 hs
  have:=RL h hb.1 (cm.1 hc)
  exact⟨this.1,by have:=this.2;show(ET x k c).rows.length=_;omega⟩
 have q1:=(EW (fun r:bE=>r.share) x.rows.toNat j b (rcs x k x.af.length) (fk x.rows) (aak (by omega)) hok).2
 have q2:=(EW (fun r:bE=>r.share) x.rows.toNat j b ((rcs x k x.af.length).drop 1) (fk x.rows) (aak (by omega)) (fun s hs=>hok s (iM hs))).2
 have hd:=nA (rcs x k x.af.length) 0 (aP .bE) (by rw[MU];omega)
 rw[eS,Db x k x.af.length (by omega),dZ]at hd
 have q3:gO (iq x.rows (rcs x k x.af.length)) j b=gO (ET x k 0) j b^^^gO (iq x.rows ((rcs x k x.af.length).drop 1)) j b:=by
  refine q1.trans ?_
  rw[show gO (iq x.rows ((rcs x k x.af.length).drop 1)) j b=_ from q2]
  rw[RQ,eg,eg]
  rw[show xs (fun s:bE=>gO s.share j b) (rcs x k x.af.length)=xs (fun s:bE=>gO s.share j b) (⟨((0:Nat):Int),ET x k 0⟩::(rcs x k x.af.length).drop 1)from by rw[←hd]]
  rw[gY]
 have q4:gO (iq x.rows ((rcs x k x.af.length).drop 1)) j b=gO (iq x.rows (rcs x k x.af.length)) j b:=by unfold gO;rw[he]
 rw[q4]at q3
 have q5:gO (iq x.rows (rcs x k x.af.length)) j b^^^gO (iq x.rows (rcs x k x.af.length)) j b=(gO (ET x k 0) j b^^^gO (iq x.rows (rcs x k x.af.length)) j b)^^^gO (iq x.rows (rcs x k x.af.length)) j b:=by rw[←q3]
 rw[kW,eB,kW,gX]at q5
 exact hne q5.symm
end
section
structure ArP where
 c:VY
 a:mE
 r:Int
end
section
def n4(c:VY)(a b:Int):VY:=adG (adG (adG (adG c a) b) 99) 999
structure ClP where
 c:VY
 x:gQ
def nx(x:gQ)(n:Int):gQ:=⟨x.id,x.gE,x.key,x.seed,x.bu,x.sent,x.inbox,n⟩
end
section
structure DvP where
 c:VY
 d:cz
def amT(p:DvP):Prop:=p.d.live.sent<(p.d.live.bu.length:Int)
instance (p:DvP):Decidable (amT p):=inferInstanceAs (Decidable (_<_))
structure SvP where
 c:VY
 s:bZ
end
section
theorem ad5{x:ck}(h:okW x=true): ∀s,s∈x.av→gy s≤15000:=by
 intro s hs
 have:=zL h s hs
 unfold gy
 rw[this]
 exact aD _
end
section
def hsK(h v:Nat):Nat:=oN (iR (iR (Dj h 1000003) v) 13) 2147483647
def sqK(h:Nat):Nat:=oN (iR (Dj h h) 5) 2147483647
theorem aif(h v:Nat):hs1 (h:Int) (v:Int)=((hsK h v:Nat):Int):=by
 show((h:Int)*1000003+(v:Int)% 2147483647+13)% 2147483647=(((h*1000003+v+13)% 2147483647:Nat):Int)
 omega
theorem aih(h:Nat):((h:Int)*h+5)% 2147483647=((sqK h:Nat):Int):=by
 have e:sqK h=(h*h+5)% 2147483647:=rfl
 rw[e,w8,Int.natCast_add,Int.natCast_mul];rfl
instance hfK:HF:=⟨hsK,sqK,aif,aih,fun _ _=>Dy _ (by decide)⟩
end
end Go.Proofs.YtkcegdacbddipaaGreat.G
