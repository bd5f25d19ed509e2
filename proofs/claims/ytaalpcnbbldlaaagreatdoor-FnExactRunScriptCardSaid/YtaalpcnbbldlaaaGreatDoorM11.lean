/-
  Worlds that are drawn, and bent. No program in sight.
-/
import Derived.KernelRfl
import Derived.Test.YtaalpcnbbldlaaaGreatDoorProg
import Derived.Test.YtaalpcnbbldlaaaGreatDoorM10
open BitVec renaming ofInt→aH,ofInt_natCast→iY,toNat_ofNat→jP,toNat_xor→IW
open Bool renaming and_eq_false_iff→mu,and_eq_true→az,and_false→nG,eq_iff_iff→Ay,not_eq_true→yL,not_eq_true'→bX,true_and→dn
open Go.IntKind renaming bits→RP,i64→af,signed→Mu,u8→cC,wrap→RN,wrap_i64→yX
open Go.Proofs.Tryz renaming prog→aN
open Int renaming emod_lt_of_pos→lN,emod_nonneg→mg,eq_ofNat_of_zero_le→o7,fdiv_eq_ediv_of_nonneg→jH,le_refl→iz,le_trans→Te,toNat→cQ,toNat_natCast→eE
open List renaming all_append→jx,all_eq_false→qx,all_eq_true→bE,any_eq_false→ct,any_eq_true→fB,append_assoc→bO,append_nil→dA,drop_eq_getElem_cons→fG,drop_of_length_le→ir,drop_succ_cons→tj,filter_append→EU,filter_cons→I4,flatMap_append→fj,foldl_append→gf,foldl_cons→gV,forall_mem_cons→Cd,getD_eq_getElem?_getD→aA,getElem?_append_right→cU,getElem?_drop→cK,getElem?_eq_getElem→aC,getElem?_eq_some_iff→aV,getElem?_map→dB,getElem?_zipWith→rF,getElem_mem→gF,length→aL,length_append→bf,length_cons→bF,length_drop→b9,length_eq_zero_iff→gb,length_map→bt,length_nil→c8,length_set→cm,length_singleton→fY,length_take→bV,length_zipWith→tS,map_append→gT,map_cons→dh,mem_append→bg,mem_cons→bu,mem_cons_of_mem→aT,mem_cons_self→gw,mem_iff_getElem→eR,mem_iff_getElem?→mo,mem_map→cO,mem_of_getElem?→dU,mem_of_mem_drop→nj,mem_or_eq_of_mem_set→iJ,mem_range→eg,mem_replicate→EN,mem_singleton→aZ,range→bT,range_succ→fP,replicate→eK,set_append_right→Am,sum_cons→iI,take_append_drop→jM,take_length→lg,take_of_length_le→aD,take_replicate→Dj,take_succ_cons→n9,zipWith→fI
open Nat renaming add_comm→AU,add_mul→dr,le_add_right→yU,le_refl→bq,le_trans→dH,min_eq_left→K2,mod_eq_of_lt→jJ,sub_self→uQ,xor_div_two→KR,zero_le→aE
open UInt8 renaming ofNat→cT
namespace Go.Proofs.YtaalpcnbbldlaaaGreatDoor.G
set_option linter.all false
open Go.RowKit L D
section
theorem ajv:(aN.info? 3).map (fun i=>(i.zero,i.size,i.bytes))=some (some (.int .i64 0),1,8):=by kernel_rfl
theorem ajw:(aN.info? 5).map (fun i=>(i.zero,i.size,i.bytes))=some (some (.int .u8 0),1,1):=by kernel_rfl
theorem ajx:(aN.info? 9).map (fun i=>(i.zero,i.size,i.bytes))=some (some (.string ⟨#[]⟩),1,16):=by kernel_rfl
theorem acw:(aN.info? 24).map (fun i=>(i.zero,i.size,i.bytes))=some (some (.slice none 0 0),1,24):=by kernel_rfl
theorem acy:(aN.info? 37).map (fun i=>(i.zero,i.size,i.bytes))=some (some (.slice none 0 0),1,24):=by kernel_rfl
theorem alD:(aN.info? 87).map (fun i=>(i.zero,i.size,i.bytes))=some (some (.slice none 0 0),1,24):=by kernel_rfl
theorem O4:(aN.info? 111).map (fun i=>(i.zero,i.size,i.bytes))=some (some (.agg #[.slice none 0 0]),1,24):=by kernel_rfl
theorem O5:(aN.info? 188).map (fun i=>(i.zero,i.size,i.bytes))=some (some (.agg #[.int .i64 0, .slice none 0 0]),2,32):=by kernel_rfl
theorem Vb:(aN.info? 95).map (fun i=>(i.zero,i.size,i.bytes))=some (some (.agg #[.int .i64 0, .int .i64 0, .int .i64 0, .slice none 0 0, .int .i64 0]),5,56):=by kernel_rfl
theorem O6:(aN.info? 113).map (fun i=>(i.zero,i.size,i.bytes))=some (some (.agg #[.int .i64 0, .slice none 0 0]),2,32):=by kernel_rfl
theorem acz:(aN.info? 36).map (fun i=>(i.zero,i.size,i.bytes))=some (some (.agg #[.int .i64 0, .slice none 0 0]),2,32):=by kernel_rfl
theorem acA:(aN.info? 89).map (fun i=>(i.zero,i.size,i.bytes))=some (some (.agg #[.int .i64 0, .int .i64 0, .int .i64 0, .int .i64 0, .slice none 0 0, .int .i64 0, .slice none 0 0, .int .i64 0]),8,96):=by kernel_rfl
theorem Vc:(aN.info? 91).map (fun i=>(i.zero,i.size,i.bytes))=some (some (.agg #[.int .i64 0, .int .i64 0, .int .i64 0, .int .i64 0, .slice none 0 0, .int .i64 0, .slice none 0 0, .int .i64 0, .int .i64 0, .int .i64 0, .int .i64 0, .int .i64 0, .slice none 0 0, .int .i64 0, .slice none 0 0, .int .i64 0]),16,192):=by kernel_rfl
theorem acB:(aN.info? 39).map (fun i=>(i.zero,i.size,i.bytes))=some (some (.agg #[.int .i64 0, .slice none 0 0, .slice none 0 0, .int .i64 0, .slice none 0 0, .int .i64 0, .int .i64 0, .int .i64 0, .slice none 0 0, .int .i64 0]),10,144):=by kernel_rfl
theorem acC:(aN.info? 64).map (fun i=>(i.zero,i.size,i.bytes))=some (some (.agg #[.int .i64 0, .int .i64 0, .int .i64 0, .slice none 0 0]),4,48):=by kernel_rfl
theorem O7:(aN.info? 116).map (fun i=>(i.zero,i.size,i.bytes))=some (some (.agg #[.int .i64 0, .int .i64 0, .int .i64 0]),3,24):=by kernel_rfl
theorem O8:(aN.info? 220).map (fun i=>(i.zero,i.size,i.bytes))=some (some (.agg #[.int .i64 0, .int .i64 0, .int .i64 0, .int .i64 0, .int .i64 0]),5,40):=by kernel_rfl
theorem W2:(aN.info? 206).map (fun i=>(i.zero,i.size,i.bytes))=some (some (.agg #[.int .i64 0, .slice none 0 0]),2,32):=by kernel_rfl
theorem O9:(aN.info? 150).map (fun i=>(i.zero,i.size,i.bytes))=some (some (.agg #[.int .i64 0, .int .i64 0, .slice none 0 0, .slice none 0 0, .int .i64 0]),5,72):=by kernel_rfl
theorem acD:(aN.info? 78).map (fun i=>(i.zero,i.size,i.bytes))=some (some (.slice none 0 0),1,24):=by kernel_rfl
theorem uP{P:Program}{i:Nat}{z:Option Value}{k b:Nat}(h:(P.info? i).map (fun i=>(i.zero,i.size,i.bytes))=some (z,k,b)):(P.info? i).map (·.size)=some k:=by
 cases hq:P.info? i with
 |none=>simp[hq]at h
 |some x=>simp[hq]at h;simp[h]
theorem ag6{P:Program}{i:Nat}{z:Option Value}{k b:Nat}(h:(P.info? i).map (fun i=>(i.zero,i.size,i.bytes))=some (z,k,b)):(P.info? i).map (fun i=>(i.size,i.zero))=some (k,z):=by
 cases hq:P.info? i with
 |none=>simp[hq]at h
 |some x=>simp[hq]at h;simp[h]
theorem tG{P:Program}{t:Nat}{z:List Value}{tg:List (Option Tag)}{fo:List Nat}{fs:Array Field}{b:Nat}(hu:P.underlying t=some (.struct fs))(hi:(P.info? t).map (fun i=>(i.zero,i.size,i.bytes))=some (some (.agg z.toArray),z.length,b))(hz:z.all (·.oneCell')=true)(hf:D6 P z.length fs.toList fo=true):fF P t (.st z tg fo):=
 ⟨fs,hu,ag6 hi,fun v hv=>bE.1 hz v hv,fun f k h=>by obtain⟨fd,h1,h2⟩:=(Aa hf).1 f k h;exact⟨fd,by simpa using h1,h2⟩,(Aa hf).2⟩
theorem jf{P:Program}{i:Nat}(h:(P.info? i).map (fun i=>Nat.beq i.size 1)=some true):(P.info? i).map (·.size)=some 1:=by
 cases hq:P.info? i with
 |none=>simp[hq]at h
 |some x=>simp[hq]at h;simp[h]
def tys:List (Nat×TK):= [(3, .int .i64),
 (2, .int .i64),
 (21, .int .i32),
 (5, .int .u8),
 (213, .int .u32),
 (108, .int .u64),
 (234, .int .u64),
 (12, .int .u64),
 (4, .bool),
 (9, .str),
 (111, .st [.slice none 0 0] [some (.sl .u8)] [0]),
 (188, .st [.int .i64 0, .slice none 0 0] [none,some (.sl .u8)] [0,1]),
 (95, .st [.int .i64 0, .int .i64 0, .int .i64 0, .slice none 0 0, .int .i64 0] [none,none,none,some .bJ,none] [0,1,2,3,4]),
 (113, .st [.int .i64 0, .slice none 0 0] [none,some (.sl .u8)] [0,1]),
 (36, .st [.int .i64 0, .slice none 0 0] [none,some .aX] [0,1]),
 (89, .st [.int .i64 0, .int .i64 0, .int .i64 0, .int .i64 0, .slice none 0 0, .int .i64 0, .slice none 0 0, .int .i64 0] [none,none,none,none,some (.sl .u8),none,some (.sl .u8),none] [0,1,2,3,4,5,6,7]),
 (91, .st [.int .i64 0, .int .i64 0, .int .i64 0, .int .i64 0, .slice none 0 0, .int .i64 0, .slice none 0 0, .int .i64 0, .int .i64 0, .int .i64 0, .int .i64 0, .int .i64 0, .slice none 0 0, .int .i64 0, .slice none 0 0, .int .i64 0] [none,none,none,none,some (.sl .u8),none,some (.sl .u8),none,none,none,none,none,some (.sl .u8),none,some (.sl .u8),none] [0,8]),
 (39, .st [.int .i64 0, .slice none 0 0, .slice none 0 0, .int .i64 0, .slice none 0 0, .int .i64 0, .int .i64 0, .int .i64 0, .slice none 0 0, .int .i64 0] [none,some .cu,some .bR,none,some .aX,none,none,none,some .int,none] [0,1,2,3,5,6,7,8,9]),
 (64, .st [.int .i64 0, .int .i64 0, .int .i64 0, .slice none 0 0] [none,none,none,some .u8] [0,1,2,3]),
 (116, .st [.int .i64 0, .int .i64 0, .int .i64 0] [none,none,none] [0,1,2]),
 (220, .st [.int .i64 0, .int .i64 0, .int .i64 0, .int .i64 0, .int .i64 0] [none,none,none,none,none] [0,1,2,3,4]),
 (206, .st [.int .i64 0, .slice none 0 0] [none,some .u8] [0,1]),
 (150, .st [.int .i64 0, .int .i64 0, .slice none 0 0, .slice none 0 0, .int .i64 0] [none,none,some .int,some .u8,none] [0,1,2,3,4]),
 (37, .sl .int 3),
 (24, .sl .u8 5),
 (29, .sl .str 9),
 (87, .sl (.sl .u8) 24),
 (146, .sl (.sl .int) 37),
 (170, .sl .DB 111),
 (93, .sl .bJ 188),
 (32, .sl .cu 95),
 (34, .sl .aX 113),
 (33, .sl .bR 91),
 (78, .sl .jE 116),
 (167, .sl .iA 220),
 (145, .sl .e9 150),
 (175, .sl (.sl .jE) 78)]
def Γ(t:Nat):TK:=match look tys t with|some k=>k|none=> .other
def ty:Tag→Nat
 | .int=>3
 | .u8=>5
 | .str=>9
 | (.sl .u8)=>24
 | (.sl .int)=>37
 | (.sl (.sl .u8))=>87
 | .DB=>111
 | .bJ=>188
 | .cu=>95
 | .aX=>113
 | .mD=>36
 | .gI=>89
 | .bR=>91
 | .bN=>39
 | .Ev=>64
 | .jE=>116
 | .iA=>220
 | .Plain=>206
 | .e9=>150
 | (.sl .jE)=>78
 |_=>1000000000
theorem alE:fF aN 3 (.int .i64):=Tryz.underlying3
theorem alF:fF aN 2 (.int .i64):=Tryz.underlying2
theorem ag7:fF aN 21 (.int .i32):=Tryz.underlying21
theorem alG:fF aN 5 (.int .u8):=Tryz.underlying5
theorem acE:fF aN 213 (.int .u32):=Tryz.underlying213
theorem acF:fF aN 108 (.int .u64):=Tryz.underlying108
theorem acG:fF aN 234 (.int .u64):=Tryz.underlying234
theorem ag8:fF aN 12 (.int .u64):=Tryz.underlying12
theorem alH:fF aN 4 (.bool):=Tryz.underlying4
theorem alI:fF aN 9 (.str):=Tryz.underlying9
theorem acH:fF aN 111 (.st [.slice none 0 0] [some (.sl .u8)] [0]):=tG Tryz.underlying111 O4 rfl (by kernel_rfl)
theorem acI:fF aN 188 (.st [.int .i64 0, .slice none 0 0] [none,some (.sl .u8)] [0,1]):=tG Tryz.underlying188 O5 rfl (by kernel_rfl)
theorem ag9:fF aN 95 (.st [.int .i64 0, .int .i64 0, .int .i64 0, .slice none 0 0, .int .i64 0] [none,none,none,some .bJ,none] [0,1,2,3,4]):=tG Tryz.underlying95 Vb rfl (by kernel_rfl)
theorem acJ:fF aN 113 (.st [.int .i64 0, .slice none 0 0] [none,some (.sl .u8)] [0,1]):=tG Tryz.underlying113 O6 rfl (by kernel_rfl)
theorem aha:fF aN 36 (.st [.int .i64 0, .slice none 0 0] [none,some .aX] [0,1]):=tG Tryz.underlying36 acz rfl (by kernel_rfl)
theorem ahb:fF aN 89 (.st [.int .i64 0, .int .i64 0, .int .i64 0, .int .i64 0, .slice none 0 0, .int .i64 0, .slice none 0 0, .int .i64 0] [none,none,none,none,some (.sl .u8),none,some (.sl .u8),none] [0,1,2,3,4,5,6,7]):=tG Tryz.underlying89 acA rfl (by kernel_rfl)
theorem ahc:fF aN 91 (.st [.int .i64 0, .int .i64 0, .int .i64 0, .int .i64 0, .slice none 0 0, .int .i64 0, .slice none 0 0, .int .i64 0, .int .i64 0, .int .i64 0, .int .i64 0, .int .i64 0, .slice none 0 0, .int .i64 0, .slice none 0 0, .int .i64 0] [none,none,none,none,some (.sl .u8),none,some (.sl .u8),none,none,none,none,none,some (.sl .u8),none,some (.sl .u8),none] [0,8]):=tG Tryz.underlying91 Vc rfl (by kernel_rfl)
theorem ahd:fF aN 39 (.st [.int .i64 0, .slice none 0 0, .slice none 0 0, .int .i64 0, .slice none 0 0, .int .i64 0, .int .i64 0, .int .i64 0, .slice none 0 0, .int .i64 0] [none,some .cu,some .bR,none,some .aX,none,none,none,some .int,none] [0,1,2,3,5,6,7,8,9]):=tG Tryz.underlying39 acB rfl (by kernel_rfl)
theorem ahe:fF aN 64 (.st [.int .i64 0, .int .i64 0, .int .i64 0, .slice none 0 0] [none,none,none,some .u8] [0,1,2,3]):=tG Tryz.underlying64 acC rfl (by kernel_rfl)
theorem acK:fF aN 116 (.st [.int .i64 0, .int .i64 0, .int .i64 0] [none,none,none] [0,1,2]):=tG Tryz.underlying116 O7 rfl (by kernel_rfl)
theorem acL:fF aN 220 (.st [.int .i64 0, .int .i64 0, .int .i64 0, .int .i64 0, .int .i64 0] [none,none,none,none,none] [0,1,2,3,4]):=tG Tryz.underlying220 O8 rfl (by kernel_rfl)
theorem acM:fF aN 206 (.st [.int .i64 0, .slice none 0 0] [none,some .u8] [0,1]):=tG Tryz.underlying206 W2 rfl (by kernel_rfl)
theorem acN:fF aN 150 (.st [.int .i64 0, .int .i64 0, .slice none 0 0, .slice none 0 0, .int .i64 0] [none,none,some .int,some .u8,none] [0,1,2,3,4]):=tG Tryz.underlying150 O9 rfl (by kernel_rfl)
theorem ahf:fF aN 37 (.sl .int 3):=⟨Tryz.underlying37,uP ajv⟩
theorem ahg:fF aN 24 (.sl .u8 5):=⟨Tryz.underlying24,uP ajw⟩
theorem ahh:fF aN 29 (.sl .str 9):=⟨Tryz.underlying29,uP ajx⟩
theorem ahi:fF aN 87 (.sl (.sl .u8) 24):=⟨Tryz.underlying87,uP acw⟩
theorem acO:fF aN 146 (.sl (.sl .int) 37):=⟨Tryz.underlying146,uP acy⟩
theorem acP:fF aN 170 (.sl .DB 111):=⟨Tryz.underlying170,uP O4⟩
theorem ahj:fF aN 93 (.sl .bJ 188):=⟨Tryz.underlying93,uP O5⟩
theorem ahk:fF aN 32 (.sl .cu 95):=⟨Tryz.underlying32,uP Vb⟩
theorem ahl:fF aN 34 (.sl .aX 113):=⟨Tryz.underlying34,uP O6⟩
theorem ahm:fF aN 33 (.sl .bR 91):=⟨Tryz.underlying33,uP Vc⟩
theorem ahn:fF aN 78 (.sl .jE 116):=⟨Tryz.underlying78,uP O7⟩
theorem acQ:fF aN 167 (.sl .iA 220):=⟨Tryz.underlying167,uP O8⟩
theorem acR:fF aN 145 (.sl .e9 150):=⟨Tryz.underlying145,uP O9⟩
theorem acS:fF aN 175 (.sl (.sl .jE) 78):=⟨Tryz.underlying175,uP acD⟩
set_option maxRecDepth 100000 in
theorem kinds: ∀e,e∈tys→fF aN e.1 e.2:=by
 simp only[tys,Cd]
 exact⟨alE,alF,ag7,alG,acE,acF,acG,ag8,alH,alI,acH,acI,ag9,acJ,aha,ahb,ahc,ahd,ahe,acK,acL,acM,acN,ahf,ahg,ahh,ahi,acO,acP,ahj,ahk,ahl,ahm,ahn,acQ,acR,acS,by simp⟩
set_option maxRecDepth 100000 in
theorem aom: ∀e,e∈tys→(∀z tg fo,e.2≠ .st z tg fo)→(aN.info? e.1).map (·.size)=some 1:=by
 simp only[tys,Cd]
 refine⟨fun _=>jf (by kernel_rfl),fun _=>jf (by kernel_rfl),fun _=>jf (by kernel_rfl),fun _=>jf (by kernel_rfl),fun _=>jf (by kernel_rfl),fun _=>jf (by kernel_rfl),fun _=>jf (by kernel_rfl),fun _=>jf (by kernel_rfl),fun _=>jf (by kernel_rfl),fun _=>jf (by kernel_rfl),fun h=>absurd rfl (h _ _ _),fun h=>absurd rfl (h _ _ _),fun h=>absurd rfl (h _ _ _),fun h=>absurd rfl (h _ _ _),fun h=>absurd rfl (h _ _ _),fun h=>absurd rfl (h _ _ _),fun h=>absurd rfl (h _ _ _),fun h=>absurd rfl (h _ _ _),fun h=>absurd rfl (h _ _ _),fun h=>absurd rfl (h _ _ _),fun h=>absurd rfl (h _ _ _),fun h=>absurd rfl (h _ _ _),fun h=>absurd rfl (h _ _ _),fun _=>jf (by kernel_rfl),fun _=>jf (by kernel_rfl),fun _=>jf (by kernel_rfl),fun _=>jf (by kernel_rfl),fun _=>jf (by kernel_rfl),fun _=>jf (by kernel_rfl),fun _=>jf (by kernel_rfl),fun _=>jf (by kernel_rfl),fun _=>jf (by kernel_rfl),fun _=>jf (by kernel_rfl),fun _=>jf (by kernel_rfl),fun _=>jf (by kernel_rfl),fun _=>jf (by kernel_rfl),fun _=>jf (by kernel_rfl),by simp⟩
theorem X:Ctx aN ty Γ where
 kind:=fun t=>by
  unfold Γ
  split
  ·rename_i k hk;exact kinds (t,k) (gU hk)
  ·trivial
 one:=fun t h1 h2=>by
  unfold Γ at h1 h2
  split at h1
  ·rename_i k hk;exact aom (t,k) (gU hk) h1
  ·rename_i hk;rw[hk]at h2;exact absurd rfl h2
theorem cE(t:Tag)(h:ty t<1000000000):El aN ty t:=by
 unfold ty at h
 split at h
 ·exact ajv
 ·exact ajw
 ·exact ajx
 ·exact acw
 ·exact acy
 ·exact alD
 ·exact O4
 ·exact O5
 ·exact Vb
 ·exact O6
 ·exact acz
 ·exact acA
 ·exact Vc
 ·exact acB
 ·exact acC
 ·exact O7
 ·exact O8
 ·exact W2
 ·exact O9
 ·exact acD
 ·exact absurd h (by decide)
abbrev So:=Sound ty aN
end
section
theorem aho:(aN.info? 69).map (fun i=>(i.zero,i.size,i.bytes))=some (some (.agg #[.slice none 0 0, .int .i64 0, .int .i64 0]),3,40):=by kernel_rfl
theorem acT:fF aN 69 (.st [.slice none 0 0, .int .i64 0, .int .i64 0] [some .u8,none,none] [0,1,2]):=tG Tryz.underlying69 aho rfl (by kernel_rfl)
def ahp:List (Nat×TK):=(69, .st [.slice none 0 0, .int .i64 0, .int .i64 0] [some .u8,none,none] [0,1,2])::tys
def Γ2(t:Nat):TK:=match look ahp t with|some k=>k|none=> .other
theorem acU: ∀e,e∈ahp→fF aN e.1 e.2:=by
 intro e he
 rcases bu.1 he with rfl|he
 ·exact acT
 ·exact kinds e he
theorem ajy: ∀e,e∈ahp→(∀z tg fo,e.2≠ .st z tg fo)→(aN.info? e.1).map (·.size)=some 1:=by
 intro e he h
 rcases bu.1 he with rfl|he
 ·exact absurd rfl (h _ _ _)
 ·exact aom e he h
theorem X2:Ctx aN ty Γ2 where
 kind:=fun t=>by
  unfold Γ2
  split
  ·rename_i k hk;exact acU (t,k) (gU hk)
  ·trivial
 one:=fun t h1 h2=>by
  unfold Γ2 at h1 h2
  split at h1
  ·rename_i k hk;exact ajy (t,k) (gU hk) h1
  ·rename_i hk;rw[hk]at h2;exact absurd rfl h2
end
section
theorem ahq:(aN.info? 44).map (fun i=>(i.zero,i.size,i.bytes))=some (some (.agg #[.int .i64 0, .slice none 0 0, .slice none 0 0, .int .i64 0, .slice none 0 0, .int .i64 0, .int .i64 0, .int .i64 0, .slice none 0 0, .int .i64 0]),10,144):=by kernel_rfl
theorem acV:fF aN 44 (.st [.int .i64 0, .slice none 0 0, .slice none 0 0, .int .i64 0, .slice none 0 0, .int .i64 0, .int .i64 0, .int .i64 0, .slice none 0 0, .int .i64 0] [none,some .cu,some .bR,none,some .aX,none,none,none,some .int,none] [0]):=tG Tryz.underlying44 ahq rfl (by kernel_rfl)
def alJ:List (Nat×TK):=(44, .st [.int .i64 0, .slice none 0 0, .slice none 0 0, .int .i64 0, .slice none 0 0, .int .i64 0, .int .i64 0, .int .i64 0, .slice none 0 0, .int .i64 0] [none,some .cu,some .bR,none,some .aX,none,none,none,some .int,none] [0])::ahp
def Γ4(t:Nat):TK:=match look alJ t with|some k=>k|none=> .other
theorem alK: ∀e,e∈alJ→fF aN e.1 e.2:=by
 intro e he
 rcases bu.1 he with rfl|he
 ·exact acV
 ·exact acU e he
theorem aon: ∀e,e∈alJ→(∀z tg fo,e.2≠ .st z tg fo)→(aN.info? e.1).map (·.size)=some 1:=by
 intro e he h
 rcases bu.1 he with rfl|he
 ·exact absurd rfl (h _ _ _)
 ·exact ajy e he h
theorem X4:Ctx aN ty Γ4 where
 kind:=fun t=>by
  unfold Γ4
  split
  ·rename_i k hk;exact alK (t,k) (gU hk)
  ·trivial
 one:=fun t h1 h2=>by
  unfold Γ4 at h1 h2
  split at h1
  ·rename_i k hk;exact aon (t,k) (gU hk) h1
  ·rename_i hk;rw[hk]at h2;exact absurd rfl h2
@[reducible] def hW (x:bN):Hp:= [(1000, .box [.lit (.int .i64 x.rows), .own 261, .own 262, .lit (.int .i64 x.aK.rows), .own 264, .lit (.int .i64 x.ck), .lit (.int .i64 x.seed), .lit (.int .i64 x.round), .own 268, .lit (.int .i64 x.cancelled)]),(261, .arr .cu x.aG),(262, .arr .bR x.ah),(264, .arr .aX x.aK.rounds),(268, .arr .int x.replaced)]
end
section
theorem MO:aN.follows .mixedOrders=true:=by kernel_rfl
theorem nb:(∀(p:Prop) [Decidable p],(decide p=true)=p)∧(∀(p:Prop) [Decidable p],(decide p=false)= ¬p)∧(∀b:Bool,((!b)=true)=(b=false))∧(∀b:Bool,((!b)=false)=(b=true))∧
  (∀(α:Type) [BEq α] [LawfulBEq α] (a b:α),((a==b)=true)=(a=b))∧(∀(α:Type) [BEq α] [LawfulBEq α] (a b:α),((a !=b)=true)=(¬a=b))∧(∀(α:Type) [BEq α] [LawfulBEq α] (a b:α),((a==b)=false)=(¬a=b))∧(∀(α:Type) [BEq α] [LawfulBEq α] (a b:α),((a !=b)=false)=(a=b))∧
  (∀(α:Type) (a b:α),(a≠b)= ¬a=b)∧(∀a b:Int,(a>b)=(b<a))∧(∀a b:Int,(a≥b)=(b≤a))∧(∀a b:Nat,(a>b)=(b<a))∧(∀a b:Nat,(a≥b)=(b≤a))∧(∀a b:Int,(¬a<b)=(b≤a))∧(∀a b:Int,(¬a≤b)=(b<a))∧
  (∀(p:Prop) [Decidable p],(¬ ¬p)=p)∧(∀n:Nat,(n:Int).toNat=n)∧(∀m n:Nat,((m:Int)<n)=(m<n))∧(∀m n:Nat,((m:Int)≤n)=(m≤n))∧(∀a b:Nat,(¬a<b)=(b≤a))∧(∀a b:Nat,(¬a≤b)=(b<a))∧
  (∀(p:Prop) [Decidable p] (b:Bool),(if p then b else false)=(decide p&&b))∧(∀(p:Prop) [Decidable p] (b:Bool),(if p then true else b)=(decide p||b))∧(∀(p:Prop) [Decidable p] (b:Bool),(if p then false else b)=(!decide p&&b))∧(∀(p:Prop) [Decidable p] (b:Bool),(if p then b else true)=(!decide p||b))∧
  (∀a b:Bool,((a&&b)=true)=(a=true∧b=true))∧(∀a b:Bool,((a||b)=true)=(a=true∨b=true))∧(∀a b:Bool,((a&&b)=false)=(a=false∨b=false))∧(∀a b:Bool,((a||b)=false)=(a=false∧b=false))∧(∀(b:Bool),decide (b=true)=b):=by
 refine⟨by simp,by simp,by simp,by simp,fun _ _ _ a b=>propext beq_iff_eq,fun _ _ _ a b=>propext bne_iff_ne,fun _ _ _ a b=>propext beq_eq_false_iff_ne,fun _ _ _ a b=>propext bne_eq_false_iff_eq,by simp,by simp,by simp,by simp,by simp,by simp,by simp,by simp,by simp,by simp,by simp,by simp,by simp,by simp,by simp,by simp,by simp,by simp,by simp,by simp,by simp,by simp⟩
theorem lens:(∀n:Nat,(n:Int).toNat=n)∧(∀(α:Type) (a b:List α),(a++b).length=a.length+b.length)∧(∀(α:Type) (a:α),[a].length=1)∧(∀(α:Type) (a:α) (l:List α),(a::l).length=l.length+1)∧(∀(α:Type),([]:List α).length=0)∧(∀(α:Type) (n:Nat) (a:α),(eK n a).length=n)∧
  (∀(α:Type) (l:List α) (n:Nat) (a:α),(l.set n a).length=l.length)∧(∀(α β:Type) (f:α→β) (l:List α),(l.map f).length=l.length)∧(∀(α:Type) (l:List α) (n:Nat),(l.take n).length=min n l.length)∧(∀(α:Type) (l:List α) (n:Nat),(l.drop n).length=l.length-n)∧(∀n:Nat,(bT n).length=n):=by
 refine⟨by simp,by simp,by simp,by simp,by simp,by simp,by simp,by simp,by simp,by simp,by simp⟩
theorem bS{p:Prop}{l:List Prop}(h:p)(k:tF l):tF (p::l):=⟨h,k⟩
theorem bH:tF []:=True.intro
theorem cB{α:Type}(l:List α)(k:Nat)(d:α)(h:k<l.length):l.take (k+1)=l.take k++ [l.getD k d]:=by
 rw[List.take_add_one,aA,aC h];rfl
theorem bZ(a:Int)(n:Nat)(h:a=n)(h2:n<9223372036854775807):af.wrap (a+1)=((n+1:Nat):Int):=by
 subst h;rw[IntWalk.i64_in _ (by omega)];omega
theorem KI{P:Program}{ty:Tag→Nat}{f:FuncId}{xs:List S1}{v:Value}(h:Sound ty P f xs [.a (.lit v)]){w:World}{us:List Value}(ha:cW (Mp w) xs us)(hA:IK w:=by first|assumption|exact trivial):Calls P f us.toArray w (WA w v):=by
 refine(h.2 w us hA ha).mono ?_
 rintro e w' ⟨u,fp,rfl,hb,_,f1,f2,⟨rfl,_⟩,_⟩
 exact⟨rfl,hb⟩
theorem Es{w:World}{v:Value}(h:v.oneCell'=true):Mp w (.a (.lit v)) v:=⟨[],rfl,h,rfl⟩
theorem eu{P:Program}{ty:Tag→Nat}{w0:eM}{c:Code}{Q:Post}{st:St}(d:Nat){t:Tag}{l:List (T t)}(h:look st.sl d=some (.one (.a (.sl t l))))(k:l.length≤9223372036854775807→W P ty w0 c Q st):W P ty w0 c Q st:=by
 intro a w iv
 obtain⟨env,g⟩:=iv.good
 obtain⟨fp,⟨oa,cap,_,h1,h2,_⟩,_⟩:=g.slot d _ h
 have e:maxLen=9223372036854775807:=by decide
 exact k (by omega) a w iv
theorem b7{P:Program}{ty:Tag→Nat}{w0:eM}{c:Code}{Q:Post}{st:St}(d i:Nat){cs:List V}{t:Tag}{l:List (T t)}(h:look st.sl d=some (.one (.agg cs)))(hc:cs[i]? =some (.sl t l))(k:l.length≤9223372036854775807→W P ty w0 c Q st):W P ty w0 c Q st:=by
 intro a w iv
 obtain⟨env,g⟩:=iv.good
 obtain⟨us,_,hr⟩:=g.slot d _ h
 obtain⟨u,_,fp,⟨oa,cap,_,h1,h2,_⟩,_⟩:=hr.at hc
 have e:maxLen=9223372036854775807:=by decide
 exact k (by omega) a w iv
theorem xL{α:Type} [DecidableEq α](a b:List α)(d:α)(k:Nat)(ha:k<a.length)(hb:k<b.length)(h:a.take k=b.take k)(he:a.getD k d=b.getD k d):a.take (k+1)=b.take (k+1):=by
 rw[cB a k d ha,cB b k d hb,h,he]
theorem Dc{α:Type} [BEq α] [LawfulBEq α](a b:List α)(d:α)(k:Nat)(he:a.getD k d≠b.getD k d):(a==b)=false:=by
 rw[beq_eq_false_iff_ne];rintro rfl;exact he rfl
theorem Dd{α:Type} [BEq α] [LawfulBEq α](a b:List α)(k:Nat)(hk:k=a.length)(hl:a.length=b.length)(h:a.take k=b.take k):(a==b)=true:=by
 rw[aD (by omega),aD (by omega)]at h
 rw[h];simp
theorem Gz{α:Type} [BEq α] [LawfulBEq α](a b:List α)(hl:(a.length:Int)≠b.length):(a==b)=false:=by
 rw[beq_eq_false_iff_ne];rintro rfl;exact hl rfl
theorem acW{x y:UInt8}(h:(x.toNat:Int)=y.toNat):x=y:=by
 have:x.toNat=y.toNat:=by omega
 exact UInt8.toNat_inj.1 this
theorem rB(a b:List UInt8):bP a++bP b=bP (a++b):=by
 apply ByteArray.ext
 simp[bP]
theorem GA(a:List UInt8):(bP a).data.toList=a:=rfl
theorem dR(a:List UInt8):(bP a).size=a.length:=rfl
theorem RM(l:List (List UInt8)):l.map ((fun x:ByteArray=>x.data.toList)∘bP)=l:=List.map_id l
theorem jV:af.max=9223372036854775807:=by decide
end
section
theorem acX{α:Type}(f:α→Nat)(l:List α)(d:α)(k:Nat)(h:k<l.length):((l.take (k+1)).map f).sum=((l.take k).map f).sum+f (l.getD k d):=
 QV l f k _ (by rw[aA,aC h];rfl)
theorem ahs(x:UInt8):cT (cQ ((x.toNat:Nat):Int))=x:=by simp
theorem we(n:Int):0≤cC.wrap n∧cC.wrap n<256:=by
 unfold RN
 simp only[Mu,RP]
 simp
 omega
theorem u8n(x:UInt8):0≤((x.toNat:Nat):Int)∧((x.toNat:Nat):Int)<256:=by
 have:=x.toNat_lt
 omega
theorem aoo(n:Int):(((cT (cC.wrap n).toNat).toNat:Nat):Int)=cC.wrap n:=by
 have h:=we n
 generalize cC.wrap n=m at h
 simp
 omega
section
variable{α:Type}{mk:Int→α→α}{mn:α→Nat}
end
end
section
theorem dm{a:Int}(h: -9223372036854775808≤a∧a≤9223372036854775807):af.wrap a=a:=IntWalk.i64_in _ (by omega)
theorem GB(n:Int):cC.wrap n=n % 256:=by
 unfold RN
 simp only[Mu,RP]
 simp
def b8(n:Int):UInt8:=cT (cC.wrap n).toNat
theorem Et(n:Int):((b8 n).toNat:Int)=n % 256:=by unfold b8;rw[aoo,GB]
theorem Vd{x y:UInt8}(h:(x.toNat:Int)=y.toNat):x=y:=acW h
theorem ofNat_toNat(n:Int)(h0:0≤n)(h1:n<256):((cT n.toNat).toNat:Int)=n:=by
 simp;omega
theorem ofNat_eq{n:Int}{x:UInt8}(h0:0≤n)(h1:n<256)(h:n=x.toNat):cT n.toNat=x:=by
 apply Vd;rw[ofNat_toNat n h0 h1,h]
theorem Eu{a b:Int}(h:a % 256=b % 256):b8 a=b8 b:=by
 apply Vd;rw[Et,Et,h]
theorem iP{a b:Int}(h:0≤a):a.tmod b=a % b:=Int.tmod_eq_emod_of_nonneg h
theorem tH{a b:Int}(h:0≤a):a.tdiv b=a/b:=Int.tdiv_eq_ediv_of_nonneg h
theorem md_eq(p q:Int)(h1:1≤q)(h2:q≤1000000000000):(af.wrap (p.tmod q+q)).tmod q=p % q:=by
 have hb: -q<p.tmod q∧p.tmod q<q:=⟨Int.lt_tmod_of_pos p (by omega),Int.tmod_lt_of_pos p (by omega)⟩
 rw[dm (by omega),iP (by omega),Int.add_emod_right]
 rcases Int.le_total 0 p with h|h
 ·rw[iP h,Int.emod_emod_of_dvd _ (Int.dvd_refl q)]
 ·have e:p.tmod q=p-q*p.tdiv q:=by have:=Int.tmod_add_mul_tdiv p q;omega
  rw[e,Int.sub_mul_emod_self_left]
def hs1(h v:Int):Int:=(h*1000003+v % 2147483647+13)% 2147483647
def hsh(l:List Int):Int:=l.foldl hs1 11
def kh(k:Int)(l:List Int):Int:=hsh (k::(l++ [k]))
theorem ZM(h v:Int):0≤hs1 h v∧hs1 h v<2147483647:=⟨mg _ (by decide),lN _ (by decide)⟩
theorem xM{α β:Type}(f:β→α→β)(b:β)(l:List α)(k:Nat)(d:α)(h:k<l.length):(l.take (k+1)).foldl f b=f ((l.take k).foldl f b) (l.getD k d):=by
 rw[cB l k d h,gf];rfl
theorem GC: ∀l:List Int,0≤hsh l∧hsh l<2147483647:=by
 have g: ∀(l:List Int) (a:Int),(0≤a∧a<2147483647)→0≤l.foldl hs1 a∧l.foldl hs1 a<2147483647:=by
  intro l
  induction l with
  |nil=>intro a h;exact h
  |cons x r ih=>intro a _;exact ih _ (ZM a x)
 exact fun l=>g l 11 (by decide)
theorem gB(k:Int)(l:List Int):0≤kh k l∧kh k l<2147483647:=GC _
theorem alL{h v:Int}(h0:0≤h)(h1:h<2147483647):(af.wrap (af.wrap (af.wrap (h*1000003)+v % 2147483647)+13)).tmod 2147483647=hs1 h v:=by
 have hv:0≤v % 2147483647∧v % 2147483647<2147483647:=⟨mg _ (by decide),lN _ (by decide)⟩
 rw[dm (a:=h*1000003) (by omega),dm (a:=h*1000003+v % 2147483647) (by omega),dm (by omega),iP (by omega)]
 rfl
def F6(n:Int):Int:=if n=0 then 1 else n
theorem Jy{n:Int}(h:0≤n):(if n>1 then n else 1)=F6 n:=by
 unfold F6;split<;>split<;>omega
theorem wg{n:Int}(h:0≤n∧n<2147483647):1≤F6 n∧F6 n<2147483647:=by unfold F6;split<;>omega
theorem aop{h:Int}(h0:0≤h)(h1:h<2147483647):0≤h*h∧h*h≤4611686009837453316:=by
 have:=Int.mul_le_mul (show h≤2147483646 by omega) (show h≤2147483646 by omega) h0 (by decide)
 exact⟨Int.mul_nonneg h0 h0,by omega⟩
def cs(s k:Int):Int:=(kh s [47,k]*kh s [47,k]+5)% 2147483647
theorem Ak(s k:Int):0≤cs s k∧cs s k<2147483647:=⟨mg _ (by decide),lN _ (by decide)⟩
theorem cs_eq{h:Int}(h0:0≤h)(h1:h<2147483647):(af.wrap (af.wrap (h*h)+5)).tmod 2147483647=(h*h+5)% 2147483647:=by
 have:=aop h0 h1
 rw[dm (a:=h*h) (by omega),dm (by omega),iP (by omega)]
theorem aqM{x:Int}(h:0≤x):af.wrap (aH af.bits x&&&aH af.bits 1).toNat=x % 2:=by
 obtain⟨n,rfl⟩:=o7 h
 have e:(aH af.bits (n:Int)&&&aH af.bits 1).toNat=n % 2:=by
  rw[BitVec.toNat_and]
  have h1:(aH af.bits 1).toNat=1:=by decide
  have h2:(aH af.bits (n:Int)).toNat=n % 2^64:=by
   rw[iY,jP];rfl
  rw[h1,h2,Nat.and_one_is_mod]
  omega
 rw[e,dm (by omega)]
 omega
def rsb(h:Int):Int:=h*h % 2147483647/512 % 2
theorem alM{h:Int}(h0:0≤h)(h1:h<2147483647):af.wrap (aH af.bits (((af.wrap (h*h)).tmod 2147483647).fdiv (2^(min (cQ 9) af.bits)))&&&aH af.bits 1).toNat=rsb h:=by
 have:=aop h0 h1
 have e:(2:Int)^(min (cQ 9) af.bits)=512:=by decide
 rw[dm (a:=h*h) (by omega),iP (by omega),e,jH _ (by decide)]
 have hm:0≤h*h % 2147483647:=mg _ (by decide)
 rw[aqM (by omega)]
 rfl
theorem ZN(h:Int):rsb h=0∨rsb h=1:=by unfold rsb;omega
def iG:List UInt8→List UInt8→List UInt8
 | [],b=>b
 |a,[]=>a
 |x::a,y::b=>(x^^^y)::iG a b
theorem o8(a:List UInt8):iG a []=a:=by cases a<;>rfl
theorem vH(a:List UInt8):iG [] a=a:=by cases a<;>rfl
theorem gK: ∀a b:List UInt8,(iG a b).length=max a.length b.length
 | [],b=>by simp[iG]
 |x::a,[]=>by simp[iG]
 |x::a,y::b=>by simp[iG,gK a b]
theorem Nx: ∀a b:List UInt8,iG a b=iG b a
 | [],b=>by rw[vH,o8]
 |x::a,[]=>by rw[vH,o8]
 |x::a,y::b=>by rw[iG,iG,Nx a b,UInt8.xor_comm]
theorem acY(x y:UInt8):cT (cC.wrap ((aH cC.bits (x.toNat:Int)^^^aH cC.bits (y.toNat:Int)).toNat:Int)).toNat=x^^^y:=by
 have h:(aH cC.bits (x.toNat:Int)^^^aH cC.bits (y.toNat:Int)).toNat=(x^^^y).toNat:=by
  rw[iY,iY,IW,jP,jP,UInt8.toNat_xor]
  have hx:=x.toNat_lt
  have hy:=y.toNat_lt
  show x.toNat % 2^8^^^y.toNat % 2^8=_
  rw[jJ (by omega),jJ (by omega)]
 rw[h,GB]
 apply ofNat_eq<;>have:=(x^^^y).toNat_lt<;>omega
def at0(l:List UInt8)(i:Nat):UInt8:=l.getD i 0
theorem wh: ∀(a b:List UInt8) (k:Nat),k<max a.length b.length→(iG a b).take (k+1)=(iG a b).take k++ [at0 a k^^^at0 b k]
 | [],b,k,h=>by
   rw[vH,cB b k 0 (by simpa using h)]
   simp[at0]
 |x::a,[],k,h=>by
  rw[o8,cB (x::a) k 0 (by simpa using h)]
  simp[at0]
 |x::a,y::b,0,h=>by simp[iG,at0]
 |x::a,y::b,k+1,h=>by
  rw[iG,n9,n9,wh a b k (by simp at h;omega)]
  simp[at0]
theorem getD_drop{α:Type}(l:List α)(k:Nat)(d:α)(h:k<l.length):l.drop k=l.getD k d::l.drop (k+1):=by
 rw[fG h,aA,aC h];rfl
theorem Al{α:Type}(f l:List α)(k:Nat)(d y:α)(h:k<l.length)(hf:k<f.length)(hy:f.getD k d=y):(f.take k++l.drop k).set k y=f.take (k+1)++l.drop (k+1):=by
 have hk:(f.take k).length=k:=by rw[bV];omega
 rw[Am _ _ (by omega),hk,uQ,getD_drop l k d h,List.set_cons_zero,cB f k d hf,bO,hy]
 rfl
theorem o9{α:Type}(f l:List α)(k:Nat)(d:α)(hf:k≤f.length):(f.take k++l.drop k).getD k d=l.getD k d:=by
 have hk:(f.take k).length=k:=by rw[bV];omega
 rw[aA,cU (by omega),hk,uQ,cK,aA,Nat.add_zero]
theorem pg{α:Type}(f l:List α)(k:Nat)(hf:f.length=l.length)(h:k≤l.length):(f.take k++l.drop k).length=l.length:=by
 rw[bf,bV,b9];omega
theorem rC{α β:Type}(f:α→β)(l:List α)(k:Nat)(d:α)(h:k<l.length):(l.take (k+1)).map f=(l.take k).map f++ [f (l.getD k d)]:=by
 rw[cB l k d h,gT];rfl
theorem De{β:Type}(f:Nat→β)(k:Nat):(bT (k+1)).map f=(bT k).map f++ [f k]:=by
 rw[fP,gT];rfl
theorem An{α:Type}(p:α→Bool)(l:List α)(k:Nat)(d:α)(h:k<l.length):(l.take (k+1)).all p=((l.take k).all p&&p (l.getD k d)):=by
 rw[cB l k d h,jx];simp
theorem ac0{α:Type}(p:α→Bool)(l:List α)(k:Nat)(d:α)(h:k<l.length):(l.take (k+1)).any p=((l.take k).any p||p (l.getD k d)):=by
 rw[cB l k d h,List.any_append];simp
theorem Ew{α:Type}(l:List α)(p:α→Bool)(d:α)(k:Nat)(h:k<l.length)(h2:p (l.getD k d)=true):l.any p=true:=by
 rw[fB]
 refine⟨l.getD k d,?_,h2⟩
 rw[aA,aC h];simp
theorem KK{α:Type}(l:List α)(p:α→Bool)(d:α)(k:Nat)(h:k<l.length)(h2:p (l.getD k d)=false):l.all p=false:=by
 rw[qx]
 refine⟨l.getD k d,?_,by rw[h2];decide⟩
 rw[aA,aC h];simp
theorem Df{α:Type}(l:List α)(k:Nat)(d:α)(h:k<l.length):l[k]? =some (l.getD k d):=by
 rw[aA,aC h];rfl
theorem cG{α:Type}(l:List α)(k:Nat):(l.take k).length≤k:=by rw[bV];omega
def inr(x lo hi:Int):Bool:=if decide (x≥lo)then decide (x≤hi)else false
theorem dS{x lo hi:Int}:(inr x lo hi=true)=(lo≤x∧x≤hi):=by simp[inr]
theorem ajB{x lo hi:Int}:(inr x lo hi=false)= ¬(lo≤x∧x≤hi):=by rw[←dS];simp
theorem ZO{α:Type}{l:List α}:(l.isEmpty=true)=(l= []):=by simp
theorem bG:((∀(p:Prop) [Decidable p],(decide p=true)=p)∧(∀(p:Prop) [Decidable p],(decide p=false)= ¬p)∧(∀b:Bool,((!b)=true)=(b=false))∧(∀b:Bool,((!b)=false)=(b=true))∧(∀(α:Type) [BEq α] [LawfulBEq α] (a b:α),((a==b)=true)=(a=b))∧(∀(α:Type) [BEq α] [LawfulBEq α] (a b:α),((a !=b)=true)=(¬a=b))∧(∀(α:Type) [BEq α] [LawfulBEq α] (a b:α),((a==b)=false)=(¬a=b))∧(∀(α:Type) [BEq α] [LawfulBEq α] (a b:α),((a !=b)=false)=(a=b))∧(∀(α:Type) (a b:α),(a≠b)= ¬a=b)∧(∀a b:Int,(a>b)=(b<a))∧(∀a b:Int,(a≥b)=(b≤a))∧(∀a b:Nat,(a>b)=(b<a))∧(∀a b:Nat,(a≥b)=(b≤a))∧(∀a b:Int,(¬a<b)=(b≤a))∧(∀a b:Int,(¬a≤b)=(b<a))∧(∀(p:Prop) [Decidable p],(¬ ¬p)=p)∧(∀n:Nat,(n:Int).toNat=n)∧(∀m n:Nat,((m:Int)<n)=(m<n))∧(∀m n:Nat,((m:Int)≤n)=(m≤n))∧(∀a b:Nat,(¬a<b)=(b≤a))∧(∀a b:Nat,(¬a≤b)=(b<a))∧(∀(p:Prop) [Decidable p] (b:Bool),(if p then b else false)=(decide p&&b))∧(∀(p:Prop) [Decidable p] (b:Bool),(if p then true else b)=(decide p||b))∧(∀(p:Prop) [Decidable p] (b:Bool),(if p then false else b)=(!decide p&&b))∧(∀(p:Prop) [Decidable p] (b:Bool),(if p then b else true)=(!decide p||b))∧(∀a b:Bool,((a&&b)=true)=(a=true∧b=true))∧(∀a b:Bool,((a||b)=true)=(a=true∨b=true))∧(∀a b:Bool,((a&&b)=false)=(a=false∨b=false))∧(∀a b:Bool,((a||b)=false)=(a=false∧b=false))∧(∀(b:Bool),decide (b=true)=b))∧(∀x lo hi:Int,(inr x lo hi=true)=(lo≤x∧x≤hi))∧(∀x lo hi:Int,(inr x lo hi=false)= ¬(lo≤x∧x≤hi))∧(∀(α:Type) (l:List α),(l.isEmpty=true)=(l= [])):=⟨nb,fun _ _ _=>dS,fun _ _ _=>ajB,fun _ _=>ZO⟩
theorem RR(l:List Int)(k:Nat)(h:k<l.length):hsh (l.take (k+1))=(af.wrap (af.wrap (af.wrap (hsh (l.take k)*1000003)+(l.getD k (aR .int))% 2147483647)+13)).tmod 2147483647:=by
 rw[alL (GC _).1 (GC _).2]
 exact xM hs1 11 l k _ h
def Mk(l:List UInt8):List Int:=(l.length:Int)::l.map fun c=>(c.toNat:Int)
theorem RS(l:List UInt8)(k:Nat)(h:k<l.length):(l.length:Int)::(l.take (k+1)).map (fun c=>(c.toNat:Int))=((l.length:Int)::(l.take k).map (fun c=>(c.toNat:Int)))++ [af.wrap ((l.getD k (aR .u8)).toNat:Int)]:=by
 have:=(l.getD k (aR .u8)).toNat_lt
 rw[dm (by omega),rC (fun c:UInt8=>(c.toNat:Int)) l k (aR .u8) h]
 rfl
def stream(s:Int)(n:Nat):List UInt8:=(bT n).map fun i:Nat=>b8 (cs s (100+(i:Int))/256)
theorem jy(s:Int)(n:Nat):(stream s n).length=n:=by simp[stream]
theorem Ig(s:Int)(k:Nat)(h:k≤1000):stream s (k+1)=stream s k++ [cT (cC.wrap (af.wrap ((cs s (af.wrap (100+(k:Int)))).tdiv 256))).toNat]:=by
 have h1:=Ak s (100+(k:Int))
 rw[dm (a:=100+(k:Int)) (by omega),tH h1.1,dm (by omega)]
 exact De (fun i:Nat=>b8 (cs s (100+(i:Int))/256)) k
theorem Ih{α:Type}(l:List (List α))(d:List α)(k:Nat)(h:k<l.length):((l.take (k+1)).map aL).sum=((l.take k).map aL).sum+(l.getD k d).length:=acX aL l d k h
theorem Ex{α:Type}(l:List (List α))(d:List α)(k:Nat)(h:k<l.length):(l.take (k+1)).flatten=(l.take k).flatten++l.getD k d:=by
 rw[cB l k d h,List.flatten_append];simp
theorem uR{α:Type}(l:List (List α))(k:Nat):(l.take k).flatten.length≤(l.map aL).sum:=by
 rw[List.length_flatten];exact kE l aL k
end
section
theorem xN{α:Type}(f l:List α)(k:Nat)(d y:α)(h:k<l.length)(hf:f.length=l.length)(hy:f.getD k d=y):f.take (k+1)++l.drop (k+1)=(f.take k++l.drop k).set k y:=(Al f l k d y h (by omega) hy).symm
theorem Ii{α:Type}(f:List α)(k:Nat)(d y:α)(h:k<f.length)(hy:f.getD k d=y):f.take (k+1)=f.take k++ [y]:=by rw[cB f k d h,hy]
theorem sR{α:Type}(f l:List α)(k:Nat)(hf:f.length=l.length)(h:l.length≤k):f.take k++l.drop k=f:=by
 rw[aD (by omega),List.drop_eq_nil_of_le h,dA]
theorem jg{β:Type}(n:Nat)(g:Nat→β)(k:Nat)(d:β)(h:k<n):((bT n).map g).getD k d=g k:=by
 rw[aA,dB,List.getElem?_range h];rfl
def so(s:Int)(l:List UInt8):List UInt8:=(bT l.length).map fun i:Nat=>b8 ((l.getD i (aR .u8)).toNat+kh s [(i:Int)]% 256)
theorem nB(s:Int)(l:List UInt8):(so s l).length=l.length:=by simp[so]
theorem RY(s:Int)(l:List UInt8)(k:Nat)(h:k<l.length):(so s l).getD k (aR .u8)=b8 ((l.getD k (aR .u8)).toNat+kh s [(k:Int)]% 256):=jg _ _ k _ h
theorem ZQ(s:Int)(l:List UInt8)(k:Nat)(h:k<l.length):(so s l).take (k+1)++l.drop (k+1)=((so s l).take k++l.drop k).set k (cT (cC.wrap ((((so s l).take k++l.drop k).getD k (aR .u8)).toNat+cC.wrap ((kh s [(k:Int)]).tmod 256))).toNat):=by
 refine xN _ _ k (aR .u8) _ h (nB s l) ?_
 rw[RY s l k h,o9 _ _ _ _ (by rw[nB];omega)]
 refine Eu ?_
 have:=gB s [(k:Int)]
 rw[GB ((kh s [(k:Int)]).tmod 256),iP this.1]
 omega
theorem ZR(s:Int)(l:List UInt8)(k:Nat)(h:k<l.length):(so s l).take (k+1)=(so s l).take k++ [cT (cC.wrap ((af.wrap (af.wrap ((l.getD k (aR .u8)).toNat:Int)+(kh s [(k:Int)]).tmod 256)).tmod 256)).toNat]:=by
 refine Ii _ k (aR .u8) _ (by rw[nB];exact h) ?_
 rw[RY s l k h]
 refine Eu ?_
 have:=gB s [(k:Int)]
 have hx:=(l.getD k (aR .u8)).toNat_lt
 rw[iP this.1,dm (a:=((l.getD k (aR .u8)).toNat:Int)) (by omega),dm (by omega),iP (by omega)]
 omega
def decr(s:Int)(l:List UInt8):List UInt8:=(bT l.length).map fun i:Nat=>b8 ((l.getD i (aR .u8)).toNat-kh s [(i:Int)]% 256)
theorem tK(s:Int)(l:List UInt8):(decr s l).length=l.length:=by simp[decr]
theorem RZ(s:Int)(l:List UInt8)(k:Nat)(h:k<l.length):(decr s l).getD k (aR .u8)=b8 ((l.getD k (aR .u8)).toNat-kh s [(k:Int)]% 256):=jg _ _ k _ h
theorem ZS(s:Int)(l:List UInt8)(k:Nat)(h:k<l.length):(decr s l).take (k+1)++l.drop (k+1)=((decr s l).take k++l.drop k).set k (cT (cC.wrap ((((decr s l).take k++l.drop k).getD k (aR .u8)).toNat-cC.wrap ((kh s [(k:Int)]).tmod 256))).toNat):=by
 refine xN _ _ k (aR .u8) _ h (tK s l) ?_
 rw[RZ s l k h,o9 _ _ _ _ (by rw[tK];omega)]
 refine Eu ?_
 have:=gB s [(k:Int)]
 rw[GB ((kh s [(k:Int)]).tmod 256),iP this.1]
 omega
theorem ZT(s:Int)(l:List UInt8)(k:Nat)(h:k<l.length):(decr s l).take (k+1)=(decr s l).take k++ [cT (cC.wrap ((af.wrap (af.wrap ((l.getD k (aR .u8)).toNat:Int)-(kh s [(k:Int)]).tmod 256))% 256)).toNat]:=by
 refine Ii _ k (aR .u8) _ (by rw[tK];exact h) ?_
 rw[RZ s l k h]
 refine Eu ?_
 have:=gB s [(k:Int)]
 have hx:=(l.getD k (aR .u8)).toNat_lt
 rw[iP this.1,dm (a:=((l.getD k (aR .u8)).toNat:Int)) (by omega),dm (by omega)]
 omega
theorem ac3(a b:List UInt8)(k:Nat)(h:k<max a.length b.length):(iG a b).getD k (aR .u8)=a.getD k 0^^^b.getD k 0:=by
 have h1:=wh a b k h
 have h2:=cB (iG a b) k (aR .u8) (by rw[gK];exact h)
 rw[h1]at h2
 have:=List.append_inj_right h2 rfl
 simp only[List.cons.injEq,and_true]at this
 rw[←this];rfl
theorem R2(p q:List UInt8)(k:Nat)(h:k<q.length)(hl:q.length≤p.length):(iG p q).take (k+1)++p.drop (k+1)=((iG p q).take k++p.drop k).set k (cT (cC.wrap ((aH cC.bits ((((iG p q).take k++p.drop k).getD k (aR .u8)).toNat:Int)^^^aH cC.bits ((q.getD k (aR .u8)).toNat:Int)).toNat:Int)).toNat):=by
 refine xN _ _ k (aR .u8) _ (by omega) (by rw[gK];omega) ?_
 rw[ac3 p q k (by omega),o9 _ _ _ _ (by rw[gK];omega),acY]
 rfl
theorem R3(p q:List UInt8)(k:Nat)(h:q.length≤k)(hl:q.length≤p.length)(hk:k≤q.length):(iG p q).take k++p.drop k=iG p q:=by
 have hk:k=q.length:=by omega
 subst hk
 have key: ∀p q:List UInt8,q.length≤p.length→(iG p q).take q.length++p.drop q.length=iG p q:=by
  intro p
  induction p with
  |nil=>intro q h;cases q with|nil=>rfl|cons _ _=>simp at h
  |cons x p ih=>intro q h;cases q with
   |nil=>rw[o8];rfl
   |cons y q=>simp only[iG,bF,n9,tj,List.cons_append];rw[ih q (by simpa using h)]
 exact key p q hl
theorem alO(a b:List UInt8)(k:Nat)(ha:k<a.length)(hb:k<b.length):(iG a b).take (k+1)=(iG a b).take k++ [cT (cC.wrap ((aH cC.bits ((a.getD k (aR .u8)).toNat:Int)^^^aH cC.bits ((b.getD k (aR .u8)).toNat:Int)).toNat:Int)).toNat]:=by
 rw[wh a b k (by omega),acY];rfl
theorem R4{α:Type}(l:List α)(k:Nat)(d:α)(h:l.length≤k):l.getD k d=d:=by
 rw[aA,List.getElem?_eq_none h];rfl
theorem aor(a b:List UInt8)(k:Nat)(ha:k<a.length)(hb:b.length≤k):(iG a b).take (k+1)=(iG a b).take k++ [cT (((a.getD k (aR .u8)).toNat:Int)).toNat]:=by
 rw[wh a b k (by omega),ahs]
 have:at0 b k=0:=R4 b k 0 hb
 rw[this];simp;rfl
theorem aos(a b:List UInt8)(k:Nat)(ha:a.length≤k)(hb:k<b.length):(iG a b).take (k+1)=(iG a b).take k++ [cT (cC.wrap ((aH cC.bits (0:Int)^^^aH cC.bits ((b.getD k (aR .u8)).toNat:Int)).toNat:Int)).toNat]:=by
 rw[wh a b k (by omega)]
 have:at0 a k=0:=R4 a k 0 ha
 rw[this]
 have:=acY 0 (b.getD k (aR .u8))
 rw[show((0:UInt8).toNat:Int)=0 from rfl]at this
 rw[this];rfl
theorem Pe{l:List (List UInt8)}(h:eN aL l≤1048576)(k:Nat)(hk:k<l.length):(l.getD k (aR (.sl .u8))).length≤1048576:=mG h (Df l k _ hk)
def jQ(key round dir rows:Int):Int:=if(1≤rows∧rows≤64)∧0≤round∧round≤1000000000000 then cs (kh key [79,round,dir]) 0 % rows else-1
def IY(seed round rows:Int):Int:=if 1≤rows∧rows≤64 then cs (kh seed [157,round]) 0 % rows else-1
def tL(key counter:Int)(data:List UInt8):Int:=kh key ([71,counter]++data.map fun c=>(c.toNat:Int))
theorem Xn(l:List UInt8)(counter:Int)(k:Nat)(h:k<l.length): [71,counter]++(l.take (k+1)).map (fun c=>(c.toNat:Int))=([71,counter]++(l.take k).map (fun c=>(c.toNat:Int)))++ [af.wrap ((l.getD k (aR .u8)).toNat:Int)]:=by
 have:=(l.getD k (aR .u8)).toNat_lt
 rw[dm (by omega),rC (fun c:UInt8=>(c.toNat:Int)) l k (aR .u8) h,bO]
def four(n:Int):List UInt8:= [b8 n,b8 (n/256),b8 (n/65536),b8 (n/16777216)]
theorem Xo(n:Int): [cT (cC.wrap n).toNat,cT (cC.wrap (n.fdiv (2^(min (cQ 8) af.bits)))).toNat,cT (cC.wrap (n.fdiv (2^(min (cQ 16) af.bits)))).toNat,cT (cC.wrap (n.fdiv (2^(min (cQ 24) af.bits)))).toNat]=four n:=by
 have e1:(2:Int)^(min (cQ 8) af.bits)=256:=by decide
 have e2:(2:Int)^(min (cQ 16) af.bits)=65536:=by decide
 have e3:(2:Int)^(min (cQ 24) af.bits)=16777216:=by decide
 rw[e1,e2,e3,jH _ (by decide),jH _ (by decide),jH _ (by decide)]
 rfl
def nO(p:Plain):Bool:=(inr p.kind 0 3)&&decide ((p.body.length:Int)≤14)
def jl(k:Int):Bool:=inr k 1 2147483646
def oq(key counter:Int)(p:Plain):Bool:=jl key&&(inr counter 0 1000000000000)&&nO p
def ke(key counter:Int)(p:Plain):List UInt8:= [b8 p.kind,b8 p.body.length]++p.body++(stream (kh key [61,counter]) 18).drop p.body.length
def tM(key counter:Int):Int:=F6 (kh key [67,counter])
def Ar(key counter:Int)(p:Plain):List UInt8:=if oq key counter p then so (tM key counter) (ke key counter p)++four (tL key counter (so (tM key counter) (ke key counter p)))else []
def xO(key dir:Int):Int:=F6 (kh key [83,dir])
def cover(seed:Int):List UInt8:=stream (kh seed [73]) 24
end
section
theorem alP(b c:Bool):(if b=true then true else c)=(b||c):=by cases b<;>rfl
theorem At(b c:Bool):(if b=true then c else false)=(b&&c):=by cases b<;>rfl
theorem ahu(a b:Int):(!decide (a<b))=decide (b≤a):=by rw[←decide_not];congr 1;exact propext Int.not_lt
theorem ahv(a b:Int):(!decide (a≤b))=decide (b<a):=by rw[←decide_not];congr 1;exact propext Int.not_le
theorem bne_not(a b:Int):(a !=b)= !(a==b):=rfl
theorem deq(a b:Int):decide (a=b)=(a==b):=rfl
theorem bC:(∀b c:Bool,(if b=true then true else c)=(b||c))∧(∀b c:Bool,(if b=true then c else false)=(b&&c))∧(∀a b:Int,a>b↔b<a)∧(∀a b:Nat,a>b↔b<a)∧(∀a b:Int,a≥b↔b≤a)∧(∀a b:Nat,a≥b↔b≤a)∧(∀a b:Int,(!decide (a<b))=decide (b≤a))∧(∀a b:Int,(!decide (a≤b))=decide (b<a))∧(∀a b:Int,(a !=b)= !(a==b))∧(∀a b:Int,decide (a=b)=(a==b))∧(∀(p:Prop) [Decidable p] [Decidable (¬p)],decide (¬p)= !decide p)∧(∀(α:Type) (a b:α),(a≠b)= ¬a=b)∧(∀a b:Bool,(!(a&&b))=(!a|| !b))∧(∀a b:Bool,(!(a||b))=(!a&& !b))∧(∀b:Bool,(!!b)=b)∧(∀b:Bool,(b&&true)=b)∧(∀b:Bool,(true&&b)=b)∧(∀b:Bool,(b||false)=b)∧(∀b:Bool,(false||b)=b)∧(∀n:Nat,(n:Int).toNat=n):=⟨alP,At,fun _ _=>Iff.rfl,fun _ _=>Iff.rfl,fun _ _=>Iff.rfl,fun _ _=>Iff.rfl,ahu,ahv,bne_not,deq,fun _=>decide_not,fun _ _ _=>rfl,Bool.not_and,Bool.not_or,Bool.not_not,Bool.and_true,dn,Bool.or_false,Bool.false_or,eE⟩
theorem aot{E R S:Bool}(h:E=true)(he:E= !R):(R&&S)=false:=by
 rw[h]at he
 cases R with
 |false=>rfl
 |true=>exact absurd he (by decide)
theorem cR{E R:Bool}(h:E=true)(he:E= !R):R=false:=by
 rw[h]at he
 cases R with
 |false=>rfl
 |true=>exact absurd he (by decide)
theorem cL{E R:Bool}(h:E=false)(he:E= !R):R=true:=by
 rw[h]at he
 cases R with
 |true=>rfl
 |false=>exact absurd he (by decide)
def eZ(d:DB):Bool:=decide ((d.rows.length:Int)≤64)&&d.rows.all fun r=>decide ((r.length:Int)=24)
def tN(rows:Int)(l:List bJ)(i:Nat):Bool:=inr (l.getD i (aR .bJ)).client 0 7&& !(decide ((0:Int)<i)&&decide ((l.getD i (aR .bJ)).client≤(l.getD (i-1) (aR .bJ)).client))&&eZ (l.getD i (aR .bJ)).share&&(((l.getD i (aR .bJ)).share.rows.length:Int)==rows)
def Au(s:cu):Bool:=inr s.id 0 3&&inr s.rows 1 64&&inr s.behavior 0 3&&inr s.round 0 100000&&decide ((s.received.length:Int)≤8)
def ec(s:cu):Bool:=Au s&&(bT s.received.length).all (tN s.rows s.received)
def vK(rows:Int)(l:List aX)(i:Nat):Bool:=inr (l.getD i (aR .aX)).round 0 100000&& !(decide ((0:Int)<i)&&decide ((l.getD i (aR .aX)).round≤(l.getD (i-1) (aR .aX)).round))&&eZ (l.getD i (aR .aX)).db&&(((l.getD i (aR .aX)).db.rows.length:Int)==rows)
def KQ(a:mD):Bool:=inr a.rows 1 64&&decide ((a.rounds.length:Int)≤8)
def jz(a:mD):Bool:=KQ a&&(bT a.rounds.length).all (vK a.rows a.rounds)
def gx(a:mD):Int:=if a.rounds.length=0 then-1 else(a.rounds.getD (a.rounds.length-1) (aR .aX)).round
def long(b:List UInt8):Bool:=decide ((14:Int)<b.length)
def ga(c:gI):Bool:=inr c.id 0 7&&inr c.fJ 0 7&& !(c.id==c.fJ)&&jl c.key&&decide ((c.bp.length:Int)≤16)&&decide ((c.inbox.length:Int)≤16)&& !c.bp.any long&& !c.inbox.any long&&inr c.sent 0 c.bp.length&&inr c.next 0 100000
def pE(a b:gI):Bool:=(a.id==b.id)&&(a.fJ==b.fJ)&&(a.key==b.key)&&(a.seed==b.seed)&&(a.bp==b.bp)
def Cf(a b:List (List UInt8)):Bool:=decide ((a.length:Int)≤b.length)&&(a==b.take a.length)
def fu(d:bR):Bool:=ga d.live&&ga d.saved&&pE d.live d.saved&&decide (d.saved.sent≤d.live.sent)&&decide (d.saved.next≤d.live.next)&&Cf d.saved.inbox d.live.inbox
def dG(n:Int):Bool:=inr n 2 4
def Mv(x:bN)(i:Nat):Bool:=ec (x.aG.getD i (aR .cu))&&((x.aG.getD i (aR .cu)).id==(i:Int))&&((x.aG.getD i (aR .cu)).rows==x.rows)&&((x.aG.getD i (aR .cu)).round==x.round)&&decide (((x.aG.getD i (aR .cu)).received.length:Int)≤0)
def okD(x:bN)(i:Nat):Bool:=fu (x.ah.getD i (aR .bR))&&((x.ah.getD i (aR .bR)).live.id==(i:Int))&&((x.ah.getD i (aR .bR)).live.fJ==((i^^^1:Nat):Int))&&((x.ah.getD i (aR .bR)).live.key==(x.ah.getD (i^^^1) (aR .bR)).live.key)&&decide ((x.ah.getD i (aR .bR)).live.next≤x.round)
def R5(x:bN):Bool:=inr x.rows 1 64&&dG x.aG.length&&inr x.ah.length 2 8&&((x.ah.length:Int).tmod 2==0)&&jz x.aK&&(x.aK.rows==x.rows)&&decide (gx x.aK<x.round)&&jl x.ck&&inr x.round 0 100000&&decide (0≤x.cancelled)
def okW(x:bN):Bool:=R5 x&&(bT x.aG.length).all (Mv x)&&(bT x.ah.length).all (okD x)
theorem lz{p:Nat→Bool}{k:Nat}(h:(bT k).all p=true)(hk:p k=true):(bT (k+1)).all p=true:=by
 rw[fP,jx,h];simp[hk]
theorem nC{p:Nat→Bool}{k n:Nat}(h:k<n)(hk:p k=false):(bT n).all p=false:=by
 rw[qx]
 exact⟨k,eg.2 h,by rw[hk];decide⟩
def fidx{α:Type}(p:α→Bool)(l:List α):Int:=if l.any p then(l.findIdx p:Int)else-1
theorem Av{α:Type}{p:α→Bool}{l:List α}{k:Nat}(d:α)(h:k<l.length)(h1:(l.take k).any p=false)(h2:p (l.getD k d)=true):fidx p l=k:=by
 have ha:l.any p=true:=Ew l p d k h h2
 have e:l=l.take k++l.getD k d::l.drop (k+1):=by rw[←getD_drop l k d h,jM]
 unfold fidx
 rw[if_pos ha]
 have hf:l.findIdx p=k:=by
  rw[List.findIdx_eq h]
  refine⟨?_,fun j hj=> ?_⟩
  ·rw[aA,aC h]at h2;exact h2
  ·rw[ct]at h1
   have:=h1 l[j] (by rw[List.mem_take_iff_getElem];exact⟨j,by omega,rfl⟩)
   simpa using this
 rw[hf]
theorem GI{α:Type}{p:α→Bool}{l:List α}(h:l.any p=false):fidx p l= -1:=by unfold fidx;rw[if_neg (by rw[h];decide)]
theorem Pg{α:Type}(p:α→Bool)(l:List α):decide (fidx p l≥0)=l.any p:=by
 unfold fidx
 cases h:l.any p
 ·rw[if_neg (by decide)];rfl
 ·rw[if_pos rfl];simp
theorem xR{α:Type}{p:α→Bool}{l:List α}{k:Nat}(d:α)(h:k<l.length)(h1:(l.take k).any p=false)(h2:p (l.getD k d)=false):(l.take (k+1)).any p=false:=by
 rw[ac0 p l k d h,h1,h2];rfl
theorem Aw{α:Type}(l:List α)(p:α→Bool):l.all p= !(l.any fun b=> !p b):=by
 induction l with
 |nil=>rfl
 |cons a r ih=>simp[ih]
end
section
theorem Ax(k n:Nat)(h:k<n)(he:n % 2=0):k^^^1<n:=by
 have h1:(k^^^1)/2=k/2:=by
  have:=KR (a:=k) (b:=1)
  simpa using this
 have h2:k^^^1<2*(k/2)+2:=by
  have:=Nat.div_add_mod (k^^^1) 2
  have:=Nat.mod_lt (k^^^1) (show 0<2 by decide)
  omega
 omega
theorem I1(k:Nat)(h:k<2^62):af.wrap (aH af.bits (k:Int)^^^aH af.bits 1).toNat=((k^^^1:Nat):Int):=by
 have h2:(aH af.bits (k:Int)^^^aH af.bits 1).toNat=k^^^1:=by
  rw[IW]
  have h1:(aH af.bits 1).toNat=1:=by decide
  have h2:(aH af.bits (k:Int)).toNat=k % 2^64:=by rw[iY,jP];rfl
  rw[h1,h2,jJ (by omega)]
 have hx:=Nat.xor_lt_two_pow (n:=62) h (show 1<2^62 by decide)
 rw[h2,dm (by omega)]
theorem xT{x:bN}(h:R5 x=true):x.ah.length % 2=0∧x.ah.length≤8∧2≤x.ah.length:=by
 simp only[R5,dS,az,beq_iff_eq]at h
 have h1:=h.1.1.1.1.1.1.2
 have h2:=h.1.1.1.1.1.1.1.2
 rw[iP (by omega)]at h1
 omega
theorem sA{x:bN}(h:okW x=true):R5 x=true:=by simp only[okW,az]at h;exact h.1.1
theorem ij{x:bN}(h:okW x=true):x.aG.length≤4∧2≤x.aG.length:=by
 have:=sA h
 simp only[R5,dG,dS,az,beq_iff_eq]at this
 have h1:=this.1.1.1.1.1.1.1.1.2
 omega
def svW(x:bN):Bool:=(bT x.aG.length).all (Mv x)&&dG x.aG.length
def dvW(x:bN):Bool:=((x.ah.length:Int).tmod 2==0)&&inr x.ah.length 2 8&&(bT x.ah.length).all (okD x)
def kA(x:bN)(c:Int):Bool:=inr c 0 (x.ah.length-1)
def iy(x:bN)(c:Int):Bool:=kA x c&&decide (((c.toNat^^^1:Nat):Int)<x.ah.length)
def eI(c:gI):Int:=if c.id<c.fJ then 0 else 1
def qg(c:gI)(at':Int):List UInt8:=Ar (xO c.key (eI c)) at' ⟨1,c.bp.getD at'.toNat (aR (.sl .u8))⟩
def uF(c:gI)(r n:Int):Bool:=ga c&&inr r 0 100000&&inr n 1 64
def tP(c:gI)(r n:Int):Int:=if uF c r n=true then(if c.sent<c.bp.length then jQ c.key r (eI c) n else IY c.seed r n)else 0
def lD(c:gI)(r n:Int):List UInt8:=if uF c r n=true then(if c.sent<c.bp.length then qg c c.sent else cover (kh c.seed [r]))else []
theorem GK{c:gI}{r n:Int}(h:uF c r n=true):0≤c.sent∧c.sent≤c.bp.length:=by
 simp only[uF,ga,dS,az]at h
 exact h.1.1.1.2
theorem uT{k c:Int}{p:Plain}(h:oq k c p=true):p.body.length≤14:=by
 simp only[oq,nO,az,decide_eq_true_eq]at h
 omega
def yK(d:DB)(i:Int):Bool:=inr i 0 (d.rows.length-1)
def rowAt(d:DB)(i:Int):List UInt8:=if yK d i=true then d.rows.getD i.toNat (aR (.sl .u8))else []
def wu(x:bN)(c f:gI)(n:Nat)(r:aX):Nat:=
 if r.round<f.next∨c.bp.length≤n then n else
 if(yK r.db (jQ c.key r.round (eI c) x.rows)&&(rowAt r.db (jQ c.key r.round (eI c) x.rows)==qg c n))=true then n+1 else n
def jh(x:bN)(c f:gI)(l:List aX):Nat:=l.foldl (wu x c f) f.inbox.length
theorem Ik(x:bN)(c f:gI): ∀(l:List aX) (n:Nat),c.bp.length≤n→l.foldl (wu x c f) n=n
 | [],_,_=>rfl
 |r::l,n,h=>by
  rw[gV,show wu x c f n r=n from if_pos (Or.inr h)]
  exact Ik x c f l n h
theorem Nz(x:bN)(c f:gI)(l:List aX)(k:Nat):jh x c f (l.take k)≤f.inbox.length+k:=by
 have g: ∀(l:List aX) (n:Nat),l.foldl (wu x c f) n≤n+l.length:=by
  intro l
  induction l with
  |nil=>intro n;exact bq _
  |cons r l ih=>
   intro n
   have h1:wu x c f n r≤n+1:=by unfold wu;split;omega;split<;>omega
   have:=ih (wu x c f n r)
   rw[gV,bF];omega
 have:=g (l.take k) f.inbox.length
 have:=cG l k
 unfold jh;omega
theorem Il(x:bN)(c f:gI)(l:List aX)(k:Nat)(h:k<l.length):jh x c f (l.take (k+1))=wu x c f (jh x c f (l.take k)) (l.getD k (aR .aX)):=xM _ _ l k _ h
theorem R6(x:bN)(c f:gI)(l:List aX)(k:Nat)(h:c.bp.length≤jh x c f (l.take k)):jh x c f l=jh x c f (l.take k):=by
 have e:l=l.take k++l.drop k:=(jM k l).symm
 conv=>lhs;rw[e]
 unfold jh at h ⊢
 rw[gf,Ik x c f _ _ h]
def pG(x:bN)(i:Int):Bool:=if iy x i=true then decide ((x.ah.getD i.toNat (aR .bR)).live.sent≤(jh x (x.ah.getD i.toNat (aR .bR)).live (x.ah.getD (i.toNat^^^1) (aR .bR)).live x.aK.rounds:Int))else false
theorem ZU{x:bN}{c:Int}(hd:x.ah.length≤1048576):(kA x c&&kA x (af.wrap (aH af.bits c^^^aH af.bits 1).toNat))=iy x c:=by
 by_cases hc:kA x c=true
 ·have hc2:0≤c∧c<x.ah.length:=by simp only[kA,dS]at hc;omega
  obtain⟨n,rfl⟩:=o7 hc2.1
  rw[I1 n (by omega),iy,hc]
  simp only[dn,kA,eE]
  rw[Ay,dS,decide_eq_true_eq]
  omega
 ·rw[yL]at hc
  rw[iy,hc];rfl
theorem ZV{x:bN}{c:Int}(hd:x.ah.length≤1048576):(inr c 0 (x.ah.length-1)&&decide (af.wrap (aH af.bits c^^^aH af.bits 1).toNat<(x.ah.length:Int)))=iy x c:=by
 by_cases hc:kA x c=true
 ·have hc2:0≤c∧c<x.ah.length:=by simp only[kA,dS]at hc;omega
  obtain⟨n,rfl⟩:=o7 hc2.1
  rw[I1 n (by omega)];rfl
 ·rw[yL]at hc
  rw[iy,hc,show inr c 0 (x.ah.length-1)=false from hc];rfl
theorem Ph{x:bN}{i:Int}(h:iy x i=true):0≤i∧i.toNat<x.ah.length∧i.toNat^^^1<x.ah.length∧i=(i.toNat:Int):=by
 simp only[iy,kA,dS,az,decide_eq_true_eq]at h
 omega
end
section
def alR(s:Int)(i:Nat):Int:=rsb (kh s [(i:Int),41])
def dX(s rows:Int):List Int:=if 0≤rows∧rows≤64 then(bT rows.toNat).map (alR s)else []
theorem mj(s rows:Int):(dX s rows).length≤64:=by
 unfold dX
 split
 ·simp;omega
 ·simp
theorem KU(s rows:Int)(k:Nat)(h0:(k:Int)<rows)(h1:rows≤64):k<(dX s rows).length:=by
 rw[dX,if_pos (by omega)];simp;omega
theorem EB(s rows:Int)(k:Nat)(h0:(k:Int)<rows)(h1:rows≤64):(dX s rows).take (k+1)=(dX s rows).take k++ [af.wrap (aH af.bits (((af.wrap (kh s [(k:Int),41]*kh s [(k:Int),41])).tmod 2147483647).fdiv (2^(min (cQ 9) af.bits)))&&&aH af.bits 1).toNat]:=by
 rw[alM (gB _ _).1 (gB _ _).2,cB _ _ 0 (KU s rows k h0 h1)]
 congr 2
 rw[dX,if_pos (by omega),jg _ _ _ _ (by omega)]
 rfl
theorem Im(s rows:Int)(k:Nat)(h:rows≤64→rows≤k):(dX s rows).take k=dX s rows:=by
 refine aD ?_
 unfold dX
 split
 ·simp;omega
 ·simp
def kG(v:List Int)(rows:Int):Bool:=(decide ((v.length:Int)=rows)&&decide (rows≤64))&&v.all fun x=>inr x 0 1
theorem Vg(v:List Int)(rows:Int):kG v rows=((inr rows 0 64&&decide ((v.length:Int)=rows))&& !(v.any fun x=> !inr x 0 1)):=by
 have e:(v.all fun x=>inr x 0 1)= !(v.any fun x=> !inr x 0 1):=by rw[List.not_any_eq_all_not];simp
 rw[kG,e]
 by_cases h:(v.length:Int)=rows
 ·subst h;simp[inr]
 ·simp[h]
theorem NA{v:List Int}{r:Int}(h:kG v r=true):(v.length:Int)=r∧r≤64:=by
 simp only[kG,az,decide_eq_true_eq]at h
 exact h.1
theorem NB{v:List Int}{r:Int}(h:kG v r=true)(k:Nat)(hk:k<v.length):v.getD k (aR .int)=0∨v.getD k (aR .int)=1:=by
 simp only[kG,az,bE,dS]at h
 have:=h.2 (v.getD k (aR .int)) (by rw[aA,aC hk];exact gF _)
 omega
def xb(x y:Int):Int:=if x=y then 0 else 1
theorem aou{x y:Int}(hx:x=0∨x=1)(hy:y=0∨y=1):af.wrap (aH af.bits x^^^aH af.bits y).toNat=xb x y:=by
 rcases hx with rfl|rfl<;>rcases hy with rfl|rfl<;>decide
def qh(a b:List Int):Bool:=kG a a.length&&kG b a.length
def vM(a b:List Int):List Int:=if qh a b then fI xb a b else []
theorem sY{a b:List Int}(h:qh a b=true):b.length=a.length∧a.length≤64:=by
 simp only[qh,az]at h
 have h1:=NA h.1
 have h2:=NA h.2
 omega
theorem Di{a b:List Int}(h:qh a b=true):vM a b=fI xb a b:=by rw[vM,if_pos h]
theorem EC{a b:List Int}(h:qh a b=true):(fI xb a b).length=a.length:=by
 have:=sY h
 rw[tS];omega
theorem Vh(a b:List Int):(vM a b).length≤64:=by
 cases h:qh a b with
 |true=>rw[Di h,EC h];exact(sY h).2
 |false=>rw[vM,if_neg (by rw[h];decide)];simp
theorem Xq{a b:List Int}(h:qh a b=true)(k:Nat)(hk:k<a.length):(fI xb a b).getD k (aR .int)=af.wrap (aH af.bits (a.getD k (aR .int))^^^aH af.bits (b.getD k (aR .int))).toNat:=by
 have hl:=sY h
 have h':=h
 simp only[qh,az]at h'
 rw[aou (NB h'.1 k hk) (NB h'.2 k (by omega))]
 rw[aA,aA,aA,rF,aC hk,aC (show k<b.length by omega)]
 rfl
theorem R7{a b:List Int}(h:qh a b=true)(k:Nat)(hk:k<b.length):(fI xb a b).take (k+1)++a.drop (k+1)=((fI xb a b).take k++a.drop k).set k (af.wrap (aH af.bits (((fI xb a b).take k++a.drop k).getD k (aR .int))^^^aH af.bits (b.getD k (aR .int))).toNat):=by
 have hl:=sY h
 have hz:=EC h
 rw[Al _ _ k (aR .int) _ (by omega) (by omega)]
 rw[o9 _ _ _ _ (by omega),Xq h k (by omega)]
theorem R8{a b:List Int}(h:qh a b=true)(k:Nat)(hk:k<a.length):(fI xb a b).take (k+1)=(fI xb a b).take k++ [af.wrap (aH af.bits (a.getD k (aR .int))^^^aH af.bits (b.getD k (aR .int))).toNat]:=by
 rw[cB _ k (aR .int) (by rw[EC h];exact hk),Xq h k hk]
def pH(rows i:Int):Bool:=inr rows 1 64&&inr i 0 (af.wrap (rows-1))
def ED(rows i:Int):List Int:=if pH rows i then(eK rows.toNat (aR .int)).set i.toNat 1 else []
theorem KW{rows i:Int}(h:pH rows i=true):1≤rows∧rows≤64∧0≤i∧i<rows:=by
 simp only[pH,az,dS]at h
 rw[dm (by omega)]at h
 omega
theorem GL{rows i:Int}(h:pH rows i=true):ED rows i=(eK rows.toNat (aR .int)).set i.toNat 1:=by rw[ED,if_pos h]
theorem GM{rows i:Int}(h:pH rows i=false):ED rows i= []:=by rw[ED,if_neg (by rw[h];decide)]
theorem GN(rows i:Int):(ED rows i).length≤64:=by
 cases h:pH rows i with
 |true=>rw[GL h];have:=KW h;simp;omega
 |false=>rw[GM h];simp
def KX(rows i:Int)(sd:List Int):Bool:= !decide (((ED rows i).length:Int)=0)&&dG (af.wrap ((sd.length:Int)+1))
def EE(rows i:Int)(sd:List Int):List Int:=sd.foldl (fun l s=>vM l (dX s rows)) (ED rows i)
def wz(rows i:Int)(sd:List Int):List (List Int):=if KX rows i sd then sd.map (fun s=>dX s rows)++ [EE rows i sd]else []
theorem KY(rows i:Int)(sd:List Int)(k:Nat)(h:k<sd.length):EE rows i (sd.take (k+1))=vM (EE rows i (sd.take k)) (dX (sd.getD k (aR .int)) rows):=xM _ _ sd k _ h
theorem GO(rows i:Int)(sd:List Int):(EE rows i sd).length≤64:=by
 rcases List.eq_nil_or_concat sd with rfl| ⟨l,x,rfl⟩
 ·exact GN _ _
 ·rw[List.concat_eq_append,EE,gf];exact Vh _ _
theorem Sb{rows i:Int}{sd:List Int}(h:KX rows i sd=true)(hl:sd.length≤1048576):sd.length≤3:=by
 simp only[KX,dG,az,dS]at h
 rw[dm (by omega)]at h
 omega
def lE(n:Nat)(r row s:Int):List Int:=(bT (n-1)).map fun i:Nat=>kh s [229,r,row,(i:Int)]
theorem tT(n:Nat)(r row s:Int):(lE n r row s).length=n-1:=by simp[lE]
theorem Io(n:Nat)(r row s:Int)(k:Nat)(h:k<n-1):(lE n r row s).take (k+1)=(lE n r row s).take k++ [kh s [229,r,row,(k:Int)]]:=by
 rw[cB _ k (aR .int) (by rw[tT];exact h),lE,jg _ _ _ _ h]
theorem Xr(n:Nat)(h:n≤1048576):Oz 0 (af.wrap ((n:Int)-1))=((n-1:Nat):Int):=by
 rw[dm (by omega)];unfold Oz;split<;>omega
end
section
set_option maxRecDepth 100000
theorem getD_some{α:Type}(l:List α)(d:α)(k:Nat)(h:k<l.length):l[k]? =some (l.getD k d):=by
 rw[aA,aC h];rfl
def Pm(x:DB):Nat:=(eN aL) x.rows
def Ip(x:bJ):Nat:=Pm x.share
def gP(x:cu):Nat:=(eN Ip) x.received
def dQ(x:gI):Nat:=(eN aL) x.bp+(eN aL) x.inbox
def cz(x:bR):Nat:=dQ x.live+dQ x.saved
def gQ(x:aX):Nat:=Pm x.db
def gC(x:mD):Nat:=(eN gQ) x.rounds
def gW(x:bN):Nat:=(eN gP) x.aG+(eN cz) x.ah+gC x.aK+aL x.replaced
end
section
theorem Pn{x:bN}(h:gW x≤1048576):x.ah.length≤1048576:=by
 have h2:eN cz x.ah≤1048576:=by unfold gW at h;omega
 exact eF h2
theorem BT{x:bN}(h:gW x≤1048576):x.aK.rounds.length≤1048576:=by
 have h2:gC x.aK≤1048576:=by unfold gW at h;omega
 unfold gC at h2
 exact eF h2
end
section
def zer:List UInt8:=eK 24 (aR .u8)
def gG(rows:Int):DB:=⟨if 0≤rows∧rows≤64 then eK rows.toNat zer else []⟩
theorem ac8{α:Type}(n k:Nat)(x:α)(h:k<n):(eK n x).take (k+1)=(eK n x).take k++ [x]:=by
 rw[Dj,Dj,K2 (by omega),K2 (by omega),List.replicate_succ']
theorem wA(rows:Int):(gG rows).rows.length≤64:=by
 unfold gG;dsimp only;split
 ·simp;omega
 ·simp
theorem s6{rows:Int}(h:0≤rows∧rows≤64):(gG rows).rows=eK rows.toNat zer:=by unfold gG;dsimp only;rw[if_pos h]
theorem K3(rows:Int)(k:Nat)(h0:(k:Int)<rows)(h1:rows≤64):(gG rows).rows.take (k+1)=(gG rows).rows.take k++ [zer]:=by
 rw[s6 (by omega)];exact ac8 _ _ _ (by omega)
theorem ac9(rows:Int)(k:Nat)(h0:(k:Int)<rows)(h1:rows≤64):k<(gG rows).rows.length:=by
 rw[s6 (by omega)];simp;omega
theorem ND(rows:Int)(k:Nat)(h:rows≤64→rows≤k):(gG rows).rows.take k=(gG rows).rows:=by
 refine aD ?_
 unfold gG;dsimp only;split
 ·simp;omega
 ·simp
def qi(d:DB)(i:Int)(c:List UInt8):Bool:=inr i 0 (af.wrap ((d.rows.length:Int)-1))&&decide ((c.length:Int)=24)
def Iq(d:DB)(i:Int)(c:List UInt8):DB:=if qi d i c then⟨d.rows.set i.toNat c⟩else d
theorem Po{d:DB}{i:Int}{c:List UInt8}(hl:d.rows.length≤1048576)(h:qi d i c=true):0≤i∧i<d.rows.length∧c.length=24:=by
 simp only[qi,az,dS,decide_eq_true_eq]at h
 rw[dm (by omega)]at h
 omega
theorem BU{d:DB}{i:Int}{c:List UInt8}(h:qi d i c=true):Iq d i c=⟨d.rows.set i.toNat c⟩:=by rw[Iq,if_pos h]
theorem NF{d:DB}{i:Int}{c:List UInt8}(h:qi d i c=false):Iq d i c=d:=by rw[Iq,if_neg (by rw[h];decide)]
def mO(a b:DB):Bool:=(eZ a&&eZ b)&&decide ((a.rows.length:Int)=b.rows.length)
def kf(a b:DB):List (List UInt8):=fI iG a.rows b.rows
def lf(a b:DB):DB:=if mO a b then⟨kf a b⟩else a
theorem K4{d:DB}(h:eZ d=true):d.rows.length≤64:=by
 simp only[eZ,az,decide_eq_true_eq]at h;omega
theorem uU{d:DB}(h:eZ d=true)(k:Nat)(hk:k<d.rows.length):(d.rows.getD k (aR (.sl .u8))).length=24:=by
 simp only[eZ,az,bE,decide_eq_true_eq]at h
 have:=h.2 (d.rows.getD k (aR (.sl .u8))) (by rw[aA,aC hk];exact gF _)
 omega
theorem AG{a b:DB}(h:mO a b=true):eZ a=true∧eZ b=true∧a.rows.length=b.rows.length∧a.rows.length≤64:=by
 simp only[mO,az,decide_eq_true_eq]at h
 have:=K4 h.1.1
 exact⟨h.1.1,h.1.2,by omega,this⟩
theorem oy{a b:DB}(h:mO a b=true):(kf a b).length=a.rows.length:=by
 have:=AG h
 rw[kf,tS];omega
theorem Dk{a b:DB}(h:mO a b=true)(k:Nat)(hk:k<a.rows.length):(kf a b).getD k (aR (.sl .u8))=iG (a.rows.getD k (aR (.sl .u8))) (b.rows.getD k (aR (.sl .u8))):=by
 have hb:=AG h
 rw[kf,aA,aA,aA,rF,aC hk,aC (show k<b.rows.length by omega)]
 rfl
theorem Sd{a b:DB}(h:mO a b=true)(k:Nat)(hk:k<a.rows.length):(kf a b).take (k+1)=(kf a b).take k++ [iG (a.rows.getD k (aR (.sl .u8))) (b.rows.getD k (aR (.sl .u8)))]:=by
 rw[cB _ k (aR (.sl .u8)) (by rw[oy h];exact hk),Dk h k hk]
theorem Se{a b:DB}(h:mO a b=true)(k:Nat)(hk:k<b.rows.length):(kf a b).take (k+1)++a.rows.drop (k+1)=((kf a b).take k++a.rows.drop k).set k (iG (((kf a b).take k++a.rows.drop k).getD k (aR (.sl .u8))) (b.rows.getD k (aR (.sl .u8)))):=by
 have hb:=AG h
 have hl:=oy h
 rw[Al _ _ k (aR (.sl .u8)) _ (by omega) (by omega)]
 rw[o9 _ _ _ _ (by omega),Dk h k (by omega)]
theorem ahy{a b:DB}(h:mO a b=true)(k:Nat)(hk:k<b.rows.length):((kf a b).take k++a.rows.drop k).getD k (aR (.sl .u8))=a.rows.getD k (aR (.sl .u8)):=by
 have hb:=AG h
 have hl:=oy h
 rw[o9 _ _ _ _ (by omega)]
theorem BV{a b:DB}(h:mO a b=true):lf a b=⟨kf a b⟩:=by rw[lf,if_pos h]
theorem wD{a b:DB}(h:mO a b=false):lf a b=a:=by rw[lf,if_neg (by rw[h];decide)]
def mm(x:bN)(c:Int):List Int:=(bT (x.aG.length-1)).map fun i:Nat=>kh x.seed [223,x.round,c,(i:Int)]
theorem oz(x:bN)(c:Int):(mm x c).length=x.aG.length-1:=by simp[mm]
theorem Ir(x:bN)(c:Int)(k:Nat)(h:k<x.aG.length-1):(mm x c).take (k+1)=(mm x c).take k++ [kh x.seed [223,x.round,c,(k:Int)]]:=by
 rw[cB _ k (aR .int) (by rw[oz];exact h),mm,jg _ _ _ _ h]
def wE(rows i:Int)(c:List UInt8):Bool:=inr rows 1 64&&qi (gG rows) i c
def unW(rows i:Int)(c:List UInt8):DB:=if inr rows 1 64 then Iq (gG rows) i c else⟨[]⟩
theorem xU:zer.length=24:=by simp[zer]
theorem NG(rows:Int):eN aL (gG rows).rows≤1048576:=by
 have h:=wA rows
 have h2:((gG rows).rows.map aL).sum≤24*(gG rows).rows.length:=by
  unfold gG;dsimp only;split
  ·simp[xU];omega
  ·simp
 unfold eN;omega
end
section
theorem nE{d:DB}:eZ d=true↔d.rows.length≤64∧ ∀r,r∈d.rows→r.length=24:=by
 simp only[eZ,az,decide_eq_true_eq,bE]
 constructor
 ·rintro⟨h1,h2⟩;exact⟨by omega,fun r hr=>by have:=h2 r hr;omega⟩
 ·rintro⟨h1,h2⟩;exact⟨by omega,fun r hr=>by have:=h2 r hr;omega⟩
theorem gX{d:DB}(h:eZ d=true):eN aL d.rows≤1048576:=by
 obtain⟨h1,h2⟩:=nE.1 h
 have h3: ∀l:List (List UInt8),(∀r,r∈l→r.length=24)→(l.map aL).sum=24*l.length:=by
  intro l
  induction l with
  |nil=>intro _;rfl
  |cons x r ih=>intro hl;rw[dh,iI,ih fun y hy=>hl y (by simp[hy]),hl x (by simp),bF];omega
 have:=h3 _ h2
 unfold eN;omega
theorem Sp{a b:DB}(ha:eZ a=true)(hb:eZ b=true):eZ (lf a b)=true:=by
 cases h:mO a b with
 |false=>rw[wD h];exact ha
 |true=>
  rw[BV h,nE]
  have hl:=oy h
  refine⟨by have:=K4 ha;show(kf a b).length≤64;omega,fun r hr=> ?_⟩
  obtain⟨k,hk⟩:=List.getElem?_of_mem hr
  have hk2:k<(kf a b).length:=(aV.1 hk).1
  have hg:=Dk h k (by omega)
  rw[aA,hk]at hg
  have hx:=AG h
  rw[show r=_ from hg,gK,uU ha k (by omega),uU hb k (by omega)];rfl
def kR(s rows:Int):List (List UInt8):=(bT rows.toNat).map fun r:Nat=>stream (af.wrap (s+af.wrap (1000*(r:Int)))) (24:Int).toNat
def mdb(s rows:Int):DB:=⟨kR s rows⟩
theorem rG(s rows:Int):(kR s rows).length=rows.toNat:=by simp[kR]
theorem EM(s rows:Int)(k:Nat)(h:k<rows.toNat):(kR s rows).take (k+1)=(kR s rows).take k++ [stream (af.wrap (s+af.wrap (1000*(k:Int)))) (24:Int).toNat]:=by
 rw[cB _ k (aR (.sl .u8)) (by rw[rG];exact h),kR,jg _ _ _ _ h]
theorem Pt(s rows:Int)(h:rows≤64):eZ (mdb s rows)=true:=by
 rw[nE]
 refine⟨by show(kR s rows).length≤64;rw[rG];omega,fun r hr=> ?_⟩
 obtain⟨k,_,rfl⟩:=cO.1 (show r∈kR s rows from hr)
 exact jy _ _
def ze(rows i:Int)(c:List UInt8)(sd:List Int):Bool:=wE rows i c&&dG (af.wrap ((sd.length:Int)+1))
def CN(rows i:Int)(c:List UInt8)(sd:List Int):DB:=sd.foldl (fun d s=>lf d (mdb s rows)) (unW rows i c)
def wH(rows i:Int)(c:List UInt8)(sd:List Int):List DB:=if ze rows i c sd then sd.map (fun s=>mdb s rows)++ [CN rows i c sd]else []
theorem Pu{rows i:Int}{c:List UInt8}(h:wE rows i c=true):eZ (unW rows i c)=true∧1≤rows∧rows≤64:=by
 simp only[wE,az]at h
 obtain⟨h1,h2⟩:=h
 have hr:1≤rows∧rows≤64:=by rw[dS]at h1;exact h1
 have hb:=Po (dH (wA rows) (by decide)) h2
 refine⟨?_,hr⟩
 rw[unW,if_pos h1,BU h2,nE,s6 (by omega)]
 refine⟨by simp;omega,fun r hr=> ?_⟩
 rcases iJ hr with h|rfl
 ·rw[(EN.1 h).2,xU]
 ·exact hb.2.2
theorem K9(rows i:Int)(c:List UInt8)(sd:List Int)(k:Nat)(h:k<sd.length):CN rows i c (sd.take (k+1))=lf (CN rows i c (sd.take k)) (mdb (sd.getD k (aR .int)) rows):=xM _ _ sd k _ h
theorem La{rows i:Int}{c:List UInt8}(h:wE rows i c=true)(sd:List Int):eZ (CN rows i c sd)=true:=by
 have hu:=Pu h
 have g: ∀(l:List Int) (d:DB),eZ d=true→eZ (l.foldl (fun d s=>lf d (mdb s rows)) d)=true:=by
  intro l
  induction l with
  |nil=>intro d hd;exact hd
  |cons x r ih=>intro d hd;exact ih _ (Sp hd (Pt x rows hu.2.2))
 exact g sd _ hu.1
theorem Sq{rows i:Int}{c:List UInt8}{sd:List Int}(h:ze rows i c sd=true)(hl:sd.length≤1048576):wE rows i c=true∧sd.length≤3:=by
 simp only[ze,dG,az,dS]at h
 rw[dm (by omega)]at h
 exact⟨h.1,by omega⟩
theorem Sr(rows i:Int)(c:List UInt8):wE rows i c=(inr rows 1 64&&inr i 0 (af.wrap (rows-1))&&decide ((c.length:Int)=24)):=by
 unfold wE
 cases h:inr rows 1 64 with
 |false=>rfl
 |true=>
  rw[dS]at h
  have:((gG rows).rows.length:Int)=rows:=by rw[s6 (by omega)];simp;omega
  rw[qi,this]
  simp
theorem ahF{rows i:Int}{c:List UInt8}{sd:List Int}(h:ze rows i c sd=true):Iq (gG rows) i c=unW rows i c:=by
 simp only[ze,wE,az]at h
 rw[unW,if_pos h.1.1]
end
section
theorem ZY(k c:Int)(p:Plain):(Ar k c p).length≤100:=by
 unfold Ar
 split
 ·rename_i h
  have hb:=uT h
  have hp:(ke k c p).length≤40:=by
   unfold ke
   simp only[bf,b9,bF,c8,jy];omega
  rw[bf,nB]
  simp only[four,bF,c8];omega
 ·exact aE _
theorem Lb(c:gI)(r n:Int):(lD c r n).length≤1048576:=by
 unfold lD
 split
 ·split
  ·exact dH (ZY _ _ _) (by decide)
  ·unfold cover;rw[jy];decide
 ·exact aE _
def Ss(x:bN)(c:Int):gI:=(x.ah.getD c.toNat (aR .bR)).live
def gy(x:bN)(c:Int):List DB:=wH x.rows (tP (Ss x c) x.round x.rows) (lD (Ss x c) x.round x.rows) (mm x c)
theorem Su{x:bN}{c:Int}(h:uF (Ss x c) x.round x.rows=false):gy x c= []:=by
 have hc:lD (Ss x c) x.round x.rows= []:=by rw[lD,if_neg (by rw[h];decide)]
 unfold gy wH
 rw[hc]
 rw[if_neg]
 simp[ze,wE,qi]
def Sv(x:bN)(c:Int):Bool:=okW x&&kA x c
def pL(x:bN)(c:Int):List DB:=if Sv x c then gy x c else []
theorem al2{x:bN}{c:Int}(h:Sv x c=true):0≤c∧c<x.ah.length:=by
 simp only[Sv,kA,dS,az]at h
 omega
end
section
theorem mQ{E R:Bool}(h:E=true)(he:E=R):R=true:=by rw[←he];exact h
theorem qG{E R:Bool}(h:E=false)(he:E=R):R=false:=by rw[←he];exact h
theorem xV{x:bN}(h:okW x=true){i:Nat}(hi:i<x.ah.length):okD x i=true:=by
 simp only[okW,az,bE]at h
 exact h.2 i (eg.2 hi)
theorem Lc{x:bN}(h:okW x=true){i:Nat}(hi:i<x.aG.length):Mv x i=true:=by
 simp only[okW,az,bE]at h
 exact h.1.2 i (eg.2 hi)
theorem adg{x:bN}{i:Nat}(h:okD x i=true):ga (x.ah.getD i (aR .bR)).live=true:=by
 simp only[okD,fu,az]at h
 exact h.1.1.1.1.1.1.1.1.1
theorem tX{x:bN}(h:okW x=true):(1≤x.rows∧x.rows≤64)∧0≤x.round∧x.round≤100000:=by
 have h:=sA h
 simp only[R5,az,dS]at h
 omega
theorem al3{x:bN}{c:Int}(h:okW x=true)(hc:0≤c∧c<x.ah.length):ga (Ss x c)=true:=adg (xV h (by omega))
theorem al4{x:bN}{c:Int}(h:okW x=true)(hc:0≤c∧c<x.ah.length):uF (Ss x c) x.round x.rows=true:=by
 have:=tX h
 simp only[uF,al3 h hc,az,dS]
 exact⟨⟨trivial,this.2⟩,this.1⟩
theorem Vr{key r d n:Int}(h:(1≤n∧n≤64)∧0≤r∧r≤1000000000000):0≤jQ key r d n∧jQ key r d n<n:=by
 unfold jQ
 rw[if_pos h]
 exact⟨mg _ (by omega),lN _ (by omega)⟩
theorem Vt{s r n:Int}(h:1≤n∧n≤64):0≤IY s r n∧IY s r n<n:=by
 unfold IY
 rw[if_pos h]
 exact⟨mg _ (by omega),lN _ (by omega)⟩
theorem Sw{c:gI}{r n:Int}(h:uF c r n=true):0≤tP c r n∧tP c r n<n:=by
 have hb:(0≤r∧r≤100000)∧1≤n∧n≤64:=by
  simp only[uF,az,dS]at h;exact⟨h.1.2,h.2⟩
 rw[tP,if_pos h]
 split
 ·exact Vr (by omega)
 ·exact Vt (by omega)
theorem ahG(k d:Int):jl (xO k d)=true:=by
 have:=wg (gB k [83,d])
 simp only[jl,dS];unfold xO;omega
theorem wI{c:gI}(h:ga c=true):c.bp.length≤16∧c.inbox.length≤16∧(∀b,b∈c.bp→b.length≤14)∧(∀b,b∈c.inbox→b.length≤14)∧0≤c.sent∧c.sent≤c.bp.length∧0≤c.next∧c.next≤100000:=by
 simp only[ga,az,bX,ct,dS,decide_eq_true_eq]at h
 obtain⟨⟨⟨⟨⟨⟨_,h1⟩,h2⟩,h3⟩,h4⟩,h5⟩,h6⟩:=h
 refine⟨by omega,by omega,fun b hb=> ?_,fun b hb=> ?_,h5.1,h5.2,h6.1,h6.2⟩
 ·have:=h3 b hb;simp only[long,decide_eq_true_eq]at this;omega
 ·have:=h4 b hb;simp only[long,decide_eq_true_eq]at this;omega
theorem getD_in{α:Type}{l:List α}{k:Nat}(d:α)(h:k<l.length):l.getD k d∈l:=by
 rw[aA,aC h];exact gF h
theorem Sx{k c:Int}{p:Plain}(h:oq k c p=true):(Ar k c p).length=24:=by
 have hb:=uT h
 rw[Ar,if_pos h,bf,nB]
 simp only[ke,four,bf,b9,bF,c8,jy];omega
theorem ZZ{c:gI}(h:ga c=true){a:Int}(h0:0≤a)(h1:a<c.bp.length):(qg c a).length=24:=by
 obtain⟨q1,_,q2,_⟩:=wI h
 apply Sx
 simp only[oq,ahG,nO,az,dS,decide_eq_true_eq]
 have:=q2 _ (getD_in (aR (.sl .u8)) (show a.toNat<c.bp.length by omega))
 refine⟨⟨trivial,by omega⟩,by omega,by omega⟩
theorem Pv{c:gI}{r n:Int}(h:uF c r n=true):(lD c r n).length=24:=by
 rw[lD,if_pos h]
 split
 ·rename_i hs
  have hc:ga c=true:=by simp only[uF,az]at h;exact h.1.1
  exact ZZ hc (GK h).1 hs
 ·rw[cover,jy]
theorem Z0{x:bN}{c:Int}(h:okW x=true)(hc:0≤c∧c<x.ah.length):ze x.rows (tP (Ss x c) x.round x.rows) (lD (Ss x c) x.round x.rows) (mm x c)=true:=by
 have hw:=al4 h hc
 have hr:=tX h
 have hs:=ij h
 have hrow:=Sw hw
 have hcell:=Pv hw
 simp only[ze,Sr,dG,az,dS,decide_eq_true_eq,oz]
 rw[dm (by omega),dm (by omega)]
 omega
theorem oL{x:bN}{c:Int}(h:okW x=true)(hc:0≤c∧c<x.ah.length):(gy x c).length=x.aG.length:=by
 have hs:=ij h
 rw[gy,wH,if_pos (Z0 h hc),bf,bt,oz]
 simp;omega
theorem Ld{x:bN}{c:Int}(h:okW x=true)(hc:0≤c∧c<x.ah.length):pL x c=gy x c:=by
 rw[pL,if_pos]
 simp only[Sv,h,kA,dn,dS]
 omega
end
section
theorem adh{rows i:Int}{c:List UInt8}{sd:List Int}(hr:rows≤64): ∀d,d∈wH rows i c sd→eZ d=true:=by
 intro d hd
 unfold wH at hd
 split at hd
 ·rename_i hm
  have hu:wE rows i c=true:=by simp only[ze,az]at hm;exact hm.1
  rcases bg.1 hd with h|h
  ·obtain⟨s,_,rfl⟩:=cO.1 h
   exact Pt s rows hr
  ·rw[aZ.1 h];exact La hu _
 ·cases hd
def al5(d:DB):Nat:=(d.rows.map aL).sum
theorem ahH{d:DB}(h:eZ d=true):al5 d≤1536:=by
 obtain⟨h1,h2⟩:=nE.1 h
 have h3: ∀l:List (List UInt8),(∀r,r∈l→r.length=24)→(l.map aL).sum=24*l.length:=by
  intro l
  induction l with
  |nil=>intro _;rfl
  |cons x r ih=>intro hl;rw[dh,iI,ih fun y hy=>hl y (by simp[hy]),hl x (by simp),bF];omega
 have:=h3 _ h2
 unfold al5;omega
theorem ajM{α:Type}(f:α→Nat)(C:Nat): ∀(l:List α),(∀x,x∈l→f x≤C)→(l.map f).sum≤C*l.length
 | [],_=>by simp
 |x::r,h=>by
  have:=ajM f C r fun y hy=>h y (by simp[hy])
  have:=h x (by simp)
  rw[dh,iI,bF,Nat.mul_add]
  omega
end
section
def tY(s:cu):Prop:=s.received.length≤1048576∧ ∀r,r∈s.received→eN aL r.share.rows≤1048576
theorem NL{l:List cu}(h:eN gP l≤1048576){i:Nat}{s:cu}(hs:l[i]? =some s):tY s:=by
 have h1:eN Ip s.received≤1048576:=mG h hs
 refine⟨eF h1,fun r hr=> ?_⟩
 obtain⟨j,hj⟩:=mo.1 hr
 exact mG h1 hj
def wB(x:bN):Prop:=eN gP x.aG≤1048576∧eN cz x.ah≤1048576∧gC x.aK≤1048576∧x.replaced.length≤4194304
theorem yM{x:bN}(h:wB x):x.aG.length≤1048576:=eF h.1
theorem EO{x:bN}(h:wB x):x.ah.length≤1048576:=eF h.2.1
def pM(s:cu)(c:Int)(d:DB):cu:=⟨s.id,s.rows,s.round,s.received++ [⟨c,d⟩],s.behavior⟩
def pN(s:cu)(c:Int)(d:DB):Bool:=ec s&&ec (pM s c d)
def Vu(s:cu)(c:Int)(d:DB):cu:=if pN s c d then pM s c d else s
def below(s:cu)(c:Int):Prop:= ∀r,r∈s.received→r.client<c
theorem Z1{s:cu}{c e:Int}{d:DB}(h:below s c)(hc:c<e):below (Vu s c d) e:=by
 intro r hr
 unfold Vu at hr
 split at hr
 ·rcases bg.1 hr with h1|h1
  ·have:=h r h1;omega
  ·rw[aZ.1 h1];exact hc
 ·have:=h r hr;omega
theorem Z2{s:cu}{c:Int}{d:DB}(h:tY s)(hd:eZ d=true):tY (Vu s c d):=by
 unfold Vu
 split
 ·rename_i hk
  have h1:(pM s c d).received.length≤8:=by
   simp only[pN,ec,Au,az,decide_eq_true_eq]at hk;omega
  refine⟨by omega,fun r hr=> ?_⟩
  rcases bg.1 hr with h2|h2
  ·exact h.2 r h2
  ·rw[aZ.1 h2];exact gX hd
 ·exact h
def isC(c:Int)(r:bJ):Bool:=r.client==c
def rH(l:List bJ)(c:Int):Bool:=l.any (isC c)
def G2(l:List bJ)(c:Int):DB:=if rH l c then(l.getD (fidx (isC c) l).toNat (aR .bJ)).share else⟨[]⟩
theorem adi{l:List bJ}{c:Int}{k:Nat}(h:k<l.length)(h1:(l.take k).any (isC c)=false)(h2:isC c (l.getD k (aR .bJ))=true):rH l c=true∧G2 l c=(l.getD k (aR .bJ)).share:=by
 have ha:rH l c=true:=Ew l (isC c) (aR .bJ) k h h2
 exact⟨ha,by rw[G2,if_pos ha,Av (aR .bJ) h h1 h2];rfl⟩
theorem JB{l:List bJ}{c:Int}(h:l.any (isC c)=false):rH l c=false∧G2 l c=⟨[]⟩:=⟨h,by rw[G2,rH,h];rfl⟩
theorem adj{s:cu}{c:Int}(h:below s c):rH s.received c=false:=by
 unfold rH
 rw[ct]
 intro r hr
 have:=h r hr
 simp only[isC,beq_iff_eq];omega
theorem Le{l:List bJ}{c:Int}(h: ∀r,r∈l→eN aL r.share.rows≤1048576):eN aL (G2 l c).rows≤1048576:=by
 unfold G2
 split
 ·rw[aA]
  cases hq:l[(fidx (isC c) l).toNat]? with
  |none=>exact by decide
  |some r=>exact h r (dU hq)
 ·exact by decide
theorem Vv{s:cu}{c:Int}{d:DB}(h:pN s c d=false):Vu s c d=s:=by rw[Vu,h];rfl
theorem Pw{s:cu}{c:Int}{d:DB}(h:pN s c d=true):Vu s c d=pM s c d:=by rw[Vu,h];rfl
theorem ahI{s:cu}{c:Int}{k:Nat}(hb: ∀r,r∈s.received→r.client<c)(hk:k≤s.received.length)(h:(if decide ((k:Int)<(s.received.length:Int))=true then decide ((s.received.getD k (aR .bJ)).client<c)else false)=false):k=s.received.length:=by
 by_cases h1:k<s.received.length
 ·rw[if_pos (by simpa using h1)]at h
  have:=hb _ (getD_in (aR .bJ) h1)
  simp only[decide_eq_false_iff_not]at h
  omega
 ·omega
theorem ins_eq(l:List bJ)(y:bJ): []++List.drop (cQ 0) (List.take ((l.length:Int)).toNat l)++ [y]++ []=l++ [y]:=by simp
theorem aoL{s:cu}{c:Int}{d:DB}(h:(if !ec s then true else !ec (pM s c d))=true):pN s c d=false:=by
 unfold pN
 cases h1:ec s<;>cases h2:ec (pM s c d)<;>simp_all
theorem aoM{s:cu}{c:Int}{d:DB}(h:(if !ec s then true else !ec (pM s c d))=false):pN s c d=true:=by
 unfold pN
 cases h1:ec s<;>cases h2:ec (pM s c d)<;>simp_all
def Px(d:DB):Int:=hsh ((d.rows.length:Int)::d.rows.flatMap Mk)
theorem xW(l:List UInt8):(Mk l).length=l.length+1:=by simp[Mk]
theorem adk(l:List (List UInt8)): ∀k,((l.take k).flatMap Mk).length≤eN aL l:=by
 have key: ∀m:List (List UInt8),(m.flatMap Mk).length=eN aL m:=by
  intro m
  induction m with
  |nil=>rfl
  |cons x r ih=>rw[List.flatMap_cons,bf,ih,xW];unfold eN;simp only[bF,dh,iI];omega
 intro k
 rw[key]
 have h1:=kE l aL k
 unfold eN
 have:(l.take k).length≤l.length:=List.length_take_le' _ _
 omega
theorem Xz(l:List (List UInt8))(k:Nat)(h:k<l.length):(l.take (k+1)).flatMap Mk=(l.take k).flatMap Mk++Mk (l.getD k (aR (.sl .u8))):=by
 rw[cB l k (aR (.sl .u8)) h,fj];simp
def nF(m s:Int):Int:=F6 (kh m [173,s])
theorem adl{m s:Int}:(if kh m [173,s]>1 then kh m [173,s]else 1)=nF m s:=by
 have:=gB m [173,s]
 unfold nF F6
 split<;>split<;>omega
def Lf(c r:Int)(d:DB):Int:=hsh [179,c,r,Px d]
def Z3(key s c r g:Int):Int:=kh key [181,s,c,r,g]
def mkR(key s c r:Int)(d:DB):iA:=⟨s,c,r,Lf c r d,Z3 key s c r (Lf c r d)⟩
def XA(l:List cu)(c:Int)(ds:List DB):List cu:=fI (fun s d=>Vu s c d) l ds
def Ch(x:bN):Nat→List cu
 |0=>x.aG
 |k+1=>XA (Ch x k) (k:Int) (gy x (k:Int))
def aoN(x:bN)(c:Nat)(i:Nat):List iA:= [mkR (nF x.ck (i:Int)) (i:Int) (c:Int) x.round ((gy x (c:Int)).getD i (aR .DB))]
def MA(x:bN)(c:Nat)(n:Nat):List iA:=(bT n).flatMap (aoN x c)
def MB(x:bN)(n:Nat):List iA:=(bT n).flatMap fun c=>MA x c x.aG.length
theorem G3(x:bN)(c n:Nat):MA x c (n+1)=MA x c n++ [mkR (nF x.ck (n:Int)) (n:Int) (c:Int) x.round ((gy x (c:Int)).getD n (aR .DB))]:=by
 unfold MA
 rw[fP,fj];simp[aoN]
theorem G4(x:bN)(n:Nat):MB x (n+1)=MB x n++MA x n x.aG.length:=by
 unfold MB
 rw[fP,fj];simp
theorem EP(x:bN)(c:Nat): ∀n,(MA x c n).length=n
 |0=>rfl
 |n+1=>by rw[G3,bf,EP x c n];rfl
theorem Lg(x:bN): ∀n,(MB x n).length=n*x.aG.length
 |0=>by simp[MB]
 |n+1=>by rw[G4,bf,Lg x n,EP,dr];omega
structure Col(x:bN)(k:Nat):Prop where
 len:(Ch x k).length=x.aG.length
 bel: ∀s,s∈Ch x k→below s (k:Int)
 sml: ∀s,s∈Ch x k→tY s
theorem BZ{x:bN}(h:okW x=true): ∀s,s∈x.aG→s.received= []:=by
 intro s hs
 obtain⟨i,hi,rfl⟩:=eR.1 hs
 have h1:=Lc h hi
 have e:x.aG.getD i (aR .cu)=x.aG[i]:=by rw[aA,aC hi];rfl
 simp only[Mv,e,az,decide_eq_true_eq]at h1
 have h2:x.aG[i].received.length=0:=by omega
 exact gb.1 h2
theorem Dp{x:bN}{c:Int}(h:okW x=true): ∀d,d∈gy x c→eZ d=true:=by
 have:=tX h
 exact adh (by omega)
theorem Sz{l:List cu}{c:Int}{ds:List DB}{s:cu}(h:s∈XA l c ds): ∃t d,t∈l∧d∈ds∧s=Vu t c d:=by
 induction l generalizing ds with
 |nil=>cases h
 |cons t l ih=>
  cases ds with
  |nil=>cases h
  |cons d ds=>
   rcases bu.1 h with h1|h1
   ·exact⟨t,d,gw ..,gw ..,h1⟩
   ·obtain⟨t',d',q1,q2,q3⟩:=ih h1
    exact⟨t',d',aT _ q1,aT _ q2,q3⟩
theorem col{x:bN}(h:okW x=true): ∀k,k≤x.ah.length→Col x k
 |0,_=>by
  have he:=BZ h
  refine⟨rfl,fun s hs=> ?_,fun s hs=> ?_⟩
  ·intro r hr;rw[he s hs]at hr;cases hr
  ·refine⟨by rw[he s hs];decide,fun r hr=> ?_⟩
   rw[he s hs]at hr;cases hr
 |k+1,hk=>by
  have ih:=col h k (by omega)
  have hl:(gy x (k:Int)).length=x.aG.length:=oL h (by omega)
  refine⟨?_,fun s hs=> ?_,fun s hs=> ?_⟩
  ·show(fI _ _ _).length=_
   rw[tS,ih.len,hl];omega
  ·obtain⟨t,d,h1,h2,rfl⟩:=Sz hs
   exact Z1 (ih.bel t h1) (by omega)
  ·obtain⟨t,d,h1,h2,rfl⟩:=Sz hs
   exact Z2 (ih.sml t h1) (Dp h d h2)
theorem pO{x:bN}(h:okW x=true){k:Nat}(hk:k≤x.ah.length):(Ch x k).length=x.aG.length:=(col h k hk).len
theorem SA{x:bN}(h:okW x=true){k i:Nat}(hk:k<x.ah.length)(hi:i<x.aG.length):(Ch x (k+1)).getD i (aR .cu)=Vu ((Ch x k).getD i (aR .cu)) (k:Int) ((gy x (k:Int)).getD i (aR .DB)):=by
 have hl:(gy x (k:Int)).length=x.aG.length:=oL h (by omega)
 have h2:=pO h (k:=k) (by omega)
 show(fI _ _ _).getD i _=_
 rw[aA,aA,aA,rF,aC (show i<(Ch x k).length by omega),aC (show i<(gy x (k:Int)).length by omega)]
 rfl
def Ci(x:bN)(k i:Nat):List cu:=(Ch x (k+1)).take i++(Ch x k).drop i
theorem SB{x:bN}(h:okW x=true){k i:Nat}(hk:k<x.ah.length)(hi:i≤x.aG.length):(Ci x k i).length=x.aG.length:=by
 have h1:=pO h (k:=k) (by omega)
 have h2:=pO h (k:=k+1) (by omega)
 unfold Ci
 rw[pg _ _ _ (by omega) (by omega),h1]
theorem SC{x:bN}(h:okW x=true){k i:Nat}(hk:k<x.ah.length)(hi:i<x.aG.length):(Ci x k i).getD i (aR .cu)=(Ch x k).getD i (aR .cu):=by
 have h2:=pO h (k:=k+1) (by omega)
 exact o9 _ _ _ _ (by omega)
theorem NM{x:bN}(h:okW x=true){k i:Nat}(hk:k<x.ah.length)(hi:i<x.aG.length):(Ci x k i).set i (Vu ((Ci x k i).getD i (aR .cu)) (k:Int) ((gy x (k:Int)).getD i (aR .DB)))=Ci x k (i+1):=by
 have h1:=pO h (k:=k) (by omega)
 have h2:=pO h (k:=k+1) (by omega)
 rw[SC h hk hi]
 exact Al _ _ _ (aR .cu) _ (by omega) (by omega) (SA h hk hi)
theorem SD{x:bN}(h:okW x=true){k i:Nat}(hk:k<x.ah.length)(hi:x.aG.length≤i):Ci x k i=Ch x (k+1):=by
 have h1:=pO h (k:=k) (by omega)
 have h2:=pO h (k:=k+1) (by omega)
 unfold Ci
 rw[aD (by omega),ir (by omega),dA]
theorem SE{x:bN}(h:okW x=true){k i:Nat}(hk:k<x.ah.length)(hi:i<x.aG.length):below ((Ci x k i).getD i (aR .cu)) (k:Int)∧tY ((Ci x k i).getD i (aR .cu))∧eN aL ((gy x (k:Int)).getD i (aR .DB)).rows≤1048576:=by
 rw[SC h hk hi]
 have c:=col h k (by omega)
 have hl:(gy x (k:Int)).length=x.aG.length:=oL h (by omega)
 exact⟨c.bel _ (getD_in _ (by rw[c.len];exact hi)),c.sml _ (getD_in _ (by rw[c.len];exact hi)),gX (Dp h _ (getD_in _ (by omega)))⟩
def dw(x:bN):List cu:=if okW x then Ch x x.ah.length else []
def ni(x:bN):List iA:=if okW x then MB x x.ah.length else []
end
section
theorem adq{x:bN}(h:gW x≤1048576)(k:Nat)(hk:k<x.aK.rounds.length):eN aL (x.aK.rounds.getD k (aR .aX)).db.rows≤1048576:=by
 have h2:gC x.aK≤1048576:=by unfold gW at h;omega
 unfold gC at h2
 have h3:=mG h2 (Df _ k (aR .aX) hk)
 unfold gQ Pm at h3
 exact h3
theorem ES{x:bN}(h:gW x≤1048576){k:Nat}(hk:k<x.ah.length):cz (x.ah.getD k (aR .bR))≤1048576:=by
 have h2:eN cz x.ah≤1048576:=by unfold gW at h;omega
 exact mG h2 (Df _ k (aR .bR) hk)
theorem ET{d:bR}(h:cz d≤1048576):eN aL d.live.bp≤1048576∧eN aL d.live.inbox≤1048576∧eN aL d.saved.bp≤1048576∧eN aL d.saved.inbox≤1048576:=by
 unfold cz dQ at h
 omega
theorem SG{x:bN}(h:gW x≤1048576){k:Nat}(hk:k<x.ah.length):(x.ah.getD k (aR .bR)).live.inbox.length≤1048576:=eF (ET (ES h hk)).2.1
theorem Lj{x:bN}{c f:gI}{n:Nat}{r:aX}(h:r.round<f.next∨c.bp.length≤n):wu x c f n r=n:=if_pos h
theorem NO{x:bN}{c f:gI}{n:Nat}{r:aX}(h: ¬(r.round<f.next∨c.bp.length≤n))(h2:(yK r.db (jQ c.key r.round (eI c) x.rows)&&(rowAt r.db (jQ c.key r.round (eI c) x.rows)==qg c n))=true):wu x c f n r=n+1:=by
 unfold wu;rw[if_neg h,if_pos h2]
theorem Ll{x:bN}{c f:gI}{n:Nat}{r:aX}(h: ¬(r.round<f.next∨c.bp.length≤n))(h2:(yK r.db (jQ c.key r.round (eI c) x.rows)&&(rowAt r.db (jQ c.key r.round (eI c) x.rows)==qg c n))=false):wu x c f n r=n:=by
 unfold wu;rw[if_neg h,if_neg (by rw[h2];decide)]
end
section
def kS(l:List aX)(f:Int):List Int:=(l.filter fun r=>decide (f≤r.round)).map aX.round
theorem Lm(l:List aX)(f:Int)(k:Nat)(h:k<l.length)(h2:f≤(l.getD k (aR .aX)).round):kS (l.take (k+1)) f=kS (l.take k) f++ [(l.getD k (aR .aX)).round]:=by
 unfold kS
 rw[cB l k (aR .aX) h,EU,gT]
 generalize l.getD k (aR .aX)=r at h2 ⊢
 simp[I4,h2]
theorem Iu(l:List aX)(f:Int)(k:Nat)(h:k<l.length)(h2: ¬f≤(l.getD k (aR .aX)).round):kS (l.take (k+1)) f=kS (l.take k) f:=by
 unfold kS
 rw[cB l k (aR .aX) h,EU,gT]
 generalize l.getD k (aR .aX)=r at h2 ⊢
 simp[I4,h2]
theorem Ds(l:List aX)(f:Int):(kS l f).length≤l.length:=by
 unfold kS
 rw[bt];exact List.length_filter_le _ _
theorem Iv(l:List aX)(f:Int)(k:Nat):(kS (l.take k) f).length≤k:=by
 have h1:=Ds (l.take k) f
 rw[bV]at h1
 omega
def uf(x:bN)(d:bR):Bool:= !(decide ((5:Int)<(kS x.aK.rounds d.saved.next).length)|| (decide ((8:Int)≤x.aK.rounds.length)&&decide (d.saved.next<(x.aK.rounds.getD 0 (aR .aX)).round)))
def ug(x:bN):Bool:=x.ah.all (uf x)
def Iw(x:bN)(i:Int):Bool:=iy x i&&Cf (x.ah.getD i.toNat (aR .bR)).live.inbox (x.ah.getD (i.toNat^^^1) (aR .bR)).live.bp
theorem PA{x:bN}{i:Int}(hd:x.ah.length≤1048576)(h:iy x i=true):(0≤i∧i<(x.ah.length:Int))∧(0≤af.wrap (aH af.bits i^^^aH af.bits 1).toNat∧af.wrap (aH af.bits i^^^aH af.bits 1).toNat<(x.ah.length:Int))∧
  (af.wrap (aH af.bits i^^^aH af.bits 1).toNat).toNat=i.toNat^^^1:=by
 obtain⟨h0,h1,h2,h3⟩:=Ph h
 have hx:=I1 i.toNat (by omega)
 rw[←h3]at hx
 rw[hx]
 exact⟨by omega,by omega,by simp⟩
theorem SH{x:bN}{i:Int}(hd:x.ah.length≤1048576):(iy x i&&Cf (x.ah.getD i.toNat (aR .bR)).live.inbox (x.ah.getD (af.wrap (aH af.bits i^^^aH af.bits 1).toNat).toNat (aR .bR)).live.bp)=Iw x i:=by
 unfold Iw
 cases h:iy x i with
 |false=>rfl
 |true=>rw[(PA hd h).2.2]
def auP(x:bN)(k:Nat):Bool:=Iw x (k:Int)&&pG x (k:Int)
def sK(x:bN):Bool:=okW x&&ug x&&(bT x.ah.length).all (auP x)
end
section
def NP(key c:Int)(cell:List UInt8):List UInt8:=decr (tM key c) (cell.take 20)
def Uf(key c:Int)(cell:List UInt8):Bool:=jl key&&inr c 0 1000000000000&&decide ((cell.length:Int)=24)&&(cell.drop 20==four (tL key c (cell.take 20)))
def opB(key c:Int)(cell:List UInt8):Bool:=inr ((NP key c cell).getD 0 (aR .u8)).toNat 0 3&&decide ((((NP key c cell).getD 1 (aR .u8)).toNat:Int)≤14)
def uG(key c:Int)(cell:List UInt8):Bool:=Uf key c cell&&opB key c cell
def opP(key c:Int)(cell:List UInt8):Plain:=if uG key c cell then⟨((NP key c cell).getD 0 (aR .u8)).toNat,((NP key c cell).take (2+((NP key c cell).getD 1 (aR .u8)).toNat)).drop 2⟩else⟨0,[]⟩
theorem PB{key c:Int}{cell:List UInt8}(h:Uf key c cell=true):(NP key c cell).length=20∧cell.length=24:=by
 simp only[Uf,az,decide_eq_true_eq]at h
 have:cell.length=24:=by omega
 refine⟨?_,this⟩
 unfold NP
 rw[tK,bV];omega
theorem sB{key c:Int}{cell:List UInt8}(h:uG key c cell=false):opP key c cell=⟨0,[]⟩:=by rw[opP,h];rfl
theorem ads(key c:Int)(cell:List UInt8):(opP key c cell).body.length≤14:=by
 unfold opP
 split
 ·rename_i h
  simp only[uG,opB,az,decide_eq_true_eq]at h
  simp only[b9,bV];omega
 ·exact aE _
theorem adt(a b c d:UInt8)(n:Int)(h0:0≤n)(h1:n<4294967296):([a,b,c,d]==four n)=decide ((a.toNat:Int)+256*b.toNat+65536*c.toNat+16777216*d.toNat=n):=by
 have ha:=a.toNat_lt;have hb:=b.toNat_lt;have hc:=c.toNat_lt;have hd:=d.toNat_lt
 rw[Ay,beq_iff_eq,decide_eq_true_eq]
 have key: ∀(x:UInt8) (m:Int),x=b8 m↔(x.toNat:Int)=m % 256:=by
  intro x m
  constructor
  ·rintro rfl;exact Et m
  ·intro h;apply Vd;rw[Et];exact h
 unfold four
 simp only[List.cons.injEq,and_true,key]
 constructor
 ·rintro⟨q1,q2,q3,q4⟩;omega
 ·intro h;omega
def isR(r:Int)(a:aX):Bool:=a.round==r
def oM(l:List aX)(r:Int):Bool:=l.any (isR r)
def lY(l:List aX)(r:Int):DB:=if oM l r then(l.getD (fidx (isR r) l).toNat (aR .aX)).db else⟨[]⟩
theorem adv{l:List aX}{r:Int}{k:Nat}(h:k<l.length)(h1:(l.take k).any (isR r)=false)(h2:isR r (l.getD k (aR .aX))=true):oM l r=true∧lY l r=(l.getD k (aR .aX)).db:=by
 have ha:oM l r=true:=Ew l (isR r) (aR .aX) k h h2
 exact⟨ha,by rw[lY,if_pos ha,Av (aR .aX) h h1 h2];rfl⟩
theorem JC{l:List aX}{r:Int}(h:l.any (isR r)=false):oM l r=false∧lY l r=⟨[]⟩:=⟨h,by rw[lY,oM,h];rfl⟩
def ahJ(rows:List (List UInt8))(v:List Int)(o:List UInt8)(k:Nat):List UInt8:=if decide ((k:Int)<v.length)&&(v.getD k (aR .int)==1)then iG o (rows.getD k (aR (.sl .u8)))else o
def ya(rows:List (List UInt8))(v:List Int)(k:Nat):List UInt8:=(bT k).foldl (ahJ rows v) []
def EX(rows:List (List UInt8))(v:List Int):List UInt8:=ya rows v rows.length
theorem NQ(rows:List (List UInt8))(v:List Int)(k:Nat):ya rows v (k+1)=ahJ rows v (ya rows v k) k:=by
 unfold ya
 rw[fP,gf];rfl
theorem EY{rows:List (List UInt8)}{v:List Int}{k:Nat}(h:k<v.length)(h1:v.getD k (aR .int)=1):ya rows v (k+1)=iG (ya rows v k) (rows.getD k (aR (.sl .u8))):=by
 rw[NQ,ahJ,if_pos]
 simp only[az,decide_eq_true_eq,beq_iff_eq]
 exact⟨by omega,h1⟩
theorem wJ{rows:List (List UInt8)}{v:List Int}{k:Nat}(h: ¬(k<v.length∧v.getD k (aR .int)=1)):ya rows v (k+1)=ya rows v k:=by
 rw[NQ,ahJ,if_neg]
 simp only[az,decide_eq_true_eq,beq_iff_eq]
 intro h2
 exact h ⟨by omega,h2.2⟩
theorem NR(rows:List (List UInt8))(v:List Int)(k:Nat)(h:v.length≤k): ∀n,ya rows v (k+n)=ya rows v k
 |0=>rfl
 |n+1=>by rw[←Nat.add_assoc,wJ (by omega)];exact NR rows v k h n
theorem SI{rows:List (List UInt8)}{v:List Int}{k:Nat}(hk:k≤rows.length)(h:rows.length≤k∨v.length≤k):ya rows v k=EX rows v:=by
 unfold EX
 rcases h with h|h
 ·rw[show k=rows.length by omega]
 ·have:=NR rows v k h (rows.length-k)
  rw[show k+(rows.length-k)=rows.length by omega]at this
  exact this.symm
theorem AQ{rows:List (List UInt8)}(v:List Int)(h: ∀r,r∈rows→r.length≤1048576): ∀k,k≤rows.length→(ya rows v k).length≤1048576
 |0,_=>aE _
 |k+1,hk=>by
  have ih:=AQ v h k (by omega)
  by_cases hh:k<v.length∧v.getD k (aR .int)=1
  ·rw[EY hh.1 hh.2,gK]
   have:=h _ (getD_in (aR (.sl .u8)) (show k<rows.length by omega))
   omega
  ·rw[wJ hh];exact ih
def kB(d:DB)(v:List Int):List UInt8:=if eZ d&&kG v d.rows.length then iG zer (EX d.rows v)else []
theorem AR(d:DB)(v:List Int):(kB d v).length=24∨kB d v= []:=by
 unfold kB
 split
 ·left
  rename_i h
  simp only[az]at h
  have key: ∀k,k≤d.rows.length→(ya d.rows v k).length≤24:=by
   intro k
   induction k with
   |zero=>intro _;exact aE _
   |succ k ih=>
    intro hk
    by_cases hh:k<v.length∧v.getD k (aR .int)=1
    ·rw[EY hh.1 hh.2,gK,uU h.1 k (by omega)]
     have:=ih (by omega);omega
    ·rw[wJ hh];exact ih (by omega)
  have:=key d.rows.length (bq _)
  unfold EX
  rw[gK,xU];omega
 ·right;rfl
def Ln(key sv r:Int)(v:List Int)(b:List UInt8):Int:=kh key ([191,sv,r,(v.length:Int)]++v++Mk b)
def mkA(key sv r:Int)(v:List Int)(b:List UInt8):e9:=⟨sv,r,v,b,Ln key sv r v b⟩
def pQ(d:DB)(v:List Int):Bool:= !((kB d v).length==0)
def noA:e9:=⟨0,0,[],[],0⟩
def uC(key sv r:Int)(d:DB)(v:List Int):e9:=if pQ d v then mkA key sv r v (kB d v)else noA
def Ug(b:List UInt8):List UInt8:=b.set 0 (b.getD 0 (aR .u8)^^^128)
def Vw(s:cu)(key r:Int)(d:DB)(v:List Int):e9:=if pQ d v then(if s.behavior=3 then mkA key s.id r v (Ug (kB d v))else mkA key s.id r v (kB d v))else noA
theorem adw(s:cu)(key r:Int)(d:DB)(v:List Int):(Vw s key r d v).data.length=24∨(pQ d v=false∧(Vw s key r d v).data= []):=by
 unfold Vw
 cases h:pQ d v with
 |false=>right;exact⟨rfl,rfl⟩
 |true=>
  left
  have h1:=AR d v
  have h2:(kB d v).length=24:=by
   rcases h1 with h1|h1
   ·exact h1
   ·rw[pQ,h1]at h;cases h
  simp only[if_true]
  split
  ·show(Ug (kB d v)).length=24
   unfold Ug;rw[cm];exact h2
  ·exact h2
def lV(l:List (List UInt8)):Bool:=dG l.length&&l.all fun a=>decide ((a.length:Int)=24)
def Cj(l:List (List UInt8)):List UInt8:=l.foldl iG []
def cmb(l:List (List UInt8)):List UInt8:=if lV l then Cj l else []
theorem G6(l:List (List UInt8))(k:Nat)(h:k<l.length):Cj (l.take (k+1))=iG (Cj (l.take k)) (l.getD k (aR (.sl .u8))):=by
 unfold Cj
 rw[cB l k (aR (.sl .u8)) h,gf];rfl
theorem Lo{l:List (List UInt8)}(h: ∀a,a∈l→a.length≤1048576): ∀k,(Cj (l.take k)).length≤1048576:=by
 intro k
 induction k with
 |zero=>exact aE _
 |succ k ih=>
  by_cases hk:k<l.length
  ·rw[G6 l k hk,gK]
   have:=h _ (getD_in (aR (.sl .u8)) hk)
   omega
  ·rw[aD (by omega)]at ih ⊢
   exact ih
def adx(x:bN)(r:Int)(d:DB)(q:List (List Int))(i:Nat):e9:=Vw (x.aG.getD i (aR .cu)) (nF x.ck (i:Int)) r d (q.getD i (aR (.sl .int)))
def AS(x:bN)(r:Int)(d:DB)(q:List (List Int))(n:Nat):List e9:=(bT n).map (adx x r d q)
theorem Lp(x:bN)(r:Int)(d:DB)(q:List (List Int))(n:Nat):AS x r d q (n+1)=AS x r d q n++ [adx x r d q n]:=by
 unfold AS
 rw[fP,gT];rfl
theorem NS(x:bN)(r:Int)(d:DB)(q:List (List Int))(n:Nat):(AS x r d q n).length=n:=by simp[AS]
def query'(x:bN)(r row s:Int):List (List Int):=wz x.rows row (lE x.aG.length r row s)
def CP(x:bN)(r row s:Int):List (List UInt8):=(AS x r (lY x.aK.rounds r) (query' x r row s) (query' x r row s).length).map e9.data
def AT(x:bN)(r row s:Int):Bool:=oM x.aK.rounds r&&lV (CP x r row s)
def EZ(x:bN)(r row s:Int):List UInt8:=if oM x.aK.rounds r then cmb (CP x r row s)else []
theorem ady{x:bN}{r row s:Int}{k:Nat}(hk:k<(query' x r row s).length)(h:pQ (lY x.aK.rounds r) ((query' x r row s).getD k (aR (.sl .int)))=false):lV (CP x r row s)=false:=by
 unfold lV
 have h1:(adx x r (lY x.aK.rounds r) (query' x r row s) k).data∈CP x r row s:=by
  unfold CP AS
  rw[List.map_map]
  exact cO.2 ⟨k,eg.2 hk,rfl⟩
 have h2:(adx x r (lY x.aK.rounds r) (query' x r row s) k).data= []:=by
  rcases adw (x.aG.getD k (aR .cu)) (nF x.ck (k:Int)) r (lY x.aK.rounds r) ((query' x r row s).getD k (aR (.sl .int)))with h3|h3
  ·unfold adx;unfold Vw;rw[h];rfl
  ·exact h3.2
 have h3:((CP x r row s).all fun a=>decide ((a.length:Int)=24))=false:=by
  rw[qx]
  exact⟨_,h1,by rw[h2];decide⟩
 rw[h3,nG]
def zj(c:gI)(r:Int):Bool:=ga c&&inr r c.next 99999
def yN(c:gI)(own:List UInt8):Bool:=decide (c.sent<(c.bp.length:Int))&&(own==qg c c.sent)
def Lr(c:gI):Int:=xO c.key (1-eI c)
def oN(c:gI)(other:List UInt8):Bool:=(uG (Lr c) (c.inbox.length:Int) other&&((opP (Lr c) (c.inbox.length:Int) other).kind==1))&&decide ((c.inbox.length:Int)<16)
def kg(c:gI)(r:Int)(own other:List UInt8):gI:=if zj c r then⟨c.id,c.fJ,c.key,c.seed,c.bp,if yN c own then c.sent+1 else c.sent,if oN c other then c.inbox++ [(opP (Lr c) (c.inbox.length:Int) other).body]else c.inbox,r+1⟩else c
def CQ(d:bR):Bool:=fu d&&decide (4≤af.wrap (d.live.next-d.saved.next))
def Ck(d:bR)(r:Int):Bool:=zj d.live r&&fu d
def rI(d:bR)(r:Int)(own other:List UInt8):bR:=⟨kg d.live r own other,d.saved⟩
def rdev(d:bR)(r:Int)(own other:List UInt8):bR:=if Ck d r then(if CQ (rI d r own other)then⟨kg d.live r own other,kg d.live r own other⟩else rI d r own other)else d
def yO(a b:gI):Prop:=a.id=b.id∧a.fJ=b.fJ∧a.key=b.key∧a.seed=b.seed
theorem Dt(c:gI)(r:Int)(own other:List UInt8):yO (kg c r own other) c:=by
 unfold kg
 split
 ·exact⟨rfl,rfl,rfl,rfl⟩
 ·exact⟨rfl,rfl,rfl,rfl⟩
theorem Z5(d:bR)(r:Int)(own other:List UInt8):yO (rdev d r own other).live d.live:=by
 unfold rdev
 split
 ·split
  ·exact Dt _ _ _ _
  ·exact Dt _ _ _ _
 ·exact⟨rfl,rfl,rfl,rfl⟩
theorem Vx{a b:gI}(h:yO a b):eI a=eI b:=by unfold eI;rw[h.1,h.2.1]
def Vy(x:bN)(d0 d:bR)(r:Int):bR:=rdev d r (EZ x r (jQ d0.live.key r (eI d0.live) x.rows) d0.live.seed) (EZ x r (jQ d0.live.key r (1-eI d0.live) x.rows) d0.live.seed)
def SJ(x:bN)(d0:bR)(l:List Int):bR:=l.foldl (Vy x d0) d0
theorem Z6(x:bN)(d0:bR)(l:List Int)(k:Nat)(h:k<l.length):SJ x d0 (l.take (k+1))=Vy x d0 (SJ x d0 (l.take k)) (l.getD k (aR .int)):=by
 unfold SJ
 rw[cB l k (aR .int) h,gf];rfl
theorem G7(x:bN)(d0:bR): ∀(l:List Int) (d:bR),yO d.live d0.live→yO (l.foldl (Vy x d0) d).live d0.live
 | [],_,h=>h
 |r::l,d,h=>by
  refine G7 x d0 l _ ?_
  have:=Z5 d r (EZ x r (jQ d0.live.key r (eI d0.live) x.rows) d0.live.seed) (EZ x r (jQ d0.live.key r (1-eI d0.live) x.rows) d0.live.seed)
  exact⟨this.1.trans h.1,this.2.1.trans h.2.1,this.2.2.1.trans h.2.2.1,this.2.2.2.trans h.2.2.2⟩
def wK(x:bN)(d:bR):List Int:=kS x.aK.rounds d.live.next
def uk(x:bN)(d:bR):bR:=SJ x d (wK x d)
def xe(x:bN)(k i:Nat):List bR:=(x.ah.map (uk x)).take k++(SJ x (x.ah.getD k (aR .bR)) ((wK x (x.ah.getD k (aR .bR))).take i)::x.ah.drop (k+1))
def rdK(x:bN)(k:Nat):List bR:=(x.ah.map (uk x)).take k++x.ah.drop k
theorem adz(x:bN)(k:Nat)(h:k<x.ah.length):xe x k 0=rdK x k:=by
 unfold xe rdK
 rw[List.take_zero,fG h,show x.ah[k]=x.ah.getD k (aR .bR)by rw[aA,aC h];rfl];rfl
theorem E0(x:bN)(k:Nat)(h:k<x.ah.length):((x.ah.map (uk x)).take k).length=k:=by
 rw[bV,bt];omega
theorem XC(x:bN)(k i:Nat)(h:k<x.ah.length):(xe x k i).length=x.ah.length:=by
 unfold xe
 rw[bf,E0 x k h,bF,b9];omega
theorem JD(x:bN)(k i:Nat)(h:k<x.ah.length):(xe x k i).getD k (aR .bR)=SJ x (x.ah.getD k (aR .bR)) ((wK x (x.ah.getD k (aR .bR))).take i):=by
 unfold xe
 rw[aA,cU (by rw[E0 x k h];omega),E0 x k h,uQ];rfl
theorem SK(x:bN)(k i:Nat)(h:k<x.ah.length)(hi:i<(wK x (x.ah.getD k (aR .bR))).length):(xe x k i).set k (Vy x (x.ah.getD k (aR .bR)) ((xe x k i).getD k (aR .bR)) ((wK x (x.ah.getD k (aR .bR))).getD i (aR .int)))=xe x k (i+1):=by
 rw[JD x k i h, ←Z6 x _ _ i hi]
 unfold xe
 rw[Am _ _ (by rw[E0 x k h];omega),E0 x k h,uQ];rfl
theorem XD(x:bN)(k i:Nat)(h:k<x.ah.length)(hi:(wK x (x.ah.getD k (aR .bR))).length≤i):xe x k i=rdK x (k+1):=by
 unfold xe rdK
 rw[aD hi,cB (x.ah.map (uk x)) k (aR .bR) (by rw[bt];exact h),bO]
 congr 1
 rw[show(x.ah.map (uk x)).getD k (aR .bR)=uk x (x.ah.getD k (aR .bR))by
  rw[aA,aA,dB,aC h];rfl]
 rfl
theorem XE(x:bN)(k:Nat)(h:k<x.ah.length):(rdK x k).getD k (aR .bR)=x.ah.getD k (aR .bR):=by rw[←adz x k h,JD x k 0 h];rfl
theorem XF(x:bN)(k:Nat)(h:k≤x.ah.length):(rdK x k).length=x.ah.length:=by
 unfold rdK
 rw[pg _ _ _ (by rw[bt]) h]
def Ls(x:bN):bN:=if okW x then⟨x.rows,x.aG,x.ah.map (uk x),x.aK,x.ck,x.seed,x.round,x.replaced,x.cancelled⟩else x
theorem XG(x:bN)(k:Nat)(hk:k≤x.ah.length)(h:x.ah.length≤k):rdK x k=x.ah.map (uk x):=by
 unfold rdK
 rw[aD (by rw[bt];exact h),ir h,dA]
end
section
theorem Z7(x:UInt8):af.wrap (x.toNat:Int)=x.toNat:=dm (by have:=x.toNat_lt;omega)
def opk(key c:Int)(cell:List UInt8):Int:=((NP key c cell).getD 0 (aR .u8)).toNat
def Ml(key c:Int)(cell:List UInt8):Nat:=((NP key c cell).getD 1 (aR .u8)).toNat
def opb(key c:Int)(cell:List UInt8):List UInt8:=((NP key c cell).take (2+Ml key c cell)).drop 2
theorem al8(key c:Int)(cell:List UInt8):Ml key c cell<256:=((NP key c cell).getD 1 (aR .u8)).toNat_lt
theorem adA(key c:Int)(cell:List UInt8):decr (tM key c) ((cell.take (20:Int).toNat).drop (0:Int).toNat)=NP key c cell:=by unfold NP;simp
theorem Vz(key c:Int)(cell:List UInt8):((NP key c cell).take (af.wrap (2+af.wrap (((NP key c cell).getD (cQ 1) (aR .u8)).toNat:Int))).toNat).drop (cQ 2)=opb key c cell:=by
 have h:=al8 key c cell
 rw[Z7,dm (by show _∧2+(Ml key c cell:Int)≤_;show _≤2+(Ml key c cell:Int)∧_;omega)]
 show((NP key c cell).take (2+(Ml key c cell:Int)).toNat).drop 2=_
 rw[show(2+(Ml key c cell:Int)).toNat=2+Ml key c cell by omega];rfl
theorem ajP{key c:Int}{cell:List UInt8}(h:14<Ml key c cell):uG key c cell=false:=by
 have:opB key c cell=false:=by
  simp only[opB,mu,decide_eq_false_iff_not]
  right
  show¬((Ml key c cell:Int)≤14)
  omega
 rw[uG,this,nG]
theorem VA{key c:Int}{cell:List UInt8}(h:Uf key c cell=false):uG key c cell=false:=by rw[uG,h];rfl
theorem PC{key c:Int}{cell:List UInt8}(hA:Uf key c cell=true)(h:Ml key c cell≤14):(opb key c cell).length=Ml key c cell:=by
 have:=(PB hA).1
 unfold opb
 rw[b9,bV];omega
theorem aoR{key c:Int}{cell:List UInt8}(hA:Uf key c cell=true)(h:Ml key c cell≤14):nO ⟨opk key c cell,opb key c cell⟩=uG key c cell:=by
 have hl:=PC hA h
 rw[uG,hA,dn,nO,opB]
 show(inr (opk key c cell) 0 3&&decide (((opb key c cell).length:Int)≤14))=(inr (opk key c cell) 0 3&&decide ((Ml key c cell:Int)≤14))
 rw[hl]
theorem JE{key c:Int}{cell:List UInt8}(h:uG key c cell=true):opP key c cell=⟨opk key c cell,opb key c cell⟩:=by rw[opP,if_pos h];rfl
theorem aoS{key c:Int}{cell:List UInt8}(hA:Uf key c cell=true)(h:Ml key c cell≤14)(hk:opk key c cell≤3):uG key c cell=true:=by
 rw[uG,hA,dn,opB]
 simp only[az,dS,decide_eq_true_eq]
 exact⟨⟨by omega,hk⟩,by show(Ml key c cell:Int)≤14;omega⟩
theorem al9{key c:Int}{cell:List UInt8}(h:3<opk key c cell):uG key c cell=false:=by
 have:opB key c cell=false:=by
  simp only[opB,mu]
  left
  rw[ajB]
  show¬(0≤opk key c cell∧opk key c cell≤3)
  omega
 rw[uG,this,nG]
theorem ama(a b k:Nat)(h:a<2^k):a||| (b*2^k)=a+b*2^k:=by
 have:=Nat.two_pow_add_eq_or_of_lt h b
 rw[Nat.mul_comm b,Nat.or_comm, ←this,AU]
theorem amd{a:Nat}{b k:Nat}(ha:a<2^k)(hb:b<256)(hk:k=8∨k=16∨k=24):af.wrap (aH af.bits (a:Int)|||aH af.bits (af.wrap ((b:Int)*2^k))).toNat=((a+b*2^k:Nat):Int):=by
 have hp:b*2^k<2^32:=by
  rcases hk with rfl|rfl|rfl<;>omega
 have ha2:a<2^24:=by
  rcases hk with rfl|rfl|rfl<;>omega
 have e:((b:Int)*2^k)=((b*2^k:Nat):Int):=by push_cast;rfl
 rw[e,dm (a:=((b*2^k:Nat):Int)) (by omega),iY,iY,BitVec.toNat_or,jP,jP]
 show af.wrap (((a % 2^64|||b*2^k % 2^64:Nat)):Int)=_
 rw[jJ (by omega),jJ (by omega),ama a b k ha,dm (by omega)]
def ame(cell:List UInt8):Int:=((cell.getD 20 (aR .u8)).toNat:Int)+256*(cell.getD 21 (aR .u8)).toNat+65536*(cell.getD 22 (aR .u8)).toNat+16777216*(cell.getD 23 (aR .u8)).toNat
theorem ahK(cell:List UInt8):af.wrap (aH af.bits (af.wrap (aH af.bits (af.wrap (aH af.bits (af.wrap ((cell.getD (cQ 20) (aR .u8)).toNat:Int))|||aH af.bits (af.wrap (af.wrap ((cell.getD (cQ 21) (aR .u8)).toNat:Int)*2^(min (cQ 8) af.bits)))).toNat)|||aH af.bits (af.wrap (af.wrap ((cell.getD (cQ 22) (aR .u8)).toNat:Int)*2^(min (cQ 16) af.bits)))).toNat)|||aH af.bits (af.wrap (af.wrap ((cell.getD (cQ 23) (aR .u8)).toNat:Int)*2^(min (cQ 24) af.bits)))).toNat=ame cell:=by
 have h0:=(cell.getD 20 (aR .u8)).toNat_lt
 have h1:=(cell.getD 21 (aR .u8)).toNat_lt
 have h2:=(cell.getD 22 (aR .u8)).toNat_lt
 have h3:=(cell.getD 23 (aR .u8)).toNat_lt
 rw[Z7,Z7,Z7,Z7]
 show af.wrap (aH af.bits (af.wrap (aH af.bits (af.wrap (aH af.bits (((cell.getD 20 (aR .u8)).toNat:Nat):Int)|||aH af.bits (af.wrap ((((cell.getD 21 (aR .u8)).toNat:Nat):Int)*2^8))).toNat)|||aH af.bits (af.wrap ((((cell.getD 22 (aR .u8)).toNat:Nat):Int)*2^16))).toNat)|||aH af.bits (af.wrap ((((cell.getD 23 (aR .u8)).toNat:Nat):Int)*2^24))).toNat=_
 rw[amd (k:=8) h0 h1 (by omega),amd (k:=16) (by omega) h2 (by omega),amd (k:=24) (by omega) h3 (by omega)]
 unfold ame
 omega
theorem amf{cell:List UInt8}(h:cell.length=24):cell.drop 20= [cell.getD 20 (aR .u8),cell.getD 21 (aR .u8),cell.getD 22 (aR .u8),cell.getD 23 (aR .u8)]:=by
 rw[getD_drop cell 20 (aR .u8) (by omega),getD_drop cell 21 (aR .u8) (by omega),getD_drop cell 22 (aR .u8) (by omega),getD_drop cell 23 (aR .u8) (by omega),ir (by omega)]
theorem ahL{key c:Int}{cell:List UInt8}(h1:jl key=true)(h2:inr c 0 1000000000000=true)(h3:cell.length=24):Uf key c cell=decide (ame cell=tL key c (cell.take 20)):=by
 have hr:=gB key (71::c::(cell.take 20).map (fun x=>(x.toNat:Int)))
 have hr2:0≤tL key c (cell.take 20)∧tL key c (cell.take 20)<2147483647:=hr
 rw[Uf,h1,h2,show decide ((cell.length:Int)=24)=true by rw[decide_eq_true_eq];omega,dn,dn,dn,amf h3,adt _ _ _ _ _ hr2.1 (by omega)]
 rfl
def opH(key c:Int)(cell:List UInt8):Bool:=jl key&&inr c 0 1000000000000&&decide ((cell.length:Int)=24)
theorem amg{key c:Int}{cell:List UInt8}(h:opH key c cell=false):uG key c cell=false:=by
 apply VA
 unfold opH at h
 rw[Uf,h];rfl
theorem aoT{key c:Int}{cell:List UInt8}(h:opH key c cell=true):jl key=true∧inr c 0 1000000000000=true∧cell.length=24:=by
 simp only[opH,az,decide_eq_true_eq]at h
 exact⟨h.1.1,h.1.2,by omega⟩
theorem adE(l:List UInt8):l.set (cQ 0) (cT (cC.wrap ((aH cC.bits (((l.getD (cQ 0) (aR .u8)).toNat:Nat):Int)^^^aH cC.bits 128).toNat:Int)).toNat)=Ug l:=by
 have:=acY (l.getD (cQ 0) (aR .u8)) 128
 rw[show(((128:UInt8).toNat:Nat):Int)=128 from rfl]at this
 rw[this];rfl
theorem XH{d:DB}{v:List Int}(h:(kB d v).length=0):pQ d v=false:=by rw[pQ,h];rfl
theorem Lu{d:DB}{v:List Int}(h: ¬(kB d v).length=0):pQ d v=true:=by
 rw[pQ,bX]
 exact beq_eq_false_iff_ne.2 h
theorem adF{key sv r:Int}{d:DB}{v:List Int}(h:pQ d v=false):uC key sv r d v=noA:=by rw[uC,h];rfl
theorem JG{key sv r:Int}{d:DB}{v:List Int}(h:pQ d v=true):uC key sv r d v=mkA key sv r v (kB d v):=by rw[uC,if_pos h]
theorem JH{d:DB}{v:List Int}(h:pQ d v=true):(kB d v).length=24:=by
 rcases AR d v with h1|h1
 ·exact h1
 ·rw[pQ,h1]at h;cases h
theorem adG{s:cu}{key r:Int}{d:DB}{v:List Int}(h:(pQ d v&&(s.behavior==3))=false):Vw s key r d v=uC key s.id r d v:=by
 unfold Vw uC
 cases hk:pQ d v with
 |false=>rfl
 |true=>
  rw[hk,dn,beq_eq_false_iff_ne]at h
  rw[if_pos rfl,if_pos rfl,if_neg h]
theorem XI{s:cu}{key r:Int}{d:DB}{v:List Int}(h:(pQ d v&&(s.behavior==3))=true):pQ d v=true∧Vw s key r d v=mkA key s.id r v (Ug (kB d v)):=by
 rw[az,beq_iff_eq]at h
 exact⟨h.1,by rw[Vw,if_pos h.1,if_pos h.2]⟩
theorem PD(b:List UInt8):(Ug b).length=b.length:=by unfold Ug;rw[cm]
theorem ajR(s:cu)(key r:Int)(d:DB){v:List Int}(hv:v.length≤262144):(Vw s key r d v).selection.length≤262144∧(Vw s key r d v).data.length≤262144:=by
 have h:=AR d v
 have h2:(kB d v).length≤262144:=by
  rcases h with h|h
  ·omega
  ·rw[h];exact aE _
 unfold Vw
 split
 ·split
  ·exact⟨hv,by show(Ug (kB d v)).length≤_;rw[PD];exact h2⟩
  ·exact⟨hv,h2⟩
 ·exact⟨aE _,aE _⟩
theorem PE{l:List (List UInt8)}(h:lV l=true):cmb l=Cj l:=by rw[cmb,if_pos h]
theorem E1{l:List (List UInt8)}(h:lV l=false):cmb l= []:=by rw[cmb,h];rfl
theorem Lv{l:List (List UInt8)}(h:lV l=true): ∀a,a∈l→a.length≤1048576:=by
 intro a ha
 simp only[lV,az,bE,decide_eq_true_eq]at h
 have:=h.2 a ha
 omega
theorem ahM{l:List (List UInt8)}{k:Nat}(hk:k<l.length)(h: ¬(l.getD k (aR (.sl .u8))).length=24):lV l=false:=by
 have h2:(l.all fun a=>decide ((a.length:Int)=24))=false:=KK _ _ (aR (.sl .u8)) k hk (by rw[decide_eq_false_iff_not];omega)
 rw[lV,h2,nG]
theorem adH(rows i:Int)(sd:List Int): ∀v,v∈wz rows i sd→v.length≤64:=by
 intro v hv
 unfold wz at hv
 split at hv
 ·rcases bg.1 hv with h|h
  ·obtain⟨s,_,rfl⟩:=cO.1 h
   exact mj _ _
  ·rw[aZ.1 h]
   exact GO rows i sd
 ·cases hv
theorem adI(rows i:Int)(sd:List Int):(wz rows i sd).length≤sd.length+1:=by
 unfold wz
 split
 ·rw[bf,bt];simp
 ·exact aE _
theorem XJ{x:bN}(r row s:Int)(h:okW x=true):(query' x r row s).length≤x.aG.length:=by
 have h1:=adI x.rows row (lE x.aG.length r row s)
 have h2:=tT x.aG.length r row s
 have h3:=(ij h).2
 unfold query'
 omega
theorem adJ(x:bN)(r row s:Int)(k:Nat):((query' x r row s).getD k (aR (.sl .int))).length≤64:=by
 rw[aA]
 cases hq:(query' x r row s)[k]? with
 |none=>exact aE _
 |some v=>exact adH _ _ _ v (dU hq)
theorem Lw{x:bN}{r row s:Int}(h:oM x.aK.rounds r=false):EZ x r row s= []∧AT x r row s=false:=⟨by rw[EZ,h];rfl,by rw[AT,h];rfl⟩
theorem PF{x:bN}{r row s:Int}(h:oM x.aK.rounds r=true):EZ x r row s=cmb (CP x r row s)∧AT x r row s=lV (CP x r row s):=⟨by rw[EZ,if_pos h],by rw[AT,h,dn]⟩
theorem PG{x:bN}(h:okW x=true):x.aK.rounds.length≤8∧ ∀y,y∈x.aK.rounds→eN aL y.db.rows≤1048576:=by
 have ha:=sA h
 simp only[R5,az]at ha
 have ha:jz x.aK=true:=ha.1.1.1.1.1.2
 simp only[jz,KQ,az,bE,eg,decide_eq_true_eq]at ha
 refine⟨by omega,fun y hy=> ?_⟩
 obtain⟨i,hi,rfl⟩:=eR.1 hy
 have h2:=ha.2 i hi
 have e:x.aK.rounds.getD i (aR .aX)=x.aK.rounds[i]:=by rw[aA,aC hi];rfl
 simp only[vK,e,az]at h2
 exact gX h2.1.2
end
section
def kU(rows:Int)(l:List bJ):DB:=l.foldl (fun d r=>lf d r.share) (gG rows)
theorem NT(rows:Int)(l:List bJ)(k:Nat)(h:k<l.length):kU rows (l.take (k+1))=lf (kU rows (l.take k)) (l.getD k (aR .bJ)).share:=by
 unfold kU
 rw[cB l k (aR .bJ) h,gf];rfl
theorem adP(rows:Int):eZ (gG rows)=true:=by
 rw[nE]
 refine⟨wA rows,fun r hr=> ?_⟩
 unfold gG at hr
 dsimp only at hr
 split at hr
 ·rw[(EN.1 hr).2];exact xU
 ·cases hr
theorem Du(a b:DB):(lf a b).rows.length=a.rows.length:=by
 cases h:mO a b with
 |true=>rw[BV h];exact oy h
 |false=>rw[wD h]
theorem B1{a b:DB}(ha:eZ a=true):eZ (lf a b)=true:=by
 cases h:mO a b with
 |true=>exact Sp ha (AG h).2.1
 |false=>rw[wD h];exact ha
theorem XL(rows:Int): ∀(l:List bJ) (d:DB),eZ d=true→eZ (l.foldl (fun d r=>lf d r.share) d)=true∧(l.foldl (fun d r=>lf d r.share) d).rows.length=d.rows.length
 | [],d,h=>⟨h,rfl⟩
 |r::l,d,h=>by
  have ih:=XL rows l (lf d r.share) (B1 h)
  rw[Du]at ih
  exact ih
theorem He(rows:Int)(l:List bJ):eZ (kU rows l)=true∧(kU rows l).rows.length=(gG rows).rows.length:=XL rows l _ (adP rows)
theorem XM(rows:Int)(l:List bJ):eN aL (kU rows l).rows≤1048576:=gX (He rows l).1
theorem XN{s:cu}(h:ec s=true):(1≤s.rows∧s.rows≤64)∧s.received.length≤8:=by
 simp only[ec,Au,az,dS,decide_eq_true_eq]at h
 omega
theorem E4{s:cu}(h:ec s=true): ∀r,r∈s.received→eN aL r.share.rows≤1048576:=by
 intro r hr
 obtain⟨i,hi,rfl⟩:=eR.1 hr
 simp only[ec,az,bE,eg]at h
 have h2:=h.2 i hi
 have e:s.received.getD i (aR .bJ)=s.received[i]:=by rw[aA,aC hi];rfl
 simp only[tN,e,az]at h2
 exact gX h2.1.2
theorem aaa(rows:Int)(l:List bJ)(f k:Nat)(h:k<l.length)(hf:f≤k):kU rows ((l.drop f).take (k+1-f))=lf (kU rows ((l.drop f).take (k-f))) (l.getD k (aR .bJ)).share:=by
 rw[show k+1-f=(k-f)+1 by omega,NT _ _ _ (by rw[b9];omega)]
 congr 2
 rw[aA,cK,show f+(k-f)=k by omega];rfl
theorem adQ(rows:Int)(l:List bJ)(f k:Nat)(h:l.length≤k):kU rows ((l.drop f).take (k-f))=kU rows (l.drop f):=by
 rw[aD (by rw[b9];omega)]
def zm(s:cu):DB:=if ec s then kU s.rows s.received else⟨[]⟩
def alt(d:DB):DB:=⟨d.rows.set 0 ((d.rows.getD 0 (aR (.sl .u8))).set 0 ((d.rows.getD 0 (aR (.sl .u8))).getD 0 (aR .u8)^^^1))⟩
def rcvd(s:cu):List bJ:=if s.behavior=1 then s.received.drop 1 else s.received
def yd(s:cu):DB:=if ec s then(if s.behavior=2 then alt (kU s.rows (rcvd s))else kU s.rows (rcvd s))else⟨[]⟩
theorem alt_eq(d:DB):d.rows.set (cQ 0) ((d.rows.getD (cQ 0) (aR (.sl .u8))).set (cQ 0) (cT (cC.wrap ((aH cC.bits ((((d.rows.getD (cQ 0) (aR (.sl .u8))).getD (cQ 0) (aR .u8)).toNat:Nat):Int)^^^aH cC.bits 1).toNat:Int)).toNat))=(alt d).rows:=by
 have:=acY ((d.rows.getD (cQ 0) (aR (.sl .u8))).getD (cQ 0) (aR .u8)) 1
 rw[show(((1:UInt8).toNat:Nat):Int)=1 from rfl]at this
 rw[this];rfl
theorem adS(a b:Int):kr a b≤a∧kr a b≤b∧(kr a b=a∨kr a b=b):=by unfold kr;split<;>omega
theorem adT(l:List bJ):l.drop (kr 1 (l.length:Int)).toNat=l.drop 1:=by
 have:=adS 1 (l.length:Int)
 cases l with
 |nil=>simp
 |cons x r=>
  have h1:kr 1 (((x::r).length:Nat):Int)=1:=by rw[bF]at this ⊢;omega
  rw[h1];rfl
theorem adU{s:cu}(h:ec s=true):0<(kU s.rows (rcvd s)).rows.length∧0<((kU s.rows (rcvd s)).rows.getD 0 (aR (.sl .u8))).length:=by
 have h1:=XN h
 have h2:=He s.rows (rcvd s)
 have h3:(gG s.rows).rows.length=s.rows.toNat:=by rw[s6 (by omega)];simp
 have h4:0<(kU s.rows (rcvd s)).rows.length:=by omega
 exact⟨h4,by rw[uU h2.1 0 h4];decide⟩
theorem NU(s:cu):s.behavior=1→rcvd s=s.received.drop 1:=fun h=>if_pos h
theorem SM(s:cu): ¬s.behavior=1→rcvd s=s.received:=fun h=>if_neg h
theorem adV{d:DB}(h:eZ d=true):eZ (alt d)=true:=by
 rw[nE]at h ⊢
 refine⟨by unfold alt;dsimp only;rw[cm];exact h.1,fun r hr=> ?_⟩
 unfold alt at hr
 dsimp only at hr
 rcases iJ hr with h1|h1
 ·exact h.2 r h1
 ·subst h1
  rw[cm]
  cases hd:d.rows with
  |nil=>rw[hd]at hr;cases hr
  |cons b l=>exact h.2 b (by rw[hd];exact gw ..)
theorem ahQ(s:cu):eN aL (yd s).rows≤1048576:=by
 unfold yd
 split
 ·split
  ·exact gX (adV (He _ _).1)
  ·exact gX (He _ _).1
 ·exact by decide
theorem adX(s:cu): ∀r,r∈rcvd s→r∈s.received:=by
 intro r hr
 unfold rcvd at hr
 split at hr
 ·exact nj hr
 ·exact hr
def VC(key:Int)(r:iA):Bool:=r.T8==Z3 key r.server r.client r.round r.s8
def wO(key:Int)(s:cu)(r:iA):Bool:=(r.server !=s.id||r.round !=s.round)|| !VC key r
def VD(r:iA)(d:DB):Bool:=r.s8==Lf r.client r.round d
def mV(key:Int)(s:cu)(r:iA):Int:=if wO key s r then 0 else if rH s.received r.client then(if VD r (G2 s.received r.client)then 0 else 2)else 1
def I5(key:Int)(s:cu)(p:DB):List iA→Int
 | []=>if ec s&&(p.rows==(zm s).rows)then 0 else 3
 |r::l=>if mV key s r=0 then I5 key s p l else mV key s r
theorem Hf(key:Int)(s:cu)(p:DB): ∀(l:List iA) (k:Nat),(∀j,j<k→mV key s (l.getD j (aR .iA))=0)→I5 key s p (l.drop k)=I5 key s p l
 |l,0,_=>by rw[List.drop_zero]
 | [],k+1,_=>by simp
 |r::l,k+1,h=>by
  have h0:=h 0 (by omega)
  rw[tj,Hf key s p l k fun j hj=>by simpa using h (j+1) (by omega)]
  show I5 key s p l=if mV key s r=0 then I5 key s p l else mV key s r
  rw[if_pos (by simpa using h0)]
theorem E5{key:Int}{s:cu}{p:DB}{l:List iA}{k:Nat}(h: ∀j,j<k→mV key s (l.getD j (aR .iA))=0)(hk:k<l.length)(hn:mV key s (l.getD k (aR .iA))≠0):I5 key s p l=mV key s (l.getD k (aR .iA)):=by
 rw[←Hf key s p l k h,fG hk,show l[k]=l.getD k (aR .iA)by rw[aA,aC hk];rfl]
 exact if_neg hn
theorem E6{key:Int}{s:cu}{p:DB}{l:List iA}{k:Nat}(h: ∀j,j<k→mV key s (l.getD j (aR .iA))=0)(hk:l.length≤k):I5 key s p l=if ec s&&(p.rows==(zm s).rows)then 0 else 3:=by
 rw[←Hf key s p l k h,ir hk];rfl
theorem yf{key:Int}{s:cu}{l:List iA}{k:Nat}(h: ∀j,j<k→mV key s (l.getD j (aR .iA))=0)(hk:mV key s (l.getD k (aR .iA))=0): ∀j,j<k+1→mV key s (l.getD j (aR .iA))=0:=by
 intro j hj
 by_cases hjk:j=k
 ·subst hjk;exact hk
 ·exact h j (by omega)
def I6(m:Int)(sv:List cu)(pb:List DB)(rc:List iA)(i:Nat):Bool:=decide ((pb.length:Int)≤(i:Int))|| !(I5 (nF m (sv.getD i (aR .cu)).id) (sv.getD i (aR .cu)) (pb.getD i (aR .DB)) rc==0)
def amh(m:Int)(sv:List cu)(pb:List DB)(rc:List iA)(i:Nat):List Int:=if I6 m sv pb rc i then [(sv.getD i (aR .cu)).id]else []
def oB(m:Int)(sv:List cu)(pb:List DB)(rc:List iA)(n:Nat):List Int:=(bT n).flatMap (amh m sv pb rc)
theorem Ly{m:Int}{sv:List cu}{pb:List DB}{rc:List iA}{n:Nat}(h:I6 m sv pb rc n=true):oB m sv pb rc (n+1)=oB m sv pb rc n++ [(sv.getD n (aR .cu)).id]:=by
 unfold oB
 rw[fP,fj];simp[amh,h]
theorem Hg{m:Int}{sv:List cu}{pb:List DB}{rc:List iA}{n:Nat}(h:I6 m sv pb rc n=false):oB m sv pb rc (n+1)=oB m sv pb rc n:=by
 unfold oB
 rw[fP,fj];simp[amh,h]
theorem ur(m:Int)(sv:List cu)(pb:List DB)(rc:List iA): ∀n,(oB m sv pb rc n).length≤n
 |0=>bq _
 |n+1=>by
  have ih:=ur m sv pb rc n
  cases h:I6 m sv pb rc n with
  |true=>rw[Ly h,bf];simp;omega
  |false=>rw[Hg h];omega
def fX(sv:List cu):List DB:=sv.map yd
theorem NV(sv:List cu)(k:Nat)(h:k<sv.length):(fX sv).take (k+1)=(fX sv).take k++ [yd (sv.getD k (aR .cu))]:=by
 rw[cB (fX sv) k (aR .DB) (by unfold fX;rw[bt];exact h)]
 congr 2
 unfold fX
 rw[aA,aA,dB,aC h];rfl
theorem XO(sv:List cu): ∀d,d∈fX sv→eN aL d.rows≤1048576:=by
 intro d hd
 obtain⟨s,_,rfl⟩:=cO.1 hd
 exact ahQ s
theorem SN{pb:List DB}(h: ∀d,d∈pb→eN aL d.rows≤1048576)(k:Nat):eN aL (pb.getD k (aR .DB)).rows≤1048576:=by
 rw[aA]
 cases hq:pb[k]? with
 |none=>exact by decide
 |some d=>exact h d (dU hq)
theorem LA{x:bN}(h:okW x=true): ∀s,s∈dw x→tY s:=by
 rw[dw,if_pos h];exact(col h _ (bq _)).sml
theorem rJ{x:bN}(h:okW x=true):(dw x).length=x.aG.length:=by
 rw[dw,if_pos h];exact pO h (bq _)
theorem aoV{key:Int}{s:cu}{r:iA}(h:wO key s r=false)(h1:rH s.received r.client=false):mV key s r=1:=by rw[mV,h,h1];rfl
theorem aoW{key:Int}{s:cu}{r:iA}(h:wO key s r=false)(h1:rH s.received r.client=true)(h2:VD r (G2 s.received r.client)=false):mV key s r=2:=by rw[mV,h,h1,h2];rfl
theorem aoX{key:Int}{s:cu}{r:iA}(h:wO key s r=false)(h1:rH s.received r.client=true)(h2:VD r (G2 s.received r.client)=true):mV key s r=0:=by rw[mV,h,h1,h2];rfl
theorem aoY{key:Int}{s:cu}{r:iA}(h:wO key s r=true):mV key s r=0:=by rw[mV,h];rfl
end
section
def Ui:DB→List DB→Option DB
 |a,[]=>some a
 |a,s::r=>if mO a s then Ui (lf a s) r else none
def XP(l:List DB):Option DB:=if dG l.length then Ui (l.getD 0 (aR .DB)) (l.drop 1)else none
def I7(l:List DB):Bool:=(XP l).isSome
def jw(l:List DB):DB:=(XP l).getD ⟨[]⟩
def I8(l:List DB)(k:Nat):DB:=((l.drop 1).take k).foldl lf (l.getD 0 (aR .DB))
theorem E7(l:List DB)(k:Nat)(h:k<(l.drop 1).length):I8 l (k+1)=lf (I8 l k) ((l.drop 1).getD k (aR .DB)):=by
 unfold I8
 rw[cB (l.drop 1) k (aR .DB) h,gf];rfl
theorem SO{α:Type}(l:List α)(k:Nat)(d:α)(h:k<l.length):l.drop k=l.getD k d::l.drop (k+1):=by
 rw[fG h,show l[k]=l.getD k d by rw[aA,aC h];rfl]
theorem SP(l:List DB)(k:Nat)(h:k<(l.drop 1).length)(hx:mO (I8 l k) ((l.drop 1).getD k (aR .DB))=true):Ui (I8 l k) ((l.drop 1).drop k)=Ui (I8 l (k+1)) ((l.drop 1).drop (k+1)):=by
 rw[SO _ k (aR .DB) h,Ui,if_pos hx,E7 l k h]
theorem adY(l:List DB)(k:Nat)(h:k<(l.drop 1).length)(hx:mO (I8 l k) ((l.drop 1).getD k (aR .DB))=false):Ui (I8 l k) ((l.drop 1).drop k)=none:=by
 rw[SO _ k (aR .DB) h,Ui,hx];rfl
theorem XQ(l:List DB)(k:Nat)(h:(l.drop 1).length≤k):Ui (I8 l k) ((l.drop 1).drop k)=some (I8 l k):=by
 rw[ir h];rfl
def AX(l:List DB):Prop:= ∀d,d∈l→eZ d=true
theorem qJ{l:List DB}(h:AX l)(k:Nat):eZ (l.getD k (aR .DB))=true:=by
 rw[aA]
 cases hq:l[k]? with
 |none=>exact by decide
 |some d=>exact h d (dU hq)
theorem adZ{l:List DB}(h:AX l): ∀k,eZ (I8 l k)=true:=by
 intro k
 induction k with
 |zero=>exact qJ h 0
 |succ k ih=>
  by_cases hk:k<(l.drop 1).length
  ·rw[E7 l k hk];exact B1 ih
  ·have e:I8 l (k+1)=I8 l k:=by unfold I8;rw[aD (by omega),aD (by omega)]
   rw[e];exact ih
theorem VE{l:List DB}(h:AX l):AX (l.drop 1):=fun d hd=>h d (nj hd)
theorem LB{l:List DB}(h:XP l=none):jw l=⟨[]⟩∧I7 l=false:=by unfold jw I7;rw[h];exact⟨rfl,rfl⟩
theorem PI{l:List DB}{d:DB}(h:XP l=some d):jw l=d∧I7 l=true:=by unfold jw I7;rw[h];exact⟨rfl,rfl⟩
theorem XR{l:List DB}(h:dG l.length=false):XP l=none:=by rw[XP,h];rfl
theorem XS{l:List DB}(h:dG l.length=true):XP l=Ui (I8 l 0) ((l.drop 1).drop 0):=by rw[XP,if_pos h];rfl
theorem LC{l:List DB}(h:dG l.length=true):2≤l.length∧l.length≤4:=by simp only[dG,dS]at h;omega
theorem ahR(s:cu):eZ (yd s)=true:=by
 unfold yd
 split
 ·split
  ·exact adV (He _ _).1
  ·exact(He _ _).1
 ·exact by decide
theorem ve(sv:List cu):AX (fX sv):=by
 intro d hd
 obtain⟨s,_,rfl⟩:=cO.1 hd
 exact ahR s
theorem NW(l:List DB)(h:AX l):eZ (jw l)=true:=by
 cases hq:XP l with
 |none=>rw[(LB hq).1];decide
 |some d=>
  rw[(PI hq).1]
  have key: ∀(r:List DB) (a:DB),eZ a=true→Ui a r=some d→eZ d=true:=by
   intro r
   induction r with
   |nil=>intro a ha hj;simp only[Ui,oI]at hj;exact hj▸ha
   |cons s r ih=>
    intro a ha hj
    simp only[Ui]at hj
    split at hj
    ·exact ih _ (B1 ha) hj
    ·cases hj
  unfold XP at hq
  split at hq
  ·exact key _ _ (qJ h 0) hq
  ·cases hq
def zn(a:mD)(r:Int)(d:DB):Bool:=(((jz a&&inr r 0 100000)&& !decide (r≤gx a))&&eZ d)&&decide ((d.rows.length:Int)=a.rows)
def AY(a:mD)(r:Int)(d:DB):List aX:=a.rounds++ [⟨r,d⟩]
def NX(a:mD)(r:Int)(d:DB):List aX:=if zn a r d then(if(8:Int)<(AY a r d).length then(AY a r d).drop 1 else AY a r d)else a.rounds
def LD(id rows b:Int):Bool:=inr id 0 3&&inr rows 1 64&&inr b 0 3
def newS(id rows b:Int):cu:=if LD id rows b then⟨id,rows,0,[],b⟩else⟨0,0,0,[],0⟩
def LF(s:cu):Bool:=ec s&& !(s.round==100000)
def oC(s:cu):cu:=if LF s then⟨s.id,s.rows,af.wrap (s.round+1),[],s.behavior⟩else s
def Dv(l:List cu)(id:Int):Bool:=inr id 0 (af.wrap ((l.length:Int)-1))
def E8(rows rd:Int)(p:List cu×List Int)(id:Int):List cu×List Int:=if Dv p.1 id then(p.1.set id.toNat ⟨id,rows,rd,[],0⟩,p.2++ [id])else p
def I9(rows rd:Int)(p:List cu×List Int)(g:List Int):List cu×List Int:=g.foldl (E8 rows rd) p
theorem LG(rows rd:Int)(p:List cu×List Int)(g:List Int)(k:Nat)(h:k<g.length):I9 rows rd p (g.take (k+1))=E8 rows rd (I9 rows rd p (g.take k)) (g.getD k (aR .int)):=by
 unfold I9
 rw[cB g k (aR .int) h,gf];rfl
theorem PJ(rows rd:Int)(p:List cu×List Int)(id:Int):(E8 rows rd p id).1.length=p.1.length∧(E8 rows rd p id).2.length≤p.2.length+1:=by
 unfold E8
 split
 ·simp
 ·exact⟨rfl,Nat.le_succ _⟩
theorem PK(rows rd:Int)(p:List cu×List Int)(g:List Int): ∀k,k≤g.length→(I9 rows rd p (g.take k)).1.length=p.1.length∧(I9 rows rd p (g.take k)).2.length≤p.2.length+k
 |0,_=>⟨rfl,bq _⟩
 |k+1,hk=>by
  have ih:=PK rows rd p g k (by omega)
  rw[LG _ _ _ _ k (by omega)]
  have:=PJ rows rd (I9 rows rd p (g.take k)) (g.getD k (aR .int))
  omega
def LH(rd:Int)(l:List cu):Prop:= ∀s,s∈l→s.round=rd∧tY s
theorem aoZ{rows rd:Int}{p:List cu×List Int}{id:Int}(h:LH rd p.1):LH rd (E8 rows rd p id).1:=by
 unfold E8
 split
 ·intro s hs
  rcases iJ hs with h1|h1
  ·exact h s h1
  ·subst h1
   exact⟨rfl,aE _,fun r hr=>by cases hr⟩
 ·exact h
theorem ad0{rows rd:Int}{p:List cu×List Int}(g:List Int)(h:LH rd p.1): ∀k,k≤g.length→LH rd (I9 rows rd p (g.take k)).1
 |0,_=>h
 |k+1,hk=>by
  rw[LG _ _ _ _ k (by omega)]
  exact aoZ (ad0 g h k (by omega))
theorem ad1(l:List cu)(k:Nat)(h:k<l.length):((l.map oC).take k++l.drop k).set k (oC (((l.map oC).take k++l.drop k).getD k (aR .cu)))=(l.map oC).take (k+1)++l.drop (k+1):=by
 rw[o9 _ _ _ _ (by rw[bt];omega)]
 refine Al _ _ _ (aR .cu) _ h (by rw[bt];exact h) ?_
 rw[aA,aA,dB,aC h];rfl
def mw(x:bN):Bool:=okW x&& !decide (x.round≥99999)
def yT(x:bN)(g:List Int):List cu×List Int:=I9 x.rows x.round (x.aG,x.replaced) g
def eD(x:bN)(g:List Int)(d:DB):bN:=if mw x then⟨x.rows,(yT x g).1.map oC,x.ah,⟨x.aK.rows,if g.length=0 then NX x.aK x.round d else x.aK.rounds⟩,x.ck,x.seed,af.wrap (x.round+1),(yT x g).2,if g.length=0 then x.cancelled else af.wrap (x.cancelled+1)⟩else x
theorem ajS{x:bN}(h:okW x=true):LH x.round x.aG:=by
 intro s hs
 obtain⟨i,hi,rfl⟩:=eR.1 hs
 have h1:=Lc h hi
 have e:x.aG.getD i (aR .cu)=x.aG[i]:=by rw[aA,aC hi];rfl
 have he:=BZ h _ hs
 simp only[Mv,e,az,beq_iff_eq]at h1
 exact⟨h1.1.2,by rw[he];decide,fun r hr=>by rw[he]at hr;cases hr⟩
def ad2(key:Int)(a:e9):Bool:=a.T8==Ln key a.server a.round a.selection a.data
def fls(key:Int)(d:DB)(a:e9):Bool:=ad2 key a&& !(a.data==kB d a.selection)
def tsK(x:bN)(i:Nat):Int:=nF x.ck (i:Int)
def tsA(x:bN)(i:Nat):e9:=Vw (x.aG.getD i (aR .cu)) (tsK x i) (gx x.aK) (lY x.aK.rounds (gx x.aK)) (dX (kh x.seed [227,x.round,(i:Int)]) x.rows)
def tsB(x:bN)(i:Nat):Bool:=fls (tsK x i) (lY x.aK.rounds (gx x.aK)) (tsA x i)
def NY(x:bN)(n:Nat):List Int:=(bT n).flatMap fun i=>if tsB x i then [(i:Int)]else []
theorem XT{x:bN}{n:Nat}(h:tsB x n=true):NY x (n+1)=NY x n++ [(n:Int)]:=by
 unfold NY
 rw[fP,fj];simp[h]
theorem SQ{x:bN}{n:Nat}(h:tsB x n=false):NY x (n+1)=NY x n:=by
 unfold NY
 rw[fP,fj];simp[h]
def Ja(x:bN)(n:Nat):List cu×List Int:=I9 x.rows x.round (x.aG,x.replaced) (NY x n)
theorem XU{x:bN}{n:Nat}(h:tsB x n=true):Ja x (n+1)=E8 x.rows x.round (Ja x n) (n:Int):=by
 unfold Ja I9
 rw[XT h,gf];rfl
theorem SR{x:bN}{n:Nat}(h:tsB x n=false):Ja x (n+1)=Ja x n:=by unfold Ja;rw[SQ h]
def E9(x:bN):Bool:=okW x&&oM x.aK.rounds (gx x.aK)
def testW(x:bN):bN:=if E9 x then⟨x.rows,(Ja x x.aG.length).1,x.ah,x.aK,x.ck,x.seed,x.round,(Ja x x.aG.length).2,x.cancelled⟩else x
def gr(x:bN):bN:=if mw x then Ls (testW (eD x (oB x.ck (dw x) (fX (dw x)) (ni x) (dw x).length) (jw (fX (dw x)))))else x
def iK(x:bN):Nat→bN
 |0=>x
 |k+1=>gr (iK x k)
end
section
theorem Dw{α:Type}(f:α→Nat)(C n:Nat)(l:List α)(h: ∀y,y∈l→f y≤C)(hl:l.length≤n):eN f l≤(C+1)*n:=by
 have h1:=ajM f C l h
 have h2:(C+1)*l.length≤(C+1)*n:=Nat.mul_le_mul_left _ hl
 unfold eN
 rw[dr,Nat.one_mul]at h2
 omega
theorem LI{d:DB}(h:eZ d=true):eN aL d.rows≤1600:=by
 have h1:=ahH h
 have h2:=K4 h
 unfold al5 at h1;unfold eN;omega
def PL(c:gI):Prop:=c.bp.length≤16∧c.inbox.length≤16∧(∀b,b∈c.bp→b.length≤14)∧ ∀b,b∈c.inbox→b.length≤14
theorem Fa{c:gI}(h:ga c=true):PL c:=by
 obtain⟨h1,h2,h3,h4,_⟩:=wI h
 exact⟨h1,h2,h3,h4⟩
theorem NZ{c:gI}(h:PL c):dQ c≤480:=by
 have h1:=Dw aL 14 16 c.bp h.2.2.1 h.1
 have h2:=Dw aL 14 16 c.inbox h.2.2.2 h.2.1
 unfold dQ;omega
theorem Fb{c:gI}(h:PL c)(r:Int)(own other:List UInt8):PL (kg c r own other):=by
 unfold kg
 split
 ·refine⟨h.1,?_,h.2.2.1,?_⟩
  ·dsimp only
   split
   ·rename_i hg
    simp only[oN,az,decide_eq_true_eq]at hg
    rw[bf,fY];omega
   ·exact h.2.1
  ·dsimp only
   split
   ·intro b hb
    rcases bg.1 hb with h1|h1
    ·exact h.2.2.2 b h1
    ·rw[aZ.1 h1];exact ads _ _ _
   ·exact h.2.2.2
 ·exact h
def PM(d:bR):Prop:=PL d.live∧PL d.saved
theorem ami{d:bR}(h:PM d)(r:Int)(own other:List UInt8):PM (rdev d r own other):=by
 unfold rdev
 split
 ·split
  ·exact⟨Fb h.1 _ _ _,Fb h.1 _ _ _⟩
  ·exact⟨Fb h.1 _ _ _,h.2⟩
 ·exact h
theorem VG(x:bN)(d0:bR): ∀(l:List Int) (d:bR),PM d→PM (l.foldl (Vy x d0) d)
 | [],_,h=>h
 |r::l,_,h=>VG x d0 l _ (ami h _ _ _)
theorem qK{d:bR}(h:PM d):cz d≤960:=by
 have h1:=NZ h.1
 have h2:=NZ h.2
 unfold cz;omega
theorem ao1{x:bN}{i:Nat}(h:okD x i=true):PM (x.ah.getD i (aR .bR)):=by
 simp only[okD,fu,az]at h
 exact⟨Fa h.1.1.1.1.1.1.1.1.1,Fa h.1.1.1.1.1.1.1.1.2⟩
theorem N0{x:bN}(h:okW x=true): ∀d,d∈x.ah→PM d:=by
 intro d hd
 obtain⟨i,hi,rfl⟩:=eR.1 hd
 have h1:=ao1 (xV h hi)
 rwa [aA,aC hi]at h1
def wC(x:bN)(n:Nat):Prop:=eN gP x.aG≤1048576∧eN cz x.ah≤1048576∧gC x.aK≤1048576∧x.replaced.length≤n
theorem ad3{x:bN}{n:Nat}(h:wC x n)(hn:n≤4194304):wB x:=⟨h.1,h.2.1,h.2.2.1,dH h.2.2.2 hn⟩
theorem lW{x:bN}{n m:Nat}(h:wC x n)(hn:n≤m):wC x m:=⟨h.1,h.2.1,h.2.2.1,dH h.2.2.2 hn⟩
theorem ao2{x:bN}{n:Nat}(h:wC x n):wC (Ls x) n:=by
 unfold Ls
 split
 ·rename_i hk
  refine⟨h.1,?_,h.2.2.1,h.2.2.2⟩
  have h1:eN cz (x.ah.map (uk x))≤(960+1)*8:=by
   refine Dw cz 960 8 _ (fun d hd=> ?_) (by rw[bt];exact(xT (sA hk)).2.1)
   obtain⟨e,he,rfl⟩:=cO.1 hd
   exact qK (VG x e _ _ (N0 hk e he))
  exact dH h1 (by decide)
 ·exact h
theorem ara{s:cu}(h:s.received= []):gP s=0:=by unfold gP;rw[h];rfl
def Ix(l:List cu):Prop:=l.length≤4∧ ∀s,s∈l→s.received= []
theorem Dx{l:List cu}(h:Ix l):eN gP l≤1048576:=
 dH (Dw gP 0 4 l (fun s hs=>by rw[ara (h.2 s hs)];exact bq 0) h.1) (by decide)
theorem ao3{rows rd:Int}{p:List cu×List Int}{id:Int}(h:Ix p.1):Ix (E8 rows rd p id).1:=by
 unfold E8
 split
 ·refine⟨by rw[cm];exact h.1,fun s hs=> ?_⟩
  rcases iJ hs with h1|h1
  ·exact h.2 s h1
  ·subst h1;rfl
 ·exact h
theorem ad4{rows rd:Int}: ∀(g:List Int) {p:List cu×List Int},Ix p.1→Ix (I9 rows rd p g).1∧(I9 rows rd p g).2.length≤p.2.length+g.length
 | [],_,h=>⟨h,bq _⟩
 |i::g,p,h=>by
  have h1:=ad4 (rows:=rows) (rd:=rd) g (ao3 (rows:=rows) (rd:=rd) (id:=i) h)
  have h2:=(PJ rows rd p i).2
  refine⟨h1.1,?_⟩
  have h3:(I9 rows rd p (i::g)).2.length≤(E8 rows rd p i).2.length+g.length:=h1.2
  rw[bF];omega
theorem ad5{x:bN}(h:okW x=true):Ix x.aG:=⟨(ij h).1,BZ h⟩
theorem amj{l:List cu}(h:Ix l):Ix (l.map oC):=by
 refine⟨by rw[bt];exact h.1,fun s hs=> ?_⟩
 obtain⟨t,ht,rfl⟩:=cO.1 hs
 unfold oC
 split
 ·rfl
 ·exact h.2 t ht
theorem ao4{a:mD}{r:Int}{d:DB}(ha:jz a=true)(hd:eZ d=true):eN gQ (NX a r d)≤1048576:=by
 have h8:a.rounds.length≤8:=by simp only[jz,KQ,az,decide_eq_true_eq]at ha;omega
 have hm: ∀y,y∈a.rounds→gQ y≤1600:=by
  intro y hy
  obtain⟨i,hi,rfl⟩:=eR.1 hy
  simp only[jz,az,bE,eg]at ha
  have h2:=ha.2 i hi
  have e:a.rounds.getD i (aR .aX)=a.rounds[i]:=by rw[aA,aC hi];rfl
  simp only[vK,e,az]at h2
  exact LI h2.1.2
 have hL: ∀y,y∈AY a r d→gQ y≤1600:=by
  intro y hy
  rcases bg.1 hy with h1|h1
  ·exact hm y h1
  ·rw[aZ.1 h1];exact LI hd
 have hl:(AY a r d).length≤9:=by unfold AY;rw[bf,fY];omega
 have key:eN gQ (NX a r d)≤(1600+1)*9:=by
  unfold NX
  split
  ·split
   ·exact Dw _ _ _ _ (fun y hy=>hL y (nj hy)) (by rw[b9];omega)
   ·exact Dw _ _ _ _ hL hl
  ·exact Dw _ _ _ _ hm (by omega)
 exact dH key (by decide)
theorem ahS{x:bN}(h:okW x=true):jz x.aK=true:=by
 have h:=sA h
 simp only[R5,az]at h
 exact h.1.1.1.1.1.2
theorem SS{x:bN}{g:List Int}{d:DB}{n:Nat}(h:wC x n)(hd:eZ d=true):wC (eD x g d) (n+g.length):=by
 unfold eD
 split
 ·rename_i hk
  simp only[mw,az]at hk
  have h0:=ad4 (rows:=x.rows) (rd:=x.round) g (p:=(x.aG,x.replaced)) (ad5 hk.1)
  refine⟨Dx (amj h0.1),h.2.1,?_,?_⟩
  ·show eN gQ _≤_
   dsimp only
   split
   ·exact ao4 (ahS hk.1) hd
   ·exact h.2.2.1
  ·have h1:=h0.2
   have h2:=h.2.2.2
   show(I9 x.rows x.round (x.aG,x.replaced) g).2.length≤_
   dsimp only at h1
   omega
 ·exact lW h (yU _ _)
theorem PN(x:bN): ∀n,(NY x n).length≤n
 |0=>bq _
 |n+1=>by
  have ih:=PN x n
  cases h:tsB x n with
  |true=>rw[XT h,bf];simp;omega
  |false=>rw[SQ h];omega
theorem XV{x:bN}{n:Nat}(h:wC x n):wC (testW x) (n+4):=by
 unfold testW
 split
 ·rename_i hk
  simp only[E9,az]at hk
  have h0:=ad4 (rows:=x.rows) (rd:=x.round) (NY x x.aG.length) (p:=(x.aG,x.replaced)) (ad5 hk.1)
  have h4:=(ij hk.1).1
  have h5:=PN x x.aG.length
  refine⟨Dx h0.1,h.2.1,h.2.2.1,?_⟩
  have h1:=h0.2
  have h2:=h.2.2.2
  show(I9 x.rows x.round (x.aG,x.replaced) (NY x x.aG.length)).2.length≤_
  dsimp only at h1
  omega
 ·exact lW h (yU _ _)
theorem SU{x:bN}{n:Nat}(h:wC x n):wC (gr x) (n+8):=by
 unfold gr
 split
 ·rename_i hk
  simp only[mw,az]at hk
  have h1:=ur x.ck (dw x) (fX (dw x)) (ni x) (dw x).length
  rw[rJ hk.1]at h1
  have h4:=(ij hk.1).1
  have h2:=XV (SS (g:=oB x.ck (dw x) (fX (dw x)) (ni x) (dw x).length) (d:=jw (fX (dw x))) h (NW _ (ve _)))
  rw[rJ hk.1]at h2 ⊢
  exact lW (ao2 h2) (by omega)
 ·exact lW h (yU _ _)
theorem ad6{x:bN}{n:Nat}(h:wC x n): ∀k,wC (iK x k) (n+8*k)
 |0=>h
 |k+1=>lW (SU (ad6 h k)) (by omega)
end
section
def VH(c:gI)(b:List UInt8):gI:=⟨c.id,c.fJ,c.key,c.seed,c.bp++ [b],c.sent,c.inbox,c.next⟩
def wP(c:gI)(b:List UInt8):Bool:=ga c&&ga (VH c b)
def pR(c:gI)(b:List UInt8):gI:=if wP c b then VH c b else c
def AZ(d:bR)(b:List UInt8):Bool:=(fu d&&wP d.live b)&&wP d.saved b
def Jb(d:bR)(b:List UInt8):bR:=if AZ d b then⟨pR d.live b,pR d.saved b⟩else d
def VI(d:bR):bR:=if fu d then⟨d.saved,d.saved⟩else d
def PO(d:bR):bR:=if fu d then⟨d.live,d.live⟩else d
def SW(x:bN)(i:Nat)(d:bR):bN:=⟨x.rows,x.aG,x.ah.set i d,x.aK,x.ck,x.seed,x.round,x.replaced,x.cancelled⟩
def ao5(x:bN)(i:Nat)(s:cu):bN:=⟨x.rows,x.aG.set i s,x.ah,x.aK,x.ck,x.seed,x.round,x.replaced,x.cancelled⟩
def fA(x:bN)(c:Int):Bool:=okW x&&kA x c
def Dy(x:bN)(c:Int):bR:=x.ah.getD c.toNat (aR .bR)
def SX(x:bN)(c:Int)(b:List UInt8):Bool:=fA x c&&AZ (Dy x c) b
def QI(x:bN)(c:Int)(b:List UInt8):bN:=if fA x c then SW x c.toNat (Jb (Dy x c) b)else x
def PR(x:bN)(c:Int):bN:=if fA x c then SW x c.toNat (VI (Dy x c))else x
def Dz(x:bN)(c:Int):bN:=if fA x c then SW x c.toNat (PO (Dy x c))else x
def beh(s:cu)(b:Int):cu:=⟨s.id,s.rows,s.round,s.received,b⟩
def vN(x:bN)(i b:Int):Bool:=(okW x&&inr i 0 (af.wrap ((x.aG.length:Int)-1)))&&inr b 0 3
def SY(x:bN)(i b:Int):bN:=if vN x i b then ao5 x i.toNat (beh (x.aG.getD i.toNat (aR .cu)) b)else x
def rK(x:bN)(e:Ev):Bool:=okW x&&(if e.kind=1 then decide (x.round<99999)else if e.kind=2 then SX x e.node e.body else if e.kind=3 then fA x e.node else if e.kind=4 then vN x e.node e.value else if e.kind=5 then fA x e.node else false)
def DU(x:bN)(e:Ev):bN:=if e.kind=1 then gr x else if e.kind=2 then QI x e.node e.body else if e.kind=3 then PR x e.node else if e.kind=4 then SY x e.node e.value else if e.kind=5 then Dz x e.node else x
theorem amk{x:bN}{e:Ev}(h:okW x=false):DU x e=x:=by
 have h1:mw x=false:=by unfold mw;rw[h];rfl
 have h2:fA x e.node=false:=by unfold fA;rw[h];rfl
 have h3:vN x e.node e.value=false:=by unfold vN;rw[h];rfl
 have n1: ¬mw x=true:=by rw[h1];decide
 have n2: ¬fA x e.node=true:=by rw[h2];decide
 have n3: ¬vN x e.node e.value=true:=by rw[h3];decide
 unfold DU
 rw[gr,if_neg n1,QI,if_neg n2,PR,if_neg n2,SY,if_neg n3,Dz,if_neg n2]
 simp
theorem ahT{x:bN}{e:Ev}(h:okW x=false):rK x e=false:=by unfold rK;rw[h];rfl
theorem sU{x:bN}{c:Int}(h:fA x c=true):okW x=true∧0≤c∧c<x.ah.length:=by
 simp only[fA,kA,az,dS]at h
 exact⟨h.1,by omega⟩
theorem aml{x:bN}{c:Int}(h:fA x c=true):PM (Dy x c):=by
 obtain⟨h1,h2⟩:=sU h
 exact N0 h1 _ (getD_in _ (by omega))
theorem VJ{x:bN}{i b:Int}(h:vN x i b=true):okW x=true∧(0≤i∧i<x.aG.length)∧0≤b∧b≤3:=by
 simp only[vN,az,dS]at h
 have:=ij h.1.1
 rw[dm (a:=(x.aG.length:Int)-1) (by omega)]at h
 exact⟨h.1.1,by omega,h.2⟩
end
section
theorem Fc(c:gI):xO c.key (af.wrap (1-eI c))=Lr c:=by
 unfold Lr
 rw[dm (by unfold eI;split<;>omega)]
theorem SZ{c:gI}{r:Int}{own other:List UInt8}(h:zj c r=false):kg c r own other=c:=by rw[kg,h];rfl
theorem ad7{c:gI}{r:Int}(h:zj c r=true):ga c=true∧c.next≤r∧r≤99999∧0≤c.next:=by
 simp only[zj,az,dS]at h
 have:=(wI h.1).2.2.2.2.2.2.1
 exact⟨h.1,h.2.1,h.2.2,this⟩
theorem XW{d:bR}{r:Int}{own other:List UInt8}(h:Ck d r=false):rdev d r own other=d:=by rw[rdev,h];rfl
theorem XX{d:bR}{r:Int}{own other:List UInt8}(h:Ck d r=true)(hn:CQ (rI d r own other)=true):rdev d r own other=PO (rI d r own other):=by
 have hk:fu (rI d r own other)=true:=by
  simp only[CQ,az]at hn;exact hn.1
 rw[rdev,if_pos h,if_pos hn,PO,if_pos hk];rfl
theorem XY{d:bR}{r:Int}{own other:List UInt8}(h:Ck d r=true)(hn:CQ (rI d r own other)=false):rdev d r own other=rI d r own other:=by
 rw[rdev,if_pos h,hn];rfl
theorem S0{d:bR}{r:Int}{own other:List UInt8}(h:Ck d r=true):cz (rI d r own other)≤1048576:=by
 simp only[Ck,az]at h
 have hd:=h.2
 simp only[fu,az]at hd
 have hb:PM (rI d r own other):=⟨Fb (Fa hd.1.1.1.1.1) _ _ _,Fa hd.1.1.1.1.2⟩
 have:=qK hb
 omega
theorem amm{x:bN}(h:okW x=true){k:Nat}(hk:k<x.ah.length)(l:List Int):cz (SJ x (x.ah.getD k (aR .bR)) l)≤1048576:=by
 have:=qK (VG x (x.ah.getD k (aR .bR)) l _ (N0 h _ (getD_in (aR .bR) hk)))
 unfold SJ;omega
theorem ad8{x:bN}(h:okW x=true){k:Nat}(hk:k<x.ah.length)(i:Nat):cz ((xe x k i).getD k (aR .bR))≤1048576:=by
 rw[JD x k i hk];exact amm h hk _
theorem ad9(x:bN)(k i:Nat)(hk:k<x.ah.length):yO ((xe x k i).getD k (aR .bR)).live (x.ah.getD k (aR .bR)).live:=by
 rw[JD x k i hk]
 exact G7 x _ _ _ ⟨rfl,rfl,rfl,rfl⟩
theorem aea(x:bN)(k i:Nat)(h:k<x.ah.length)(hi:i<(wK x (x.ah.getD k (aR .bR))).length):
  (xe x k i).set k (rdev ((xe x k i).getD k (aR .bR)) ((wK x (x.ah.getD k (aR .bR))).getD i (aR .int))
   (EZ x ((wK x (x.ah.getD k (aR .bR))).getD i (aR .int)) (jQ ((xe x k i).getD k (aR .bR)).live.key ((wK x (x.ah.getD k (aR .bR))).getD i (aR .int)) (eI ((xe x k i).getD k (aR .bR)).live) x.rows) ((xe x k i).getD k (aR .bR)).live.seed)
   (EZ x ((wK x (x.ah.getD k (aR .bR))).getD i (aR .int)) (jQ ((xe x k i).getD k (aR .bR)).live.key ((wK x (x.ah.getD k (aR .bR))).getD i (aR .int)) (1-eI ((xe x k i).getD k (aR .bR)).live) x.rows) ((xe x k i).getD k (aR .bR)).live.seed))=xe x k (i+1):=by
 have hs:=ad9 x k i h
 rw[Vx hs,hs.2.2.1,hs.2.2.2]
 exact SK x k i h hi
theorem aeb{x:bN}(h:okW x=false):Ls x=x:=by rw[Ls,h];rfl
theorem XZ{x:bN}(h:okW x=true):Ls x=⟨x.rows,x.aG,x.ah.map (uk x),x.aK,x.ck,x.seed,x.round,x.replaced,x.cancelled⟩:=by rw[Ls,if_pos h]
theorem aec(c:gI):af.wrap (1-eI c)=1-eI c:=dm (by unfold eI;split<;>omega)
end
section
theorem ao6(l:List DB):(l.take ((l.length:Int)).toNat).drop (cQ 1)=l.drop 1:=by simp
theorem S4{α:Type}(l:List α)(k:Nat)(d:α):(l.drop 1).getD k d=l.getD (k+1) d:=by
 rw[aA,aA,cK,AU]
theorem ari{l:List DB}(ha:AX l)(h:(if(!dG l.length)=true then true else !eZ (l.getD (cQ 0) (aR .DB)))=true):dG l.length=false:=by
 cases hs:dG l.length with
 |false=>rfl
 |true=>
  rw[hs]at h
  have:=qJ ha 0
  have h2:eZ (l.getD (cQ 0) (aR .DB))=true:=this
  rw[h2]at h
  cases h
theorem ao7{l:List DB}(h:(if(!dG l.length)=true then true else !eZ (l.getD (cQ 0) (aR .DB)))=false):dG l.length=true:=by
 cases hs:dG l.length with
 |true=>rfl
 |false=>rw[hs]at h;cases h
theorem arj{l:List DB}(h:(!dG (l.length:Int))=false):(0:Int)≤0∧(0:Int)<(l.length:Int):=by
 have h2:dG (l.length:Int)=true:=by simpa using h
 have:=LC h2
 omega
theorem X0{rows rd:Int}{p:List cu×List Int}{id:Int}(h:Dv p.1 id=true):E8 rows rd p id=(p.1.set id.toNat ⟨id,rows,rd,[],0⟩,p.2++ [id]):=by rw[E8,if_pos h]
theorem X1{rows rd:Int}{p:List cu×List Int}{id:Int}(h:Dv p.1 id=false):E8 rows rd p id=p:=by rw[E8,h];rfl
theorem aed{l:List cu}{id:Int}(hl:l.length≤4)(h:Dv l id=true):0≤id∧id<l.length:=by
 simp only[Dv,dS]at h
 rw[dm (by omega)]at h
 omega
theorem Fo{id rows:Int}(h:0≤id∧id≤3)(hr:1≤rows∧rows≤64):newS id rows 0=⟨id,rows,0,[],0⟩:=by
 have:LD id rows 0=true:=by simp only[LD,az,dS];omega
 rw[newS,if_pos this]
def LK(x:bN)(g:List Int)(k:Nat):List cu×List Int:=I9 x.rows x.round (x.aG,x.replaced) (g.take k)
theorem S5{x:bN}{g:List Int}{k:Nat}(h:k<g.length):E8 x.rows x.round (LK x g k) (g.getD k (aR .int))=LK x g (k+1):=(LG _ _ _ _ k h).symm
theorem B2{x:bN}{g:List Int}{k:Nat}(h:g.length≤k):LK x g k=yT x g:=by unfold LK yT;rw[aD h]
theorem Fp{x:bN}{g:List Int}{k:Nat}(h:k≤g.length):(LK x g k).1.length=x.aG.length∧(LK x g k).2.length≤x.replaced.length+k:=PK _ _ _ g k h
theorem S6{x:bN}{g:List Int}{k:Nat}(hk:okW x=true)(h:k≤g.length):LH x.round (LK x g k).1:=ad0 g (ajS hk) k h
theorem ajU{x:bN}(g:List Int)(hk:okW x=true):LH x.round (yT x g).1:=by
 have:=S6 (g:=g) hk (bq _)
 rwa [B2 (bq _)]at this
theorem X3(x:bN)(g:List Int):(yT x g).1.length=x.aG.length∧(yT x g).2.length≤x.replaced.length+g.length:=by
 have:=Fp (x:=x) (g:=g) (bq _)
 rwa [B2 (bq _)]at this
theorem wQ{rd:Int}{l:List cu}(h:LH rd l){k:Nat}(hk:k<l.length):(l.getD k (aR .cu)).round=rd∧tY (l.getD k (aR .cu)):=h _ (getD_in (aR .cu) hk)
def Jc(l:List cu)(k:Nat):List cu:=(l.map oC).take k++l.drop k
theorem X5(l:List cu):Jc l 0=l:=by unfold Jc;simp
theorem Fq{l:List cu}{k:Nat}(h:k<l.length):(Jc l k).set k (oC ((Jc l k).getD k (aR .cu)))=Jc l (k+1):=ad1 l k h
theorem JI{l:List cu}{k:Nat}(h:k<l.length):(Jc l k).getD k (aR .cu)=l.getD k (aR .cu):=o9 _ _ _ _ (by rw[bt];omega)
theorem JJ{l:List cu}{k:Nat}(h:k≤l.length):(Jc l k).length=l.length:=pg _ _ _ (by rw[bt]) h
theorem JK{l:List cu}{k:Nat}(h:l.length≤k):Jc l k=l.map oC:=by
 unfold Jc
 rw[aD (by rw[bt];exact h),ir h,dA]
theorem N1{x:bN}{g:List Int}{d:DB}(h:mw x=false):eD x g d=x:=by rw[eD,h];rfl
theorem S7{x:bN}{g:List Int}{d:DB}(h:mw x=true)(hg:g.length=0):eD x g d=⟨x.rows,(yT x g).1.map oC,x.ah,⟨x.aK.rows,NX x.aK x.round d⟩,x.ck,x.seed,af.wrap (x.round+1),(yT x g).2,x.cancelled⟩:=by
 rw[eD,if_pos h,if_pos hg,if_pos hg]
theorem S8{x:bN}{g:List Int}{d:DB}(h:mw x=true)(hg: ¬g.length=0):eD x g d=⟨x.rows,(yT x g).1.map oC,x.ah,x.aK,x.ck,x.seed,af.wrap (x.round+1),(yT x g).2,af.wrap (x.cancelled+1)⟩:=by
 rw[eD,if_pos h,if_neg hg,if_neg hg]
theorem PS{x:bN}(h:mw x=true):okW x=true∧x.round<99999:=by
 simp only[mw,az,bX,decide_eq_false_iff_not]at h
 exact⟨h.1,by omega⟩
theorem aee{a:mD}{r:Int}{d:DB}(h:zn a r d=false):NX a r d=a.rounds:=by rw[NX,h];rfl
theorem X6{a:mD}{r:Int}{d:DB}(h:zn a r d=true):NX a r d=if(8:Int)<(AY a r d).length then(AY a r d).drop 1 else AY a r d:=by rw[NX,if_pos h]
theorem aef{a:mD}{r:Int}{d:DB}(h:zn a r d=true):a.rounds.length≤8∧eZ d=true:=by
 simp only[zn,jz,KQ,az,decide_eq_true_eq]at h
 exact⟨by omega,h.1.2⟩
theorem S9{s rows:Int}(h:1≤rows∧rows≤64):kG (dX s rows) rows=true:=by
 have e:dX s rows=(bT rows.toNat).map (alR s):=by rw[dX,if_pos (by omega)]
 simp only[kG,az,decide_eq_true_eq,bE,dS]
 refine⟨⟨by rw[e];simp;omega,h.2⟩,fun v hv=> ?_⟩
 rw[e]at hv
 obtain⟨i,_,rfl⟩:=cO.1 hv
 have:=ZN (kh s [(i:Int),41])
 unfold alR
 omega
theorem aeg{x:bN}(h:okW x=true){r:Int}(hh:oM x.aK.rounds r=true):eZ (lY x.aK.rounds r)=true∧((lY x.aK.rounds r).rows.length:Int)=x.rows:=by
 have ha:=sA h
 simp only[R5,az,beq_iff_eq]at ha
 have har:x.aK.rows=x.rows:=ha.1.1.1.1.2
 have hok:jz x.aK=true:=ha.1.1.1.1.1.2
 simp only[jz,az,bE,eg]at hok
 have hi:(x.aK.rounds.findIdx (isR r))<x.aK.rounds.length:=by
  rw[List.findIdx_lt_length]
  obtain⟨y,h1,h2⟩:=fB.1 hh
  exact⟨y,h1,h2⟩
 have hd:=hok.2 _ hi
 simp only[vK,az,beq_iff_eq]at hd
 have e:lY x.aK.rounds r=(x.aK.rounds.getD (x.aK.rounds.findIdx (isR r)) (aR .aX)).db:=by
  rw[lY,if_pos hh]
  have hh2:x.aK.rounds.any (isR r)=true:=hh
  rw[fidx,if_pos hh2];rfl
 rw[e]
 exact⟨hd.1.2,by rw[←har];exact hd.2⟩
theorem ajV{x:bN}(h:okW x=true){r:Int}(hh:oM x.aK.rounds r=true)(s:Int):pQ (lY x.aK.rounds r) (dX s x.rows)=true:=by
 obtain⟨h1,h2⟩:=aeg h hh
 apply Lu
 have hs:kG (dX s x.rows) ((lY x.aK.rounds r).rows.length:Int)=true:=by rw[h2];exact S9 (tX h).1
 rw[kB,h1,hs]
 simp only[Bool.and_self,if_true]
 rw[gK,xU]
 omega
theorem ajW{x:bN}(h:okW x=true)(k:Nat)(hk:k≤x.aG.length):LH x.round (Ja x k).1∧(Ja x k).1.length=x.aG.length∧(Ja x k).2.length≤x.replaced.length+k:=by
 have h1:=ad0 (rows:=x.rows) (rd:=x.round) (p:=(x.aG,x.replaced)) (NY x k) (ajS h) (NY x k).length (bq _)
 have h2:=PK x.rows x.round (x.aG,x.replaced) (NY x k) (NY x k).length (bq _)
 rw[lg]at h1 h2
 have h3:=PN x k
 exact⟨h1,h2.1,by have h4:=h2.2;show(I9 x.rows x.round (x.aG,x.replaced) (NY x k)).2.length≤_;dsimp only at h4;omega⟩
theorem Ta{x:bN}(h:E9 x=false):testW x=x:=by rw[testW,h];rfl
theorem N2{x:bN}(h:E9 x=true):testW x=⟨x.rows,(Ja x x.aG.length).1,x.ah,x.aK,x.ck,x.seed,x.round,(Ja x x.aG.length).2,x.cancelled⟩:=by rw[testW,if_pos h]
theorem N3{x:bN}(h:mw x=false):gr x=x:=by rw[gr,h];rfl
theorem LL{x:bN}(h:mw x=true):gr x=Ls (testW (eD x (oB x.ck (dw x) (fX (dw x)) (ni x) (dw x).length) (jw (fX (dw x))))):=by rw[gr,if_pos h]
theorem ajX{x:bN}(h:wB x):x.aK.rounds.length≤1048576∧ ∀y,y∈x.aK.rounds→eN aL y.db.rows≤1048576:=by
 have h2:eN gQ x.aK.rounds≤1048576:=h.2.2.1
 refine⟨eF h2,fun y hy=> ?_⟩
 obtain⟨i,hi⟩:=mo.1 hy
 exact mG h2 hi
end
section
theorem X7{x:bN}(h:wB x)(hok:okW x=true)(hr:x.replaced.length≤4194000):wB (eD x (oB x.ck (dw x) (fX (dw x)) (ni x) (dw x).length) (jw (fX (dw x))))∧wB (testW (eD x (oB x.ck (dw x) (fX (dw x)) (ni x) (dw x).length) (jw (fX (dw x))))):=by
 have h1:=ur x.ck (dw x) (fX (dw x)) (ni x) (dw x).length
 have h4:=(ij hok).1
 rw[rJ hok]at h1
 have hc:wC x 4194000:=⟨h.1,h.2.1,h.2.2.1,hr⟩
 have h2:=SS (g:=oB x.ck (dw x) (fX (dw x)) (ni x) (dw x).length) (d:=jw (fX (dw x))) hc (NW _ (ve _))
 rw[rJ hok]at h2 ⊢
 exact⟨ad3 h2 (by omega),ad3 (XV h2) (by omega)⟩
def wR(x:bN):Prop:=wB x∧x.replaced.length≤4194000
theorem aeh{x:bN}{n:Nat}(h:wC x n)(hn:n≤4194000):wR x:=⟨ad3 h (by omega),dH h.2.2.2 hn⟩
theorem amr{x:bN}{n k:Nat}(h:wC x n)(hn:n+8*k≤4194000):wR (iK x k):=aeh (ad6 h k) hn
end
section
theorem PT(a:Int): -9223372036854775808≤af.wrap a∧af.wrap a≤9223372036854775807:=by
 rw[yX];omega
theorem aei(a b c:Int):af.wrap (a+af.wrap (b-c))=af.wrap (af.wrap (a+b)-c):=by
 simp only[yX];omega
def waiting(c:gI):Int:=af.wrap ((c.bp.length:Int)-c.sent)
def rM(l:List bR):Nat→Int
 |0=>0
 |k+1=>af.wrap (rM l k+waiting (l.getD k (aR .bR)).live)
theorem PU(l:List bR)(k:Nat): -9223372036854775808≤rM l k∧rM l k≤9223372036854775807:=by
 cases k with
 |zero=>exact⟨show(-9223372036854775808:Int)≤0 by decide,show(0:Int)≤9223372036854775807 by decide⟩
 |succ k=>exact PT _
def CU(l:List bR):Nat→Int
 |0=>0
 |k+1=>if(k^^^1)<l.length then af.wrap (af.wrap (CU l k+((l.getD k (aR .bR)).live.bp.length:Int))-((l.getD (k^^^1) (aR .bR)).live.inbox.length:Int))else CU l k
theorem VK(l:List bR)(k:Nat): -9223372036854775808≤CU l k∧CU l k≤9223372036854775807:=by
 induction k with
 |zero=>exact⟨show(-9223372036854775808:Int)≤0 by decide,show(0:Int)≤9223372036854775807 by decide⟩
 |succ k ih=>
  unfold CU
  split
  ·exact PT _
  ·exact ih
theorem X8{l:List bR}{k:Nat}(h:(k^^^1)<l.length):CU l (k+1)=af.wrap (af.wrap (CU l k+((l.getD k (aR .bR)).live.bp.length:Int))-((l.getD (k^^^1) (aR .bR)).live.inbox.length:Int)):=if_pos h
theorem Tb{l:List bR}{k:Nat}(h: ¬(k^^^1)<l.length):CU l (k+1)=CU l k:=if_neg h
theorem LM{x:bN}{k:Nat}(h:k<x.ah.length):iy x (k:Int)=decide ((k^^^1)<x.ah.length):=by
 have:kA x (k:Int)=true:=by rw[kA,dS];omega
 rw[iy,this,dn]
 simp only[eE,Int.ofNat_lt]
end
section
def yh(c:Int):Nat:=if 0≤c∧c≤400 then c.toNat else 0
theorem aej(c:Int):yh c≤400:=by unfold yh;split<;>omega
theorem VL{c:Int}(h:0≤c∧c≤400):(yh c:Int)=c:=by unfold yh;rw[if_pos h];omega
theorem X9{c:Int}(h: ¬(0≤c∧c≤400)):yh c=0:=by unfold yh;rw[if_neg h]
theorem apb{c:Int}{k:Nat}(h:(if decide ((k:Int)<c)=true then decide (c≤400)else false)=true):k<yh c:=by
 by_cases h1:(k:Int)<c
 ·rw[if_pos (by simpa using h1),decide_eq_true_eq]at h
  have:=VL (c:=c) (by omega)
  omega
 ·rw[if_neg (by simpa using h1)]at h;cases h
theorem ams{c:Int}{k:Nat}(hk:k≤yh c)(h:(if decide ((k:Int)<c)=true then decide (c≤400)else false)=false):k=yh c:=by
 by_cases hc:0≤c∧c≤400
 ·have h2:=VL hc
  by_cases h1:(k:Int)<c
  ·rw[if_pos (by simpa using h1),decide_eq_false_iff_not]at h
   omega
  ·omega
 ·have:=X9 hc;omega
def qN(x:bN):Bool:=(rM x.ah x.ah.length==0)&&(CU x.ah x.ah.length==0)
def zx(x:bN):Int:=kr 400 (af.wrap (20+af.wrap (8*Oz (Oz 0 (rM x.ah x.ah.length)) (CU x.ah x.ah.length))))
def mx(a b:Int):Int:=if b>a then b else a
theorem ahX(a b:Int):mx 0 (mx a b)=Oz (Oz 0 a) b:=by
 unfold mx Oz
 (repeat' split)<;>omega
theorem aek{x:bN}(h:wC x 4100000){k:Nat}(hk:k≤401):wR (iK x k)∧(iK x k).ah.length≤1048576:=by
 have h1:=amr h (k:=k) (by omega)
 exact⟨h1,EO h1.1⟩
end
section
theorem Ya{c:gI}{b:List UInt8}(h:wP c b=false):pR c b=c:=by rw[pR,h];rfl
theorem Fx{c:gI}{b:List UInt8}(h:wP c b=true):pR c b=VH c b:=by rw[pR,if_pos h]
theorem PV{d:bR}{b:List UInt8}(h:AZ d b=false):Jb d b=d:=by rw[Jb,h];rfl
theorem Tc{d:bR}{b:List UInt8}(h:AZ d b=true):Jb d b=⟨pR d.live b,pR d.saved b⟩:=by rw[Jb,if_pos h]
theorem ael{α:Type}(l:List α)(i:Nat)(d:α)(h:i<l.length):l.set i (l.getD i d)=l:=by
 rw[aA,aC h]
 exact List.set_getElem_self h
theorem Hq{x:bN}{c:Int}(h:fA x c=true):cz (x.ah.getD c.toNat (aR .bR))≤1048576:=by
 have:=qK (aml h)
 unfold Dy at this
 omega
theorem aem{x:bN}{c:Int}{b:List UInt8}(h:fA x c=false):QI x c b=x∧SX x c b=false:=⟨by rw[QI,h];rfl,by rw[SX,h];rfl⟩
theorem PW{x:bN}{c:Int}{b:List UInt8}(h:fA x c=true):QI x c b=SW x c.toNat (Jb (Dy x c) b)∧SX x c b=AZ (Dy x c) b:=⟨by rw[QI,if_pos h],by rw[SX,h,dn]⟩
theorem aen{x:bN}{c:Int}{b:List UInt8}(h:fA x c=true)(hs:AZ (Dy x c) b=false):QI x c b=x:=by
 rw[(PW h).1,PV hs]
 obtain⟨_,h1,h2⟩:=sU h
 unfold SW Dy
 rw[ael _ _ _ (by omega)]
theorem aeo{x:bN}{c:Int}(h:fA x c=false):PR x c=x:=by rw[PR,h];rfl
theorem Yb{x:bN}{c:Int}(h:fA x c=true):PR x c=SW x c.toNat (VI (Dy x c)):=by rw[PR,if_pos h]
theorem aep{x:bN}{c:Int}(h:fA x c=false):Dz x c=x:=by rw[Dz,h];rfl
theorem Yc{x:bN}{c:Int}(h:fA x c=true):Dz x c=SW x c.toNat (PO (Dy x c)):=by rw[Dz,if_pos h]
theorem aer{x:bN}{i b:Int}(h:vN x i b=false):SY x i b=x:=by rw[SY,h];rfl
theorem Yd{x:bN}{i b:Int}(h:vN x i b=true):SY x i b=ao5 x i.toNat (beh (x.aG.getD i.toNat (aR .cu)) b):=by rw[SY,if_pos h]
theorem ajZ{x:bN}{e:Ev}(h:okW x=false):DU x e=x∧rK x e=false:=⟨amk h,ahT h⟩
theorem apc{x:bN}{e:Ev}(h:okW x=true)(h1:e.kind=1):DU x e=gr x∧rK x e=decide (x.round<99999):=⟨by rw[DU,if_pos h1],by rw[rK,h,if_pos h1,dn]⟩
theorem apd{x:bN}{e:Ev}(h:okW x=true)(h1:e.kind=2):DU x e=QI x e.node e.body∧rK x e=SX x e.node e.body:=by
 unfold DU rK
 rw[h,dn,if_neg (by omega),if_pos h1,if_neg (by omega),if_pos h1]
 exact⟨rfl,rfl⟩
theorem ape{x:bN}{e:Ev}(h:okW x=true)(h1:e.kind=3):DU x e=PR x e.node∧rK x e=fA x e.node:=by
 unfold DU rK
 rw[h,dn,if_neg (by omega),if_neg (by omega),if_pos h1,if_neg (by omega),if_neg (by omega),if_pos h1]
 exact⟨rfl,rfl⟩
theorem apf{x:bN}{e:Ev}(h:okW x=true)(h1:e.kind=4):DU x e=SY x e.node e.value∧rK x e=vN x e.node e.value:=by
 unfold DU rK
 rw[h,dn,if_neg (by omega),if_neg (by omega),if_neg (by omega),if_pos h1,if_neg (by omega),if_neg (by omega),if_neg (by omega),if_pos h1]
 exact⟨rfl,rfl⟩
theorem apg{x:bN}{e:Ev}(h:okW x=true)(h1:e.kind=5):DU x e=Dz x e.node∧rK x e=fA x e.node:=by
 unfold DU rK
 rw[h,dn,if_neg (by omega),if_neg (by omega),if_neg (by omega),if_neg (by omega),if_pos h1,if_neg (by omega),if_neg (by omega),if_neg (by omega),if_neg (by omega),if_pos h1]
 exact⟨rfl,rfl⟩
theorem aph{x:bN}{e:Ev}(h:okW x=true)(h1: ¬e.kind=1)(h2: ¬e.kind=2)(h3: ¬e.kind=3)(h4: ¬e.kind=4)(h5: ¬e.kind=5):DU x e=x∧rK x e=false:=by
 unfold DU rK
 rw[h,dn,if_neg h1,if_neg h2,if_neg h3,if_neg h4,if_neg h5,if_neg h1,if_neg h2,if_neg h3,if_neg h4,if_neg h5]
 exact⟨rfl,rfl⟩
theorem Fy{x:bN}{c:Int}(h:okW x=true):fA x c=kA x c:=by rw[fA,h,dn]
end
section
theorem Hr{α:Type}{l m:List α}{k:Nat}(d:α)(h:k<l.length):(l++m).getD k d=l.getD k d:=by
 rw[aA,aA,List.getElem?_append_left h]
theorem N4{α:Type}{l:List α}{y:α}(d:α):(l++ [y]).getD l.length d=y:=by
 rw[aA,cU (bq _)];simp
theorem DL{α:Type}(l:List α)(k:Nat)(d:α):(l.drop 1).getD k d=l.getD (k+1) d:=by
 rw[aA,aA,cK,AU]
theorem Hs{α:Type}{l:List α}{i k:Nat}(d y:α)(h:k<l.length):(l.set i y).getD k d=if i=k then y else l.getD k d:=by
 rw[aA,aA,List.getElem?_set]
 split
 ·rename_i e;subst e;simp[h]
 ·rfl
theorem getD_map{α β:Type}(f:α→β){l:List α}{k:Nat}(d:β)(e:α)(h:k<l.length):(l.map f).getD k d=f (l.getD k e):=by
 rw[aA,aA,dB,aC h];rfl
def sOK(rows rd:Int)(i:Nat)(s:cu):Prop:=s.id=(i:Int)∧s.rows=rows∧s.round=rd∧s.received= []∧0≤s.behavior∧s.behavior≤3
def svs(rows rd:Int)(l:List cu):Prop:= ∀i,i<l.length→sOK rows rd i (l.getD i (aR .cu))
theorem aet{rows rd:Int}{i:Nat}{s:cu}(h:sOK rows rd i s)(hr:1≤rows∧rows≤64)(hd:0≤rd∧rd≤100000)(hi:i≤3):ec s=true:=by
 obtain⟨h1,h2,h3,h4,h5⟩:=h
 simp only[ec,Au,az,dS,decide_eq_true_eq,h4,c8]
 refine⟨⟨⟨⟨⟨by omega,by omega⟩,by omega⟩,by omega⟩,by omega⟩,by simp⟩
theorem PX{x:bN}{i:Nat}(hr:1≤x.rows∧x.rows≤64)(hd:0≤x.round∧x.round≤100000)(hi:i≤3):Mv x i=true↔sOK x.rows x.round i (x.aG.getD i (aR .cu)):=by
 constructor
 ·intro h
  simp only[Mv,az,beq_iff_eq,decide_eq_true_eq]at h
  obtain⟨⟨⟨⟨h1,h2⟩,h3⟩,h4⟩,h5⟩:=h
  simp only[ec,Au,az,dS]at h1
  exact⟨h2,h3,h4,gb.1 (by omega),h1.1.1.1.2⟩
 ·intro h
  have h1:=aet h hr hd hi
  obtain⟨h2,h3,h4,h5,_⟩:=h
  simp only[Mv,az,beq_iff_eq,decide_eq_true_eq]
  exact⟨⟨⟨⟨h1,h2⟩,h3⟩,h4⟩,by rw[h5];decide⟩
def inc(rows:Int)(l:List aX):Prop:= ∀i,i<l.length→vK rows l i=true
theorem oP{a:mD}:jz a=true↔((1≤a.rows∧a.rows≤64)∧a.rounds.length≤8)∧inc a.rows a.rounds:=by
 simp only[jz,KQ,az,dS,decide_eq_true_eq,bE,eg]
 constructor
 ·rintro⟨⟨h1,h2⟩,h3⟩;exact⟨⟨h1,by omega⟩,h3⟩
 ·rintro⟨⟨h1,h2⟩,h3⟩;exact⟨⟨h1,by omega⟩,h3⟩
theorem nH{rows:Int}{l:List aX}{i:Nat}:vK rows l i=true↔(0≤(l.getD i (aR .aX)).round∧(l.getD i (aR .aX)).round≤100000)∧(0<i→(l.getD (i-1) (aR .aX)).round<(l.getD i (aR .aX)).round)∧eZ (l.getD i (aR .aX)).db=true∧((l.getD i (aR .aX)).db.rows.length:Int)=rows:=by
 simp only[vK,az,dS,beq_iff_eq,bX,mu,decide_eq_false_iff_not]
 constructor
 ·rintro⟨⟨⟨h1,h2⟩,h3⟩,h4⟩
  refine⟨h1,fun hi=> ?_,h3,h4⟩
  rcases h2 with h2|h2
  ·omega
  ·omega
 ·rintro⟨h1,h2,h3,h4⟩
  refine⟨⟨⟨h1,?_⟩,h3⟩,h4⟩
  by_cases hi:0<i
  ·right;have:=h2 hi;omega
  ·left;omega
theorem aeu{rows:Int}{l:List aX}(h:inc rows l):inc rows (l.drop 1):=by
 intro i hi
 have hi:i+1<l.length:=by rw[b9]at hi;omega
 have h1:=nH.1 (h (i+1) hi)
 rw[nH,DL]
 refine⟨h1.1,fun hp=> ?_,h1.2.2⟩
 rw[DL,show i-1+1=i by omega]
 exact h1.2.1 (by omega)
theorem aev{rows:Int}{l:List aX}{r:Int}{d:DB}(h:inc rows l)(h0:0≤r∧r≤100000)(hl:0<l.length→(l.getD (l.length-1) (aR .aX)).round<r)(hd:eZ d=true)(hr:(d.rows.length:Int)=rows):inc rows (l++ [⟨r,d⟩]):=by
 intro i hi
 rw[bf,fY]at hi
 by_cases hil:i<l.length
 ·have h1:=nH.1 (h i hil)
  rw[nH,Hr _ hil]
  refine⟨h1.1,fun hp=> ?_,h1.2.2⟩
  rw[Hr _ (by omega)]
  exact h1.2.1 hp
 ·obtain rfl:i=l.length:=by omega
  rw[nH,N4]
  refine⟨h0,fun hp=> ?_,hd,hr⟩
  rw[Hr _ (by omega)]
  exact hl hp
theorem aew{rows:Int}{l:List aX}(h:inc rows l): ∀(j i:Nat),i<j→j<l.length→(l.getD i (aR .aX)).round<(l.getD j (aR .aX)).round
 |0,i,h1,_=>by omega
 |j+1,i,h1,h2=>by
  have h3:=(nH.1 (h (j+1) h2)).2.1 (by omega)
  rw[show j+1-1=j by omega]at h3
  by_cases e:i=j
  ·subst e;exact h3
  ·have:=aew h j i (by omega) (by omega);omega
theorem B3{a:mD}(h:0<a.rounds.length):gx a=(a.rounds.getD (a.rounds.length-1) (aR .aX)).round:=by rw[gx,if_neg (by omega)]
theorem VM{a:mD}(h:a.rounds= []):gx a= -1:=by rw[gx,h];rfl
theorem amt{a:mD}(h:jz a=true): ∀y,y∈a.rounds→0≤y.round∧y.round≤gx a:=by
 intro y hy
 have h2:=(oP.1 h).2
 obtain⟨i,hi,rfl⟩:=eR.1 hy
 have e:a.rounds[i]=a.rounds.getD i (aR .aX):=by rw[aA,aC hi];rfl
 rw[B3 (by omega),e]
 refine⟨(nH.1 (h2 i hi)).1.1,?_⟩
 by_cases hl:i=a.rounds.length-1
 ·rw[hl];exact iz _
 ·exact Int.le_of_lt (aew h2 _ _ (by omega) (by omega))
theorem ahY{a:mD}{r:Int}{d:DB}(h:jz a=true)(h0:0≤r∧r≤100000)(hl:gx a<r)(hd:eZ d=true)(hr:(d.rows.length:Int)=a.rows):zn a r d=true:=by
 simp only[zn,az,h,hd,dS,h0,hr,bX,decide_eq_false_iff_not,decide_true]
 exact⟨⟨⟨⟨trivial,⟨trivial,trivial⟩⟩,by omega⟩,trivial⟩,trivial⟩
theorem ahZ{a:mD}{r:Int}{d:DB}(h:zn a r d=true):NX a r d=if(8:Int)<(AY a r d).length then(AY a r d).drop 1 else AY a r d:=by rw[NX,if_pos h]
theorem aex{a:mD}{r:Int}{d:DB}:(AY a r d).length=a.rounds.length+1∧ ∀e,(AY a r d).getD a.rounds.length e=⟨r,d⟩:=by
 unfold AY
 exact⟨by rw[bf];rfl,fun e=>N4 e⟩
theorem aey{a:mD}{r:Int}{d:DB}(h:jz a=true)(h0:0≤r∧r≤100000)(hl:gx a<r)(hd:eZ d=true)(hr:(d.rows.length:Int)=a.rows):
  jz ⟨a.rows,NX a r d⟩=true∧gx ⟨a.rows,NX a r d⟩=r∧0<(NX a r d).length∧(NX a r d).getD ((NX a r d).length-1) (aR .aX)=⟨r,d⟩:=by
 have ha:=oP.1 h
 have hi:inc a.rows (AY a r d):=aev ha.2 h0 (fun hp=>by rw[B3 hp]at hl;exact hl) hd hr
 obtain⟨hL,hG⟩:=aex (a:=a) (r:=r) (d:=d)
 rw[ahZ (ahY h h0 hl hd hr)]
 split
 ·rename_i h8
  have hlen:((AY a r d).drop 1).length=a.rounds.length:=by rw[b9];omega
  have hg:((AY a r d).drop 1).getD (((AY a r d).drop 1).length-1) (aR .aX)=⟨r,d⟩:=by
   rw[hlen,DL,show a.rounds.length-1+1=a.rounds.length by omega];exact hG _
  refine⟨oP.2 ⟨⟨ha.1.1,by show((AY a r d).drop 1).length≤8;omega⟩,aeu hi⟩,?_,by omega,hg⟩
  rw[B3 (by show 0<((AY a r d).drop 1).length;omega)]
  exact congrArg aX.round hg
 ·rename_i h8
  have hg:(AY a r d).getD ((AY a r d).length-1) (aR .aX)=⟨r,d⟩:=by
   rw[hL,show a.rounds.length+1-1=a.rounds.length by omega];exact hG _
  refine⟨oP.2 ⟨⟨ha.1.1,by show(AY a r d).length≤8;omega⟩,hi⟩,?_,by omega,hg⟩
  rw[B3 (by show 0<(AY a r d).length;omega)]
  exact congrArg aX.round hg
structure N5(x:bN):Prop where
 rows:1≤x.rows∧x.rows≤64
 nsv:2≤x.aG.length∧x.aG.length≤4
 ndv:2≤x.ah.length∧x.ah.length≤8
 even:x.ah.length % 2=0
 arc:jz x.aK=true
 Iy:x.aK.rows=x.rows
 last:gx x.aK<x.round
 key:jl x.ck=true
 round:0≤x.round∧x.round≤100000
 DM:0≤x.cancelled
 sv:svs x.rows x.round x.aG
 dv: ∀i,i<x.ah.length→okD x i=true
theorem N5.of{x:bN}(h:okW x=true):N5 x:=by
 have hh:=sA h
 have he:=xT hh
 have hs:=ij h
 have hh2:=hh
 simp only[R5,az,dS,beq_iff_eq,decide_eq_true_eq]at hh
 obtain⟨⟨⟨⟨⟨⟨⟨⟨⟨h1,h2⟩,h3⟩,h4⟩,h5⟩,h6⟩,h7⟩,h8⟩,h9⟩,h10⟩:=hh
 exact⟨h1,⟨hs.2,hs.1⟩,⟨he.2.2,he.2.1⟩,he.1,h5,h6,h7,h8,h9,h10,fun i hi=>(PX h1 h9 (by omega)).1 (Lc h hi),fun i hi=>xV h hi⟩
theorem N5.ok{x:bN}(h:N5 x):okW x=true:=by
 obtain⟨h1,h2,h3,h4,h5,h6,h7,h8,h9,h10,h11,h12⟩:=h
 have ht:(x.ah.length:Int).tmod 2=0:=by rw[iP (by omega)];omega
 simp only[okW,R5,dG,az,dS,beq_iff_eq,decide_eq_true_eq,bE,eg]
 exact⟨⟨⟨⟨⟨⟨⟨⟨⟨⟨⟨h1,by omega⟩,by omega⟩,ht⟩,h5⟩,h6⟩,h7⟩,h8⟩,h9⟩,h10⟩,fun i hi=>(PX h1 h9 (by omega)).2 (h11 i hi)⟩,h12⟩
theorem ah1{rows rd:Int}{p:List cu×List Int}{id:Int}(hl:p.1.length≤4)(h:svs rows rd p.1):svs rows rd (E8 rows rd p id).1:=by
 unfold E8
 split
 ·rename_i hk
  simp only[Dv,dS]at hk
  rw[dm (by omega)]at hk
  intro i hi
  rw[cm]at hi
  show sOK rows rd i ((p.1.set id.toNat ⟨id,rows,rd,[],0⟩).getD i (aR .cu))
  rw[Hs _ _ hi]
  split
  ·rename_i e
   exact⟨by show id=(i:Int);omega,rfl,rfl,rfl,iz _,by show(0:Int)≤3;decide⟩
  ·exact h i hi
 ·exact h
theorem PY{rows rd:Int}: ∀(g:List Int) {p:List cu×List Int},p.1.length≤4→svs rows rd p.1→svs rows rd (I9 rows rd p g).1∧(I9 rows rd p g).1.length=p.1.length
 | [],_,_,h=>⟨h,rfl⟩
 |i::g,p,hl,h=>by
  have qS:=(PJ rows rd p i).1
  have:=PY g (p:=E8 rows rd p i) (by omega) (ah1 (id:=i) hl h)
  exact⟨this.1,this.2.trans qS⟩
theorem ah2{rows rd:Int}{i:Nat}{s:cu}(h:sOK rows rd i s)(hr:1≤rows∧rows≤64)(hd:0≤rd∧rd<100000)(hi:i≤3):sOK rows (rd+1) i (oC s):=by
 have hk:=aet h hr (by omega) hi
 obtain⟨h1,h2,h3,h4,h5⟩:=h
 have hb:LF s=true:=by
  simp only[LF,hk,dn,bX,beq_eq_false_iff_ne];omega
 rw[oC,if_pos hb]
 refine⟨h1,h2,?_,rfl,h5⟩
 show af.wrap (s.round+1)=rd+1
 rw[dm (by omega),h3]
theorem N6{x y:bN}{i:Nat}(hd:y.ah=x.ah)(hr:x.round≤y.round)(h:okD x i=true):okD y i=true:=by
 simp only[okD,az,decide_eq_true_eq]at h ⊢
 rw[hd]
 exact⟨h.1,by omega⟩
theorem LS{x:bN}(h:okW x=true)(hr:x.round<99999):mw x=true:=by
 simp only[mw,h,dn,bX,decide_eq_false_iff_not];omega
theorem aac{x:bN}{g:List Int}{d:DB}(h:okW x=true)(hr:x.round<99999)(hc:x.cancelled<9223372036854775807)(hd:g= []→eZ d=true∧(d.rows.length:Int)=x.rows):okW (eD x g d)=true:=by
 have w:=N5.of h
 have hp:=PY (rows:=x.rows) (rd:=x.round) g (p:=(x.aG,x.replaced)) w.nsv.2 w.sv
 have w1:=w.rows;have w2:=w.nsv;have w3:=w.round;have w4:=w.DM
 have hrd:af.wrap (x.round+1)=x.round+1:=dm (by omega)
 rw[eD,if_pos (LS h hr)]
 have hsv:svs x.rows (x.round+1) ((yT x g).1.map oC):=by
  intro i hi
  rw[bt]at hi
  have hi4:i≤3:=by have:=hp.2;unfold yT at hi;dsimp only at this;omega
  rw[getD_map oC _ (aR .cu) hi]
  exact ah2 (hp.1 i hi) w1 (by omega) hi4
 have hlen:((yT x g).1.map oC).length=x.aG.length:=by rw[bt];exact hp.2
 have api:jz ⟨x.aK.rows,if g.length=0 then NX x.aK x.round d else x.aK.rounds⟩=true∧gx ⟨x.aK.rows,if g.length=0 then NX x.aK x.round d else x.aK.rounds⟩<x.round+1:=by
  by_cases hg:g.length=0
  ·obtain⟨q1,q2⟩:=hd (gb.1 hg)
   rw[if_pos hg]
   have:=aey w.arc (by omega:0≤x.round∧x.round≤100000) w.last q1 (by rw[w.Iy];exact q2)
   exact⟨this.1,by rw[this.2.1];omega⟩
  ·rw[if_neg hg]
   have:=w.last
   exact⟨w.arc,by show gx x.aK<_;omega⟩
 refine N5.ok ⟨w1,by dsimp only;rw[hlen];exact w2,w.ndv,w.even,api.1,w.Iy,?_,w.key,?_,?_,?_,fun i hi=> ?_⟩
 ·dsimp only;rw[hrd];exact api.2
 ·dsimp only;rw[hrd];omega
 ·dsimp only
  split
  ·exact w4
  ·rw[dm (by omega)];omega
 ·dsimp only;rw[hrd];exact hsv
 ·exact N6 (x:=x) rfl (by dsimp only;rw[hrd];omega) (w.dv i hi)
theorem aeA{x:bN}(h:okW x=true):okW (testW x)=true:=by
 unfold testW
 split
 ·have w:=N5.of h
  have hp:=PY (rows:=x.rows) (rd:=x.round) (NY x x.aG.length) (p:=(x.aG,x.replaced)) w.nsv.2 w.sv
  have w2:=w.nsv
  refine N5.ok ⟨w.rows,?_,w.ndv,w.even,w.arc,w.Iy,w.last,w.key,w.round,w.DM,hp.1,fun i hi=>N6 (x:=x) rfl (iz _) (w.dv i hi)⟩
  have hp2:(I9 x.rows x.round (x.aG,x.replaced) (NY x x.aG.length)).1.length=x.aG.length:=hp.2
  show 2≤(I9 x.rows x.round (x.aG,x.replaced) (NY x x.aG.length)).1.length∧(I9 x.rows x.round (x.aG,x.replaced) (NY x x.aG.length)).1.length≤4
  rw[hp2];exact w2
 ·exact h
theorem LU{a b:List (List UInt8)}:Cf a b=true↔a.length≤b.length∧a=b.take a.length:=by
 simp only[Cf,az,decide_eq_true_eq,beq_iff_eq]
 constructor
 ·rintro⟨h1,h2⟩;exact⟨by omega,h2⟩
 ·rintro⟨h1,h2⟩;exact⟨by omega,h2⟩
theorem Ht(a:List (List UInt8)):Cf a a=true:=LU.2 ⟨bq _,(lg).symm⟩
theorem aeB{a b c:List (List UInt8)}(h:Cf a b=true):Cf a (b++c)=true:=by
 obtain⟨h1,h2⟩:=LU.1 h
 refine LU.2 ⟨by rw[bf];omega,?_⟩
 rw[List.take_append_of_le_length h1];exact h2
theorem Hu{c:gI}:ga c=true↔(((0≤c.id∧c.id≤7)∧(0≤c.fJ∧c.fJ≤7))∧c.id≠c.fJ∧jl c.key=true)∧PL c∧(0≤c.sent∧c.sent≤c.bp.length)∧0≤c.next∧c.next≤100000:=by
 simp only[ga,PL,az,bX,ct,dS,decide_eq_true_eq,beq_eq_false_iff_ne]
 have hl: ∀b:List UInt8, ¬long b=true↔b.length≤14:=by
  intro b;simp only[long,decide_eq_true_eq];omega
 constructor
 ·rintro⟨⟨⟨⟨⟨⟨⟨⟨⟨h1,h2⟩,h3⟩,h4⟩,h5⟩,h6⟩,h7⟩,h8⟩,h9⟩,h10⟩
  exact⟨⟨⟨h1,h2⟩,h3,h4⟩,⟨by omega,by omega,fun b hb=>(hl b).1 (h7 b hb),fun b hb=>(hl b).1 (h8 b hb)⟩,h9,h10⟩
 ·rintro⟨⟨⟨h1,h2⟩,h3,h4⟩,⟨h5,h6,h7,h8⟩,h9,h10⟩
  exact⟨⟨⟨⟨⟨⟨⟨⟨⟨h1,h2⟩,h3⟩,h4⟩,by omega⟩,by omega⟩,fun b hb=>(hl b).2 (h7 b hb)⟩,fun b hb=>(hl b).2 (h8 b hb)⟩,h9⟩,h10⟩
theorem aeC{c:gI}{r:Int}{own other:List UInt8}(h:ga c=true):ga (kg c r own other)=true:=by
 by_cases hk:zj c r=true
 ·have hB:=Fb (Fa h) r own other
  rw[kg,if_pos hk]at hB ⊢
  obtain⟨h1,_,h3,h4⟩:=Hu.1 h
  simp only[zj,az,dS]at hk
  refine Hu.2 ⟨h1,hB,?_,?_⟩
  ·dsimp only
   split
   ·rename_i hh
    simp only[yN,az,decide_eq_true_eq]at hh
    omega
   ·exact h3
  ·dsimp only;omega
 ·rw[kg,if_neg hk];exact h
structure Dok(d:bR):Prop where
 live:ga d.live=true
 saved:ga d.saved=true
 same:pE d.live d.saved=true
 sent:d.saved.sent≤d.live.sent
 next:d.saved.next≤d.live.next
 pre:Cf d.saved.inbox d.live.inbox=true
theorem Dok.iff{d:bR}:fu d=true↔Dok d:=by
 simp only[fu,az,decide_eq_true_eq]
 constructor
 ·rintro⟨⟨⟨⟨⟨h1,h2⟩,h3⟩,h4⟩,h5⟩,h6⟩;exact⟨h1,h2,h3,h4,h5,h6⟩
 ·rintro⟨h1,h2,h3,h4,h5,h6⟩;exact⟨⟨⟨⟨⟨h1,h2⟩,h3⟩,h4⟩,h5⟩,h6⟩
theorem kH{a b:gI}:pE a b=true↔yO a b∧a.bp=b.bp:=by
 simp only[pE,yO,az,beq_iff_eq]
 constructor
 ·rintro⟨⟨⟨⟨h1,h2⟩,h3⟩,h4⟩,h5⟩;exact⟨⟨h1,h2,h3,h4⟩,h5⟩
 ·rintro⟨⟨h1,h2,h3,h4⟩,h5⟩;exact⟨⟨⟨⟨h1,h2⟩,h3⟩,h4⟩,h5⟩
theorem aad(c:gI)(r:Int)(own other:List UInt8):(kg c r own other).bp=c.bp∧c.sent≤(kg c r own other).sent∧(kg c r own other).sent≤c.sent+1∧c.next≤(kg c r own other).next∧ ∃m,(kg c r own other).inbox=c.inbox++m:=by
 unfold kg
 split
 ·rename_i hk
  simp only[zj,az,dS]at hk
  refine⟨rfl,?_,?_,?_,?_⟩
  ·dsimp only;split<;>omega
  ·dsimp only;split<;>omega
  ·dsimp only;omega
  ·dsimp only
   split
   ·exact⟨_,rfl⟩
   ·exact⟨[],(dA _).symm⟩
 ·exact⟨rfl,iz _,by omega,iz _,[],(dA _).symm⟩
theorem ah3{d:bR}{r:Int}{own other:List UInt8}(h:fu d=true):fu (rdev d r own other)=true:=by
 have hd:=Dok.iff.1 h
 unfold rdev
 split
 ·have hc:=aeC (r:=r) (own:=own) (other:=other) hd.live
  split
  ·exact Dok.iff.2 ⟨hc,hc,kH.2 ⟨⟨rfl,rfl,rfl,rfl⟩,rfl⟩,iz _,iz _,Ht _⟩
  ·obtain⟨q1,q2,_,q3,m,q4⟩:=aad d.live r own other
   obtain⟨p1,p2⟩:=kH.1 hd.same
   have p3:=Dt d.live r own other
   refine Dok.iff.2 ⟨hc,hd.saved,kH.2 ⟨⟨p3.1.trans p1.1,p3.2.1.trans p1.2.1,p3.2.2.1.trans p1.2.2.1,p3.2.2.2.trans p1.2.2.2⟩,q1.trans p2⟩,Te hd.sent q2,Te hd.next q3,?_⟩
   show Cf d.saved.inbox (kg d.live r own other).inbox=true
   rw[q4]
   exact aeB hd.pre
 ·exact h
theorem aae{d:bR}{r:Int}{own other:List UInt8}{R:Int}(h:d.live.next≤R)(hr:r+1≤R):(rdev d r own other).live.next≤R:=by
 have key:(kg d.live r own other).next≤R:=by
  unfold kg
  split
  ·exact hr
  ·exact h
 unfold rdev
 split
 ·split
  ·exact key
  ·exact key
 ·exact h
theorem Ye(x:bN)(d0:bR){R:Int}: ∀(l:List Int) (d:bR),(∀r,r∈l→r+1≤R)→fu d=true→d.live.next≤R→fu (l.foldl (Vy x d0) d)=true∧(l.foldl (Vy x d0) d).live.next≤R
 | [],_,_,h1,h2=>⟨h1,h2⟩
 |r::l,d,hl,h1,h2=>Ye x d0 l _ (fun q hq=>hl q (aT _ hq)) (ah3 h1) (aae h2 (hl r (gw ..)))
theorem VN{l:List aX}{f r:Int}(h:r∈kS l f):f≤r∧ ∃y,y∈l∧y.round=r:=by
 unfold kS at h
 obtain⟨y,hy,rfl⟩:=cO.1 h
 rw[List.mem_filter]at hy
 exact⟨by simpa using hy.2,y,hy.1,rfl⟩
theorem Tf{x:bN}{i:Nat}(h:okW x=true)(hi:i<x.ah.length):fu (uk x (x.ah.getD i (aR .bR)))=true∧(uk x (x.ah.getD i (aR .bR))).live.next≤x.round∧yO (uk x (x.ah.getD i (aR .bR))).live (x.ah.getD i (aR .bR)).live:=by
 have w:=N5.of h
 have hd:=xV h hi
 simp only[okD,az,decide_eq_true_eq]at hd
 have h1:=Ye x (x.ah.getD i (aR .bR)) (R:=x.round) (wK x (x.ah.getD i (aR .bR))) _ (fun r hr=>by
  obtain⟨_,y,hy,rfl⟩:=VN hr
  have:=(amt w.arc y hy).2
  have:=w.last
  omega) hd.1.1.1.1 hd.2
 exact⟨h1.1,h1.2,G7 x _ _ _ ⟨rfl,rfl,rfl,rfl⟩⟩
theorem amu{x:bN}(h:okW x=true):okW (Ls x)=true:=by
 have w:=N5.of h
 rw[Ls,if_pos h]
 have hg: ∀i,i<x.ah.length→(x.ah.map (uk x)).getD i (aR .bR)=uk x (x.ah.getD i (aR .bR)):=fun i hi=>getD_map _ _ _ hi
 refine N5.ok ⟨w.rows,w.nsv,by dsimp only;rw[bt];exact w.ndv,by dsimp only;rw[bt];exact w.even,w.arc,w.Iy,w.last,w.key,w.round,w.DM,w.sv,fun i hi=> ?_⟩
 have hi:i<x.ah.length:=by dsimp only at hi;rwa [bt]at hi
 obtain⟨q1,q2,q3⟩:=Tf h hi
 have hd:=xV h hi
 have hx:=Ax i x.ah.length hi w.even
 obtain⟨_,_,p3⟩:=Tf h hx
 simp only[okD,az,decide_eq_true_eq,beq_iff_eq]at hd ⊢
 rw[hg i hi,hg _ hx]
 exact⟨⟨⟨⟨q1,q3.1.trans hd.1.1.1.2⟩,q3.2.1.trans hd.1.1.2⟩,by rw[q3.2.2.1,p3.2.2.1];exact hd.1.2⟩,q2⟩
end
section
theorem LV{rows:Int}(h:0≤rows∧rows≤64):((gG rows).rows.length:Int)=rows:=by
 rw[s6 h,List.length_replicate];omega
theorem aeE{rows i:Int}{c:List UInt8}(h:wE rows i c=true):((unW rows i c).rows.length:Int)=rows:=by
 have h':=h
 simp only[wE,az]at h'
 have hr:1≤rows∧rows≤64:=by have:=h'.1;rw[dS]at this;exact this
 rw[unW,if_pos h'.1,BU h'.2]
 show(((gG rows).rows.set i.toNat c).length:Int)=rows
 rw[cm];exact LV (by omega)
theorem N7{α:Type}(f:α→DB): ∀(l:List α) (d:DB),(l.foldl (fun d s=>lf d (f s)) d).rows.length=d.rows.length:=by
 intro l
 induction l with
 |nil=>intro d;rfl
 |cons x r ih=>intro d;rw[gV,ih,Du]
theorem VO{rows i:Int}{c:List UInt8}(h:wE rows i c=true)(sd:List Int):((CN rows i c sd).rows.length:Int)=rows:=by
 unfold CN;rw[N7 (fun s=>mdb s rows)];exact aeE h
theorem VP{rows i:Int}{c:List UInt8}{sd:List Int}: ∀d,d∈wH rows i c sd→(d.rows.length:Int)=rows:=by
 intro d hd
 unfold wH at hd
 split at hd
 ·rename_i h
  have hu:wE rows i c=true:=by simp only[ze,az]at h;exact h.1
  rcases bg.1 hd with h1|h1
  ·obtain⟨s,_,rfl⟩:=cO.1 h1
   have:=(Pu hu).2
   show((kR s rows).length:Int)=rows
   rw[rG];omega
  ·rw[aZ.1 h1];exact VO hu sd
 ·cases hd
def shI(x:bN)(i:Nat)(c:Nat):DB:=(gy x (c:Int)).getD i (aR .DB)
def rcs(x:bN)(i n:Nat):List bJ:=(bT n).map fun c:Nat=>⟨(c:Int),shI x i c⟩
theorem aeG(x:bN)(i n:Nat):rcs x i (n+1)=rcs x i n++ [⟨(n:Int),shI x i n⟩]:=by
 unfold rcs;rw[fP,gT];rfl
theorem ah4(x:bN)(i n:Nat):(rcs x i n).length=n:=by simp[rcs]
theorem Yf(x:bN)(i n:Nat){k:Nat}(h:k<n):(rcs x i n).getD k (aR .bJ)=⟨(k:Int),shI x i k⟩:=jg _ _ _ _ h
def Hv(x:bN)(k i:Nat):cu:=⟨(x.aG.getD i (aR .cu)).id,(x.aG.getD i (aR .cu)).rows,(x.aG.getD i (aR .cu)).round,rcs x i k,(x.aG.getD i (aR .cu)).behavior⟩
theorem apj{x:bN}(h:okW x=true):2≤x.ah.length∧x.ah.length≤8:=by
 have:=sA h
 simp only[R5,az,dS]at this
 omega
theorem amv{x:bN}(h:okW x=true){i c:Nat}(hi:i<x.aG.length)(hc:c<x.ah.length):eZ (shI x i c)=true∧((shI x i c).rows.length:Int)=x.rows:=by
 have hl:(gy x (c:Int)).length=x.aG.length:=oL h (by omega)
 have hm:shI x i c∈gy x (c:Int):=getD_in _ (by omega)
 exact⟨Dp h _ hm,VP _ hm⟩
theorem aeH{x:bN}(h:okW x=true){i:Nat}(hi:i<x.aG.length):(x.aG.getD i (aR .cu)).id=(i:Int)∧(x.aG.getD i (aR .cu)).rows=x.rows∧(x.aG.getD i (aR .cu)).round=x.round∧(x.aG.getD i (aR .cu)).received= []∧0≤(x.aG.getD i (aR .cu)).behavior∧(x.aG.getD i (aR .cu)).behavior≤3:=by
 have hs:=ij h
 have hr:=tX h
 exact(PX hr.1 hr.2 (by omega)).1 (Lc h hi)
theorem PZ{x:bN}(h:okW x=true){k i:Nat}(hi:i<x.aG.length)(hk:k≤x.ah.length):ec (Hv x k i)=true:=by
 have hs:=ij h
 have hr:=tX h
 have hn:=apj h
 obtain⟨h1,h2,h3,h4,h5⟩:=aeH h hi
 have hl:(Hv x k i).received.length=k:=ah4 x i k
 simp only[ec,Au,az,dS,decide_eq_true_eq,bE,hl]
 refine⟨⟨⟨⟨⟨?_,?_⟩,?_⟩,?_⟩,?_⟩,fun j hj=> ?_⟩
 ·show 0≤(x.aG.getD i (aR .cu)).id∧(x.aG.getD i (aR .cu)).id≤3
  omega
 ·show 1≤(x.aG.getD i (aR .cu)).rows∧(x.aG.getD i (aR .cu)).rows≤64
  omega
 ·exact h5
 ·show 0≤(x.aG.getD i (aR .cu)).round∧(x.aG.getD i (aR .cu)).round≤100000
  omega
 ·omega
 ·have hj':j<k:=eg.1 hj
  have e:(Hv x k i).received.getD j (aR .bJ)=⟨(j:Int),shI x i j⟩:=Yf x i k hj'
  have ho:=amv h hi (show j<x.ah.length by omega)
  have er:(Hv x k i).rows=x.rows:=h2
  simp only[tN,e,az,dS,beq_iff_eq,bX,mu,decide_eq_false_iff_not,er]
  refine⟨⟨⟨by omega,?_⟩,ho.1⟩,ho.2⟩
  by_cases hz:j=0
  ·left;omega
  ·right
   have e':(Hv x k i).received.getD (j-1) (aR .bJ)=⟨((j-1:Nat):Int),shI x i (j-1)⟩:=Yf x i k (by omega)
   rw[e']
   show¬(j:Int)≤((j-1:Nat):Int)
   omega
theorem Yg{x:bN}(h:okW x=true){i:Nat}(hi:i<x.aG.length): ∀k,k≤x.ah.length→(Ch x k).getD i (aR .cu)=Hv x k i
 |0,_=>by
  have h4:=(aeH h hi).2.2.2.1
  show x.aG.getD i (aR .cu)=Hv x 0 i
  unfold Hv
  have e:rcs x i 0=(x.aG.getD i (aR .cu)).received:=by rw[h4];rfl
  rw[e]
 |k+1,hk=>by
  have ha:pM (Hv x k i) (k:Int) (shI x i k)=Hv x (k+1) i:=by
   unfold pM
   show(⟨_,_,_,rcs x i k++ [⟨(k:Int),shI x i k⟩],_⟩:cu)=_
   rw[←aeG];rfl
  rw[SA h (by omega) hi,Yg h hi k (by omega)]
  show Vu (Hv x k i) (k:Int) (shI x i k)=_
  rw[Pw (by unfold pN;rw[ha,PZ h hi (by omega),PZ h hi hk];rfl),ha]
theorem ah5{x:bN}(h:okW x=true){i:Nat}(hi:i<x.aG.length):(dw x).getD i (aR .cu)=Hv x x.ah.length i:=by
 rw[dw,if_pos h];exact Yg h hi _ (bq _)
theorem N8(rows:Int)(l:List bJ):(kU rows l).rows.length=(gG rows).rows.length:=N7 (fun r:bJ=>r.share) l _
theorem aeI(d:DB):(alt d).rows.length=d.rows.length:=cm ..
theorem aeJ{x:bN}(h:okW x=true){d:DB}(hd:d∈fX (dw x)):(d.rows.length:Int)=x.rows:=by
 obtain⟨s,hs,rfl⟩:=cO.1 hd
 obtain⟨i,hi⟩:=mo.1 hs
 have hl:i<x.aG.length:=by
  have:=(aV.1 hi).1
  rw[rJ h]at this;exact this
 have e:s=Hv x x.ah.length i:=by
  rw[←ah5 h hl,aA,hi];rfl
 have hr:s.rows=x.rows:=by rw[e];exact(aeH h hl).2.1
 have hk:ec s=true:=by rw[e];exact PZ h hl (bq _)
 have hw:=tX h
 have hn:((gG s.rows).rows.length:Int)=x.rows:=by rw[hr];exact LV (by omega)
 unfold yd
 rw[if_pos hk]
 split
 ·rw[aeI,N8];exact hn
 ·rw[N8];exact hn
theorem Tg: ∀(l:List DB) (a:DB),eZ a=true→(∀d,d∈l→eZ d=true∧d.rows.length=a.rows.length)→ ∃d,Ui a l=some d∧d.rows.length=a.rows.length
 | [],a,_,_=>⟨a,rfl,rfl⟩
 |s::r,a,ha,hl=>by
  have hs:=hl s (gw ..)
  have hx:mO a s=true:=by
   simp only[mO,az,decide_eq_true_eq]
   exact⟨⟨ha,hs.1⟩,by omega⟩
  have he:=Du a s
  obtain⟨d,h1,h2⟩:=Tg r (lf a s) (B1 ha) (fun d hd=>by
   have:=hl d (aT _ hd)
   exact⟨this.1,by omega⟩)
  exact⟨d,by rw[Ui,if_pos hx,h1],by omega⟩
theorem Th{x:bN}(h:okW x=true):I7 (fX (dw x))=true∧((jw (fX (dw x))).rows.length:Int)=x.rows:=by
 have hs:=ij h
 have hl:(fX (dw x)).length=x.aG.length:=by rw[show(fX (dw x)).length=(dw x).length from bt ..,rJ h]
 have h0:(fX (dw x)).getD 0 (aR .DB)∈fX (dw x):=getD_in _ (by omega)
 have e0:=aeJ h h0
 obtain⟨d,h1,h2⟩:=Tg ((fX (dw x)).drop 1) ((fX (dw x)).getD 0 (aR .DB)) (ve (dw x) _ h0) (fun d hd=>by
  have hm:=nj hd
  have:=aeJ h hm
  exact⟨ve (dw x) _ hm,by omega⟩)
 have e:XP (fX (dw x))=some d:=by
  rw[XP,if_pos (by simp only[dG,dS];omega),h1]
 exact⟨by rw[I7,e];rfl,by rw[jw,e];show(d.rows.length:Int)=x.rows;omega⟩
end
section
structure Cur where
 b:List UInt8
 i:Nat
 h:Int
def Cur.h1(c:Cur):Int:=af.wrap (af.wrap (c.h*6364136223846793005)+1442695040888963407)
def Cur.n(c:Cur):Cur:=⟨c.b,if c.i<c.b.length then c.i+1 else c.i,c.h1⟩
def ah6(c:Cur)(n:Int):Cur:=if n≤0 then c else if n≤256 then c.n else c.n.n.n
def nwC(seed:Int)(i:Nat):gI:=⟨(i:Int),((i^^^1:Nat):Int),F6 (kh seed [199,(i:Int).tdiv 2]),kh seed [211,(i:Int)],[],0,[],0⟩
def nwD(seed:Int)(i:Nat):bR:=⟨nwC seed i,nwC seed i⟩
def nwS(rows:Int)(i:Nat):cu:=⟨(i:Int),rows,0,[],0⟩
def Jg(rows:Int)(n:Nat):List cu:=(bT n).map (nwS rows)
def zA(seed:Int)(n:Nat):List bR:=(bT n).map (nwD seed)
def aeK(rows:Int)(s p:Nat)(seed:Int):bN:=⟨rows,Jg rows s,zA seed (2*p),⟨rows,[]⟩,F6 (kh seed [197]),seed,0,[],0⟩
theorem P0(rows:Int)(n:Nat):(Jg rows n).length=n:=by simp[Jg]
theorem P1(seed:Int)(n:Nat):(zA seed n).length=n:=by simp[zA]
theorem Ti(rows:Int)(k:Nat):Jg rows (k+1)=Jg rows k++ [nwS rows k]:=De _ k
theorem Tj(seed:Int)(k:Nat):zA seed (k+1)=zA seed k++ [nwD seed k]:=De _ k
theorem aag(i:Nat):((i^^^1:Nat):Int).tdiv 2=(i:Int).tdiv 2:=by
 have h:(i^^^1)/2=i/2:=by
  rw[KR]
  simp
 rw[tH (by omega),tH (by omega)]
 omega
theorem P2(i:Nat):i^^^1≠i:=by
 intro h
 have h2:(i^^^1)^^^i=i^^^i:=by rw[h]
 rw[Nat.xor_comm i 1,Nat.xor_assoc,Nat.xor_self,Nat.xor_zero]at h2
 cases h2
theorem amw{seed:Int}{i:Nat}(hi:i<8):ga (nwC seed i)=true:=by
 have hk:=wg (gB seed [199,(i:Int).tdiv 2])
 have hx:i^^^1<8:=Ax i 8 hi (by decide)
 have hn:=P2 i
 have hB:PL (nwC seed i):=by
  refine⟨aE _,aE _,?_,?_⟩<;>(intro b hb;cases hb)
 refine Hu.2 ⟨⟨⟨by show 0≤(i:Int)∧(i:Int)≤7;omega,by show 0≤((i^^^1:Nat):Int)∧((i^^^1:Nat):Int)≤7;omega⟩,by show(i:Int)≠((i^^^1:Nat):Int);omega,?_⟩,hB,by show(0:Int)≤0∧(0:Int)≤0;omega,by show(0:Int)≤0;omega,by show(0:Int)≤100000;omega⟩
 show jl (F6 _)=true
 unfold jl
 rw[dS];omega
theorem ah8{rows seed:Int}{s p:Nat}(hr:1≤rows∧rows≤64)(hs:2≤s∧s≤4)(hp:1≤p∧p≤4):okW (aeK rows s p seed)=true:=by
 have hl1:=P0 rows s
 have qS:=P1 seed (2*p)
 have hk:=wg (gB seed [197])
 refine N5.ok ⟨hr,by show 2≤(Jg rows s).length∧(Jg rows s).length≤4;omega,by show 2≤(zA seed (2*p)).length∧(zA seed (2*p)).length≤8;omega,by show(zA seed (2*p)).length % 2=0;omega,oP.2 ⟨⟨hr,by show 0≤8;omega⟩,fun i hi=>by cases hi⟩,rfl,?_,?_,by show(0:Int)≤0∧(0:Int)≤100000;omega,by show(0:Int)≤0;omega,fun i hi=> ?_,fun i hi=> ?_⟩
 ·show gx ⟨rows,[]⟩<0
  rw[VM rfl];decide
 ·show jl (F6 _)=true
  unfold jl
  rw[dS];omega
 ·have hi':i<s:=by have:i<(Jg rows s).length:=hi;omega
  have e:(Jg rows s).getD i (aR .cu)=nwS rows i:=jg _ _ _ _ hi'
  show sOK rows 0 i ((Jg rows s).getD i (aR .cu))
  rw[e]
  exact⟨rfl,rfl,rfl,rfl,by show(0:Int)≤0;omega,by show(0:Int)≤3;omega⟩
 ·have hi':i<2*p:=by have:i<(zA seed (2*p)).length:=hi;omega
  have hx:=Ax i (2*p) hi' (by omega)
  have e: ∀j,j<2*p→(zA seed (2*p)).getD j (aR .bR)=nwD seed j:=fun j hj=>jg _ _ _ _ hj
  have hc:=amw (seed:=seed) (i:=i) (by omega)
  have ars:fu (nwD seed i)=true:=Dok.iff.2 ⟨hc,hc,kH.2 ⟨⟨rfl,rfl,rfl,rfl⟩,rfl⟩,iz _,iz _,Ht _⟩
  show(fu ((zA seed (2*p)).getD i (aR .bR))&&(((zA seed (2*p)).getD i (aR .bR)).live.id==(i:Int))&&(((zA seed (2*p)).getD i (aR .bR)).live.fJ==((i^^^1:Nat):Int))&&(((zA seed (2*p)).getD i (aR .bR)).live.key==((zA seed (2*p)).getD (i^^^1) (aR .bR)).live.key)&&decide (((zA seed (2*p)).getD i (aR .bR)).live.next≤0))=true
  rw[e i hi',e _ hx,ars]
  simp only[az,beq_iff_eq,decide_eq_true_eq]
  refine⟨⟨⟨⟨trivial,rfl⟩,rfl⟩,?_⟩,iz _⟩
  show F6 (kh seed [199,(i:Int).tdiv 2])=F6 (kh seed [199,((i^^^1:Nat):Int).tdiv 2])
  rw[aag]
theorem apk{x:bN}{n:Nat}(h:okW x=true)(hr:x.replaced.length≤n):wC x n:=by
 have w:=N5.of h
 refine⟨Dx (ad5 h),?_,?_,hr⟩
 ·exact dH (Dw cz 960 8 _ (fun d hd=>qK (N0 h d hd)) w.ndv.2) (by decide)
 ·have ha:=oP.1 w.arc
  refine dH (Dw gQ 1600 8 _ (fun y hy=> ?_) ha.1.2) (by decide)
  obtain⟨i,hi,rfl⟩:=eR.1 hy
  have h2:=nH.1 (ha.2 i hi)
  have e:x.aK.rounds.getD i (aR .aX)=x.aK.rounds[i]:=by rw[aA,aC hi];rfl
  rw[e]at h2
  exact LI h2.2.2.1
theorem P3{x:bN}{i:Nat}{d:bR}(h:okW x=true)(hi:i<x.ah.length)(hd:fu d=true)(hs:yO d.live (x.ah.getD i (aR .bR)).live)(hn:d.live.next≤x.round):okW (SW x i d)=true:=by
 have w:=N5.of h
 have hg: ∀j,j<x.ah.length→(x.ah.set i d).getD j (aR .bR)=if i=j then d else x.ah.getD j (aR .bR):=fun j hj=>Hs _ _ hj
 refine N5.ok ⟨w.rows,w.nsv,by show 2≤(x.ah.set i d).length∧(x.ah.set i d).length≤8;rw[cm];exact w.ndv,by show(x.ah.set i d).length % 2=0;rw[cm];exact w.even,w.arc,w.Iy,w.last,w.key,w.round,w.DM,w.sv,fun j hj=> ?_⟩
 have hj:j<x.ah.length:=by have:j<(x.ah.set i d).length:=hj;rwa [cm]at this
 have hx:=Ax j x.ah.length hj w.even
 have hq:=xV h hj
 have key: ∀m,m<x.ah.length→((x.ah.set i d).getD m (aR .bR)).live.key=(x.ah.getD m (aR .bR)).live.key:=by
  intro m hm
  rw[hg m hm]
  split
  ·rename_i e;subst e;exact hs.2.2.1
  ·rfl
 simp only[okD,az,decide_eq_true_eq,beq_iff_eq]at hq ⊢
 show(((fu ((x.ah.set i d).getD j (aR .bR))=true∧((x.ah.set i d).getD j (aR .bR)).live.id=(j:Int))∧((x.ah.set i d).getD j (aR .bR)).live.fJ=((j^^^1:Nat):Int))∧((x.ah.set i d).getD j (aR .bR)).live.key=((x.ah.set i d).getD (j^^^1) (aR .bR)).live.key)∧((x.ah.set i d).getD j (aR .bR)).live.next≤x.round
 rw[key j hj,key _ hx,hg j hj]
 split
 ·rename_i e
  subst e
  exact⟨⟨⟨⟨hd,hs.1.trans hq.1.1.1.2⟩,hs.2.1.trans hq.1.1.2⟩,hq.1.2⟩,hn⟩
 ·exact hq
theorem aeL{x:bN}{c:Int}(h:fA x c=true):c.toNat<x.ah.length∧fu (Dy x c)=true∧(Dy x c).live.next≤x.round:=by
 obtain⟨h1,h2,h3⟩:=sU h
 have hi:c.toNat<x.ah.length:=by omega
 have hq:=xV h1 hi
 simp only[okD,az,decide_eq_true_eq]at hq
 exact⟨hi,hq.1.1.1.1,hq.2⟩
theorem Yh{c:gI}{b:List UInt8}(h:ga c=true):ga (pR c b)=true:=by
 unfold pR
 split
 ·rename_i hk;simp only[wP,az]at hk;exact hk.2
 ·exact h
theorem N9(c:gI)(b:List UInt8):yO (pR c b) c∧(pR c b).next=c.next∧(pR c b).sent=c.sent∧(pR c b).inbox=c.inbox:=by
 unfold pR
 split
 ·exact⟨⟨rfl,rfl,rfl,rfl⟩,rfl,rfl,rfl⟩
 ·exact⟨⟨rfl,rfl,rfl,rfl⟩,rfl,rfl,rfl⟩
theorem ah9{d:bR}{b:List UInt8}(h:fu d=true):fu (Jb d b)=true∧yO (Jb d b).live d.live∧(Jb d b).live.next=d.live.next:=by
 unfold Jb
 split
 ·rename_i hk
  simp only[AZ,az]at hk
  have hd:=Dok.iff.1 h
  obtain⟨p1,p2⟩:=kH.1 hd.same
  obtain⟨a1,a2,a3,a4⟩:=N9 d.live b
  obtain⟨b1,b2,b3,b4⟩:=N9 d.saved b
  refine⟨Dok.iff.2 ⟨Yh hd.live,Yh hd.saved,kH.2 ⟨⟨a1.1.trans (p1.1.trans b1.1.symm),a1.2.1.trans (p1.2.1.trans b1.2.1.symm),a1.2.2.1.trans (p1.2.2.1.trans b1.2.2.1.symm),a1.2.2.2.trans (p1.2.2.2.trans b1.2.2.2.symm)⟩,?_⟩,?_,?_,?_⟩,a1,a2⟩
  ·show(pR d.live b).bp=(pR d.saved b).bp
   rw[Fx hk.1.2,Fx hk.2]
   show d.live.bp++ [b]=d.saved.bp++ [b]
   rw[p2]
  ·show(pR d.saved b).sent≤(pR d.live b).sent
   rw[a3,b3];exact hd.sent
  ·show(pR d.saved b).next≤(pR d.live b).next
   rw[a2,b2];exact hd.next
  ·show Cf (pR d.saved b).inbox (pR d.live b).inbox=true
   rw[a4,b4];exact hd.pre
 ·exact⟨h,⟨rfl,rfl,rfl,rfl⟩,rfl⟩
theorem amx{x:bN}{c:Int}{b:List UInt8}(h:okW x=true):okW (QI x c b)=true:=by
 unfold QI
 split
 ·rename_i hk
  obtain⟨h1,h2,h3⟩:=aeL hk
  obtain⟨q1,q2,q3⟩:=ah9 (b:=b) h2
  exact P3 h h1 q1 q2 (by rw[q3];exact h3)
 ·exact h
theorem Yi{c:gI}(h:ga c=true):fu ⟨c,c⟩=true:=Dok.iff.2 ⟨h,h,kH.2 ⟨⟨rfl,rfl,rfl,rfl⟩,rfl⟩,iz _,iz _,Ht _⟩
theorem amy{x:bN}{c:Int}(h:okW x=true):okW (PR x c)=true:=by
 unfold PR
 split
 ·rename_i hk
  obtain⟨h1,h2,h3⟩:=aeL hk
  have hd:=Dok.iff.1 h2
  obtain⟨p1,p2⟩:=kH.1 hd.same
  have hn:=hd.next
  rw[VI,if_pos h2]
  exact P3 h h1 (Yi hd.saved) ⟨p1.1.symm,p1.2.1.symm,p1.2.2.1.symm,p1.2.2.2.symm⟩ (by show(Dy x c).saved.next≤x.round;omega)
 ·exact h
theorem amz{x:bN}{c:Int}(h:okW x=true):okW (Dz x c)=true:=by
 unfold Dz
 split
 ·rename_i hk
  obtain⟨h1,h2,h3⟩:=aeL hk
  rw[PO,if_pos h2]
  exact P3 h h1 (Yi (Dok.iff.1 h2).live) ⟨rfl,rfl,rfl,rfl⟩ h3
 ·exact h
theorem amA{x:bN}{i b:Int}(h:okW x=true):okW (SY x i b)=true:=by
 unfold SY
 split
 ·rename_i hk
  obtain⟨_,h1,h2⟩:=VJ hk
  have w:=N5.of h
  refine N5.ok ⟨w.rows,by show 2≤(x.aG.set i.toNat (beh (x.aG.getD i.toNat (aR .cu)) b)).length∧(x.aG.set i.toNat (beh (x.aG.getD i.toNat (aR .cu)) b)).length≤4;rw[cm];exact w.nsv,w.ndv,w.even,w.arc,w.Iy,w.last,w.key,w.round,w.DM,fun j hj=> ?_,w.dv⟩
  have hj:j<x.aG.length:=by have:j<(x.aG.set i.toNat (beh (x.aG.getD i.toNat (aR .cu)) b)).length:=hj;rwa [cm]at this
  show sOK x.rows x.round j ((x.aG.set i.toNat (beh (x.aG.getD i.toNat (aR .cu)) b)).getD j (aR .cu))
  rw[Hs _ _ hj]
  have hq:=w.sv j hj
  split
  ·rename_i e
   subst e
   obtain⟨q1,q2,q3,q4,_⟩:=hq
   exact⟨q1,q2,q3,q4,h2.1,h2.2⟩
  ·exact hq
 ·exact h
theorem apl(x:bN):(Ls x).round=x.round∧(Ls x).cancelled=x.cancelled∧(Ls x).replaced=x.replaced∧(Ls x).rows=x.rows∧(Ls x).aG=x.aG∧(Ls x).aK=x.aK∧(Ls x).ah.length=x.ah.length∧(Ls x).ck=x.ck:=by
 unfold Ls
 split
 ·exact⟨rfl,rfl,rfl,rfl,rfl,rfl,bt ..,rfl⟩
 ·exact⟨rfl,rfl,rfl,rfl,rfl,rfl,rfl,rfl⟩
theorem aia(x:bN):(testW x).round=x.round∧(testW x).cancelled=x.cancelled∧(testW x).rows=x.rows∧(testW x).aK=x.aK∧(testW x).ah=x.ah∧(testW x).ck=x.ck:=by
 unfold testW
 split
 ·exact⟨rfl,rfl,rfl,rfl,rfl,rfl⟩
 ·exact⟨rfl,rfl,rfl,rfl,rfl,rfl⟩
theorem aah{x:bN}(h:okW x=true)(hc:x.cancelled<9223372036854775807):okW (gr x)=true:=by
 unfold gr
 split
 ·rename_i hk
  have hr:x.round<99999:=by simp only[mw,h,dn,bX,decide_eq_false_iff_not]at hk;omega
  exact amu (aeA (aac h hr hc fun _=>⟨NW _ (ve _),(Th h).2⟩))
 ·exact h
theorem aeM{x:bN}(h:okW x=true)(hr:x.round<99999)(hc:x.cancelled<9223372036854775807):(gr x).round=x.round+1∧(gr x).cancelled=(if(oB x.ck (dw x) (fX (dw x)) (ni x) (dw x).length).length=0 then x.cancelled else x.cancelled+1)∧(gr x).rows=x.rows∧(gr x).ah.length=x.ah.length∧gx (gr x).aK=(if(oB x.ck (dw x) (fX (dw x)) (ni x) (dw x).length).length=0 then x.round else gx x.aK):=by
 have w:=N5.of h
 have w3:=w.round;have w4:=w.DM
 have hk:=LS h hr
 rw[gr,if_pos hk]
 obtain⟨a1,a2,_,a4,_,a6,a7,_⟩:=apl (testW (eD x (oB x.ck (dw x) (fX (dw x)) (ni x) (dw x).length) (jw (fX (dw x)))))
 obtain⟨b1,b2,b3,b4,b5,_⟩:=aia (eD x (oB x.ck (dw x) (fX (dw x)) (ni x) (dw x).length) (jw (fX (dw x))))
 have hj:=Th h
 rw[a1,a2,a4,a6,a7,b1,b2,b3,b4,b5,eD,if_pos hk]
 refine⟨dm (by omega),?_,rfl,rfl,?_⟩
 ·dsimp only
  split
  ·rfl
  ·exact dm (by omega)
 ·dsimp only
  split
  ·exact(aey w.arc w3 w.last (NW _ (ve _)) (by rw[w.Iy];exact hj.2)).2.1
  ·rfl
structure LW(x:bN)(n:Nat):Prop where
 ok:okW x=true
 round:x.round≤n
 DM:x.cancelled≤n
 VQ:x.replaced.length≤8*n
theorem LW.mono{x:bN}{n m:Nat}(h:LW x n)(hn:n≤m):LW x m:=⟨h.ok,by have:=h.round;omega,by have:=h.DM;omega,by have:=h.VQ;omega⟩
theorem LW.C{x:bN}{n:Nat}(h:LW x n):wC x (8*n):=apk h.ok h.VQ
theorem LW.R{x:bN}{n:Nat}(h:LW x n)(hn:n≤100000):wR x:=aeh h.C (by omega)
theorem LW.sm{x:bN}{n:Nat}{c:Int}{b:List UInt8}(h:LW x n):LW (QI x c b) n:=by
 refine⟨amx h.ok,?_,?_,?_⟩<;>(unfold QI;split)<;>first|exact h.round|exact h.DM|exact h.VQ
theorem LW.cc{x:bN}{n:Nat}{c:Int}(h:LW x n):LW (PR x c) n:=by
 refine⟨amy h.ok,?_,?_,?_⟩<;>(unfold PR;split)<;>first|exact h.round|exact h.DM|exact h.VQ
theorem LW.sv{x:bN}{n:Nat}{c:Int}(h:LW x n):LW (Dz x c) n:=by
 refine⟨amz h.ok,?_,?_,?_⟩<;>(unfold Dz;split)<;>first|exact h.round|exact h.DM|exact h.VQ
theorem LW.co{x:bN}{n:Nat}{i b:Int}(h:LW x n):LW (SY x i b) n:=by
 refine⟨amA h.ok,?_,?_,?_⟩<;>(unfold SY;split)<;>first|exact h.round|exact h.DM|exact h.VQ
theorem LW.rd{x:bN}{n:Nat}(h:LW x n)(hn:n≤99998):LW (gr x) (n+1):=by
 have h1:=h.round;have h2:=h.DM
 have hf:=aeM h.ok (by omega) (by omega)
 have hC:=SU h.C
 refine⟨aah h.ok (by omega),by omega,?_,by have:=hC.2.2.2;omega⟩
 rw[hf.2.1];split<;>omega
end
section
structure ArP where
 c:Cur
 a:mD
 r:Int
end
section
def n4(c:Cur)(a b:Int):Cur:=ah6 (ah6 (ah6 (ah6 c a) b) 99) 999
structure ClP where
 c:Cur
 x:gI
end
section
structure DvP where
 c:Cur
 d:bR
def art(p:DvP):Prop:=p.d.live.sent<(p.d.live.bp.length:Int)
instance (p:DvP):Decidable (art p):=inferInstanceAs (Decidable (_<_))
def low(l:List bJ)(c:Int):Nat:=(l.takeWhile fun r=>decide (r.client<c)).length
structure SvP where
 c:Cur
 s:cu
end
section
def sb(rows:List (List UInt8))(v:List Int)(i k:Nat):UInt8:=if k<v.length∧v.getD k (aR .int)=1 then at0 (rows.getD k (aR (.sl .u8))) i else 0
def sx(rows:List (List UInt8))(v:List Int)(i:Nat):Nat→UInt8
 |0=>0
 |n+1=>sx rows v i n^^^sb rows v i n
end
section

end
section
theorem Yy{x:bN}(h:okW x=true): ∀s,s∈x.aG→gP s≤15000:=by
 intro s hs
 have:=BZ h s hs
 unfold gP
 rw[this]
 exact aE _
end
end Go.Proofs.YtaalpcnbbldlaaaGreatDoor.G
