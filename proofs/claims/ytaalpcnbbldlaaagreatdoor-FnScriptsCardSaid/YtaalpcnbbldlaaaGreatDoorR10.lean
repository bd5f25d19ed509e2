/- Steps. -/
import Derived.KernelRfl
import Derived.Test.YtaalpcnbbldlaaaGreatDoorProg
import Derived.Test.YtaalpcnbbldlaaaGreatDoorR9
open BitVec renaming ofInt→aF,ofInt_natCast→kQ,toNat_and→Np,toNat_ofNat→mm,toNat_xor→Nq
open Bool renaming and_eq_false_iff→o8,and_eq_true→an,and_false→ke,and_true→wQ,eq_false_iff→mY,eq_iff_iff→DC,not_eq_true→B3,not_eq_true'→bO,true_and→dj
open Go.IntKind renaming bits→YB,i64→af,signed→R6,u8→cJ,wrap→YA,wrap_i64→vY
open Go.Proofs.Tryz renaming prog→aP
open Int renaming emod_lt_of_pos→kH,emod_nonneg→lH,eq_ofNat_of_zero_le→sL,fdiv_eq_ediv_of_nonneg→lY,le_refl→iK,le_trans→ZE,natCast_add→Rq,natCast_emod→wk,natCast_mul→Rr,toNat→cX,toNat_natCast→gQ
open List renaming all_append→lI,all_eq_false→uf,all_eq_true→bE,any_eq_false→cq,any_eq_true→fF,append_assoc→bU,append_nil→cW,cons_append→fE,drop→Af,drop_eq_getElem_cons→gP,drop_of_length_le→jT,drop_succ_cons→lE,drop_zero→ju,ext_getElem→qU,filter_append→s8,filter_cons→Nw,flatMap_append→fY,flatMap_cons→fP,foldl_append→fQ,foldl_cons→cI,foldl_map→Sw,foldl_nil→Sx,forall_mem_cons→FE,getD_cons_succ→HI,getD_cons_zero→HJ,getD_eq_getElem?_getD→aq,getElem?_append_right→dm,getElem?_drop→dc,getElem?_eq_getElem→az,getElem?_eq_some_iff→aU,getElem?_map→ec,getElem?_replicate→kW,getElem?_zipWith→vn,getElem_map→NQ,getElem_zipWith→FX,length→aN,length_append→aQ,length_cons→bp,length_drop→cV,length_eq_zero_iff→iE,length_map→bt,length_nil→dh,length_range→Av,length_replicate→ku,length_set→bX,length_singleton→gz,length_take→ct,length_zipWith→lK,map_append→gj,map_cons→cg,map_map→jM,map_nil→rL,mem_append→bg,mem_append_left→bl,mem_append_right→aW,mem_cons→bh,mem_cons_of_mem→aE,mem_cons_self→bA,mem_flatMap→kL,mem_iff_getElem→fL,mem_iff_getElem?→mq,mem_map→bQ,mem_of_getElem?→eT,mem_of_mem_drop→gf,mem_of_mem_take→qw,mem_or_eq_of_mem_set→iT,mem_range→cS,mem_replicate→yO,mem_singleton→aV,nil_append→eM,not_mem_nil→nX,pairwise_cons→zh,range→bK,range_succ→gl,replicate→ew,replicate_succ→lP,set_append_right→Ds,sum_cons→j9,take→ON,take_append_drop→mg,take_append_of_le_length→iV,take_length→vX,take_of_length_le→aD,take_replicate→GY,take_succ_cons→jd,take_zero→jv,zipWith→eJ
open Nat renaming add→fX,add_comm→o9,add_lt_add→zB,add_mod→HH,add_mul→cM,add_zero→ia,beq→bH,ble→kV,ble_eq_true_of_le→kr,div→zi,dvd_gcd→BO,dvd_of_mod_eq_zero→CU,eq_of_beq_eq_true→aG,eq_of_testBit_eq→F8,gcd→mD,gcd_pos_of_pos_left→tC,land→Kb,le_add_right→qS,le_of_ble_eq_true→bV,le_of_dvd→WU,le_refl→aS,le_trans→cB,lt_of_lt_of_le→cz,min_eq_left→P0,mod→nN,mod_eq_of_lt→gK,mod_lt→iN,mod_mod→adz,mul→jF,mul_add→jX,mul_add_mod→Df,mul_assoc→tv,mul_comm→kg,mul_le_mul_left→nI,mul_left_comm→L5,mul_mod→yt,mul_one→lF,mul_zero→M4,not_lt_zero→jE,one_mul→mH,pow_add→BN,pow_le_pow_right→mP,pow_succ→Ep,pow_zero→aaz,shiftLeft→Ka,shiftLeft_eq→NN,shiftRight→uP,shiftRight_eq_div_pow→qL,shiftRight_zero→HE,sub→WT,sub_eq_zero_of_le→EO,sub_mod_eq_zero_of_mod_eq→wj,sub_self→vi,succ→J7,testBit_and→Rf,testBit_shiftRight→tS,testBit_two_pow_mul_add→iy,testBit_xor→EL,two_pow_pos→mX,xor→tB,xor_assoc→JA,xor_comm→vv,xor_div_two→PS,xor_lt_two_pow→kI,xor_self→MV,xor_zero→MW,zero_add→dB,zero_le→aY,zero_mul→oO
open Or renaming inl→bP,inr→bw
open UInt8 renaming ofNat→cN,toNat→adx,toNat_xor→PG,xor_assoc→iw,xor_comm→zv,xor_self→Gq,xor_zero→n7,zero_xor→iU
namespace Go.Proofs.YtaalpcnbbldlaaaGreatDoor.G
set_option linter.all false
open Go.RowKit L D
section
variable{P:Program}{i b:Nat}
theorem avw:(aP.info? 3).map (fun i=>(i.zero,i.size,i.bytes))=some (some (.int .i64 0),1,8):=by kernel_rfl
theorem avx:(aP.info? 5).map (fun i=>(i.zero,i.size,i.bytes))=some (some (.int .u8 0),1,1):=by kernel_rfl
theorem avy:(aP.info? 9).map (fun i=>(i.zero,i.size,i.bytes))=some (some (.string ⟨#[]⟩),1,16):=by kernel_rfl
theorem aly:(aP.info? 24).map (fun i=>(i.zero,i.size,i.bytes))=some (some (.slice none 0 0),1,24):=by kernel_rfl
theorem alz:(aP.info? 37).map (fun i=>(i.zero,i.size,i.bytes))=some (some (.slice none 0 0),1,24):=by kernel_rfl
theorem aym:(aP.info? 87).map (fun i=>(i.zero,i.size,i.bytes))=some (some (.slice none 0 0),1,24):=by kernel_rfl
theorem Vl:(aP.info? 111).map (fun i=>(i.zero,i.size,i.bytes))=some (some (.agg #[.slice none 0 0]),1,24):=by kernel_rfl
theorem Vm:(aP.info? 188).map (fun i=>(i.zero,i.size,i.bytes))=some (some (.agg #[.int .i64 0, .slice none 0 0]),2,32):=by kernel_rfl
theorem ack:(aP.info? 95).map (fun i=>(i.zero,i.size,i.bytes))=some (some (.agg #[.int .i64 0, .int .i64 0, .int .i64 0, .slice none 0 0, .int .i64 0]),5,56):=by kernel_rfl
theorem Vn:(aP.info? 113).map (fun i=>(i.zero,i.size,i.bytes))=some (some (.agg #[.int .i64 0, .slice none 0 0]),2,32):=by kernel_rfl
theorem alA:(aP.info? 36).map (fun i=>(i.zero,i.size,i.bytes))=some (some (.agg #[.int .i64 0, .slice none 0 0]),2,32):=by kernel_rfl
theorem alB:(aP.info? 89).map (fun i=>(i.zero,i.size,i.bytes))=some (some (.agg #[.int .i64 0, .int .i64 0, .int .i64 0, .int .i64 0, .slice none 0 0, .int .i64 0, .slice none 0 0, .int .i64 0]),8,96):=by kernel_rfl
theorem acm:(aP.info? 91).map (fun i=>(i.zero,i.size,i.bytes))=some (some (.agg #[.int .i64 0, .int .i64 0, .int .i64 0, .int .i64 0, .slice none 0 0, .int .i64 0, .slice none 0 0, .int .i64 0, .int .i64 0, .int .i64 0, .int .i64 0, .int .i64 0, .slice none 0 0, .int .i64 0, .slice none 0 0, .int .i64 0]),16,192):=by kernel_rfl
theorem alC:(aP.info? 39).map (fun i=>(i.zero,i.size,i.bytes))=some (some (.agg #[.int .i64 0, .slice none 0 0, .slice none 0 0, .int .i64 0, .slice none 0 0, .int .i64 0, .int .i64 0, .int .i64 0, .slice none 0 0, .int .i64 0]),10,144):=by kernel_rfl
theorem alD:(aP.info? 64).map (fun i=>(i.zero,i.size,i.bytes))=some (some (.agg #[.int .i64 0, .int .i64 0, .int .i64 0, .slice none 0 0]),4,48):=by kernel_rfl
theorem Vo:(aP.info? 116).map (fun i=>(i.zero,i.size,i.bytes))=some (some (.agg #[.int .i64 0, .int .i64 0, .int .i64 0]),3,24):=by kernel_rfl
theorem Vp:(aP.info? 220).map (fun i=>(i.zero,i.size,i.bytes))=some (some (.agg #[.int .i64 0, .int .i64 0, .int .i64 0, .int .i64 0, .int .i64 0]),5,40):=by kernel_rfl
theorem aet:(aP.info? 206).map (fun i=>(i.zero,i.size,i.bytes))=some (some (.agg #[.int .i64 0, .slice none 0 0]),2,32):=by kernel_rfl
theorem Vq:(aP.info? 150).map (fun i=>(i.zero,i.size,i.bytes))=some (some (.agg #[.int .i64 0, .int .i64 0, .slice none 0 0, .slice none 0 0, .int .i64 0]),5,72):=by kernel_rfl
theorem alE:(aP.info? 78).map (fun i=>(i.zero,i.size,i.bytes))=some (some (.slice none 0 0),1,24):=by kernel_rfl
theorem yI{z:Option Value}{k:Nat}(h:(P.info? i).map (fun i=>(i.zero,i.size,i.bytes))=some (z,k,b)):(P.info? i).map (·.size)=some k:=by
 cases hq:P.info? i with
 |none=>simp[hq]at h
 |some x=>simp[hq]at h;simp[h]
theorem asc{z:Option Value}{k:Nat}(h:(P.info? i).map (fun i=>(i.zero,i.size,i.bytes))=some (z,k,b)):(P.info? i).map (fun i=>(i.size,i.zero))=some (k,z):=by
 cases hq:P.info? i with
 |none=>simp[hq]at h
 |some x=>simp[hq]at h;simp[h]
theorem xD{t:Nat}{z:List Value}{tg:List (Option Tag)}{fo:List Nat}{fs:Array Field}(hu:P.underlying t=some (.struct fs))(hi:(P.info? t).map (fun i=>(i.zero,i.size,i.bytes))=some (some (.agg z.toArray),z.length,b))(hz:z.all (·.oneCell')=true)(hf:Ii P z.length fs.toList fo=true):gO P t (.st z tg fo):=
 ⟨fs,hu,asc hi,fun v hv=>bE.1 hz v hv,fun f k h=>by obtain⟨fd,h1,h2⟩:=(Dc hf).1 f k h;exact⟨fd,by simpa using h1,h2⟩,(Dc hf).2⟩
theorem kZ(h:(P.info? i).map (fun i=>bH i.size 1)=some true):(P.info? i).map (·.size)=some 1:=by
 cases hq:P.info? i with
 |none=>simp[hq]at h
 |some x=>simp[hq]at h;simp[h]
def tys:List (Nat×TK):= [(3, .int .i64),
 (2, .int .i64),
 (21, .int .i32),
 (5, .int .u8),
 (213, .int .u32),
 (108, .int .u64),
 (234, .int .u64),
 (12, .int .u64),
 (4, .bool),
 (9, .str),
 (111, .st [.slice none 0 0] [some (.sl .u8)] [0]),
 (188, .st [.int .i64 0, .slice none 0 0] [none,some (.sl .u8)] [0,1]),
 (95, .st [.int .i64 0, .int .i64 0, .int .i64 0, .slice none 0 0, .int .i64 0] [none,none,none,some .bL,none] [0,1,2,3,4]),
 (113, .st [.int .i64 0, .slice none 0 0] [none,some (.sl .u8)] [0,1]),
 (36, .st [.int .i64 0, .slice none 0 0] [none,some .bn] [0,1]),
 (89, .st [.int .i64 0, .int .i64 0, .int .i64 0, .int .i64 0, .slice none 0 0, .int .i64 0, .slice none 0 0, .int .i64 0] [none,none,none,none,some (.sl .u8),none,some (.sl .u8),none] [0,1,2,3,4,5,6,7]),
 (91, .st [.int .i64 0, .int .i64 0, .int .i64 0, .int .i64 0, .slice none 0 0, .int .i64 0, .slice none 0 0, .int .i64 0, .int .i64 0, .int .i64 0, .int .i64 0, .int .i64 0, .slice none 0 0, .int .i64 0, .slice none 0 0, .int .i64 0] [none,none,none,none,some (.sl .u8),none,some (.sl .u8),none,none,none,none,none,some (.sl .u8),none,some (.sl .u8),none] [0,8]),
 (39, .st [.int .i64 0, .slice none 0 0, .slice none 0 0, .int .i64 0, .slice none 0 0, .int .i64 0, .int .i64 0, .int .i64 0, .slice none 0 0, .int .i64 0] [none,some .cH,some .bR,none,some .bn,none,none,none,some .int,none] [0,1,2,3,5,6,7,8,9]),
 (64, .st [.int .i64 0, .int .i64 0, .int .i64 0, .slice none 0 0] [none,none,none,some .u8] [0,1,2,3]),
 (116, .st [.int .i64 0, .int .i64 0, .int .i64 0] [none,none,none] [0,1,2]),
 (220, .st [.int .i64 0, .int .i64 0, .int .i64 0, .int .i64 0, .int .i64 0] [none,none,none,none,none] [0,1,2,3,4]),
 (206, .st [.int .i64 0, .slice none 0 0] [none,some .u8] [0,1]),
 (150, .st [.int .i64 0, .int .i64 0, .slice none 0 0, .slice none 0 0, .int .i64 0] [none,none,some .int,some .u8,none] [0,1,2,3,4]),
 (37, .sl .int 3),
 (24, .sl .u8 5),
 (29, .sl .str 9),
 (87, .sl (.sl .u8) 24),
 (146, .sl (.sl .int) 37),
 (170, .sl .DB 111),
 (93, .sl .bL 188),
 (32, .sl .cH 95),
 (34, .sl .bn 113),
 (33, .sl .bR 91),
 (78, .sl .lV 116),
 (167, .sl .kj 220),
 (145, .sl .gw 150),
 (175, .sl (.sl .lV) 78)]
def Γ(t:Nat):TK:=match look tys t with|some k=>k|none=> .other
def ty:Tag→Nat
 | .int=>3
 | .u8=>5
 | .str=>9
 | (.sl .u8)=>24
 | (.sl .int)=>37
 | (.sl (.sl .u8))=>87
 | .DB=>111
 | .bL=>188
 | .cH=>95
 | .bn=>113
 | .tE=>36
 | .kf=>89
 | .bR=>91
 | .dF=>39
 | .Ev=>64
 | .lV=>116
 | .kj=>220
 | .Plain=>206
 | .gw=>150
 | (.sl .lV)=>78
 |_=>1000000000
theorem ayn:gO aP 3 (.int .i64):=Tryz.underlying3
theorem ayo:gO aP 2 (.int .i64):=Tryz.underlying2
theorem asd:gO aP 21 (.int .i32):=Tryz.underlying21
theorem ayp:gO aP 5 (.int .u8):=Tryz.underlying5
theorem alF:gO aP 213 (.int .u32):=Tryz.underlying213
theorem alG:gO aP 108 (.int .u64):=Tryz.underlying108
theorem alH:gO aP 234 (.int .u64):=Tryz.underlying234
theorem ase:gO aP 12 (.int .u64):=Tryz.underlying12
theorem ayq:gO aP 4 (.bool):=Tryz.underlying4
theorem ayr:gO aP 9 (.str):=Tryz.underlying9
theorem alI:gO aP 111 (.st [.slice none 0 0] [some (.sl .u8)] [0]):=xD Tryz.underlying111 Vl rfl gq
theorem alJ:gO aP 188 (.st [.int .i64 0, .slice none 0 0] [none,some (.sl .u8)] [0,1]):=xD Tryz.underlying188 Vm rfl gq
theorem asf:gO aP 95 (.st [.int .i64 0, .int .i64 0, .int .i64 0, .slice none 0 0, .int .i64 0] [none,none,none,some .bL,none] [0,1,2,3,4]):=xD Tryz.underlying95 ack rfl gq
theorem alK:gO aP 113 (.st [.int .i64 0, .slice none 0 0] [none,some (.sl .u8)] [0,1]):=xD Tryz.underlying113 Vn rfl gq
theorem asg:gO aP 36 (.st [.int .i64 0, .slice none 0 0] [none,some .bn] [0,1]):=xD Tryz.underlying36 alA rfl gq
theorem ash:gO aP 89 (.st [.int .i64 0, .int .i64 0, .int .i64 0, .int .i64 0, .slice none 0 0, .int .i64 0, .slice none 0 0, .int .i64 0] [none,none,none,none,some (.sl .u8),none,some (.sl .u8),none] [0,1,2,3,4,5,6,7]):=xD Tryz.underlying89 alB rfl gq
theorem asi:gO aP 91 (.st [.int .i64 0, .int .i64 0, .int .i64 0, .int .i64 0, .slice none 0 0, .int .i64 0, .slice none 0 0, .int .i64 0, .int .i64 0, .int .i64 0, .int .i64 0, .int .i64 0, .slice none 0 0, .int .i64 0, .slice none 0 0, .int .i64 0] [none,none,none,none,some (.sl .u8),none,some (.sl .u8),none,none,none,none,none,some (.sl .u8),none,some (.sl .u8),none] [0,8]):=xD Tryz.underlying91 acm rfl gq
theorem asj:gO aP 39 (.st [.int .i64 0, .slice none 0 0, .slice none 0 0, .int .i64 0, .slice none 0 0, .int .i64 0, .int .i64 0, .int .i64 0, .slice none 0 0, .int .i64 0] [none,some .cH,some .bR,none,some .bn,none,none,none,some .int,none] [0,1,2,3,5,6,7,8,9]):=xD Tryz.underlying39 alC rfl gq
theorem asl:gO aP 64 (.st [.int .i64 0, .int .i64 0, .int .i64 0, .slice none 0 0] [none,none,none,some .u8] [0,1,2,3]):=xD Tryz.underlying64 alD rfl gq
theorem alL:gO aP 116 (.st [.int .i64 0, .int .i64 0, .int .i64 0] [none,none,none] [0,1,2]):=xD Tryz.underlying116 Vo rfl gq
theorem alM:gO aP 220 (.st [.int .i64 0, .int .i64 0, .int .i64 0, .int .i64 0, .int .i64 0] [none,none,none,none,none] [0,1,2,3,4]):=xD Tryz.underlying220 Vp rfl gq
theorem alN:gO aP 206 (.st [.int .i64 0, .slice none 0 0] [none,some .u8] [0,1]):=xD Tryz.underlying206 aet rfl gq
theorem alO:gO aP 150 (.st [.int .i64 0, .int .i64 0, .slice none 0 0, .slice none 0 0, .int .i64 0] [none,none,some .int,some .u8,none] [0,1,2,3,4]):=xD Tryz.underlying150 Vq rfl gq
theorem asn:gO aP 37 (.sl .int 3):=⟨Tryz.underlying37,yI avw⟩
theorem aso:gO aP 24 (.sl .u8 5):=⟨Tryz.underlying24,yI avx⟩
theorem asp:gO aP 29 (.sl .str 9):=⟨Tryz.underlying29,yI avy⟩
theorem asq:gO aP 87 (.sl (.sl .u8) 24):=⟨Tryz.underlying87,yI aly⟩
theorem alP:gO aP 146 (.sl (.sl .int) 37):=⟨Tryz.underlying146,yI alz⟩
theorem alQ:gO aP 170 (.sl .DB 111):=⟨Tryz.underlying170,yI Vl⟩
theorem asr:gO aP 93 (.sl .bL 188):=⟨Tryz.underlying93,yI Vm⟩
theorem ast:gO aP 32 (.sl .cH 95):=⟨Tryz.underlying32,yI ack⟩
theorem asu:gO aP 34 (.sl .bn 113):=⟨Tryz.underlying34,yI Vn⟩
theorem asv:gO aP 33 (.sl .bR 91):=⟨Tryz.underlying33,yI acm⟩
theorem asw:gO aP 78 (.sl .lV 116):=⟨Tryz.underlying78,yI Vo⟩
theorem alR:gO aP 167 (.sl .kj 220):=⟨Tryz.underlying167,yI Vp⟩
theorem alS:gO aP 145 (.sl .gw 150):=⟨Tryz.underlying145,yI Vq⟩
theorem alT:gO aP 175 (.sl (.sl .lV) 78):=⟨Tryz.underlying175,yI alE⟩
set_option maxRecDepth 100000 in
theorem kinds: ∀e,e∈tys→gO aP e.1 e.2:=by
 simp only[tys,FE];exact⟨ayn,ayo,asd,ayp,alF,alG,alH,ase,ayq,ayr,alI,alJ,asf,alK,asg,ash,asi,asj,asl,alL,alM,alN,alO,asn,aso,asp,asq,alP,alQ,asr,ast,asu,asv,asw,alR,alS,alT,by simp⟩
set_option maxRecDepth 100000 in
theorem aDl: ∀e,e∈tys→(∀z tg fo,e.2≠ .st z tg fo)→(aP.info? e.1).map (·.size)=some 1:=by
 simp only[tys,FE];refine⟨fun _=>kZ gq,fun _=>kZ gq,fun _=>kZ gq,fun _=>kZ gq,fun _=>kZ gq,fun _=>kZ gq,fun _=>kZ gq,fun _=>kZ gq,fun _=>kZ gq,fun _=>kZ gq,fun h=>absurd rfl (h _ _ _),fun h=>absurd rfl (h _ _ _),fun h=>absurd rfl (h _ _ _),fun h=>absurd rfl (h _ _ _),fun h=>absurd rfl (h _ _ _),fun h=>absurd rfl (h _ _ _),fun h=>absurd rfl (h _ _ _),fun h=>absurd rfl (h _ _ _),fun h=>absurd rfl (h _ _ _),fun h=>absurd rfl (h _ _ _),fun h=>absurd rfl (h _ _ _),fun h=>absurd rfl (h _ _ _),fun h=>absurd rfl (h _ _ _),fun _=>kZ gq,fun _=>kZ gq,fun _=>kZ gq,fun _=>kZ gq,fun _=>kZ gq,fun _=>kZ gq,fun _=>kZ gq,fun _=>kZ gq,fun _=>kZ gq,fun _=>kZ gq,fun _=>kZ gq,fun _=>kZ gq,fun _=>kZ gq,fun _=>kZ gq,by simp⟩
theorem X:Ctx aP ty Γ where
 kind:=fun t=>by
  unfold Γ;split
  ·rename_i k hk;exact kinds (t,k) (jx hk)
  ·trivial
 one:=fun t h1 h2=>by
  unfold Γ at h1 h2;split at h1
  ·rename_i k hk;exact aDl (t,k) (jx hk) h1
  ·rename_i hk;rw[hk]at h2;exact absurd rfl h2
theorem fA(t:Tag)(h:ty t<1000000000):El aP ty t:=by
 unfold ty at h;split at h
 ·exact avw
 ·exact avx
 ·exact avy
 ·exact aly
 ·exact alz
 ·exact aym
 ·exact Vl
 ·exact Vm
 ·exact ack
 ·exact Vn
 ·exact alA
 ·exact alB
 ·exact acm
 ·exact alC
 ·exact alD
 ·exact Vo
 ·exact Vp
 ·exact aet
 ·exact Vq
 ·exact alE
 ·exact absurd h cO
abbrev So:=Sound ty aP
abbrev O{zb:fG}{Q:Post}{st:St}:=ar8 (zb:=zb) (Q:=Q) (st:=st) X
abbrev aL{zb:fG}{Q:Post}{st:St}:=iZ (zb:=zb) (Q:=Q) (st:=st) X
abbrev aR{zb:fG}{Q:Post}{st:St}:=mU (zb:=zb) (Q:=Q) (st:=st) X
abbrev bq{zb:fG}{Q:Post}{st:St}:=aem (zb:=zb) (Q:=Q) (st:=st) X
abbrev bI{zb:fG}{Q:Post}{st:St}:=mM (zb:=zb) (Q:=Q) (st:=st) X
abbrev bY{zb:fG}{Q:Post}{st:St}:=Dj (zb:=zb) (Q:=Q) (st:=st) X
abbrev bZ{zb:fG}{Q:Post}{st:St}:=wu (zb:=zb) (Q:=Q) (st:=st) X
abbrev dX{zb:fG}{Q:Post}{st:St}:=GM (zb:=zb) (Q:=Q) (st:=st) X
abbrev aZ{f:FuncId}{fn:Func}{c:Code}{Dk:List ResultVar}{n:Nat}{xs rs:List S1}:= @alv (X:=X) (f:=f) (fn:=fn) (c:=c) (Dk:=Dk) (n:=n) (xs:=xs) (rs:=rs)
end
theorem asx:(aP.info? 69).map (fun i=>(i.zero,i.size,i.bytes))=some (some (.agg #[.slice none 0 0, .int .i64 0, .int .i64 0]),3,40):=by kernel_rfl
theorem alU:gO aP 69 (.st [.slice none 0 0, .int .i64 0, .int .i64 0] [some .u8,none,none] [0,1,2]):=xD Tryz.underlying69 asx rfl gq
def asy:List (Nat×TK):=(69, .st [.slice none 0 0, .int .i64 0, .int .i64 0] [some .u8,none,none] [0,1,2])::tys
def Γ2(t:Nat):TK:=match look asy t with|some k=>k|none=> .other
theorem alV: ∀e,e∈asy→gO aP e.1 e.2:=by
 intro e he;rcases bh.1 he with rfl|he
 ·exact alU
 ·exact kinds e he
theorem avz: ∀e,e∈asy→(∀z tg fo,e.2≠ .st z tg fo)→(aP.info? e.1).map (·.size)=some 1:=by
 intro e he h;rcases bh.1 he with rfl|he
 ·exact absurd rfl (h _ _ _)
 ·exact aDl e he h
theorem X2:Ctx aP ty Γ2 where
 kind:=fun t=>by
  unfold Γ2;split
  ·rename_i k hk;exact alV (t,k) (jx hk)
  ·trivial
 one:=fun t h1 h2=>by
  unfold Γ2 at h1 h2;split at h1
  ·rename_i k hk;exact avz (t,k) (jx hk) h1
  ·rename_i hk;rw[hk]at h2;exact absurd rfl h2
abbrev eH{zb:fG}{Q:Post}{st:St}:=ar8 (zb:=zb) (Q:=Q) (st:=st) X2
theorem asz:(aP.info? 44).map (fun i=>(i.zero,i.size,i.bytes))=some (some (.agg #[.int .i64 0, .slice none 0 0, .slice none 0 0, .int .i64 0, .slice none 0 0, .int .i64 0, .int .i64 0, .int .i64 0, .slice none 0 0, .int .i64 0]),10,144):=by kernel_rfl
theorem alW:gO aP 44 (.st [.int .i64 0, .slice none 0 0, .slice none 0 0, .int .i64 0, .slice none 0 0, .int .i64 0, .int .i64 0, .int .i64 0, .slice none 0 0, .int .i64 0] [none,some .cH,some .bR,none,some .bn,none,none,none,some .int,none] [0]):=xD Tryz.underlying44 asz rfl gq
def ays:List (Nat×TK):=(44, .st [.int .i64 0, .slice none 0 0, .slice none 0 0, .int .i64 0, .slice none 0 0, .int .i64 0, .int .i64 0, .int .i64 0, .slice none 0 0, .int .i64 0] [none,some .cH,some .bR,none,some .bn,none,none,none,some .int,none] [0])::asy
def Γ4(t:Nat):TK:=match look ays t with|some k=>k|none=> .other
theorem ayt: ∀e,e∈ays→gO aP e.1 e.2:=by
 intro e he;rcases bh.1 he with rfl|he
 ·exact alW
 ·exact alV e he
theorem aDm: ∀e,e∈ays→(∀z tg fo,e.2≠ .st z tg fo)→(aP.info? e.1).map (·.size)=some 1:=by
 intro e he h;rcases bh.1 he with rfl|he
 ·exact absurd rfl (h _ _ _)
 ·exact avz e he h
theorem X4:Ctx aP ty Γ4 where
 kind:=fun t=>by
  unfold Γ4;split
  ·rename_i k hk;exact ayt (t,k) (jx hk)
  ·trivial
 one:=fun t h1 h2=>by
  unfold Γ4 at h1 h2;split at h1
  ·rename_i k hk;exact aDm (t,k) (jx hk) h1
  ·rename_i hk;rw[hk]at h2;exact absurd rfl h2
@[reducible] def hW (x:dF):Hp:= [(1000, .box [.lit (.int .i64 x.rows), .own 261, .own 262, .lit (.int .i64 x.aH.rows), .own 264, .lit (.int .i64 x.bW), .lit (.int .i64 x.seed), .lit (.int .i64 x.round), .own 268, .lit (.int .i64 x.cancelled)]),(261, .arr .cH x.aC),(262, .arr .bR x.ah),(264, .arr .bn x.aH.rounds),(268, .arr .int x.replaced)]
abbrev bS{zb:fG}{Q:Post}{st:St}:=ar8 (zb:=zb) (Q:=Q) (st:=st) X4
abbrev eL{zb:fG}{Q:Post}{st:St}:=mU (zb:=zb) (Q:=Q) (st:=st) X4
abbrev gE{zb:fG}{Q:Post}{st:St}:=aem (zb:=zb) (Q:=Q) (st:=st) X4
abbrev eR{zb:fG}{Q:Post}{st:St}:=Dj (zb:=zb) (Q:=Q) (st:=st) X4
section
variable{α:Type}{P:Program}
theorem MO:aP.follows .mixedOrders=true:=by kernel_rfl
theorem nb:(∀(p:Prop) [Decidable p],(decide p=true)=p)∧(∀(p:Prop) [Decidable p],(decide p=false)= ¬p)∧(∀b:Bool,((!b)=true)=(b=false))∧(∀b:Bool,((!b)=false)=(b=true))∧
  (∀(α:Type) [BEq α] [LawfulBEq α] (a b:α),((a==b)=true)=(a=b))∧(∀(α:Type) [BEq α] [LawfulBEq α] (a b:α),((a !=b)=true)=(¬a=b))∧(∀(α:Type) [BEq α] [LawfulBEq α] (a b:α),((a==b)=false)=(¬a=b))∧(∀(α:Type) [BEq α] [LawfulBEq α] (a b:α),((a !=b)=false)=(a=b))∧
  (∀(α:Type) (a b:α),(a≠b)= ¬a=b)∧(∀a b:Int,(a>b)=(b<a))∧(∀a b:Int,(a≥b)=(b≤a))∧(∀a b:Nat,(a>b)=(b<a))∧(∀a b:Nat,(a≥b)=(b≤a))∧(∀a b:Int,(¬a<b)=(b≤a))∧(∀a b:Int,(¬a≤b)=(b<a))∧
  (∀(p:Prop) [Decidable p],(¬ ¬p)=p)∧(∀n:Nat,(n:Int).toNat=n)∧(∀m n:Nat,((m:Int)<n)=(m<n))∧(∀m n:Nat,((m:Int)≤n)=(m≤n))∧(∀a b:Nat,(¬a<b)=(b≤a))∧(∀a b:Nat,(¬a≤b)=(b<a))∧
  (∀(p:Prop) [Decidable p] (b:Bool),(if p then b else false)=(decide p&&b))∧(∀(p:Prop) [Decidable p] (b:Bool),(if p then true else b)=(decide p||b))∧(∀(p:Prop) [Decidable p] (b:Bool),(if p then false else b)=(!decide p&&b))∧(∀(p:Prop) [Decidable p] (b:Bool),(if p then b else true)=(!decide p||b))∧
  (∀a b:Bool,((a&&b)=true)=(a=true∧b=true))∧(∀a b:Bool,((a||b)=true)=(a=true∨b=true))∧(∀a b:Bool,((a&&b)=false)=(a=false∨b=false))∧(∀a b:Bool,((a||b)=false)=(a=false∧b=false))∧(∀(b:Bool),decide (b=true)=b):=by
 refine⟨by simp,by simp,by simp,by simp,fun _ _ _ a b=>propext beq_iff_eq,fun _ _ _ a b=>propext bne_iff_ne,fun _ _ _ a b=>propext beq_eq_false_iff_ne,fun _ _ _ a b=>propext bne_eq_false_iff_eq,by simp,by simp,by simp,by simp,by simp,by simp,by simp,by simp,by simp,by simp,by simp,by simp,by simp,by simp,by simp,by simp,by simp,by simp,by simp,by simp,by simp,by simp⟩
theorem lens:(∀n:Nat,(n:Int).toNat=n)∧(∀(α:Type) (a b:List α),(a++b).length=a.length+b.length)∧(∀(α:Type) (a:α),[a].length=1)∧(∀(α:Type) (a:α) (l:List α),(a::l).length=l.length+1)∧(∀(α:Type),([]:List α).length=0)∧(∀(α:Type) (n:Nat) (a:α),(ew n a).length=n)∧
  (∀(α:Type) (l:List α) (n:Nat) (a:α),(l.set n a).length=l.length)∧(∀(α β:Type) (f:α→β) (l:List α),(l.map f).length=l.length)∧(∀(α:Type) (l:List α) (n:Nat),(l.take n).length=min n l.length)∧(∀(α:Type) (l:List α) (n:Nat),(l.drop n).length=l.length-n)∧(∀n:Nat,(bK n).length=n):=by
 refine⟨by simp,by simp,by simp,by simp,by simp,by simp,by simp,by simp,by simp,by simp,by simp⟩
theorem dP{p:Prop}{l:List Prop}(h:p)(k:tH l):tH (p::l):=⟨h,k⟩
theorem c8:tH []:=True.intro
theorem cD(l:List α)(k:Nat)(d:α)(h:k<l.length):l.take (k+1)=l.take k++ [l.getD k d]:=by
 rw[List.take_add_one,aq,az h];rfl
theorem gT(a:Int)(n:Nat)(h:a=n)(h2:n<9223372036854775807):af.wrap (a+1)=((n+1:Nat):Int):=by
 subst h;rw[IntWalk.i64_in _ aJ];omega
theorem PF{ty:Tag→Nat}{f:FuncId}{xs:List S1}{v:Value}(h:Sound ty P f xs [.a (.lit v)]){w:World}{us:List Value}(ha:dG (R1 w) xs us)(hA:Nc w:=by first|assumption|exact trivial):Calls P f us.toArray w (ad0 w v):=by
 refine(h.2 w us hA ha).mono ?_;rintro e w' ⟨u,fp,rfl,hb,_,f1,f2,⟨rfl,_⟩,_⟩;exact⟨rfl,hb⟩
theorem N1{w:World}{v:Value}(h:v.oneCell'=true):R1 w (.a (.lit v)) v:=⟨[],rfl,h,rfl⟩
theorem fC{ty:Tag→Nat}{w0:fG}{c:Code}{Q:Post}{st:St}(d:Nat){t:Tag}{l:List (T t)}(h:look st.sl d=some (.one (.a (.sl t l))))(k:l.length≤9223372036854775807→W P ty w0 c Q st):W P ty w0 c Q st:=by
 intro a w iv;obtain⟨env,g⟩:=iv.good;obtain⟨fp,⟨oa,cap,_,h1,h2,_⟩,_⟩:=g.slot d _ h;have e:maxLen=9223372036854775807:=by decide
 exact k aJ a w iv
theorem cj{ty:Tag→Nat}{w0:fG}{c:Code}{Q:Post}{st:St}(d i:Nat){cs:List V}{t:Tag}{l:List (T t)}(h:look st.sl d=some (.one (.agg cs)))(hc:cs[i]? =some (.sl t l))(k:l.length≤9223372036854775807→W P ty w0 c Q st):W P ty w0 c Q st:=by
 intro a w iv;obtain⟨env,g⟩:=iv.good;obtain⟨us,_,hr⟩:=g.slot d _ h;obtain⟨u,_,fp,⟨oa,cap,_,h1,h2,_⟩,_⟩:=hr.at hc;have e:maxLen=9223372036854775807:=by decide
 exact k aJ a w iv
theorem Bc [DecidableEq α](a b:List α)(d:α)(k:Nat)(ha:k<a.length)(hb:k<b.length)(h:a.take k=b.take k)(he:a.getD k d=b.getD k d):a.take (k+1)=b.take (k+1):=by
 rw[cD a k d ha,cD b k d hb,h,he]
theorem GQ [BEq α] [LawfulBEq α](a b:List α)(d:α)(k:Nat)(he:a.getD k d≠b.getD k d):(a==b)=false:=by
 rw[beq_eq_false_iff_ne];rintro rfl;exact he rfl
theorem GR [BEq α] [LawfulBEq α](a b:List α)(k:Nat)(hk:k=a.length)(hl:a.length=b.length)(h:a.take k=b.take k):(a==b)=true:=by
 rw[aD aJ,aD aJ]at h;rw[h];simp
theorem KT [BEq α] [LawfulBEq α](a b:List α)(hl:(a.length:Int)≠b.length):(a==b)=false:=by
 rw[beq_eq_false_iff_ne];rintro rfl;exact hl rfl
theorem alX{x y:UInt8}(h:(x.toNat:Int)=y.toNat):x=y:=by
 have:x.toNat=y.toNat:=by omega
 exact UInt8.toNat_inj.1 this
theorem jf(a b:List UInt8):bG a++bG b=bG (a++b):=by
 apply ByteArray.ext;simp[bG]
theorem KU(a:List UInt8):(bG a).data.toList=a:=rfl
theorem cZ(a:List UInt8):(bG a).size=a.length:=rfl
theorem Yz(l:List (List UInt8)):l.map ((fun x:ByteArray=>x.data.toList)∘bG)=l:=List.map_id l
theorem BR:af.max=9223372036854775807:=by decide
end
section
theorem alY{α:Type}(f:α→Nat)(l:List α)(d:α)(k:Nat)(h:k<l.length):((l.take (k+1)).map f).sum=((l.take k).map f).sum+f (l.getD k d):=
 XN l f k _ (by rw[aq,az h];rfl)
theorem asA(x:UInt8):cN (cX ((x.toNat:Nat):Int))=x:=by simp
theorem Uw(n:Int):0≤cJ.wrap n∧cJ.wrap n<256:=by
 unfold YA;simp only[R6,YB];simp;omega
theorem u8n(x:UInt8):0≤((x.toNat:Nat):Int)∧((x.toNat:Nat):Int)<256:=by
 have:=x.toNat_lt;omega
theorem aDn(n:Int):(((cN (cJ.wrap n).toNat).toNat:Nat):Int)=cJ.wrap n:=by
 have h:=Uw n;generalize cJ.wrap n=m at h;simp;omega
section
variable{α:Type}{mk:Int→α→α}{mn:α→Nat}
end
end
section
variable{a x b h:Int}(n s:Int)(l:List UInt8){α β:Type}
theorem cY(h: -9223372036854775808≤a∧a≤9223372036854775807):af.wrap a=a:=IntWalk.i64_in _ aJ
theorem KW:cJ.wrap n=n % 256:=by
 unfold YA;simp only[R6,YB];simp
def b8:UInt8:=cN (cJ.wrap n).toNat
theorem vg:((b8 n).toNat:Int)=n % 256:=by unfold b8;rw[aDn,KW]
theorem Vr{x y:UInt8}(h:(x.toNat:Int)=y.toNat):x=y:=alX h
theorem ofNat_toNat(h0:0≤n)(h1:n<256):((cN n.toNat).toNat:Int)=n:=by
 simp;omega
theorem ofNat_eq{n:Int}{x:UInt8}(h0:0≤n)(h1:n<256)(h:n=x.toNat):cN n.toNat=x:=by
 apply Vr;rw[ofNat_toNat n h0 h1,h]
theorem Dp(h:a % 256=b % 256):b8 a=b8 b:=by
 apply Vr;rw[vg,vg,h]
theorem asB(x:UInt8):b8 x.toNat=x:=by
 apply Vr;rw[vg];have:=x.toNat_lt;omega
theorem jy(h:0≤a):a.tmod b=a % b:=Int.tmod_eq_emod_of_nonneg h
theorem vh(h:0≤a):a.tdiv b=a/b:=Int.tdiv_eq_ediv_of_nonneg h
theorem md_eq(p q:Int)(h1:1≤q)(h2:q≤1000000000000):(af.wrap (p.tmod q+q)).tmod q=p % q:=by
 have hb: -q<p.tmod q∧p.tmod q<q:=⟨Int.lt_tmod_of_pos p aJ,Int.tmod_lt_of_pos p aJ⟩;rw[cY aJ,jy aJ,Int.add_emod_right];rcases Int.le_total 0 p with h|h
 ·rw[jy h,Int.emod_emod_of_dvd _ (Int.dvd_refl q)]
 ·have e:p.tmod q=p-q*p.tdiv q:=by have:=Int.tmod_add_mul_tdiv p q;omega
  rw[e,Int.sub_mul_emod_self_left]
def hs1(h v:Int):Int:=(h*1000003+v % 2147483647+13)% 2147483647
def hsh(l:List Int):Int:=l.foldl hs1 11
def kh(k:Int)(l:List Int):Int:=hsh (k::(l++ [k]))
theorem ah1(h v:Int):0≤hs1 h v∧hs1 h v<2147483647:=⟨lH _ cO,kH _ cO⟩
theorem xE(f:β→α→β)(b:β)(l:List α)(k:Nat)(d:α)(h:k<l.length):(l.take (k+1)).foldl f b=f ((l.take k).foldl f b) (l.getD k d):=by
 rw[cD l k d h,fQ];rfl
theorem KX: ∀l:List Int,0≤hsh l∧hsh l<2147483647:=by
 have g: ∀(l:List Int) (a:Int),(0≤a∧a<2147483647)→0≤l.foldl hs1 a∧l.foldl hs1 a<2147483647:=by
  intro l;induction l with
  |nil=>intro a h;exact h
  |cons x r ih=>intro a _;exact ih _ (ah1 a x)
 exact fun l=>g l 11 cO
theorem iQ(k:Int)(l:List Int):0≤kh k l∧kh k l<2147483647:=KX _
theorem ayu{v:Int}(h0:0≤h)(h1:h<2147483647):(af.wrap (af.wrap (af.wrap (h*1000003)+v % 2147483647)+13)).tmod 2147483647=hs1 h v:=by
 have hv:0≤v % 2147483647∧v % 2147483647<2147483647:=⟨lH _ cO,kH _ cO⟩;rw[cY (a:=h*1000003) aJ,cY (a:=h*1000003+v % 2147483647) aJ,cY aJ,jy aJ];rfl
def GS:Int:=if n=0 then 1 else n
theorem N2{n:Int}(h:0≤n):(if n>1 then n else 1)=GS n:=by
 unfold GS;split<;>split<;>omega
theorem zR{n:Int}(h:0≤n∧n<2147483647):1≤GS n∧GS n<2147483647:=by unfold GS;split<;>omega
theorem aDo(h0:0≤h)(h1:h<2147483647):0≤h*h∧h*h≤4611686009837453316:=by
 have:=Int.mul_le_mul (show h≤2147483646 by omega) (show h≤2147483646 by omega) h0 cO;exact⟨Int.mul_nonneg h0 h0,aJ⟩
def cs(s k:Int):Int:=(kh s [47,k]*kh s [47,k]+5)% 2147483647
theorem Dq(s k:Int):0≤cs s k∧cs s k<2147483647:=⟨lH _ cO,kH _ cO⟩
theorem cs_eq(h0:0≤h)(h1:h<2147483647):(af.wrap (af.wrap (h*h)+5)).tmod 2147483647=(h*h+5)% 2147483647:=by
 have:=aDo h0 h1;rw[cY (a:=h*h) aJ,cY aJ,jy aJ]
theorem aGA(h:0≤x):af.wrap (aF af.bits x&&&aF af.bits 1).toNat=x % 2:=by
 obtain⟨n,rfl⟩:=sL h;have e:(aF af.bits (n:Int)&&&aF af.bits 1).toNat=n % 2:=by
  rw[Np];have h1:(aF af.bits 1).toNat=1:=by decide
  have h2:(aF af.bits (n:Int)).toNat=n % 2^64:=by
   rw[kQ,mm];rfl
  rw[h1,h2,Nat.and_one_is_mod];omega
 rw[e,cY aJ];omega
def rsb(h:Int):Int:=h*h % 2147483647/512 % 2
theorem ayv(h0:0≤h)(h1:h<2147483647):af.wrap (aF af.bits (((af.wrap (h*h)).tmod 2147483647).fdiv (2^(min (cX 9) af.bits)))&&&aF af.bits 1).toNat=rsb h:=by
 have:=aDo h0 h1;have e:(2:Int)^(min (cX 9) af.bits)=512:=by decide
 rw[cY (a:=h*h) aJ,jy aJ,e,lY _ cO];have hm:0≤h*h % 2147483647:=lH _ cO;rw[aGA aJ];rfl
theorem ah2(h:Int):rsb h=0∨rsb h=1:=by unfold rsb;omega
def iA:List UInt8→List UInt8→List UInt8
 | [],b=>b
 |a,[]=>a
 |x::a,y::b=>(x^^^y)::iA a b
theorem oS(a:List UInt8):iA a []=a:=by cases a<;>rfl
theorem uK(a:List UInt8):iA [] a=a:=by cases a<;>rfl
theorem jg: ∀a b:List UInt8,(iA a b).length=max a.length b.length
 | [],b=>by simp[iA]
 |x::a,[]=>by simp[iA]
 |x::a,y::b=>by simp[iA,jg a b]
theorem Ts: ∀a b:List UInt8,iA a b=iA b a
 | [],b=>by rw[uK,oS]
 |x::a,[]=>by rw[uK,oS]
 |x::a,y::b=>by rw[iA,iA,Ts a b,zv]
theorem alZ(x y:UInt8):cN (cJ.wrap ((aF cJ.bits (x.toNat:Int)^^^aF cJ.bits (y.toNat:Int)).toNat:Int)).toNat=x^^^y:=by
 have h:(aF cJ.bits (x.toNat:Int)^^^aF cJ.bits (y.toNat:Int)).toNat=(x^^^y).toNat:=by
  rw[kQ,kQ,Nq,mm,mm,PG];have hx:=x.toNat_lt;have hy:=y.toNat_lt;show x.toNat % 2^8^^^y.toNat % 2^8=_
  rw[gK aJ,gK aJ]
 rw[h,KW];apply ofNat_eq<;>have:=(x^^^y).toNat_lt<;>omega
def AH(i:Nat):UInt8:=l.getD i 0
theorem zS: ∀(a b:List UInt8) (k:Nat),k<max a.length b.length→(iA a b).take (k+1)=(iA a b).take k++ [AH a k^^^AH b k]
 | [],b,k,h=>by
   rw[uK,cD b k 0 Fy];simp[AH]
 |x::a,[],k,h=>by
  rw[oS,cD (x::a) k 0 Fy];simp[AH]
 |x::a,y::b,0,h=>by simp[iA,AH]
 |x::a,y::b,k+1,h=>by
  rw[iA,jd,jd,zS a b k (by simp at h;omega)];simp[AH]
theorem getD_drop(l:List α)(k:Nat)(d:α)(h:k<l.length):l.drop k=l.getD k d::l.drop (k+1):=by
 rw[gP h,aq,az h];rfl
theorem Dr(f l:List α)(k:Nat)(d y:α)(h:k<l.length)(hf:k<f.length)(hy:f.getD k d=y):(f.take k++l.drop k).set k y=f.take (k+1)++l.drop (k+1):=by
 have hk:(f.take k).length=k:=by rw[ct];omega
 rw[Ds _ _ aJ,hk,vi,getD_drop l k d h,List.set_cons_zero,cD f k d hf,bU,hy];rfl
theorem sM(f l:List α)(k:Nat)(d:α)(hf:k≤f.length):(f.take k++l.drop k).getD k d=l.getD k d:=by
 have hk:(f.take k).length=k:=by rw[ct];omega
 rw[aq,dm aJ,hk,vi,dc,aq,ia]
theorem sO(f l:List α)(k:Nat)(hf:f.length=l.length)(h:k≤l.length):(f.take k++l.drop k).length=l.length:=by
 rw[aQ,ct,cV];omega
theorem vk(f:α→β)(l:List α)(k:Nat)(d:α)(h:k<l.length):(l.take (k+1)).map f=(l.take k).map f++ [f (l.getD k d)]:=by
 rw[cD l k d h,gj];rfl
theorem GU(f:Nat→β)(k:Nat):(bK (k+1)).map f=(bK k).map f++ [f k]:=by
 rw[gl,gj];rfl
theorem Dt(p:α→Bool)(l:List α)(k:Nat)(d:α)(h:k<l.length):(l.take (k+1)).all p=((l.take k).all p&&p (l.getD k d)):=by
 rw[cD l k d h,lI];simp
theorem al0(p:α→Bool)(l:List α)(k:Nat)(d:α)(h:k<l.length):(l.take (k+1)).any p=((l.take k).any p||p (l.getD k d)):=by
 rw[cD l k d h,List.any_append];simp
theorem IC(l:List α)(p:α→Bool)(d:α)(k:Nat)(h:k<l.length)(h2:p (l.getD k d)=true):l.any p=true:=by
 rw[fF];refine⟨l.getD k d,?_,h2⟩;rw[aq,az h];simp
theorem PI(l:List α)(p:α→Bool)(d:α)(k:Nat)(h:k<l.length)(h2:p (l.getD k d)=false):l.all p=false:=by
 rw[uf];refine⟨l.getD k d,?_,by rw[h2];decide⟩;rw[aq,az h];simp
theorem GV(l:List α)(k:Nat)(d:α)(h:k<l.length):l[k]? =some (l.getD k d):=by
 rw[aq,az h];rfl
theorem cU(l:List α)(k:Nat):(l.take k).length≤k:=by rw[ct];omega
def inr(x lo hi:Int):Bool:=if decide (x≥lo)then decide (x≤hi)else false
theorem dK{lo hi:Int}:(inr x lo hi=true)=(lo≤x∧x≤hi):=by simp[inr]
theorem avC{lo hi:Int}:(inr x lo hi=false)= ¬(lo≤x∧x≤hi):=by rw[←dK];simp
theorem ah3{l:List α}:(l.isEmpty=true)=(l= []):=by simp
theorem SQ:((∀(p:Prop) [Decidable p],(decide p=true)=p)∧(∀(p:Prop) [Decidable p],(decide p=false)= ¬p)∧(∀b:Bool,((!b)=true)=(b=false))∧(∀b:Bool,((!b)=false)=(b=true))∧(∀(α:Type) [BEq α] [LawfulBEq α] (a b:α),((a==b)=true)=(a=b))∧(∀(α:Type) [BEq α] [LawfulBEq α] (a b:α),((a !=b)=true)=(¬a=b))∧(∀(α:Type) [BEq α] [LawfulBEq α] (a b:α),((a==b)=false)=(¬a=b))∧(∀(α:Type) [BEq α] [LawfulBEq α] (a b:α),((a !=b)=false)=(a=b))∧(∀(α:Type) (a b:α),(a≠b)= ¬a=b)∧(∀a b:Int,(a>b)=(b<a))∧(∀a b:Int,(a≥b)=(b≤a))∧(∀a b:Nat,(a>b)=(b<a))∧(∀a b:Nat,(a≥b)=(b≤a))∧(∀a b:Int,(¬a<b)=(b≤a))∧(∀a b:Int,(¬a≤b)=(b<a))∧(∀(p:Prop) [Decidable p],(¬ ¬p)=p)∧(∀n:Nat,(n:Int).toNat=n)∧(∀m n:Nat,((m:Int)<n)=(m<n))∧(∀m n:Nat,((m:Int)≤n)=(m≤n))∧(∀a b:Nat,(¬a<b)=(b≤a))∧(∀a b:Nat,(¬a≤b)=(b<a))∧(∀(p:Prop) [Decidable p] (b:Bool),(if p then b else false)=(decide p&&b))∧(∀(p:Prop) [Decidable p] (b:Bool),(if p then true else b)=(decide p||b))∧(∀(p:Prop) [Decidable p] (b:Bool),(if p then false else b)=(!decide p&&b))∧(∀(p:Prop) [Decidable p] (b:Bool),(if p then b else true)=(!decide p||b))∧(∀a b:Bool,((a&&b)=true)=(a=true∧b=true))∧(∀a b:Bool,((a||b)=true)=(a=true∨b=true))∧(∀a b:Bool,((a&&b)=false)=(a=false∨b=false))∧(∀a b:Bool,((a||b)=false)=(a=false∧b=false))∧(∀(b:Bool),decide (b=true)=b))∧(∀x lo hi:Int,(inr x lo hi=true)=(lo≤x∧x≤hi))∧(∀x lo hi:Int,(inr x lo hi=false)= ¬(lo≤x∧x≤hi))∧(∀(α:Type) (l:List α),(l.isEmpty=true)=(l= [])):=⟨nb,fun _ _ _=>dK,fun _ _ _=>avC,fun _ _=>ah3⟩
theorem YD(l:List Int)(k:Nat)(h:k<l.length):hsh (l.take (k+1))=(af.wrap (af.wrap (af.wrap (hsh (l.take k)*1000003)+(l.getD k (aO .int))% 2147483647)+13)).tmod 2147483647:=by
 rw[ayu (KX _).1 (KX _).2];exact xE hs1 11 l k _ h
def RM:List Int:=(l.length:Int)::l.map fun c=>(c.toNat:Int)
theorem YE(k:Nat)(h:k<l.length):(l.length:Int)::(l.take (k+1)).map (fun c=>(c.toNat:Int))=((l.length:Int)::(l.take k).map (fun c=>(c.toNat:Int)))++ [af.wrap ((l.getD k (aO .u8)).toNat:Int)]:=by
 have:=(l.getD k (aO .u8)).toNat_lt;rw[cY aJ,vk (fun c:UInt8=>(c.toNat:Int)) l k (aO .u8) h];rfl
def stream(n:Nat):List UInt8:=(bK n).map fun i:Nat=>b8 (cs s (100+(i:Int))/256)
theorem jV(n:Nat):(stream s n).length=n:=by simp[stream]
theorem Mz(k:Nat)(h:k≤1000):stream s (k+1)=stream s k++ [cN (cJ.wrap (af.wrap ((cs s (af.wrap (100+(k:Int)))).tdiv 256))).toNat]:=by
 have h1:=Dq s (100+(k:Int));rw[cY (a:=100+(k:Int)) aJ,vh h1.1,cY aJ];exact GU (fun i:Nat=>b8 (cs s (100+(i:Int))/256)) k
theorem MA(l:List (List α))(d:List α)(k:Nat)(h:k<l.length):((l.take (k+1)).map aN).sum=((l.take k).map aN).sum+(l.getD k d).length:=alY aN l d k h
theorem ID(l:List (List α))(d:List α)(k:Nat)(h:k<l.length):(l.take (k+1)).flatten=(l.take k).flatten++l.getD k d:=by
 rw[cD l k d h,List.flatten_append];simp
theorem yJ(l:List (List α))(k:Nat):(l.take k).flatten.length≤(l.map aN).sum:=by
 rw[List.length_flatten];exact nj l aN k
end
section
variable{α:Type}(s:Int)
theorem Bd(f l:List α)(k:Nat)(d y:α)(h:k<l.length)(hf:f.length=l.length)(hy:f.getD k d=y):f.take (k+1)++l.drop (k+1)=(f.take k++l.drop k).set k y:=(Dr f l k d y h aJ hy).symm
theorem MB(f:List α)(k:Nat)(d y:α)(h:k<f.length)(hy:f.getD k d=y):f.take (k+1)=f.take k++ [y]:=by rw[cD f k d h,hy]
theorem wP(f l:List α)(k:Nat)(hf:f.length=l.length)(h:l.length≤k):f.take k++l.drop k=f:=by
 rw[aD aJ,List.drop_eq_nil_of_le h,cW]
theorem jz{β:Type}(n:Nat)(g:Nat→β)(k:Nat)(d:β)(h:k<n):((bK n).map g).getD k d=g k:=by
 rw[aq,ec,List.getElem?_range h];rfl
def oT(l:List UInt8):List UInt8:=(bK l.length).map fun i:Nat=>b8 ((l.getD i (aO .u8)).toNat+kh s [(i:Int)]% 256)
theorem jS(l:List UInt8):(oT s l).length=l.length:=by simp[oT]
theorem IE(l:List UInt8)(k:Nat)(h:k<l.length):(oT s l).getD k (aO .u8)=b8 ((l.getD k (aO .u8)).toNat+kh s [(k:Int)]% 256):=jz _ _ k _ h
theorem ah4(l:List UInt8)(k:Nat)(h:k<l.length):(oT s l).take (k+1)++l.drop (k+1)=((oT s l).take k++l.drop k).set k (cN (cJ.wrap ((((oT s l).take k++l.drop k).getD k (aO .u8)).toNat+cJ.wrap ((kh s [(k:Int)]).tmod 256))).toNat):=by
 refine Bd _ _ k (aO .u8) _ h (jS s l) ?_;rw[IE s l k h,sM _ _ _ _ (by rw[jS];omega)];refine Dp ?_;have:=iQ s [(k:Int)];rw[KW ((kh s [(k:Int)]).tmod 256),jy this.1];omega
theorem ah5(l:List UInt8)(k:Nat)(h:k<l.length):(oT s l).take (k+1)=(oT s l).take k++ [cN (cJ.wrap ((af.wrap (af.wrap ((l.getD k (aO .u8)).toNat:Int)+(kh s [(k:Int)]).tmod 256)).tmod 256)).toNat]:=by
 refine MB _ k (aO .u8) _ (by rw[jS];exact h) ?_;rw[IE s l k h];refine Dp ?_;have:=iQ s [(k:Int)];have hx:=(l.getD k (aO .u8)).toNat_lt;rw[jy this.1,cY (a:=((l.getD k (aO .u8)).toNat:Int)) aJ,cY aJ,jy aJ];omega
def decr(l:List UInt8):List UInt8:=(bK l.length).map fun i:Nat=>b8 ((l.getD i (aO .u8)).toNat-kh s [(i:Int)]% 256)
theorem vl(l:List UInt8):(decr s l).length=l.length:=by simp[decr]
theorem PK(l:List UInt8)(k:Nat)(h:k<l.length):(decr s l).getD k (aO .u8)=b8 ((l.getD k (aO .u8)).toNat-kh s [(k:Int)]% 256):=jz _ _ k _ h
theorem ah6(l:List UInt8)(k:Nat)(h:k<l.length):(decr s l).take (k+1)++l.drop (k+1)=((decr s l).take k++l.drop k).set k (cN (cJ.wrap ((((decr s l).take k++l.drop k).getD k (aO .u8)).toNat-cJ.wrap ((kh s [(k:Int)]).tmod 256))).toNat):=by
 refine Bd _ _ k (aO .u8) _ h (vl s l) ?_;rw[PK s l k h,sM _ _ _ _ (by rw[vl];omega)];refine Dp ?_;have:=iQ s [(k:Int)];rw[KW ((kh s [(k:Int)]).tmod 256),jy this.1];omega
theorem ah7(l:List UInt8)(k:Nat)(h:k<l.length):(decr s l).take (k+1)=(decr s l).take k++ [cN (cJ.wrap ((af.wrap (af.wrap ((l.getD k (aO .u8)).toNat:Int)-(kh s [(k:Int)]).tmod 256))% 256)).toNat]:=by
 refine MB _ k (aO .u8) _ (by rw[vl];exact h) ?_;rw[PK s l k h];refine Dp ?_;have:=iQ s [(k:Int)];have hx:=(l.getD k (aO .u8)).toNat_lt;rw[jy this.1,cY (a:=((l.getD k (aO .u8)).toNat:Int)) aJ,cY aJ];omega
theorem al3(a b:List UInt8)(k:Nat)(h:k<max a.length b.length):(iA a b).getD k (aO .u8)=a.getD k 0^^^b.getD k 0:=by
 have h1:=zS a b k h;have h2:=cD (iA a b) k (aO .u8) (by rw[jg];exact h);rw[h1]at h2;have:=List.append_inj_right h2 rfl;simp only[List.cons.injEq,and_true]at this;rw[←this];rfl
theorem YK(p q:List UInt8)(k:Nat)(h:k<q.length)(hl:q.length≤p.length):(iA p q).take (k+1)++p.drop (k+1)=((iA p q).take k++p.drop k).set k (cN (cJ.wrap ((aF cJ.bits ((((iA p q).take k++p.drop k).getD k (aO .u8)).toNat:Int)^^^aF cJ.bits ((q.getD k (aO .u8)).toNat:Int)).toNat:Int)).toNat):=by
 refine Bd _ _ k (aO .u8) _ aJ ag5 ?_;rw[al3 p q k aJ,sM _ _ _ _ ag5,alZ];rfl
theorem YL(p q:List UInt8)(k:Nat)(h:q.length≤k)(hl:q.length≤p.length)(hk:k≤q.length):(iA p q).take k++p.drop k=iA p q:=by
 have hk:k=q.length:=by omega
 subst hk;have key: ∀p q:List UInt8,q.length≤p.length→(iA p q).take q.length++p.drop q.length=iA p q:=by
  intro p;induction p with
  |nil=>intro q h;cases q with|nil=>rfl|cons _ _=>simp at h
  |cons x p ih=>intro q h;cases q with
   |nil=>rw[oS];rfl
   |cons y q=>simp only[iA,bp,jd,lE,fE];rw[ih q Fy]
 exact key p q hl
theorem ayx(a b:List UInt8)(k:Nat)(ha:k<a.length)(hb:k<b.length):(iA a b).take (k+1)=(iA a b).take k++ [cN (cJ.wrap ((aF cJ.bits ((a.getD k (aO .u8)).toNat:Int)^^^aF cJ.bits ((b.getD k (aO .u8)).toNat:Int)).toNat:Int)).toNat]:=by
 rw[zS a b k aJ,alZ];rfl
theorem PL(l:List α)(k:Nat)(d:α)(h:l.length≤k):l.getD k d=d:=by
 rw[aq,List.getElem?_eq_none h];rfl
theorem aDq(a b:List UInt8)(k:Nat)(ha:k<a.length)(hb:b.length≤k):(iA a b).take (k+1)=(iA a b).take k++ [cN (((a.getD k (aO .u8)).toNat:Int)).toNat]:=by
 rw[zS a b k aJ,asA];have:AH b k=0:=PL b k 0 hb;rw[this];simp;rfl
theorem aDr(a b:List UInt8)(k:Nat)(ha:a.length≤k)(hb:k<b.length):(iA a b).take (k+1)=(iA a b).take k++ [cN (cJ.wrap ((aF cJ.bits (0:Int)^^^aF cJ.bits ((b.getD k (aO .u8)).toNat:Int)).toNat:Int)).toNat]:=by
 rw[zS a b k aJ];have:AH a k=0:=PL a k 0 ha;rw[this];have:=alZ 0 (b.getD k (aO .u8));rw[show((0:UInt8).toNat:Int)=0 from rfl]at this;rw[this];rfl
theorem Vv{l:List (List UInt8)}(h:gb aN l≤1048576)(k:Nat)(hk:k<l.length):(l.getD k (aO (.sl .u8))).length≤1048576:=pO h (GV l k _ hk)
def jK(key round dir rows:Int):Int:=if(1≤rows∧rows≤64)∧0≤round∧round≤1000000000000 then cs (kh key [79,round,dir]) 0 % rows else-1
def Co(seed round rows:Int):Int:=if 1≤rows∧rows≤64 then cs (kh seed [157,round]) 0 % rows else-1
def ql(key counter:Int)(data:List UInt8):Int:=kh key ([71,counter]++data.map fun c=>(c.toNat:Int))
theorem aeO(l:List UInt8)(counter:Int)(k:Nat)(h:k<l.length): [71,counter]++(l.take (k+1)).map (fun c=>(c.toNat:Int))=([71,counter]++(l.take k).map (fun c=>(c.toNat:Int)))++ [af.wrap ((l.getD k (aO .u8)).toNat:Int)]:=by
 have:=(l.getD k (aO .u8)).toNat_lt;rw[cY aJ,vk (fun c:UInt8=>(c.toNat:Int)) l k (aO .u8) h,bU]
def four(n:Int):List UInt8:= [b8 n,b8 (n/256),b8 (n/65536),b8 (n/16777216)]
theorem aeP(n:Int): [cN (cJ.wrap n).toNat,cN (cJ.wrap (n.fdiv (2^(min (cX 8) af.bits)))).toNat,cN (cJ.wrap (n.fdiv (2^(min (cX 16) af.bits)))).toNat,cN (cJ.wrap (n.fdiv (2^(min (cX 24) af.bits)))).toNat]=four n:=by
 have e1:(2:Int)^(min (cX 8) af.bits)=256:=by decide
 have e2:(2:Int)^(min (cX 16) af.bits)=65536:=by decide
 have e3:(2:Int)^(min (cX 24) af.bits)=16777216:=by decide
 rw[e1,e2,e3,lY _ cO,lY _ cO,lY _ cO];rfl
def pV(p:Plain):Bool:=(inr p.kind 0 3)&&decide ((p.body.length:Int)≤14)
def jZ(k:Int):Bool:=inr k 1 2147483646
def qX(key counter:Int)(p:Plain):Bool:=jZ key&&(inr counter 0 1000000000000)&&pV p
def iR(key counter:Int)(p:Plain):List UInt8:= [b8 p.kind,b8 p.body.length]++p.body++(stream (kh key [61,counter]) 18).drop p.body.length
def sr(key counter:Int):Int:=GS (kh key [67,counter])
def lJ(key counter:Int)(p:Plain):List UInt8:=if qX key counter p then oT (sr key counter) (iR key counter p)++four (ql key counter (oT (sr key counter) (iR key counter p)))else []
def rB(key dir:Int):Int:=GS (kh key [83,dir])
def cover(seed:Int):List UInt8:=stream (kh seed [73]) 24
end
section
variable{E R:Bool}(a:tE)(x:dF){k:Nat}{α:Type}
theorem ayy(b c:Bool):(if b=true then true else c)=(b||c):=by cases b<;>rfl
theorem Dy(b c:Bool):(if b=true then c else false)=(b&&c):=by cases b<;>rfl
theorem asD(a b:Int):(!decide (a<b))=decide (b≤a):=by rw[←decide_not];congr 1;exact propext Int.not_lt
theorem asE(a b:Int):(!decide (a≤b))=decide (b<a):=by rw[←decide_not];congr 1;exact propext Int.not_le
theorem bne_not(a b:Int):(a !=b)= !(a==b):=rfl
theorem deq(a b:Int):decide (a=b)=(a==b):=rfl
theorem gI:(∀b c:Bool,(if b=true then true else c)=(b||c))∧(∀b c:Bool,(if b=true then c else false)=(b&&c))∧(∀a b:Int,a>b↔b<a)∧(∀a b:Nat,a>b↔b<a)∧(∀a b:Int,a≥b↔b≤a)∧(∀a b:Nat,a≥b↔b≤a)∧(∀a b:Int,(!decide (a<b))=decide (b≤a))∧(∀a b:Int,(!decide (a≤b))=decide (b<a))∧(∀a b:Int,(a !=b)= !(a==b))∧(∀a b:Int,decide (a=b)=(a==b))∧(∀(p:Prop) [Decidable p] [Decidable (¬p)],decide (¬p)= !decide p)∧(∀(α:Type) (a b:α),(a≠b)= ¬a=b)∧(∀a b:Bool,(!(a&&b))=(!a|| !b))∧(∀a b:Bool,(!(a||b))=(!a&& !b))∧(∀b:Bool,(!!b)=b)∧(∀b:Bool,(b&&true)=b)∧(∀b:Bool,(true&&b)=b)∧(∀b:Bool,(b||false)=b)∧(∀b:Bool,(false||b)=b)∧(∀n:Nat,(n:Int).toNat=n):=⟨ayy,Dy,fun _ _=>Iff.rfl,fun _ _=>Iff.rfl,fun _ _=>Iff.rfl,fun _ _=>Iff.rfl,asD,asE,bne_not,deq,fun _=>decide_not,fun _ _ _=>rfl,Bool.not_and,Bool.not_or,Bool.not_not,wQ,dj,Bool.or_false,Bool.false_or,gQ⟩
theorem aDs{S:Bool}(h:E=true)(he:E= !R):(R&&S)=false:=by
 rw[h]at he;cases R with
 |false=>rfl
 |true=>exact absurd he cO
theorem dy(h:E=true)(he:E= !R):R=false:=by
 rw[h]at he;cases R with
 |false=>rfl
 |true=>exact absurd he cO
theorem dr(h:E=false)(he:E= !R):R=true:=by
 rw[h]at he;cases R with
 |true=>rfl
 |false=>exact absurd he cO
def fZ(d:DB):Bool:=decide ((d.rows.length:Int)≤64)&&d.rows.all fun r=>decide ((r.length:Int)=24)
def BS(rows:Int)(l:List bL)(i:Nat):Bool:=inr (l.getD i (aO .bL)).client 0 7&& !(decide ((0:Int)<i)&&decide ((l.getD i (aO .bL)).client≤(l.getD (i-1) (aO .bL)).client))&&fZ (l.getD i (aO .bL)).share&&(((l.getD i (aO .bL)).share.rows.length:Int)==rows)
def Gb(s:cH):Bool:=inr s.id 0 3&&inr s.rows 1 64&&inr s.behavior 0 3&&inr s.round 0 100000&&decide ((s.received.length:Int)≤8)
def fk(s:cH):Bool:=Gb s&&(bK s.received.length).all (BS s.rows s.received)
def Cj(rows:Int)(l:List bn)(i:Nat):Bool:=inr (l.getD i (aO .bn)).round 0 100000&& !(decide ((0:Int)<i)&&decide ((l.getD i (aO .bn)).round≤(l.getD (i-1) (aO .bn)).round))&&fZ (l.getD i (aO .bn)).db&&(((l.getD i (aO .bn)).db.rows.length:Int)==rows)
def SS:Bool:=inr a.rows 1 64&&decide ((a.rounds.length:Int)≤8)
def lU:Bool:=SS a&&(bK a.rounds.length).all (Cj a.rows a.rounds)
def gS:Int:=if a.rounds.length=0 then-1 else(a.rounds.getD (a.rounds.length-1) (aO .bn)).round
def long(b:List UInt8):Bool:=decide ((14:Int)<b.length)
def iJ(c:kf):Bool:=inr c.id 0 7&&inr c.gJ 0 7&& !(c.id==c.gJ)&&jZ c.key&&decide ((c.aT.length:Int)≤16)&&decide ((c.inbox.length:Int)≤16)&& !c.aT.any long&& !c.inbox.any long&&inr c.sent 0 c.aT.length&&inr c.next 0 100000
def wJ(a b:kf):Bool:=(a.id==b.id)&&(a.gJ==b.gJ)&&(a.key==b.key)&&(a.seed==b.seed)&&(a.aT==b.aT)
def GC(a b:List (List UInt8)):Bool:=decide ((a.length:Int)≤b.length)&&(a==b.take a.length)
def gx(d:bR):Bool:=iJ d.live&&iJ d.saved&&wJ d.live d.saved&&decide (d.saved.sent≤d.live.sent)&&decide (d.saved.next≤d.live.next)&&GC d.saved.inbox d.live.inbox
def dR(n:Int):Bool:=inr n 2 4
def W8(i:Nat):Bool:=fk (x.aC.getD i (aO .cH))&&((x.aC.getD i (aO .cH)).id==(i:Int))&&((x.aC.getD i (aO .cH)).rows==x.rows)&&((x.aC.getD i (aO .cH)).round==x.round)&&decide (((x.aC.getD i (aO .cH)).received.length:Int)≤0)
def M8(i:Nat):Bool:=gx (x.ah.getD i (aO .bR))&&((x.ah.getD i (aO .bR)).live.id==(i:Int))&&((x.ah.getD i (aO .bR)).live.gJ==((i^^^1:Nat):Int))&&((x.ah.getD i (aO .bR)).live.key==(x.ah.getD (i^^^1) (aO .bR)).live.key)&&decide ((x.ah.getD i (aO .bR)).live.next≤x.round)
def XF:Bool:=inr x.rows 1 64&&dR x.aC.length&&inr x.ah.length 2 8&&((x.ah.length:Int).tmod 2==0)&&lU x.aH&&(x.aH.rows==x.rows)&&decide (gS x.aH<x.round)&&jZ x.bW&&inr x.round 0 100000&&decide (0≤x.cancelled)
def okW:Bool:=XF x&&(bK x.aC.length).all (W8 x)&&(bK x.ah.length).all (M8 x)
theorem nZ{p:Nat→Bool}(h:(bK k).all p=true)(hk:p k=true):(bK (k+1)).all p=true:=by
 rw[gl,lI,h];simp[hk]
theorem qC{p:Nat→Bool}{n:Nat}(h:k<n)(hk:p k=false):(bK n).all p=false:=by
 rw[uf];exact⟨k,cS.2 h,by rw[hk];decide⟩
def fidx(p:α→Bool)(l:List α):Int:=if l.any p then(l.findIdx p:Int)else-1
theorem Dz{p:α→Bool}{l:List α}(d:α)(h:k<l.length)(h1:(l.take k).any p=false)(h2:p (l.getD k d)=true):fidx p l=k:=by
 have ha:l.any p=true:=IC l p d k h h2;have e:l=l.take k++l.getD k d::l.drop (k+1):=by rw[←getD_drop l k d h,mg]
 unfold fidx;rw[if_pos ha];have hf:l.findIdx p=k:=by
  rw[List.findIdx_eq h];refine⟨?_,fun j hj=> ?_⟩
  ·rw[aq,az h]at h2;exact h2
  ·rw[cq]at h1;have:=h1 l[j] (by rw[List.mem_take_iff_getElem];exact⟨j,aJ,rfl⟩);simpa using this
 rw[hf]
theorem K4{p:α→Bool}{l:List α}(h:l.any p=false):fidx p l= -1:=by unfold fidx;rw[if_neg abx]
theorem Vx(p:α→Bool)(l:List α):decide (fidx p l≥0)=l.any p:=by
 unfold fidx;cases h:l.any p
 ·rw[if_neg cO];rfl
 ·rw[if_pos rfl];simp
theorem Bf{p:α→Bool}{l:List α}(d:α)(h:k<l.length)(h1:(l.take k).any p=false)(h2:p (l.getD k d)=false):(l.take (k+1)).any p=false:=by
 rw[al0 p l k d h,h1,h2];rfl
theorem DA(l:List α)(p:α→Bool):l.all p= !(l.any fun b=> !p b):=by
 induction l with
 |nil=>rfl
 |cons a r ih=>simp[ih]
end
section
variable(x:dF)(c:kf)
theorem Bh(k n:Nat)(h:k<n)(he:n % 2=0):k^^^1<n:=by
 have h1:(k^^^1)/2=k/2:=by
  have:=PS (a:=k) (b:=1);simpa using this
 have h2:k^^^1<2*(k/2)+2:=by
  have:=Nat.div_add_mod (k^^^1) 2;have:=iN (k^^^1) (show 0<2 by decide);omega
 omega
theorem Nt(k:Nat)(h:k<2^62):af.wrap (aF af.bits (k:Int)^^^aF af.bits 1).toNat=((k^^^1:Nat):Int):=by
 have h2:(aF af.bits (k:Int)^^^aF af.bits 1).toNat=k^^^1:=by
  rw[Nq];have h1:(aF af.bits 1).toNat=1:=by decide
  have h2:(aF af.bits (k:Int)).toNat=k % 2^64:=by rw[kQ,mm];rfl
  rw[h1,h2,gK aJ]
 have hx:=kI (n:=62) h (show 1<2^62 by decide);rw[h2,cY aJ]
theorem Bi{x:dF}(h:XF x=true):x.ah.length % 2=0∧x.ah.length≤8∧2≤x.ah.length:=by
 simp only[XF,dK,an,beq_iff_eq]at h;have h1:=h.1.1.1.1.1.1.2;have h2:=h.1.1.1.1.1.1.1.2;rw[jy aJ]at h1;omega
theorem uk{x:dF}(h:okW x=true):XF x=true:=by simp only[okW,an]at h;exact h.1.1
theorem iY{x:dF}(h:okW x=true):x.aC.length≤4∧2≤x.aC.length:=by
 have:=uk h;simp only[XF,dR,dK,an,beq_iff_eq]at this;have h1:=this.1.1.1.1.1.1.1.1.2;omega
def svW:Bool:=(bK x.aC.length).all (W8 x)&&dR x.aC.length
def dvW:Bool:=((x.ah.length:Int).tmod 2==0)&&inr x.ah.length 2 8&&(bK x.ah.length).all (M8 x)
def n8(c:Int):Bool:=inr c 0 (x.ah.length-1)
def jW(c:Int):Bool:=n8 x c&&decide (((c.toNat^^^1:Nat):Int)<x.ah.length)
def fK:Int:=if c.id<c.gJ then 0 else 1
def rQ(at':Int):List UInt8:=lJ (rB c.key (fK c)) at' ⟨1,c.aT.getD at'.toNat (aO (.sl .u8))⟩
def zD(r n:Int):Bool:=iJ c&&inr r 0 100000&&inr n 1 64
def mL(r n:Int):Int:=if zD c r n=true then(if c.sent<c.aT.length then jK c.key r (fK c) n else Co c.seed r n)else 0
def jt(r n:Int):List UInt8:=if zD c r n=true then(if c.sent<c.aT.length then rQ c c.sent else cover (kh c.seed [r]))else []
theorem K6{c:kf}{r n:Int}(h:zD c r n=true):0≤c.sent∧c.sent≤c.aT.length:=by
 simp only[zD,iJ,dK,an]at h;exact h.1.1.1.2
theorem yL{k c:Int}{p:Plain}(h:qX k c p=true):p.body.length≤14:=by
 simp only[qX,pV,an,decide_eq_true_eq]at h;omega
def B2(d:DB)(i:Int):Bool:=inr i 0 (d.rows.length-1)
def rowAt(d:DB)(i:Int):List UInt8:=if B2 d i=true then d.rows.getD i.toNat (aO (.sl .u8))else []
def zZ(c f:kf)(n:Nat)(r:bn):Nat:=
 if r.round<f.next∨c.aT.length≤n then n else
 if(B2 r.db (jK c.key r.round (fK c) x.rows)&&(rowAt r.db (jK c.key r.round (fK c) x.rows)==rQ c n))=true then n+1 else n
def lC(c f:kf)(l:List bn):Nat:=l.foldl (zZ x c f) f.inbox.length
theorem MD(x:dF)(c f:kf): ∀(l:List bn) (n:Nat),c.aT.length≤n→l.foldl (zZ x c f) n=n
 | [],_,_=>rfl
 |r::l,n,h=>by
  rw[cI,show zZ x c f n r=n from if_pos (bw h)];exact MD x c f l n h
theorem Tu(c f:kf)(l:List bn)(k:Nat):lC x c f (l.take k)≤f.inbox.length+k:=by
 have g: ∀(l:List bn) (n:Nat),l.foldl (zZ x c f) n≤n+l.length:=by
  intro l;induction l with
  |nil=>intro n;exact aS _
  |cons r l ih=>
   intro n;have h1:zZ x c f n r≤n+1:=by unfold zZ;split;omega;split<;>omega
   have:=ih (zZ x c f n r);rw[cI,bp];omega
 have:=g (l.take k) f.inbox.length;have:=cU l k;unfold lC;omega
theorem ME(c f:kf)(l:List bn)(k:Nat)(h:k<l.length):lC x c f (l.take (k+1))=zZ x c f (lC x c f (l.take k)) (l.getD k (aO .bn)):=xE _ _ l k _ h
theorem YM(c f:kf)(l:List bn)(k:Nat)(h:c.aT.length≤lC x c f (l.take k)):lC x c f l=lC x c f (l.take k):=by
 have e:l=l.take k++l.drop k:=(mg k l).symm
 conv=>lhs;rw[e]
 unfold lC at h ⊢;rw[fQ,MD x c f _ _ h]
def sQ(i:Int):Bool:=if jW x i=true then decide ((x.ah.getD i.toNat (aO .bR)).live.sent≤(lC x (x.ah.getD i.toNat (aO .bR)).live (x.ah.getD (i.toNat^^^1) (aO .bR)).live x.aH.rounds:Int))else false
theorem ah8{x:dF}{c:Int}(hd:x.ah.length≤1048576):(n8 x c&&n8 x (af.wrap (aF af.bits c^^^aF af.bits 1).toNat))=jW x c:=by
 by_cases hc:n8 x c=true
 ·have hc2:0≤c∧c<x.ah.length:=by simp only[n8,dK]at hc;omega
  obtain⟨n,rfl⟩:=sL hc2.1;rw[Nt n aJ,jW,hc];simp only[dj,n8,gQ];rw[DC,dK,decide_eq_true_eq];omega
 ·rw[B3]at hc;rw[jW,hc];rfl
theorem ah9{x:dF}{c:Int}(hd:x.ah.length≤1048576):(inr c 0 (x.ah.length-1)&&decide (af.wrap (aF af.bits c^^^aF af.bits 1).toNat<(x.ah.length:Int)))=jW x c:=by
 by_cases hc:n8 x c=true
 ·have hc2:0≤c∧c<x.ah.length:=by simp only[n8,dK]at hc;omega
  obtain⟨n,rfl⟩:=sL hc2.1;rw[Nt n aJ];rfl
 ·rw[B3]at hc;rw[jW,hc,show inr c 0 (x.ah.length-1)=false from hc];rfl
theorem Vy{x:dF}{i:Int}(h:jW x i=true):0≤i∧i.toNat<x.ah.length∧i.toNat^^^1<x.ah.length∧i=(i.toNat:Int):=by
 simp only[jW,n8,dK,an,decide_eq_true_eq]at h;omega
end
section
variable{a b:List Int}{rows i:Int}(n:Nat)
def ayA(s:Int)(i:Nat):Int:=rsb (kh s [(i:Int),41])
def dI(s rows:Int):List Int:=if 0≤rows∧rows≤64 then(bK rows.toNat).map (ayA s)else []
theorem oV(s rows:Int):(dI s rows).length≤64:=by
 unfold dI;split
 ·simp;omega
 ·simp
theorem PV(s rows:Int)(k:Nat)(h0:(k:Int)<rows)(h1:rows≤64):k<(dI s rows).length:=by
 rw[dI,if_pos aJ];simp;omega
theorem IJ(s rows:Int)(k:Nat)(h0:(k:Int)<rows)(h1:rows≤64):(dI s rows).take (k+1)=(dI s rows).take k++ [af.wrap (aF af.bits (((af.wrap (kh s [(k:Int),41]*kh s [(k:Int),41])).tmod 2147483647).fdiv (2^(min (cX 9) af.bits)))&&&aF af.bits 1).toNat]:=by
 rw[ayv (iQ _ _).1 (iQ _ _).2,cD _ _ 0 (PV s rows k h0 h1)];congr 2;rw[dI,if_pos aJ,jz _ _ _ _ aJ];rfl
theorem MF(s rows:Int)(k:Nat)(h:rows≤64→rows≤k):(dI s rows).take k=dI s rows:=by
 refine aD ?_;unfold dI;split
 ·simp;omega
 ·simp
def gW(v:List Int)(rows:Int):Bool:=(decide ((v.length:Int)=rows)&&decide (rows≤64))&&v.all fun x=>inr x 0 1
theorem acp(v:List Int)(rows:Int):gW v rows=((inr rows 0 64&&decide ((v.length:Int)=rows))&& !(v.any fun x=> !inr x 0 1)):=by
 have e:(v.all fun x=>inr x 0 1)= !(v.any fun x=> !inr x 0 1):=by rw[List.not_any_eq_all_not];simp
 rw[gW,e];by_cases h:(v.length:Int)=rows
 ·subst h;simp[inr]
 ·simp[h]
theorem rR{v:List Int}{r:Int}(h:gW v r=true):(v.length:Int)=r∧r≤64:=by
 simp only[gW,an,decide_eq_true_eq]at h;exact h.1
theorem Fe{v:List Int}{r:Int}(h:gW v r=true)(k:Nat)(hk:k<v.length):v.getD k (aO .int)=0∨v.getD k (aO .int)=1:=by
 simp only[gW,an,bE,dK]at h;have:=h.2 (v.getD k (aO .int)) aBF;omega
def xb(x y:Int):Int:=if x=y then 0 else 1
theorem aDt{x y:Int}(hx:x=0∨x=1)(hy:y=0∨y=1):af.wrap (aF af.bits x^^^aF af.bits y).toNat=xb x y:=by
 rcases hx with rfl|rfl<;>rcases hy with rfl|rfl<;>decide
def wm(a b:List Int):Bool:=gW a a.length&&gW b a.length
def um(a b:List Int):List Int:=if wm a b then eJ xb a b else []
theorem wY(h:wm a b=true):b.length=a.length∧a.length≤64:=by
 simp only[wm,an]at h;have h1:=rR h.1;have h2:=rR h.2;omega
theorem Bj(h:wm a b=true):um a b=eJ xb a b:=by rw[um,if_pos h]
theorem IK(h:wm a b=true):(eJ xb a b).length=a.length:=by
 have:=wY h;rw[lK];omega
theorem acq(a b:List Int):(um a b).length≤64:=by
 cases h:wm a b with
 |true=>rw[Bj h,IK h];exact(wY h).2
 |false=>rw[um,if_neg abx];simp
theorem aeQ(h:wm a b=true)(k:Nat)(hk:k<a.length):(eJ xb a b).getD k (aO .int)=af.wrap (aF af.bits (a.getD k (aO .int))^^^aF af.bits (b.getD k (aO .int))).toNat:=by
 have hl:=wY h;have h':=h;simp only[wm,an]at h';rw[aDt (Fe h'.1 k hk) (Fe h'.2 k aJ)];rw[aq,aq,aq,vn,az hk,az (show k<b.length by omega)];rfl
theorem YN(h:wm a b=true)(k:Nat)(hk:k<b.length):(eJ xb a b).take (k+1)++a.drop (k+1)=((eJ xb a b).take k++a.drop k).set k (af.wrap (aF af.bits (((eJ xb a b).take k++a.drop k).getD k (aO .int))^^^aF af.bits (b.getD k (aO .int))).toNat):=by
 have hl:=wY h;have hz:=IK h;rw[Dr _ _ k (aO .int) _ aJ aJ];rw[sM _ _ _ _ aJ,aeQ h k aJ]
theorem YO(h:wm a b=true)(k:Nat)(hk:k<a.length):(eJ xb a b).take (k+1)=(eJ xb a b).take k++ [af.wrap (aF af.bits (a.getD k (aO .int))^^^aF af.bits (b.getD k (aO .int))).toNat]:=by
 rw[cD _ k (aO .int) (by rw[IK h];exact hk),aeQ h k hk]
def qg(rows i:Int):Bool:=inr rows 1 64&&inr i 0 (af.wrap (rows-1))
def wA(rows i:Int):List Int:=if qg rows i then(ew rows.toNat (aO .int)).set i.toNat 1 else []
theorem Aa(h:qg rows i=true):1≤rows∧rows≤64∧0≤i∧i<rows:=by
 simp only[qg,an,dK]at h;rw[cY aJ]at h;omega
theorem wZ(h:qg rows i=true):wA rows i=(ew rows.toNat (aO .int)).set i.toNat 1:=by rw[wA,if_pos h]
theorem K7(h:qg rows i=false):wA rows i= []:=by rw[wA,if_neg abx]
theorem K8(rows i:Int):(wA rows i).length≤64:=by
 cases h:qg rows i with
 |true=>rw[wZ h];have:=Aa h;simp;omega
 |false=>rw[K7 h];simp
def OK(rows i:Int)(sd:List Int):Bool:= !decide (((wA rows i).length:Int)=0)&&dR (af.wrap ((sd.length:Int)+1))
def DE(rows i:Int)(sd:List Int):List Int:=sd.foldl (fun l s=>um l (dI s rows)) (wA rows i)
def qd(rows i:Int)(sd:List Int):List (List Int):=if OK rows i sd then sd.map (fun s=>dI s rows)++ [DE rows i sd]else []
theorem PW(rows i:Int)(sd:List Int)(k:Nat)(h:k<sd.length):DE rows i (sd.take (k+1))=um (DE rows i (sd.take k)) (dI (sd.getD k (aO .int)) rows):=xE _ _ sd k _ h
theorem K9(rows i:Int)(sd:List Int):(DE rows i sd).length≤64:=by
 rcases List.eq_nil_or_concat sd with rfl| ⟨l,x,rfl⟩
 ·exact K8 _ _
 ·rw[List.concat_eq_append,DE,fQ];exact acq _ _
theorem YR{sd:List Int}(h:OK rows i sd=true)(hl:sd.length≤1048576):sd.length≤3:=by
 simp only[OK,dR,an,dK]at h;rw[cY aJ]at h;omega
def mI(r row s:Int):List Int:=(bK (n-1)).map fun i:Nat=>kh s [229,r,row,(i:Int)]
theorem uo(r row s:Int):(mI n r row s).length=n-1:=by simp[mI]
theorem MG(r row s:Int)(k:Nat)(h:k<n-1):(mI n r row s).take (k+1)=(mI n r row s).take k++ [kh s [229,r,row,(k:Int)]]:=by
 rw[cD _ k (aO .int) (by rw[uo];exact h),mI,jz _ _ _ _ h]
theorem aeR(h:n≤1048576):RY 0 (af.wrap ((n:Int)-1))=((n-1:Nat):Int):=by
 rw[cY aJ];unfold RY;split<;>omega
theorem al6{x:dF}(h:okW x=true):1≤x.rows∧x.rows≤64:=by
 have:=uk h;simp only[XF,dK,an]at this;have h1:=this.1.1.1.1.1.1.1.1.1;omega
end
section
set_option maxRecDepth 100000
theorem getD_some{α:Type}(l:List α)(d:α)(k:Nat)(h:k<l.length):l[k]? =some (l.getD k d):=by
 rw[aq,az h];rfl
def VB(x:DB):Nat:=(gb aN) x.rows
def MH(x:bL):Nat:=VB x.share
def jm(x:cH):Nat:=(gb MH) x.received
def eO(x:kf):Nat:=(gb aN) x.aT+(gb aN) x.inbox
def cE(x:bR):Nat:=eO x.live+eO x.saved
def jo(x:bn):Nat:=VB x.db
def iS(x:tE):Nat:=(gb jo) x.rounds
def jA(x:dF):Nat:=(gb jm) x.aC+(gb cE) x.ah+iS x.aH+aN x.replaced
end
theorem VC{x:dF}(h:jA x≤1048576):x.ah.length≤1048576:=by
 have h2:gb cE x.ah≤1048576:=by unfold jA at h;omega
 exact fT h2
theorem Ff{x:dF}(h:jA x≤1048576):x.aH.rounds.length≤1048576:=by
 have h2:iS x.aH≤1048576:=by unfold jA at h;omega
 unfold iS at h2;exact fT h2
section
variable(rows:Int){d a b:DB}{i:Int}{c:List UInt8}(x:dF)
def VD:List UInt8:=ew 24 (aO .u8)
def ir:DB:=⟨if 0≤rows∧rows≤64 then ew rows.toNat VD else []⟩
theorem al9{α:Type}(n k:Nat)(x:α)(h:k<n):(ew n x).take (k+1)=(ew n x).take k++ [x]:=by
 rw[GY,GY,P0 aJ,P0 aJ,List.replicate_succ']
theorem w9:(ir rows).rows.length≤64:=by
 unfold ir;dsimp only;split
 ·simp;omega
 ·simp
theorem xe{rows:Int}(h:0≤rows∧rows≤64):(ir rows).rows=ew rows.toNat VD:=by unfold ir;dsimp only;rw[if_pos h]
theorem P1(k:Nat)(h0:(k:Int)<rows)(h1:rows≤64):(ir rows).rows.take (k+1)=(ir rows).rows.take k++ [VD]:=by
 rw[xe aJ];exact al9 _ _ _ aJ
theorem ama(k:Nat)(h0:(k:Int)<rows)(h1:rows≤64):k<(ir rows).rows.length:=by
 rw[xe aJ];simp;omega
theorem Tw(k:Nat)(h:rows≤64→rows≤k):(ir rows).rows.take k=(ir rows).rows:=by
 refine aD ?_;unfold ir;dsimp only;split
 ·simp;omega
 ·simp
def wo(d:DB)(i:Int)(c:List UInt8):Bool:=inr i 0 (af.wrap ((d.rows.length:Int)-1))&&decide ((c.length:Int)=24)
def MI(d:DB)(i:Int)(c:List UInt8):DB:=if wo d i c then⟨d.rows.set i.toNat c⟩else d
theorem N4(hl:d.rows.length≤1048576)(h:wo d i c=true):0≤i∧i<d.rows.length∧c.length=24:=by
 simp only[wo,an,dK,decide_eq_true_eq]at h;rw[cY aJ]at h;omega
theorem Ab(h:wo d i c=true):MI d i c=⟨d.rows.set i.toNat c⟩:=by rw[MI,if_pos h]
theorem Tx(h:wo d i c=false):MI d i c=d:=by rw[MI,if_neg abx]
def pL(a b:DB):Bool:=(fZ a&&fZ b)&&decide ((a.rows.length:Int)=b.rows.length)
def lZ(a b:DB):List (List UInt8):=eJ iA a.rows b.rows
def lM(a b:DB):DB:=if pL a b then⟨lZ a b⟩else a
theorem P2(h:fZ d=true):d.rows.length≤64:=by
 simp only[fZ,an,decide_eq_true_eq]at h;omega
theorem uM(h:fZ d=true)(k:Nat)(hk:k<d.rows.length):(d.rows.getD k (aO (.sl .u8))).length=24:=by
 simp only[fZ,an,bE,decide_eq_true_eq]at h;have:=h.2 (d.rows.getD k (aO (.sl .u8))) aBF;omega
theorem Bk(h:pL a b=true):fZ a=true∧fZ b=true∧a.rows.length=b.rows.length∧a.rows.length≤64:=by
 simp only[pL,an,decide_eq_true_eq]at h;have:=P2 h.1.1;exact⟨h.1.1,h.1.2,aJ,this⟩
theorem oW(h:pL a b=true):(lZ a b).length=a.rows.length:=by
 have:=Bk h;rw[lZ,lK];omega
theorem Bl(h:pL a b=true)(k:Nat)(hk:k<a.rows.length):(lZ a b).getD k (aO (.sl .u8))=iA (a.rows.getD k (aO (.sl .u8))) (b.rows.getD k (aO (.sl .u8))):=by
 have hb:=Bk h;rw[lZ,aq,aq,aq,vn,az hk,az (show k<b.rows.length by omega)];rfl
theorem YT(h:pL a b=true)(k:Nat)(hk:k<a.rows.length):(lZ a b).take (k+1)=(lZ a b).take k++ [iA (a.rows.getD k (aO (.sl .u8))) (b.rows.getD k (aO (.sl .u8)))]:=by
 rw[cD _ k (aO (.sl .u8)) (by rw[oW h];exact hk),Bl h k hk]
theorem YU(h:pL a b=true)(k:Nat)(hk:k<b.rows.length):(lZ a b).take (k+1)++a.rows.drop (k+1)=((lZ a b).take k++a.rows.drop k).set k (iA (((lZ a b).take k++a.rows.drop k).getD k (aO (.sl .u8))) (b.rows.getD k (aO (.sl .u8)))):=by
 have hb:=Bk h;have hl:=oW h;rw[Dr _ _ k (aO (.sl .u8)) _ aJ aJ];rw[sM _ _ _ _ aJ,Bl h k aJ]
theorem asH(h:pL a b=true)(k:Nat)(hk:k<b.rows.length):((lZ a b).take k++a.rows.drop k).getD k (aO (.sl .u8))=a.rows.getD k (aO (.sl .u8)):=by
 have hb:=Bk h;have hl:=oW h;rw[sM _ _ _ _ aJ]
theorem xg(h:pL a b=true):lM a b=⟨lZ a b⟩:=by rw[lM,if_pos h]
theorem Ac(h:pL a b=false):lM a b=a:=by rw[lM,if_neg abx]
def oX(c:Int):List Int:=(bK (x.aC.length-1)).map fun i:Nat=>kh x.seed [223,x.round,c,(i:Int)]
theorem rF(c:Int):(oX x c).length=x.aC.length-1:=by simp[oX]
theorem MJ(c:Int)(k:Nat)(h:k<x.aC.length-1):(oX x c).take (k+1)=(oX x c).take k++ [kh x.seed [223,x.round,c,(k:Int)]]:=by
 rw[cD _ k (aO .int) (by rw[rF];exact h),oX,jz _ _ _ _ h]
def vT(rows i:Int)(c:List UInt8):Bool:=inr rows 1 64&&wo (ir rows) i c
def YV(rows i:Int)(c:List UInt8):DB:=if inr rows 1 64 then MI (ir rows) i c else⟨[]⟩
theorem sV:VD.length=24:=by simp[VD]
theorem Ty:gb aN (ir rows).rows≤1048576:=by
 have h:=w9 rows;have h2:((ir rows).rows.map aN).sum≤24*(ir rows).rows.length:=by
  unfold ir;dsimp only;split
  ·simp[sV];omega
  ·simp
 unfold gb;omega
end
section
variable{rows i:Int}{c:List UInt8}
theorem qF{d:DB}:fZ d=true↔d.rows.length≤64∧ ∀r,r∈d.rows→r.length=24:=by
 simp only[fZ,an,decide_eq_true_eq,bE];constructor
 ·rintro⟨h1,h2⟩;exact⟨aJ,fun r hr=>by have:=h2 r hr;omega⟩
 ·rintro⟨h1,h2⟩;exact⟨aJ,fun r hr=>by have:=h2 r hr;omega⟩
theorem jB{d:DB}(h:fZ d=true):gb aN d.rows≤1048576:=by
 obtain⟨h1,h2⟩:=qF.1 h;have h3: ∀l:List (List UInt8),(∀r,r∈l→r.length=24)→(l.map aN).sum=24*l.length:=by
  intro l;induction l with
  |nil=>intro _;rfl
  |cons x r ih=>intro hl;rw[cg,j9,ih fun y hy=>hl y aj5,hl x fI,bp];omega
 have:=h3 _ h2;unfold gb;omega
theorem P8{a b:DB}(ha:fZ a=true)(hb:fZ b=true):fZ (lM a b)=true:=by
 cases h:pL a b with
 |false=>rw[Ac h];exact ha
 |true=>
  rw[xg h,qF];have hl:=oW h;refine⟨by have:=P2 ha;show(lZ a b).length≤64;omega,fun r hr=> ?_⟩;obtain⟨k,hk⟩:=List.getElem?_of_mem hr;have hk2:k<(lZ a b).length:=(aU.1 hk).1;have hg:=Bl h k aJ;rw[aq,hk]at hg;have hx:=Bk h;rw[show r=_ from hg,jg,uM ha k aJ,uM hb k aJ];rfl
def nG(s rows:Int):List (List UInt8):=(bK rows.toNat).map fun r:Nat=>stream (af.wrap (s+af.wrap (1000*(r:Int)))) (24:Int).toNat
def mdb(s rows:Int):DB:=⟨nG s rows⟩
theorem rS(s rows:Int):(nG s rows).length=rows.toNat:=by simp[nG]
theorem IU(s rows:Int)(k:Nat)(h:k<rows.toNat):(nG s rows).take (k+1)=(nG s rows).take k++ [stream (af.wrap (s+af.wrap (1000*(k:Int)))) (24:Int).toNat]:=by
 rw[cD _ k (aO (.sl .u8)) (by rw[rS];exact h),nG,jz _ _ _ _ h]
theorem P9(s rows:Int)(h:rows≤64):fZ (mdb s rows)=true:=by
 rw[qF];refine⟨by show(nG s rows).length≤64;rw[rS];omega,fun r hr=> ?_⟩;obtain⟨k,_,rfl⟩:=bQ.1 (show r∈nG s rows from hr);exact jV _ _
def Ck(rows i:Int)(c:List UInt8)(sd:List Int):Bool:=vT rows i c&&dR (af.wrap ((sd.length:Int)+1))
def B4(rows i:Int)(c:List UInt8)(sd:List Int):DB:=sd.foldl (fun d s=>lM d (mdb s rows)) (YV rows i c)
def xP(rows i:Int)(c:List UInt8)(sd:List Int):List DB:=if Ck rows i c sd then sd.map (fun s=>mdb s rows)++ [B4 rows i c sd]else []
theorem G0(h:vT rows i c=true):fZ (YV rows i c)=true∧1≤rows∧rows≤64:=by
 simp only[vT,an]at h;obtain⟨h1,h2⟩:=h;have hr:1≤rows∧rows≤64:=by rw[dK]at h1;exact h1
 have hb:=N4 (cB (w9 rows) cO) h2;refine⟨?_,hr⟩;rw[YV,if_pos h1,Ab h2,qF,xe aJ];refine⟨by simp;omega,fun r hr=> ?_⟩;rcases iT hr with h|rfl
 ·rw[(yO.1 h).2,sV]
 ·exact hb.2.2
theorem Qa(rows i:Int)(c:List UInt8)(sd:List Int)(k:Nat)(h:k<sd.length):B4 rows i c (sd.take (k+1))=lM (B4 rows i c (sd.take k)) (mdb (sd.getD k (aO .int)) rows):=xE _ _ sd k _ h
theorem Qc(h:vT rows i c=true)(sd:List Int):fZ (B4 rows i c sd)=true:=by
 have hu:=G0 h;have g: ∀(l:List Int) (d:DB),fZ d=true→fZ (l.foldl (fun d s=>lM d (mdb s rows)) d)=true:=by
  intro l;induction l with
  |nil=>intro d hd;exact hd
  |cons x r ih=>intro d hd;exact ih _ (P8 hd (P9 x rows hu.2.2))
 exact g sd _ hu.1
theorem Y4{sd:List Int}(h:Ck rows i c sd=true)(hl:sd.length≤1048576):vT rows i c=true∧sd.length≤3:=by
 simp only[Ck,dR,an,dK]at h;rw[cY aJ]at h;exact⟨h.1,aJ⟩
theorem Qd(rows i:Int)(c:List UInt8):vT rows i c=(inr rows 1 64&&inr i 0 (af.wrap (rows-1))&&decide ((c.length:Int)=24)):=by
 unfold vT;cases h:inr rows 1 64 with
 |false=>rfl
 |true=>
  rw[dK]at h;have:((ir rows).rows.length:Int)=rows:=by rw[xe aJ];simp;omega
  rw[wo,this];simp
theorem asN{sd:List Int}(h:Ck rows i c sd=true):MI (ir rows) i c=YV rows i c:=by
 simp only[Ck,vT,an]at h;rw[YV,if_pos h.1.1]
end
section
variable(x:dF)
theorem aic(k c:Int)(p:Plain):(lJ k c p).length≤100:=by
 unfold lJ;split
 ·rename_i h;have hb:=yL h;have hp:(iR k c p).length≤40:=by
   unfold iR;simp only[aQ,cV,bp,dh,jV];omega
  rw[aQ,jS];simp only[four,bp,dh];omega
 ·exact aY _
theorem Qe(c:kf)(r n:Int):(jt c r n).length≤1048576:=by
 unfold jt;split
 ·split
  ·exact cB (aic _ _ _) cO
  ·unfold cover;rw[jV];decide
 ·exact aY _
def rG(c:Int):kf:=(x.ah.getD c.toNat (aO .bR)).live
def gU(c:Int):List DB:=xP x.rows (mL (rG x c) x.round x.rows) (jt (rG x c) x.round x.rows) (oX x c)
theorem Y5{x:dF}{c:Int}(h:zD (rG x c) x.round x.rows=false):gU x c= []:=by
 have hc:jt (rG x c) x.round x.rows= []:=by rw[jt,if_neg abx]
 unfold gU xP;rw[hc];rw[if_neg];simp[Ck,vT,wo]
def abA(c:Int):Bool:=okW x&&n8 x c
def sW(c:Int):List DB:=if abA x c then gU x c else []
theorem ayL{x:dF}{c:Int}(h:abA x c=true):0≤c∧c<x.ah.length:=by
 simp only[abA,n8,dK,an]at h;omega
end
section
variable{x:dF}{i:Nat}{c r n:Int}
theorem pX{E R:Bool}(h:E=true)(he:E=R):R=true:=by rw[←he];exact h
theorem ur{E R:Bool}(h:E=false)(he:E=R):R=false:=by rw[←he];exact h
theorem Bm(h:okW x=true)(hi:i<x.ah.length):M8 x i=true:=by
 simp only[okW,an,bE]at h;exact h.2 i (cS.2 hi)
theorem Qf(h:okW x=true)(hi:i<x.aC.length):W8 x i=true:=by
 simp only[okW,an,bE]at h;exact h.1.2 i (cS.2 hi)
theorem amg(h:M8 x i=true):iJ (x.ah.getD i (aO .bR)).live=true:=by
 simp only[M8,gx,an]at h;exact h.1.1.1.1.1.1.1.1.1
theorem vU(h:okW x=true):(1≤x.rows∧x.rows≤64)∧0≤x.round∧x.round≤100000:=by
 have h:=uk h;simp only[XF,an,dK]at h;omega
theorem VH(h:okW x=true)(hc:0≤c∧c<x.ah.length):iJ (rG x c)=true:=amg (Bm h aJ)
theorem VI(h:okW x=true)(hc:0≤c∧c<x.ah.length):zD (rG x c) x.round x.rows=true:=by
 have:=vU h;simp only[zD,VH h hc,an,dK];exact⟨⟨trivial,this.2⟩,this.1⟩
theorem Qg{key d:Int}(h:(1≤n∧n≤64)∧0≤r∧r≤1000000000000):0≤jK key r d n∧jK key r d n<n:=by
 unfold jK;rw[if_pos h];exact⟨lH _ aJ,kH _ aJ⟩
theorem acC{s:Int}(h:1≤n∧n≤64):0≤Co s r n∧Co s r n<n:=by
 unfold Co;rw[if_pos h];exact⟨lH _ aJ,kH _ aJ⟩
theorem Y6{c:kf}(h:zD c r n=true):0≤mL c r n∧mL c r n<n:=by
 have hb:(0≤r∧r≤100000)∧1≤n∧n≤64:=by
  simp only[zD,an,dK]at h;exact⟨h.1.2,h.2⟩
 rw[mL,if_pos h];split
 ·exact Qg aJ
 ·exact acC aJ
theorem VJ(k d:Int):jZ (rB k d)=true:=by
 have:=zR (iQ k [83,d]);simp only[jZ,dK];unfold rB;omega
theorem rU{c:kf}(h:iJ c=true):c.aT.length≤16∧c.inbox.length≤16∧(∀b,b∈c.aT→b.length≤14)∧(∀b,b∈c.inbox→b.length≤14)∧0≤c.sent∧c.sent≤c.aT.length∧0≤c.next∧c.next≤100000:=by
 simp only[iJ,an,bO,cq,dK,decide_eq_true_eq]at h;obtain⟨⟨⟨⟨⟨⟨_,h1⟩,h2⟩,h3⟩,h4⟩,h5⟩,h6⟩:=h;refine⟨aJ,aJ,fun b hb=> ?_,fun b hb=> ?_,h5.1,h5.2,h6.1,h6.2⟩
 ·have:=h3 b hb;simp only[long,decide_eq_true_eq]at this;omega
 ·have:=h4 b hb;simp only[long,decide_eq_true_eq]at this;omega
theorem getD_in{α:Type}{l:List α}{k:Nat}(d:α)(h:k<l.length):l.getD k d∈l:=by
 rw[aq,az h];exact List.getElem_mem h
theorem DN{k:Int}{p:Plain}(h:qX k c p=true):(lJ k c p).length=24:=by
 have hb:=yL h;rw[lJ,if_pos h,aQ,jS];simp only[iR,four,aQ,cV,bp,dh,jV];omega
theorem aid{c:kf}(h:iJ c=true){a:Int}(h0:0≤a)(h1:a<c.aT.length):(rQ c a).length=24:=by
 obtain⟨q1,_,q2,_⟩:=rU h;apply DN;simp only[qX,VJ,pV,an,dK,decide_eq_true_eq];have:=q2 _ (getD_in (aO (.sl .u8)) (show a.toNat<c.aT.length by omega));refine⟨⟨trivial,aJ⟩,aJ,aJ⟩
theorem IW{c:kf}(h:zD c r n=true):(jt c r n).length=24:=by
 rw[jt,if_pos h];split
 ·rename_i hs;have hc:iJ c=true:=by simp only[zD,an]at h;exact h.1.1
  exact aid hc (K6 h).1 hs
 ·rw[cover,jV]
theorem TD(h:okW x=true)(hc:0≤c∧c<x.ah.length):Ck x.rows (mL (rG x c) x.round x.rows) (jt (rG x c) x.round x.rows) (oX x c)=true:=by
 have hw:=VI h hc;have hr:=vU h;have hs:=iY h;have hrow:=Y6 hw;have hcell:=IW hw;simp only[Ck,Qd,dR,an,dK,decide_eq_true_eq,rF];rw[cY aJ,cY aJ];omega
theorem oY(h:okW x=true)(hc:0≤c∧c<x.ah.length):(gU x c).length=x.aC.length:=by
 have hs:=iY h;rw[gU,xP,if_pos (TD h hc),aQ,bt,rF];simp;omega
theorem Qh(h:okW x=true)(hc:0≤c∧c<x.ah.length):sW x c=gU x c:=by
 rw[sW,if_pos];simp only[abA,h,n8,dj,dK];omega
end
theorem amh{rows i:Int}{c:List UInt8}{sd:List Int}(hr:rows≤64): ∀d,d∈xP rows i c sd→fZ d=true:=by
 intro d hd;unfold xP at hd;split at hd
 ·rename_i hm;have hu:vT rows i c=true:=by simp only[Ck,an]at hm;exact hm.1
  rcases bg.1 hd with h|h
  ·obtain⟨s,_,rfl⟩:=bQ.1 h;exact P9 s rows hr
  ·rw[aV.1 h];exact Qc hu _
 ·cases hd
def ayM(d:DB):Nat:=(d.rows.map aN).sum
theorem asO{d:DB}(h:fZ d=true):ayM d≤1536:=by
 obtain⟨h1,h2⟩:=qF.1 h;have h3: ∀l:List (List UInt8),(∀r,r∈l→r.length=24)→(l.map aN).sum=24*l.length:=by
  intro l;induction l with
  |nil=>intro _;rfl
  |cons x r ih=>intro hl;rw[cg,j9,ih fun y hy=>hl y aj5,hl x fI,bp];omega
 have:=h3 _ h2;unfold ayM;omega
theorem avN{α:Type}(f:α→Nat)(C:Nat): ∀(l:List α),(∀x,x∈l→f x≤C)→(l.map f).sum≤C*l.length
 | [],_=>by simp
 |x::r,h=>by
  have:=avN f C r fun y hy=>h y aj5;have:=h x fI;rw[cg,j9,bp,jX];omega
section
variable{l:List bL}{i k:Nat}{s:cH}{x:dF}{c:Int}{d:DB}
def xQ(s:cH):Prop:=s.received.length≤1048576∧ ∀r,r∈s.received→gb aN r.share.rows≤1048576
theorem TF{l:List cH}(h:gb jm l≤1048576)(hs:l[i]? =some s):xQ s:=by
 have h1:gb MH s.received≤1048576:=pO h hs;refine⟨fT h1,fun r hr=> ?_⟩;obtain⟨j,hj⟩:=mq.1 hr;exact pO h1 hj
def wB(x:dF):Prop:=gb jm x.aC≤1048576∧gb cE x.ah≤1048576∧iS x.aH≤1048576∧x.replaced.length≤4194304
theorem B5(h:wB x):x.aC.length≤1048576:=fT h.1
theorem IX(h:wB x):x.ah.length≤1048576:=fT h.2.1
def sX(s:cH)(c:Int)(d:DB):cH:=⟨s.id,s.rows,s.round,s.received++ [⟨c,d⟩],s.behavior⟩
def sY(s:cH)(c:Int)(d:DB):Bool:=fk s&&fk (sX s c d)
def rcv(s:cH)(c:Int)(d:DB):cH:=if sY s c d then sX s c d else s
def below(s:cH)(c:Int):Prop:= ∀r,r∈s.received→r.client<c
theorem aie{e:Int}(h:below s c)(hc:c<e):below (rcv s c d) e:=by
 intro r hr;unfold rcv at hr;split at hr
 ·rcases bg.1 hr with h1|h1
  ·have:=h r h1;omega
  ·rw[aV.1 h1];exact hc
 ·have:=h r hr;omega
theorem aif(h:xQ s)(hd:fZ d=true):xQ (rcv s c d):=by
 unfold rcv;split
 ·rename_i hk;have h1:(sX s c d).received.length≤8:=by
   simp only[sY,fk,Gb,an,decide_eq_true_eq]at hk;omega
  refine⟨aJ,fun r hr=> ?_⟩;rcases bg.1 hr with h2|h2
  ·exact h.2 r h2
  ·rw[aV.1 h2];exact jB hd
 ·exact h
def isC(c:Int)(r:bL):Bool:=r.client==c
def tQ(l:List bL)(c:Int):Bool:=l.any (isC c)
def G2(l:List bL)(c:Int):DB:=if tQ l c then(l.getD (fidx (isC c) l).toNat (aO .bL)).share else⟨[]⟩
theorem acE(h:k<l.length)(h1:(l.take k).any (isC c)=false)(h2:isC c (l.getD k (aO .bL))=true):tQ l c=true∧G2 l c=(l.getD k (aO .bL)).share:=by
 have ha:tQ l c=true:=IC l (isC c) (aO .bL) k h h2;exact⟨ha,by rw[G2,if_pos ha,Dz (aO .bL) h h1 h2];rfl⟩
theorem N6(h:l.any (isC c)=false):tQ l c=false∧G2 l c=⟨[]⟩:=⟨h,by rw[G2,tQ,h];rfl⟩
theorem ami(h:below s c):tQ s.received c=false:=by
 unfold tQ;rw[cq];intro r hr;have:=h r hr;simp only[isC,beq_iff_eq];omega
theorem Qi(h: ∀r,r∈l→gb aN r.share.rows≤1048576):gb aN (G2 l c).rows≤1048576:=by
 unfold G2;split
 ·rw[aq];cases hq:l[(fidx (isC c) l).toNat]? with
  |none=>exact by decide
  |some r=>exact h r (eT hq)
 ·exact by decide
theorem axp(h:sY s c d=false):rcv s c d=s:=by rw[rcv,h];rfl
theorem adO(h:sY s c d=true):rcv s c d=sX s c d:=by rw[rcv,h];rfl
theorem asP(hb: ∀r,r∈s.received→r.client<c)(hk:k≤s.received.length)(h:(if decide ((k:Int)<(s.received.length:Int))=true then decide ((s.received.getD k (aO .bL)).client<c)else false)=false):k=s.received.length:=by
 by_cases h1:k<s.received.length
 ·rw[if_pos abz]at h;have:=hb _ (getD_in (aO .bL) h1);simp only[decide_eq_false_iff_not]at h;omega
 ·omega
theorem ins_eq(l:List bL)(y:bL): []++Af (cX 0) (ON ((l.length:Int)).toNat l)++ [y]++ []=l++ [y]:=by simp
theorem aDO(h:(if !fk s then true else !fk (sX s c d))=true):sY s c d=false:=by
 unfold sY;cases h1:fk s<;>cases h2:fk (sX s c d)<;>simp_all
theorem aDP(h:(if !fk s then true else !fk (sX s c d))=false):sY s c d=true:=by
 unfold sY;cases h1:fk s<;>cases h2:fk (sX s c d)<;>simp_all
def VK(d:DB):Int:=hsh ((d.rows.length:Int)::d.rows.flatMap RM)
theorem Bn(l:List UInt8):(RM l).length=l.length+1:=by simp[RM]
theorem amj(l:List (List UInt8)): ∀k,((l.take k).flatMap RM).length≤gb aN l:=by
 have key: ∀m:List (List UInt8),(m.flatMap RM).length=gb aN m:=by
  intro m;induction m with
  |nil=>rfl
  |cons x r ih=>rw[fP,aQ,ih,Bn];unfold gb;simp only[bp,cg,j9];omega
 intro k;rw[key];have h1:=nj l aN k;unfold gb;have:(l.take k).length≤l.length:=List.length_take_le' _ _;omega
theorem aeZ(l:List (List UInt8))(k:Nat)(h:k<l.length):(l.take (k+1)).flatMap RM=(l.take k).flatMap RM++RM (l.getD k (aO (.sl .u8))):=by
 rw[cD l k (aO (.sl .u8)) h,fY];simp
def oo(m s:Int):Int:=GS (kh m [173,s])
theorem amk{m s:Int}:(if kh m [173,s]>1 then kh m [173,s]else 1)=oo m s:=by
 have:=iQ m [173,s];unfold oo GS;split<;>split<;>omega
def Qj(c r:Int)(d:DB):Int:=hsh [179,c,r,VK d]
def aih(key s c r g:Int):Int:=kh key [181,s,c,r,g]
def mkR(key s c r:Int)(d:DB):kj:=⟨s,c,r,Qj c r d,aih key s c r (Qj c r d)⟩
def ae0(l:List cH)(c:Int)(ds:List DB):List cH:=eJ (fun s d=>rcv s c d) l ds
def FH(x:dF):Nat→List cH
 |0=>x.aC
 |k+1=>ae0 (FH x k) (k:Int) (gU x (k:Int))
def ayN(x:dF)(c:Nat)(i:Nat):List kj:= [mkR (oo x.bW (i:Int)) (i:Int) (c:Int) x.round ((gU x (c:Int)).getD i (aO .DB))]
def Qk(x:dF)(c:Nat)(n:Nat):List kj:=(bK n).flatMap (ayN x c)
def Ql(x:dF)(n:Nat):List kj:=(bK n).flatMap fun c=>Qk x c x.aC.length
theorem Ln(x:dF)(c n:Nat):Qk x c (n+1)=Qk x c n++ [mkR (oo x.bW (n:Int)) (n:Int) (c:Int) x.round ((gU x (c:Int)).getD n (aO .DB))]:=by
 unfold Qk;rw[gl,fY];simp[ayN]
theorem Lo(x:dF)(n:Nat):Ql x (n+1)=Ql x n++Qk x n x.aC.length:=by
 unfold Ql;rw[gl,fY];simp
theorem IY(x:dF)(c:Nat): ∀n,(Qk x c n).length=n
 |0=>rfl
 |n+1=>by rw[Ln,aQ,IY x c n];rfl
theorem Qm(x:dF): ∀n,(Ql x n).length=n*x.aC.length
 |0=>by simp[Ql]
 |n+1=>by rw[Lo,aQ,Qm x n,IY,cM];omega
structure Col(x:dF)(k:Nat):Prop where
 len:(FH x k).length=x.aC.length
 bel: ∀s,s∈FH x k→below s (k:Int)
 sml: ∀s,s∈FH x k→xQ s
theorem Fj(h:okW x=true): ∀s,s∈x.aC→s.received= []:=by
 intro s hs;obtain⟨i,hi,rfl⟩:=fL.1 hs;have h1:=Qf h hi;have e:x.aC.getD i (aO .cH)=x.aC[i]:=by rw[aq,az hi];rfl
 simp only[W8,e,an,decide_eq_true_eq]at h1;have h2:x.aC[i].received.length=0:=by omega
 exact iE.1 h2
theorem G3(h:okW x=true): ∀d,d∈gU x c→fZ d=true:=by
 have:=vU h;exact amh aJ
theorem Y7{l:List cH}{ds:List DB}(h:s∈ae0 l c ds): ∃t d,t∈l∧d∈ds∧s=rcv t c d:=by
 induction l generalizing ds with
 |nil=>cases h
 |cons t l ih=>
  cases ds with
  |nil=>cases h
  |cons d ds=>
   rcases bh.1 h with h1|h1
   ·exact⟨t,d,bA ..,bA ..,h1⟩
   ·obtain⟨t',d',q1,q2,q3⟩:=ih h1;exact⟨t',d',aE _ q1,aE _ q2,q3⟩
theorem col{x:dF}(h:okW x=true): ∀k,k≤x.ah.length→Col x k
 |0,_=>by
  have he:=Fj h;refine⟨rfl,fun s hs=> ?_,fun s hs=> ?_⟩
  ·intro r hr;rw[he s hs]at hr;cases hr
  ·refine⟨by rw[he s hs];decide,fun r hr=> ?_⟩;rw[he s hs]at hr;cases hr
 |k+1,hk=>by
  have ih:=col h k aJ;have hl:(gU x (k:Int)).length=x.aC.length:=oY h aJ;refine⟨?_,fun s hs=> ?_,fun s hs=> ?_⟩
  ·show(eJ _ _ _).length=_
   rw[lK,ih.len,hl];omega
  ·obtain⟨t,d,h1,h2,rfl⟩:=Y7 hs;exact aie (ih.bel t h1) aJ
  ·obtain⟨t,d,h1,h2,rfl⟩:=Y7 hs;exact aif (ih.sml t h1) (G3 h d h2)
theorem sZ(h:okW x=true)(hk:k≤x.ah.length):(FH x k).length=x.aC.length:=(col h k hk).len
theorem Y8(h:okW x=true)(hk:k<x.ah.length)(hi:i<x.aC.length):(FH x (k+1)).getD i (aO .cH)=rcv ((FH x k).getD i (aO .cH)) (k:Int) ((gU x (k:Int)).getD i (aO .DB)):=by
 have hl:(gU x (k:Int)).length=x.aC.length:=oY h aJ;have h2:=sZ h (k:=k) aJ;show(eJ _ _ _).getD i _=_
 rw[aq,aq,aq,vn,az (show i<(FH x k).length by omega),az (show i<(gU x (k:Int)).length by omega)];rfl
def FI(x:dF)(k i:Nat):List cH:=(FH x (k+1)).take i++(FH x k).drop i
theorem Y9(h:okW x=true)(hk:k<x.ah.length)(hi:i≤x.aC.length):(FI x k i).length=x.aC.length:=by
 have h1:=sZ h (k:=k) aJ;have h2:=sZ h (k:=k+1) aJ;unfold FI;rw[sO _ _ _ aJ aJ,h1]
theorem Za(h:okW x=true)(hk:k<x.ah.length)(hi:i<x.aC.length):(FI x k i).getD i (aO .cH)=(FH x k).getD i (aO .cH):=by
 have h2:=sZ h (k:=k+1) aJ;exact sM _ _ _ _ aJ
theorem TG(h:okW x=true)(hk:k<x.ah.length)(hi:i<x.aC.length):(FI x k i).set i (rcv ((FI x k i).getD i (aO .cH)) (k:Int) ((gU x (k:Int)).getD i (aO .DB)))=FI x k (i+1):=by
 have h1:=sZ h (k:=k) aJ;have h2:=sZ h (k:=k+1) aJ;rw[Za h hk hi];exact Dr _ _ _ (aO .cH) _ aJ aJ (Y8 h hk hi)
theorem Zb(h:okW x=true)(hk:k<x.ah.length)(hi:x.aC.length≤i):FI x k i=FH x (k+1):=by
 have h1:=sZ h (k:=k) aJ;have h2:=sZ h (k:=k+1) aJ;unfold FI;rw[aD aJ,jT aJ,cW]
theorem Zc(h:okW x=true)(hk:k<x.ah.length)(hi:i<x.aC.length):below ((FI x k i).getD i (aO .cH)) (k:Int)∧xQ ((FI x k i).getD i (aO .cH))∧gb aN ((gU x (k:Int)).getD i (aO .DB)).rows≤1048576:=by
 rw[Za h hk hi];have c:=col h k aJ;have hl:(gU x (k:Int)).length=x.aC.length:=oY h aJ;exact⟨c.bel _ (getD_in _ (by rw[c.len];exact hi)),c.sml _ (getD_in _ (by rw[c.len];exact hi)),jB (G3 h _ (getD_in _ aJ))⟩
def cF(x:dF):List cH:=if okW x then FH x x.ah.length else []
def mV(x:dF):List kj:=if okW x then Ql x x.ah.length else []
end
section
variable{x:dF}{c f:kf}{n:Nat}{r:bn}
theorem amq(h:jA x≤1048576)(k:Nat)(hk:k<x.aH.rounds.length):gb aN (x.aH.rounds.getD k (aO .bn)).db.rows≤1048576:=by
 have h2:iS x.aH≤1048576:=by unfold jA at h;omega
 unfold iS at h2;have h3:=pO h2 (GV _ k (aO .bn) hk);unfold jo VB at h3;exact h3
theorem IZ(h:jA x≤1048576){k:Nat}(hk:k<x.ah.length):cE (x.ah.getD k (aO .bR))≤1048576:=by
 have h2:gb cE x.ah≤1048576:=by unfold jA at h;omega
 exact pO h2 (GV _ k (aO .bR) hk)
theorem I0{d:bR}(h:cE d≤1048576):gb aN d.live.aT≤1048576∧gb aN d.live.inbox≤1048576∧gb aN d.saved.aT≤1048576∧gb aN d.saved.inbox≤1048576:=by
 unfold cE eO at h;omega
theorem Ze(h:jA x≤1048576){k:Nat}(hk:k<x.ah.length):(x.ah.getD k (aO .bR)).live.inbox.length≤1048576:=fT (I0 (IZ h hk)).2.1
theorem Qp(h:r.round<f.next∨c.aT.length≤n):zZ x c f n r=n:=if_pos h
theorem TI(h: ¬(r.round<f.next∨c.aT.length≤n))(h2:(B2 r.db (jK c.key r.round (fK c) x.rows)&&(rowAt r.db (jK c.key r.round (fK c) x.rows)==rQ c n))=true):zZ x c f n r=n+1:=by
 unfold zZ;rw[if_neg h,if_pos h2]
theorem Qq(h: ¬(r.round<f.next∨c.aT.length≤n))(h2:(B2 r.db (jK c.key r.round (fK c) x.rows)&&(rowAt r.db (jK c.key r.round (fK c) x.rows)==rQ c n))=false):zZ x c f n r=n:=by
 unfold zZ;rw[if_neg h,if_neg (by rw[h2];decide)]
end
section
variable(l:List bn)(x:dF)
def nH(f:Int):List Int:=(l.filter fun r=>decide (f≤r.round)).map bn.round
theorem Qr(f:Int)(k:Nat)(h:k<l.length)(h2:f≤(l.getD k (aO .bn)).round):nH (l.take (k+1)) f=nH (l.take k) f++ [(l.getD k (aO .bn)).round]:=by
 unfold nH;rw[cD l k (aO .bn) h,s8,gj];generalize l.getD k (aO .bn)=r at h2 ⊢;simp[Nw,h2]
theorem MN(f:Int)(k:Nat)(h:k<l.length)(h2: ¬f≤(l.getD k (aO .bn)).round):nH (l.take (k+1)) f=nH (l.take k) f:=by
 unfold nH;rw[cD l k (aO .bn) h,s8,gj];generalize l.getD k (aO .bn)=r at h2 ⊢;simp[Nw,h2]
theorem G6(f:Int):(nH l f).length≤l.length:=by
 unfold nH;rw[bt];exact List.length_filter_le _ _
theorem MP(f:Int)(k:Nat):(nH (l.take k) f).length≤k:=by
 have h1:=G6 (l.take k) f;rw[ct]at h1;omega
def CY(d:bR):Bool:= !(decide ((5:Int)<(nH x.aH.rounds d.saved.next).length)|| (decide ((8:Int)≤x.aH.rounds.length)&&decide (d.saved.next<(x.aH.rounds.getD 0 (aO .bn)).round)))
def xV:Bool:=x.ah.all (CY x)
def MQ(i:Int):Bool:=jW x i&&GC (x.ah.getD i.toNat (aO .bR)).live.inbox (x.ah.getD (i.toNat^^^1) (aO .bR)).live.aT
theorem VN{x:dF}{i:Int}(hd:x.ah.length≤1048576)(h:jW x i=true):(0≤i∧i<(x.ah.length:Int))∧(0≤af.wrap (aF af.bits i^^^aF af.bits 1).toNat∧af.wrap (aF af.bits i^^^aF af.bits 1).toNat<(x.ah.length:Int))∧
  (af.wrap (aF af.bits i^^^aF af.bits 1).toNat).toNat=i.toNat^^^1:=by
 obtain⟨h0,h1,h2,h3⟩:=Vy h;have hx:=Nt i.toNat aJ;rw[←h3]at hx;rw[hx];exact⟨aJ,aJ,by simp⟩
theorem Zf{x:dF}{i:Int}(hd:x.ah.length≤1048576):(jW x i&&GC (x.ah.getD i.toNat (aO .bR)).live.inbox (x.ah.getD (af.wrap (aF af.bits i^^^aF af.bits 1).toNat).toNat (aO .bR)).live.aT)=MQ x i:=by
 unfold MQ;cases h:jW x i with
 |false=>rfl
 |true=>rw[(VN hd h).2.2]
def auP(k:Nat):Bool:=MQ x (k:Int)&&sQ x (k:Int)
def wD:Bool:=okW x&&xV x&&(bK x.ah.length).all (auP x)
end
section
variable(l rows:List (List UInt8)){r:Int}{k:Nat}{v:List Int}(d:bR)(x:dF)(c:kf)
def RN(key c:Int)(cell:List UInt8):List UInt8:=decr (sr key c) (cell.take 20)
def SR(key c:Int)(cell:List UInt8):Bool:=jZ key&&inr c 0 1000000000000&&decide ((cell.length:Int)=24)&&(cell.drop 20==four (ql key c (cell.take 20)))
def opB(key c:Int)(cell:List UInt8):Bool:=inr ((RN key c cell).getD 0 (aO .u8)).toNat 0 3&&decide ((((RN key c cell).getD 1 (aO .u8)).toNat:Int)≤14)
def vV(key c:Int)(cell:List UInt8):Bool:=SR key c cell&&opB key c cell
def opP(key c:Int)(cell:List UInt8):Plain:=if vV key c cell then⟨((RN key c cell).getD 0 (aO .u8)).toNat,((RN key c cell).take (2+((RN key c cell).getD 1 (aO .u8)).toNat)).drop 2⟩else⟨0,[]⟩
theorem VO{key c:Int}{cell:List UInt8}(h:SR key c cell=true):(RN key c cell).length=20∧cell.length=24:=by
 simp only[SR,an,decide_eq_true_eq]at h;have:cell.length=24:=by omega
 refine⟨?_,this⟩;unfold RN;rw[vl,ct];omega
theorem vW{key c:Int}{cell:List UInt8}(h:vV key c cell=false):opP key c cell=⟨0,[]⟩:=by rw[opP,h];rfl
theorem amr(key c:Int)(cell:List UInt8):(opP key c cell).body.length≤14:=by
 unfold opP;split
 ·rename_i h;simp only[vV,opB,an,decide_eq_true_eq]at h;simp only[cV,ct];omega
 ·exact aY _
theorem ams(a b c d:UInt8)(n:Int)(h0:0≤n)(h1:n<4294967296):([a,b,c,d]==four n)=decide ((a.toNat:Int)+256*b.toNat+65536*c.toNat+16777216*d.toNat=n):=by
 have ha:=a.toNat_lt;have hb:=b.toNat_lt;have hc:=c.toNat_lt;have hd:=d.toNat_lt;rw[DC,beq_iff_eq,decide_eq_true_eq];have key: ∀(x:UInt8) (m:Int),x=b8 m↔(x.toNat:Int)=m % 256:=by
  intro x m;constructor
  ·rintro rfl;exact vg m
  ·intro h;apply Vr;rw[vg];exact h
 unfold four;simp only[List.cons.injEq,and_true,key];constructor
 ·rintro⟨q1,q2,q3,q4⟩;omega
 ·intro h;omega
def Xh(r:Int)(a:bn):Bool:=a.round==r
def nk(l:List bn)(r:Int):Bool:=l.any (Xh r)
def l5(l:List bn)(r:Int):DB:=if nk l r then(l.getD (fidx (Xh r) l).toNat (aO .bn)).db else⟨[]⟩
theorem amt{l:List bn}(h:k<l.length)(h1:(l.take k).any (Xh r)=false)(h2:Xh r (l.getD k (aO .bn))=true):nk l r=true∧l5 l r=(l.getD k (aO .bn)).db:=by
 have ha:nk l r=true:=IC l (Xh r) (aO .bn) k h h2;exact⟨ha,by rw[l5,if_pos ha,Dz (aO .bn) h h1 h2];rfl⟩
theorem N7{l:List bn}(h:l.any (Xh r)=false):nk l r=false∧l5 l r=⟨[]⟩:=⟨h,by rw[l5,nk,h];rfl⟩
def asR(v:List Int)(o:List UInt8)(k:Nat):List UInt8:=if decide ((k:Int)<v.length)&&(v.getD k (aO .int)==1)then iA o (rows.getD k (aO (.sl .u8)))else o
def Ag(v:List Int)(k:Nat):List UInt8:=(bK k).foldl (asR rows v) []
def G7(v:List Int):List UInt8:=Ag rows v rows.length
theorem TJ(v:List Int)(k:Nat):Ag rows v (k+1)=asR rows v (Ag rows v k) k:=by
 unfold Ag;rw[gl,fQ];rfl
theorem DT{rows:List (List UInt8)}(h:k<v.length)(h1:v.getD k (aO .int)=1):Ag rows v (k+1)=iA (Ag rows v k) (rows.getD k (aO (.sl .u8))):=by
 rw[TJ,asR,if_pos];simp only[an,decide_eq_true_eq,beq_iff_eq];exact⟨aJ,h1⟩
theorem xh{rows:List (List UInt8)}(h: ¬(k<v.length∧v.getD k (aO .int)=1)):Ag rows v (k+1)=Ag rows v k:=by
 rw[TJ,asR,if_neg];simp only[an,decide_eq_true_eq,beq_iff_eq];intro h2;exact h ⟨aJ,h2.2⟩
theorem TL(rows:List (List UInt8))(v:List Int)(k:Nat)(h:v.length≤k): ∀n,Ag rows v (k+n)=Ag rows v k
 |0=>rfl
 |n+1=>by rw[←Nat.add_assoc,xh aJ];exact TL rows v k h n
theorem Zg{rows:List (List UInt8)}(hk:k≤rows.length)(h:rows.length≤k∨v.length≤k):Ag rows v k=G7 rows v:=by
 unfold G7;rcases h with h|h
 ·rw[show k=rows.length by omega]
 ·have:=TL rows v k h (rows.length-k);rw[show k+(rows.length-k)=rows.length by omega]at this;exact this.symm
theorem DU{rows:List (List UInt8)}(v:List Int)(h: ∀r,r∈rows→r.length≤1048576): ∀k,k≤rows.length→(Ag rows v k).length≤1048576
 |0,_=>aY _
 |k+1,hk=>by
  have ih:=DU v h k aJ;by_cases hh:k<v.length∧v.getD k (aO .int)=1
  ·rw[DT hh.1 hh.2,jg];have:=h _ (getD_in (aO (.sl .u8)) (show k<rows.length by omega));omega
  ·rw[xh hh];exact ih
def kP(d:DB)(v:List Int):List UInt8:=if fZ d&&gW v d.rows.length then iA VD (G7 d.rows v)else []
theorem DV(d:DB)(v:List Int):(kP d v).length=24∨kP d v= []:=by
 unfold kP;split
 ·left;rename_i h;simp only[an]at h;have key: ∀k,k≤d.rows.length→(Ag d.rows v k).length≤24:=by
   intro k;induction k with
   |zero=>intro _;exact aY _
   |succ k ih=>
    intro hk;by_cases hh:k<v.length∧v.getD k (aO .int)=1
    ·rw[DT hh.1 hh.2,jg,uM h.1 k aJ];have:=ih aJ;omega
    ·rw[xh hh];exact ih aJ
  have:=key d.rows.length (aS _);unfold G7;rw[jg,sV];omega
 ·right;rfl
def Qs(key sv r:Int)(v:List Int)(b:List UInt8):Int:=kh key ([191,sv,r,(v.length:Int)]++v++RM b)
def mkA(key sv r:Int)(v:List Int)(b:List UInt8):gw:=⟨sv,r,v,b,Qs key sv r v b⟩
def su(d:DB)(v:List Int):Bool:= !((kP d v).length==0)
def noA:gw:=⟨0,0,[],[],0⟩
def yA(key sv r:Int)(d:DB)(v:List Int):gw:=if su d v then mkA key sv r v (kP d v)else noA
def UA(b:List UInt8):List UInt8:=b.set 0 (b.getD 0 (aO .u8)^^^128)
def Xi(s:cH)(key r:Int)(d:DB)(v:List Int):gw:=if su d v then(if s.behavior=3 then mkA key s.id r v (UA (kP d v))else mkA key s.id r v (kP d v))else noA
theorem amu(s:cH)(key r:Int)(d:DB)(v:List Int):(Xi s key r d v).data.length=24∨(su d v=false∧(Xi s key r d v).data= []):=by
 unfold Xi;cases h:su d v with
 |false=>right;exact⟨rfl,rfl⟩
 |true=>
  left;have h1:=DV d v;have h2:(kP d v).length=24:=by
   rcases h1 with h1|h1
   ·exact h1
   ·rw[su,h1]at h;cases h
  simp only[if_true];split
  ·show(UA (kP d v)).length=24
   unfold UA;rw[bX];exact h2
  ·exact h2
def nq:Bool:=dR l.length&&l.all fun a=>decide ((a.length:Int)=24)
def DW:List UInt8:=l.foldl iA []
def cmb:List UInt8:=if nq l then DW l else []
theorem Lr(k:Nat)(h:k<l.length):DW (l.take (k+1))=iA (DW (l.take k)) (l.getD k (aO (.sl .u8))):=by
 unfold DW;rw[cD l k (aO (.sl .u8)) h,fQ];rfl
theorem Qt{l:List (List UInt8)}(h: ∀a,a∈l→a.length≤1048576): ∀k,(DW (l.take k)).length≤1048576:=by
 intro k;induction k with
 |zero=>exact aY _
 |succ k ih=>
  by_cases hk:k<l.length
  ·rw[Lr l k hk,jg];have:=h _ (getD_in (aO (.sl .u8)) hk);omega
  ·rw[aD aJ]at ih ⊢;exact ih
def amv(r:Int)(d:DB)(q:List (List Int))(i:Nat):gw:=Xi (x.aC.getD i (aO .cH)) (oo x.bW (i:Int)) r d (q.getD i (aO (.sl .int)))
def B6(r:Int)(d:DB)(q:List (List Int))(n:Nat):List gw:=(bK n).map (amv x r d q)
theorem Qu(r:Int)(d:DB)(q:List (List Int))(n:Nat):B6 x r d q (n+1)=B6 x r d q n++ [amv x r d q n]:=by
 unfold B6;rw[gl,gj];rfl
theorem TM(r:Int)(d:DB)(q:List (List Int))(n:Nat):(B6 x r d q n).length=n:=by simp[B6]
def query'(r row s:Int):List (List Int):=qd x.rows row (mI x.aC.length r row s)
def yR(r row s:Int):List (List UInt8):=(B6 x r (l5 x.aH.rounds r) (query' x r row s) (query' x r row s).length).map gw.data
def Ah(r row s:Int):Bool:=nk x.aH.rounds r&&nq (yR x r row s)
def FJ(r row s:Int):List UInt8:=if nk x.aH.rounds r then cmb (yR x r row s)else []
theorem amw{x:dF}{row s:Int}(hk:k<(query' x r row s).length)(h:su (l5 x.aH.rounds r) ((query' x r row s).getD k (aO (.sl .int)))=false):nq (yR x r row s)=false:=by
 unfold nq;have h1:(amv x r (l5 x.aH.rounds r) (query' x r row s) k).data∈yR x r row s:=by
  unfold yR B6;rw[jM];exact bQ.2 ⟨k,cS.2 hk,rfl⟩
 have h2:(amv x r (l5 x.aH.rounds r) (query' x r row s) k).data= []:=by
  rcases amu (x.aC.getD k (aO .cH)) (oo x.bW (k:Int)) r (l5 x.aH.rounds r) ((query' x r row s).getD k (aO (.sl .int)))with h3|h3
  ·unfold amv;unfold Xi;rw[h];rfl
  ·exact h3.2
 have h3:((yR x r row s).all fun a=>decide ((a.length:Int)=24))=false:=by
  rw[uf];exact⟨_,h1,by rw[h2];decide⟩
 rw[h3,ke]
def Gz(r:Int):Bool:=iJ c&&inr r c.next 99999
def HU(own:List UInt8):Bool:=decide (c.sent<(c.aT.length:Int))&&(own==rQ c c.sent)
def DX:Int:=rB c.key (1-fK c)
def tM(other:List UInt8):Bool:=(vV (DX c) (c.inbox.length:Int) other&&((opP (DX c) (c.inbox.length:Int) other).kind==1))&&decide ((c.inbox.length:Int)<16)
def lO(r:Int)(own other:List UInt8):kf:=if Gz c r then⟨c.id,c.gJ,c.key,c.seed,c.aT,if HU c own then c.sent+1 else c.sent,if tM c other then c.inbox++ [(opP (DX c) (c.inbox.length:Int) other).body]else c.inbox,r+1⟩else c
def HX:Bool:=gx d&&decide (4≤af.wrap (d.live.next-d.saved.next))
def Kr(r:Int):Bool:=Gz d.live r&&gx d
def vp(r:Int)(own other:List UInt8):bR:=⟨lO d.live r own other,d.saved⟩
def rdev(r:Int)(own other:List UInt8):bR:=if Kr d r then(if HX (vp d r own other)then⟨lO d.live r own other,lO d.live r own other⟩else vp d r own other)else d
def B7(a b:kf):Prop:=a.id=b.id∧a.gJ=b.gJ∧a.key=b.key∧a.seed=b.seed
theorem G8(r:Int)(own other:List UInt8):B7 (lO c r own other) c:=by
 unfold lO;split
 ·exact⟨rfl,rfl,rfl,rfl⟩
 ·exact⟨rfl,rfl,rfl,rfl⟩
theorem aij(r:Int)(own other:List UInt8):B7 (rdev d r own other).live d.live:=by
 unfold rdev;split
 ·split
  ·exact G8 _ _ _ _
  ·exact G8 _ _ _ _
 ·exact⟨rfl,rfl,rfl,rfl⟩
theorem acF{a b:kf}(h:B7 a b):fK a=fK b:=by unfold fK;rw[h.1,h.2.1]
def Ls(d0 d:bR)(r:Int):bR:=rdev d r (FJ x r (jK d0.live.key r (fK d0.live) x.rows) d0.live.seed) (FJ x r (jK d0.live.key r (1-fK d0.live) x.rows) d0.live.seed)
def VP(d0:bR)(l:List Int):bR:=l.foldl (Ls x d0) d0
theorem aik(d0:bR)(l:List Int)(k:Nat)(h:k<l.length):VP x d0 (l.take (k+1))=Ls x d0 (VP x d0 (l.take k)) (l.getD k (aO .int)):=by
 unfold VP;rw[cD l k (aO .int) h,fQ];rfl
theorem Lt(x:dF)(d0:bR): ∀(l:List Int) (d:bR),B7 d.live d0.live→B7 (l.foldl (Ls x d0) d).live d0.live
 | [],_,h=>h
 |r::l,d,h=>by
  refine Lt x d0 l _ ?_;have:=aij d r (FJ x r (jK d0.live.key r (fK d0.live) x.rows) d0.live.seed) (FJ x r (jK d0.live.key r (1-fK d0.live) x.rows) d0.live.seed);exact⟨this.1.trans h.1,this.2.1.trans h.2.1,this.2.2.1.trans h.2.2.1,this.2.2.2.trans h.2.2.2⟩
def Br(d:bR):List Int:=nH x.aH.rounds d.live.next
def rV(d:bR):bR:=VP x d (Br x d)
def AI(k i:Nat):List bR:=(x.ah.map (rV x)).take k++(VP x (x.ah.getD k (aO .bR)) ((Br x (x.ah.getD k (aO .bR))).take i)::x.ah.drop (k+1))
def rdK(k:Nat):List bR:=(x.ah.map (rV x)).take k++x.ah.drop k
theorem amx(k:Nat)(h:k<x.ah.length):AI x k 0=rdK x k:=by
 unfold AI rdK;rw[jv,gP h,show x.ah[k]=x.ah.getD k (aO .bR)by rw[aq,az h];rfl];rfl
theorem I3(k:Nat)(h:k<x.ah.length):((x.ah.map (rV x)).take k).length=k:=by
 rw[ct,bt];omega
theorem ae2(k i:Nat)(h:k<x.ah.length):(AI x k i).length=x.ah.length:=by
 unfold AI;rw[aQ,I3 x k h,bp,cV];omega
theorem N8(k i:Nat)(h:k<x.ah.length):(AI x k i).getD k (aO .bR)=VP x (x.ah.getD k (aO .bR)) ((Br x (x.ah.getD k (aO .bR))).take i):=by
 unfold AI;rw[aq,dm (by rw[I3 x k h];omega),I3 x k h,vi];rfl
theorem Zh(k i:Nat)(h:k<x.ah.length)(hi:i<(Br x (x.ah.getD k (aO .bR))).length):(AI x k i).set k (Ls x (x.ah.getD k (aO .bR)) ((AI x k i).getD k (aO .bR)) ((Br x (x.ah.getD k (aO .bR))).getD i (aO .int)))=AI x k (i+1):=by
 rw[N8 x k i h, ←aik x _ _ i hi];unfold AI;rw[Ds _ _ (by rw[I3 x k h];omega),I3 x k h,vi];rfl
theorem ae3(k i:Nat)(h:k<x.ah.length)(hi:(Br x (x.ah.getD k (aO .bR))).length≤i):AI x k i=rdK x (k+1):=by
 unfold AI rdK;rw[aD hi,cD (x.ah.map (rV x)) k (aO .bR) aq5,bU];congr 1;rw[show(x.ah.map (rV x)).getD k (aO .bR)=rV x (x.ah.getD k (aO .bR))by
  rw[aq,aq,ec,az h];rfl]
 rfl
theorem ae4(k:Nat)(h:k<x.ah.length):(rdK x k).getD k (aO .bR)=x.ah.getD k (aO .bR):=by rw[←amx x k h,N8 x k 0 h];rfl
theorem ae5(k:Nat)(h:k≤x.ah.length):(rdK x k).length=x.ah.length:=by
 unfold rdK;rw[sO _ _ _ (by rw[bt]) h]
def MR:dF:=if okW x then⟨x.rows,x.aC,x.ah.map (rV x),x.aH,x.bW,x.seed,x.round,x.replaced,x.cancelled⟩else x
theorem arj(k:Nat)(hk:k≤x.ah.length)(h:x.ah.length≤k):rdK x k=x.ah.map (rV x):=by
 unfold rdK;rw[aD aq5,jT h,cW]
end
section
variable{key c r:Int}{cell:List UInt8}{d:DB}{v:List Int}{l:List (List UInt8)}{x:dF}
theorem u8i(x:UInt8):af.wrap (x.toNat:Int)=x.toNat:=cY (by have:=x.toNat_lt;omega)
def opk(key c:Int)(cell:List UInt8):Int:=((RN key c cell).getD 0 (aO .u8)).toNat
def N9(key c:Int)(cell:List UInt8):Nat:=((RN key c cell).getD 1 (aO .u8)).toNat
def opb(key c:Int)(cell:List UInt8):List UInt8:=((RN key c cell).take (2+N9 key c cell)).drop 2
theorem ayR(key c:Int)(cell:List UInt8):N9 key c cell<256:=((RN key c cell).getD 1 (aO .u8)).toNat_lt
theorem amy(key c:Int)(cell:List UInt8):decr (sr key c) ((cell.take (20:Int).toNat).drop (0:Int).toNat)=RN key c cell:=by unfold RN;simp
theorem acG(key c:Int)(cell:List UInt8):((RN key c cell).take (af.wrap (2+af.wrap (((RN key c cell).getD (cX 1) (aO .u8)).toNat:Int))).toNat).drop (cX 2)=opb key c cell:=by
 have h:=ayR key c cell;rw[u8i,cY (by show _∧2+(N9 key c cell:Int)≤_;show _≤2+(N9 key c cell:Int)∧_;omega)];show((RN key c cell).take (2+(N9 key c cell:Int)).toNat).drop 2=_
 rw[show(2+(N9 key c cell:Int)).toNat=2+N9 key c cell by omega];rfl
theorem avP(h:14<N9 key c cell):vV key c cell=false:=by
 have:opB key c cell=false:=by
  simp only[opB,o8,decide_eq_false_iff_not];right;show¬((N9 key c cell:Int)≤14)
  omega
 rw[vV,this,ke]
theorem acH(h:SR key c cell=false):vV key c cell=false:=by rw[vV,h];rfl
theorem VQ(hA:SR key c cell=true)(h:N9 key c cell≤14):(opb key c cell).length=N9 key c cell:=by
 have:=(VO hA).1;unfold opb;rw[cV,ct];omega
theorem aDT(hA:SR key c cell=true)(h:N9 key c cell≤14):pV ⟨opk key c cell,opb key c cell⟩=vV key c cell:=by
 have hl:=VQ hA h;rw[vV,hA,dj,pV,opB];show(inr (opk key c cell) 0 3&&decide (((opb key c cell).length:Int)≤14))=(inr (opk key c cell) 0 3&&decide ((N9 key c cell:Int)≤14))
 rw[hl]
theorem I4(h:vV key c cell=true):opP key c cell=⟨opk key c cell,opb key c cell⟩:=by rw[opP,if_pos h];rfl
theorem aDU(hA:SR key c cell=true)(h:N9 key c cell≤14)(hk:opk key c cell≤3):vV key c cell=true:=by
 rw[vV,hA,dj,opB];simp only[an,dK,decide_eq_true_eq];exact⟨⟨aJ,hk⟩,by show(N9 key c cell:Int)≤14;omega⟩
theorem ayS(h:3<opk key c cell):vV key c cell=false:=by
 have:opB key c cell=false:=by
  simp only[opB,o8];left;rw[avC];show¬(0≤opk key c cell∧opk key c cell≤3)
  omega
 rw[vV,this,ke]
theorem ayT(a b k:Nat)(h:a<2^k):a||| (b*2^k)=a+b*2^k:=by
 have:=Nat.two_pow_add_eq_or_of_lt h b;rw[kg b,Nat.or_comm, ←this,o9]
theorem ayV{a:Nat}{b k:Nat}(ha:a<2^k)(hb:b<256)(hk:k=8∨k=16∨k=24):af.wrap (aF af.bits (a:Int)|||aF af.bits (af.wrap ((b:Int)*2^k))).toNat=((a+b*2^k:Nat):Int):=by
 have hp:b*2^k<2^32:=by
  rcases hk with rfl|rfl|rfl<;>omega
 have ha2:a<2^24:=by
  rcases hk with rfl|rfl|rfl<;>omega
 have e:((b:Int)*2^k)=((b*2^k:Nat):Int):=by push_cast;rfl
 rw[e,cY (a:=((b*2^k:Nat):Int)) aJ,kQ,kQ,BitVec.toNat_or,mm,mm];show af.wrap (((a % 2^64|||b*2^k % 2^64:Nat)):Int)=_
 rw[gK aJ,gK aJ,ayT a b k ha,cY aJ]
def aim(cell:List UInt8):Int:=((cell.getD 20 (aO .u8)).toNat:Int)+256*(cell.getD 21 (aO .u8)).toNat+65536*(cell.getD 22 (aO .u8)).toNat+16777216*(cell.getD 23 (aO .u8)).toNat
theorem asS(cell:List UInt8):af.wrap (aF af.bits (af.wrap (aF af.bits (af.wrap (aF af.bits (af.wrap ((cell.getD (cX 20) (aO .u8)).toNat:Int))|||aF af.bits (af.wrap (af.wrap ((cell.getD (cX 21) (aO .u8)).toNat:Int)*2^(min (cX 8) af.bits)))).toNat)|||aF af.bits (af.wrap (af.wrap ((cell.getD (cX 22) (aO .u8)).toNat:Int)*2^(min (cX 16) af.bits)))).toNat)|||aF af.bits (af.wrap (af.wrap ((cell.getD (cX 23) (aO .u8)).toNat:Int)*2^(min (cX 24) af.bits)))).toNat=aim cell:=by
 have h0:=(cell.getD 20 (aO .u8)).toNat_lt;have h1:=(cell.getD 21 (aO .u8)).toNat_lt;have h2:=(cell.getD 22 (aO .u8)).toNat_lt;have h3:=(cell.getD 23 (aO .u8)).toNat_lt;rw[u8i,u8i,u8i,u8i];show af.wrap (aF af.bits (af.wrap (aF af.bits (af.wrap (aF af.bits (((cell.getD 20 (aO .u8)).toNat:Nat):Int)|||aF af.bits (af.wrap ((((cell.getD 21 (aO .u8)).toNat:Nat):Int)*2^8))).toNat)|||aF af.bits (af.wrap ((((cell.getD 22 (aO .u8)).toNat:Nat):Int)*2^16))).toNat)|||aF af.bits (af.wrap ((((cell.getD 23 (aO .u8)).toNat:Nat):Int)*2^24))).toNat=_
 rw[ayV (k:=8) h0 h1 aJ,ayV (k:=16) aJ h2 aJ,ayV (k:=24) aJ h3 aJ];unfold aim;omega
theorem amA(h:cell.length=24):cell.drop 20= [cell.getD 20 (aO .u8),cell.getD 21 (aO .u8),cell.getD 22 (aO .u8),cell.getD 23 (aO .u8)]:=by
 rw[getD_drop cell 20 (aO .u8) aJ,getD_drop cell 21 (aO .u8) aJ,getD_drop cell 22 (aO .u8) aJ,getD_drop cell 23 (aO .u8) aJ,jT aJ]
theorem ae6(h1:jZ key=true)(h2:inr c 0 1000000000000=true)(h3:cell.length=24):SR key c cell=decide (aim cell=ql key c (cell.take 20)):=by
 have hr:=iQ key (71::c::(cell.take 20).map (fun x=>(x.toNat:Int)));have hr2:0≤ql key c (cell.take 20)∧ql key c (cell.take 20)<2147483647:=hr;rw[SR,h1,h2,show decide ((cell.length:Int)=24)=true by rw[decide_eq_true_eq];omega,dj,dj,dj,amA h3,ams _ _ _ _ _ hr2.1 aJ];rfl
def opH(key c:Int)(cell:List UInt8):Bool:=jZ key&&inr c 0 1000000000000&&decide ((cell.length:Int)=24)
theorem ayW(h:opH key c cell=false):vV key c cell=false:=by
 apply acH;unfold opH at h;rw[SR,h];rfl
theorem aDV(h:opH key c cell=true):jZ key=true∧inr c 0 1000000000000=true∧cell.length=24:=by
 simp only[opH,an,decide_eq_true_eq]at h;exact⟨h.1.1,h.1.2,aJ⟩
theorem amB(l:List UInt8):l.set (cX 0) (cN (cJ.wrap ((aF cJ.bits (((l.getD (cX 0) (aO .u8)).toNat:Nat):Int)^^^aF cJ.bits 128).toNat:Int)).toNat)=UA l:=by
 have:=alZ (l.getD (cX 0) (aO .u8)) 128;rw[show(((128:UInt8).toNat:Nat):Int)=128 from rfl]at this;rw[this];rfl
theorem ae7(h:(kP d v).length=0):su d v=false:=by rw[su,h];rfl
theorem I5(h: ¬(kP d v).length=0):su d v=true:=by
 rw[su,bO];exact beq_eq_false_iff_ne.2 h
theorem amC{sv:Int}(h:su d v=false):yA key sv r d v=noA:=by rw[yA,h];rfl
theorem Oa{sv:Int}(h:su d v=true):yA key sv r d v=mkA key sv r v (kP d v):=by rw[yA,if_pos h]
theorem Fl(h:su d v=true):(kP d v).length=24:=by
 rcases DV d v with h1|h1
 ·exact h1
 ·rw[su,h1]at h;cases h
theorem amD{s:cH}(h:(su d v&&(s.behavior==3))=false):Xi s key r d v=yA key s.id r d v:=by
 unfold Xi yA;cases hk:su d v with
 |false=>rfl
 |true=>
  rw[hk,dj,beq_eq_false_iff_ne]at h;rw[if_pos rfl,if_pos rfl,if_neg h]
theorem ae8{s:cH}(h:(su d v&&(s.behavior==3))=true):su d v=true∧Xi s key r d v=mkA key s.id r v (UA (kP d v)):=by
 rw[an,beq_iff_eq]at h;exact⟨h.1,by rw[Xi,if_pos h.1,if_pos h.2]⟩
theorem adP(b:List UInt8):(UA b).length=b.length:=by unfold UA;rw[bX]
theorem avQ(s:cH)(key r:Int)(d:DB)(hv:v.length≤262144):(Xi s key r d v).selection.length≤262144∧(Xi s key r d v).data.length≤262144:=by
 have h:=DV d v;have h2:(kP d v).length≤262144:=by
  rcases h with h|h
  ·omega
  ·rw[h];exact aY _
 unfold Xi;split
 ·split
  ·exact⟨hv,by show(UA (kP d v)).length≤_;rw[adP];exact h2⟩
  ·exact⟨hv,h2⟩
 ·exact⟨aY _,aY _⟩
theorem Ob(h:nq l=true):cmb l=DW l:=by rw[cmb,if_pos h]
theorem I6(h:nq l=false):cmb l= []:=by rw[cmb,h];rfl
theorem Qw(h:nq l=true): ∀a,a∈l→a.length≤1048576:=by
 intro a ha;simp only[nq,an,bE,decide_eq_true_eq]at h;have:=h.2 a ha;omega
theorem asT{k:Nat}(hk:k<l.length)(h: ¬(l.getD k (aO (.sl .u8))).length=24):nq l=false:=by
 have h2:(l.all fun a=>decide ((a.length:Int)=24))=false:=PI _ _ (aO (.sl .u8)) k hk (by rw[decide_eq_false_iff_not];omega);rw[nq,h2,ke]
theorem amE(rows i:Int)(sd:List Int): ∀v,v∈qd rows i sd→v.length≤64:=by
 intro v hv;unfold qd at hv;split at hv
 ·rcases bg.1 hv with h|h
  ·obtain⟨s,_,rfl⟩:=bQ.1 h;exact oV _ _
  ·rw[aV.1 h];exact K9 rows i sd
 ·cases hv
theorem amF(rows i:Int)(sd:List Int):(qd rows i sd).length≤sd.length+1:=by
 unfold qd;split
 ·rw[aQ,bt];simp
 ·exact aY _
theorem ae9(r row s:Int)(h:okW x=true):(query' x r row s).length≤x.aC.length:=by
 have h1:=amF x.rows row (mI x.aC.length r row s);have h2:=uo x.aC.length r row s;have h3:=(iY h).2;unfold query';omega
theorem amG(x:dF)(r row s:Int)(k:Nat):((query' x r row s).getD k (aO (.sl .int))).length≤64:=by
 rw[aq];cases hq:(query' x r row s)[k]? with
 |none=>exact aY _
 |some v=>exact amE _ _ _ v (eT hq)
theorem Qx{row s:Int}(h:nk x.aH.rounds r=false):FJ x r row s= []∧Ah x r row s=false:=⟨by rw[FJ,h];rfl,by rw[Ah,h];rfl⟩
theorem VR{row s:Int}(h:nk x.aH.rounds r=true):FJ x r row s=cmb (yR x r row s)∧Ah x r row s=nq (yR x r row s):=⟨by rw[FJ,if_pos h],by rw[Ah,h,dj]⟩
theorem VS(h:okW x=true):x.aH.rounds.length≤8∧ ∀y,y∈x.aH.rounds→gb aN y.db.rows≤1048576:=by
 have ha:=uk h;simp only[XF,an]at ha;have ha:lU x.aH=true:=ha.1.1.1.1.1.2;simp only[lU,SS,an,bE,cS,decide_eq_true_eq]at ha;refine⟨aJ,fun y hy=> ?_⟩;obtain⟨i,hi,rfl⟩:=fL.1 hy;have h2:=ha.2 i hi;have e:x.aH.rounds.getD i (aO .bn)=x.aH.rounds[i]:=by rw[aq,az hi];rfl
 simp only[Cj,e,an]at h2;exact jB h2.1.2
end
section
variable(rows m:Int){s:cH}{key:Int}{l:List kj}{k:Nat}{pb:List DB}(sv:List cH){r:kj}
def l6(l:List bL):DB:=l.foldl (fun d r=>lM d r.share) (ir rows)
theorem TN(l:List bL)(k:Nat)(h:k<l.length):l6 rows (l.take (k+1))=lM (l6 rows (l.take k)) (l.getD k (aO .bL)).share:=by
 unfold l6;rw[cD l k (aO .bL) h,fQ];rfl
theorem Zj:fZ (ir rows)=true:=by
 rw[qF];refine⟨w9 rows,fun r hr=> ?_⟩;unfold ir at hr;dsimp only at hr;split at hr
 ·rw[(yO.1 hr).2];exact sV
 ·cases hr
theorem Bt(a b:DB):(lM a b).rows.length=a.rows.length:=by
 cases h:pL a b with
 |true=>rw[xg h];exact oW h
 |false=>rw[Ac h]
theorem Fm{a b:DB}(ha:fZ a=true):fZ (lM a b)=true:=by
 cases h:pL a b with
 |true=>exact P8 ha (Bk h).2.1
 |false=>rw[Ac h];exact ha
theorem afb(rows:Int): ∀(l:List bL) (d:DB),fZ d=true→fZ (l.foldl (fun d r=>lM d r.share) d)=true∧(l.foldl (fun d r=>lM d r.share) d).rows.length=d.rows.length
 | [],d,h=>⟨h,rfl⟩
 |r::l,d,h=>by
  have ih:=afb rows l (lM d r.share) (Fm h);rw[Bt]at ih;exact ih
theorem Lw(l:List bL):fZ (l6 rows l)=true∧(l6 rows l).rows.length=(ir rows).rows.length:=afb rows l _ (Zj rows)
theorem afc(l:List bL):gb aN (l6 rows l).rows≤1048576:=jB (Lw rows l).1
theorem afd(h:fk s=true):(1≤s.rows∧s.rows≤64)∧s.received.length≤8:=by
 simp only[fk,Gb,an,dK,decide_eq_true_eq]at h;omega
theorem I9(h:fk s=true): ∀r,r∈s.received→gb aN r.share.rows≤1048576:=by
 intro r hr;obtain⟨i,hi,rfl⟩:=fL.1 hr;simp only[fk,an,bE,cS]at h;have h2:=h.2 i hi;have e:s.received.getD i (aO .bL)=s.received[i]:=by rw[aq,az hi];rfl
 simp only[BS,e,an]at h2;exact jB h2.1.2
theorem aip(l:List bL)(f k:Nat)(h:k<l.length)(hf:f≤k):l6 rows ((l.drop f).take (k+1-f))=lM (l6 rows ((l.drop f).take (k-f))) (l.getD k (aO .bL)).share:=by
 rw[show k+1-f=(k-f)+1 by omega,TN _ _ _ ag4];congr 2;rw[aq,dc,show f+(k-f)=k by omega];rfl
theorem amL(l:List bL)(f k:Nat)(h:l.length≤k):l6 rows ((l.drop f).take (k-f))=l6 rows (l.drop f):=by
 rw[aD ag4]
def yc(s:cH):DB:=if fk s then l6 s.rows s.received else⟨[]⟩
def alt(d:DB):DB:=⟨d.rows.set 0 ((d.rows.getD 0 (aO (.sl .u8))).set 0 ((d.rows.getD 0 (aO (.sl .u8))).getD 0 (aO .u8)^^^1))⟩
def rcvd(s:cH):List bL:=if s.behavior=1 then s.received.drop 1 else s.received
def tJ(s:cH):DB:=if fk s then(if s.behavior=2 then alt (l6 s.rows (rcvd s))else l6 s.rows (rcvd s))else⟨[]⟩
theorem alt_eq(d:DB):d.rows.set (cX 0) ((d.rows.getD (cX 0) (aO (.sl .u8))).set (cX 0) (cN (cJ.wrap ((aF cJ.bits ((((d.rows.getD (cX 0) (aO (.sl .u8))).getD (cX 0) (aO .u8)).toNat:Nat):Int)^^^aF cJ.bits 1).toNat:Int)).toNat))=(alt d).rows:=by
 have:=alZ ((d.rows.getD (cX 0) (aO (.sl .u8))).getD (cX 0) (aO .u8)) 1;rw[show(((1:UInt8).toNat:Nat):Int)=1 from rfl]at this;rw[this];rfl
theorem amM(a b:Int):lW a b≤a∧lW a b≤b∧(lW a b=a∨lW a b=b):=by unfold lW;split<;>omega
theorem amN(l:List bL):l.drop (lW 1 (l.length:Int)).toNat=l.drop 1:=by
 have:=amM 1 (l.length:Int);cases l with
 |nil=>simp
 |cons x r=>
  have h1:lW 1 (((x::r).length:Nat):Int)=1:=by rw[bp]at this ⊢;omega
  rw[h1];rfl
theorem amO(h:fk s=true):0<(l6 s.rows (rcvd s)).rows.length∧0<((l6 s.rows (rcvd s)).rows.getD 0 (aO (.sl .u8))).length:=by
 have h1:=afd h;have h2:=Lw s.rows (rcvd s);have h3:(ir s.rows).rows.length=s.rows.toNat:=by rw[xe aJ];simp
 have h4:0<(l6 s.rows (rcvd s)).rows.length:=by omega
 exact⟨h4,by rw[uM h2.1 0 h4];decide⟩
theorem TO(s:cH):s.behavior=1→rcvd s=s.received.drop 1:=fun h=>if_pos h
theorem Zk(s:cH): ¬s.behavior=1→rcvd s=s.received:=fun h=>if_neg h
theorem amP{d:DB}(h:fZ d=true):fZ (alt d)=true:=by
 rw[qF]at h ⊢;refine⟨by unfold alt;dsimp only;rw[bX];exact h.1,fun r hr=> ?_⟩;unfold alt at hr;dsimp only at hr;rcases iT hr with h1|h1
 ·exact h.2 r h1
 ·subst h1;rw[bX];cases hd:d.rows with
  |nil=>rw[hd]at hr;cases hr
  |cons b l=>exact h.2 b (by rw[hd];exact bA ..)
theorem asX(s:cH):gb aN (tJ s).rows≤1048576:=by
 unfold tJ;split
 ·split
  ·exact jB (amP (Lw _ _).1)
  ·exact jB (Lw _ _).1
 ·exact by decide
theorem amQ(s:cH): ∀r,r∈rcvd s→r∈s.received:=by
 intro r hr;unfold rcvd at hr;split at hr
 ·exact gf hr
 ·exact hr
def ag9(key:Int)(r:kj):Bool:=r.mac==aih key r.server r.client r.round r.xl
def BT(key:Int)(s:cH)(r:kj):Bool:=(r.server !=s.id||r.round !=s.round)|| !ag9 key r
def XG(r:kj)(d:DB):Bool:=r.xl==Qj r.client r.round d
def pg(key:Int)(s:cH)(r:kj):Int:=if BT key s r then 0 else if tQ s.received r.client then(if XG r (G2 s.received r.client)then 0 else 2)else 1
def Nx(key:Int)(s:cH)(p:DB):List kj→Int
 | []=>if fk s&&(p.rows==(yc s).rows)then 0 else 3
 |r::l=>if pg key s r=0 then Nx key s p l else pg key s r
theorem Lx(key:Int)(s:cH)(p:DB): ∀(l:List kj) (k:Nat),(∀j,j<k→pg key s (l.getD j (aO .kj))=0)→Nx key s p (l.drop k)=Nx key s p l
 |l,0,_=>by rw[ju]
 | [],k+1,_=>by simp
 |r::l,k+1,h=>by
  have h0:=h 0 aJ;rw[lE,Lx key s p l k fun j hj=>by simpa using h (j+1) aJ];show Nx key s p l=if pg key s r=0 then Nx key s p l else pg key s r
  rw[if_pos (by simpa using h0)]
theorem Ja{p:DB}(h: ∀j,j<k→pg key s (l.getD j (aO .kj))=0)(hk:k<l.length)(hn:pg key s (l.getD k (aO .kj))≠0):Nx key s p l=pg key s (l.getD k (aO .kj)):=by
 rw[←Lx key s p l k h,gP hk,show l[k]=l.getD k (aO .kj)by rw[aq,az hk];rfl];exact if_neg hn
theorem D0{p:DB}(h: ∀j,j<k→pg key s (l.getD j (aO .kj))=0)(hk:l.length≤k):Nx key s p l=if fk s&&(p.rows==(yc s).rows)then 0 else 3:=by
 rw[←Lx key s p l k h,jT hk];rfl
theorem Bu(h: ∀j,j<k→pg key s (l.getD j (aO .kj))=0)(hk:pg key s (l.getD k (aO .kj))=0): ∀j,j<k+1→pg key s (l.getD j (aO .kj))=0:=by
 intro j hj;by_cases hjk:j=k
 ·subst hjk;exact hk
 ·exact h j aJ
def M9(sv:List cH)(pb:List DB)(rc:List kj)(i:Nat):Bool:=decide ((pb.length:Int)≤(i:Int))|| !(Nx (oo m (sv.getD i (aO .cH)).id) (sv.getD i (aO .cH)) (pb.getD i (aO .DB)) rc==0)
def asY(sv:List cH)(pb:List DB)(rc:List kj)(i:Nat):List Int:=if M9 m sv pb rc i then [(sv.getD i (aO .cH)).id]else []
def p7(sv:List cH)(pb:List DB)(rc:List kj)(n:Nat):List Int:=(bK n).flatMap (asY m sv pb rc)
theorem Qy{m:Int}{sv:List cH}{rc:List kj}{n:Nat}(h:M9 m sv pb rc n=true):p7 m sv pb rc (n+1)=p7 m sv pb rc n++ [(sv.getD n (aO .cH)).id]:=by
 unfold p7;rw[gl,fY];simp[asY,h]
theorem Ly{m:Int}{sv:List cH}{rc:List kj}{n:Nat}(h:M9 m sv pb rc n=false):p7 m sv pb rc (n+1)=p7 m sv pb rc n:=by
 unfold p7;rw[gl,fY];simp[asY,h]
theorem yd(m:Int)(sv:List cH)(pb:List DB)(rc:List kj): ∀n,(p7 m sv pb rc n).length≤n
 |0=>aS _
 |n+1=>by
  have ih:=yd m sv pb rc n;cases h:M9 m sv pb rc n with
  |true=>rw[Qy h,aQ];simp;omega
  |false=>rw[Ly h];omega
def eW:List DB:=sv.map tJ
theorem TP(k:Nat)(h:k<sv.length):(eW sv).take (k+1)=(eW sv).take k++ [tJ (sv.getD k (aO .cH))]:=by
 rw[cD (eW sv) k (aO .DB) (by unfold eW;rw[bt];exact h)];congr 2;unfold eW;rw[aq,aq,ec,az h];rfl
theorem afe: ∀d,d∈eW sv→gb aN d.rows≤1048576:=by
 intro d hd;obtain⟨s,_,rfl⟩:=bQ.1 hd;exact asX s
theorem Zl(h: ∀d,d∈pb→gb aN d.rows≤1048576)(k:Nat):gb aN (pb.getD k (aO .DB)).rows≤1048576:=by
 rw[aq];cases hq:pb[k]? with
 |none=>exact by decide
 |some d=>exact h d (eT hq)
theorem Qz{x:dF}(h:okW x=true): ∀s,s∈cF x→xQ s:=by
 rw[cF,if_pos h];exact(col h _ (aS _)).sml
theorem mu{x:dF}(h:okW x=true):(cF x).length=x.aC.length:=by
 rw[cF,if_pos h];exact sZ h (aS _)
theorem aDX(h:BT key s r=false)(h1:tQ s.received r.client=false):pg key s r=1:=by rw[pg,h,h1];rfl
theorem aDY(h:BT key s r=false)(h1:tQ s.received r.client=true)(h2:XG r (G2 s.received r.client)=false):pg key s r=2:=by rw[pg,h,h1,h2];rfl
theorem ayX(h:BT key s r=false)(h1:tQ s.received r.client=true)(h2:XG r (G2 s.received r.client)=true):pg key s r=0:=by rw[pg,h,h1,h2];rfl
theorem ayY(h:BT key s r=true):pg key s r=0:=by rw[pg,h];rfl
end
section
variable(l:List DB)(s:cH)(a:tE)(x:dF){n:Nat}
def Xj:DB→List DB→Option DB
 |a,[]=>some a
 |a,s::r=>if pL a s then Xj (lM a s) r else none
def jwR:Option DB:=if dR l.length then Xj (l.getD 0 (aO .DB)) (l.drop 1)else none
def Ny:Bool:=(jwR l).isSome
def jw:DB:=(jwR l).getD ⟨[]⟩
def Nz(k:Nat):DB:=((l.drop 1).take k).foldl lM (l.getD 0 (aO .DB))
theorem Jb(k:Nat)(h:k<(l.drop 1).length):Nz l (k+1)=lM (Nz l k) ((l.drop 1).getD k (aO .DB)):=by
 unfold Nz;rw[cD (l.drop 1) k (aO .DB) h,fQ];rfl
theorem Zm{α:Type}(l:List α)(k:Nat)(d:α)(h:k<l.length):l.drop k=l.getD k d::l.drop (k+1):=by
 rw[gP h,show l[k]=l.getD k d by rw[aq,az h];rfl]
theorem Zn(k:Nat)(h:k<(l.drop 1).length)(hx:pL (Nz l k) ((l.drop 1).getD k (aO .DB))=true):Xj (Nz l k) ((l.drop 1).drop k)=Xj (Nz l (k+1)) ((l.drop 1).drop (k+1)):=by
 rw[Zm _ k (aO .DB) h,Xj,if_pos hx,Jb l k h]
theorem amR(k:Nat)(h:k<(l.drop 1).length)(hx:pL (Nz l k) ((l.drop 1).getD k (aO .DB))=false):Xj (Nz l k) ((l.drop 1).drop k)=none:=by
 rw[Zm _ k (aO .DB) h,Xj,hx];rfl
theorem aff(k:Nat)(h:(l.drop 1).length≤k):Xj (Nz l k) ((l.drop 1).drop k)=some (Nz l k):=by
 rw[jT h];rfl
def D2:Prop:= ∀d,d∈l→fZ d=true
theorem ux{l:List DB}(h:D2 l)(k:Nat):fZ (l.getD k (aO .DB))=true:=by
 rw[aq];cases hq:l[k]? with
 |none=>exact by decide
 |some d=>exact h d (eT hq)
theorem amS{l:List DB}(h:D2 l): ∀k,fZ (Nz l k)=true:=by
 intro k;induction k with
 |zero=>exact ux h 0
 |succ k ih=>
  by_cases hk:k<(l.drop 1).length
  ·rw[Jb l k hk];exact Fm ih
  ·have e:Nz l (k+1)=Nz l k:=by unfold Nz;rw[aD aJ,aD aJ]
   rw[e];exact ih
theorem acK{l:List DB}(h:D2 l):D2 (l.drop 1):=fun d hd=>h d (gf hd)
theorem QA{l:List DB}(h:jwR l=none):jw l=⟨[]⟩∧Ny l=false:=by unfold jw Ny;rw[h];exact⟨rfl,rfl⟩
theorem VT{l:List DB}{d:DB}(h:jwR l=some d):jw l=d∧Ny l=true:=by unfold jw Ny;rw[h];exact⟨rfl,rfl⟩
theorem afg{l:List DB}(h:dR l.length=false):jwR l=none:=by rw[jwR,h];rfl
theorem afh{l:List DB}(h:dR l.length=true):jwR l=Xj (Nz l 0) ((l.drop 1).drop 0):=by rw[jwR,if_pos h];rfl
theorem QB{l:List DB}(h:dR l.length=true):2≤l.length∧l.length≤4:=by simp only[dR,dK]at h;omega
theorem asZ:fZ (tJ s)=true:=by
 unfold tJ;split
 ·split
  ·exact amP (Lw _ _).1
  ·exact(Lw _ _).1
 ·exact by decide
theorem yU(sv:List cH):D2 (eW sv):=by
 intro d hd;obtain⟨s,_,rfl⟩:=bQ.1 hd;exact asZ s
theorem TQ(h:D2 l):fZ (jw l)=true:=by
 cases hq:jwR l with
 |none=>rw[(QA hq).1];decide
 |some d=>
  rw[(VT hq).1];have key: ∀(r:List DB) (a:DB),fZ a=true→Xj a r=some d→fZ d=true:=by
   intro r;induction r with
   |nil=>intro a ha hj;simp only[Xj,oI]at hj;exact hj▸ha
   |cons s r ih=>
    intro a ha hj;simp only[Xj]at hj;split at hj
    ·exact ih _ (Fm ha) hj
    ·cases hj
  unfold jwR at hq;split at hq
  ·exact key _ _ (ux h 0) hq
  ·cases hq
def GB(r:Int)(d:DB):Bool:=(((lU a&&inr r 0 100000)&& !decide (r≤gS a))&&fZ d)&&decide ((d.rows.length:Int)=a.rows)
def Cv(r:Int)(d:DB):List bn:=a.rounds++ [⟨r,d⟩]
def Oc(r:Int)(d:DB):List bn:=if GB a r d then(if(8:Int)<(Cv a r d).length then(Cv a r d).drop 1 else Cv a r d)else a.rounds
def Xz(id rows b:Int):Bool:=inr id 0 3&&inr rows 1 64&&inr b 0 3
def newS(id rows b:Int):cH:=if Xz id rows b then⟨id,rows,0,[],b⟩else⟨0,0,0,[],0⟩
def XA:Bool:=fk s&& !(s.round==100000)
def rI:cH:=if XA s then⟨s.id,s.rows,af.wrap (s.round+1),[],s.behavior⟩else s
def D3(l:List cH)(id:Int):Bool:=inr id 0 (af.wrap ((l.length:Int)-1))
def Jc(rows rd:Int)(p:List cH×List Int)(id:Int):List cH×List Int:=if D3 p.1 id then(p.1.set id.toNat ⟨id,rows,rd,[],0⟩,p.2++ [id])else p
def NA(rows rd:Int)(p:List cH×List Int)(g:List Int):List cH×List Int:=g.foldl (Jc rows rd) p
theorem QC(rows rd:Int)(p:List cH×List Int)(g:List Int)(k:Nat)(h:k<g.length):NA rows rd p (g.take (k+1))=Jc rows rd (NA rows rd p (g.take k)) (g.getD k (aO .int)):=by
 unfold NA;rw[cD g k (aO .int) h,fQ];rfl
theorem VU(rows rd:Int)(p:List cH×List Int)(id:Int):(Jc rows rd p id).1.length=p.1.length∧(Jc rows rd p id).2.length≤p.2.length+1:=by
 unfold Jc;split
 ·simp
 ·exact⟨rfl,Nat.le_succ _⟩
theorem VW(rows rd:Int)(p:List cH×List Int)(g:List Int): ∀k,k≤g.length→(NA rows rd p (g.take k)).1.length=p.1.length∧(NA rows rd p (g.take k)).2.length≤p.2.length+k
 |0,_=>⟨rfl,aS _⟩
 |k+1,hk=>by
  have ih:=VW rows rd p g k aJ;rw[QC _ _ _ _ k aJ];have:=VU rows rd (NA rows rd p (g.take k)) (g.getD k (aO .int));omega
def QD(rd:Int)(l:List cH):Prop:= ∀s,s∈l→s.round=rd∧xQ s
theorem aDZ{rows rd:Int}{p:List cH×List Int}{id:Int}(h:QD rd p.1):QD rd (Jc rows rd p id).1:=by
 unfold Jc;split
 ·intro s hs;rcases iT hs with h1|h1
  ·exact h s h1
  ·subst h1;exact⟨rfl,aY _,fun r hr=>by cases hr⟩
 ·exact h
theorem amT{rows rd:Int}{p:List cH×List Int}(g:List Int)(h:QD rd p.1): ∀k,k≤g.length→QD rd (NA rows rd p (g.take k)).1
 |0,_=>h
 |k+1,hk=>by
  rw[QC _ _ _ _ k aJ];exact aDZ (amT g h k aJ)
theorem amU(l:List cH)(k:Nat)(h:k<l.length):((l.map rI).take k++l.drop k).set k (rI (((l.map rI).take k++l.drop k).getD k (aO .cH)))=(l.map rI).take (k+1)++l.drop (k+1):=by
 rw[sM _ _ _ _ Uy];refine Dr _ _ _ (aO .cH) _ h aq5 ?_;rw[aq,aq,ec,az h];rfl
def tD:Bool:=okW x&& !decide (x.round≥99999)
def Cc(g:List Int):List cH×List Int:=NA x.rows x.round (x.aC,x.replaced) g
def eX(g:List Int)(d:DB):dF:=if tD x then⟨x.rows,(Cc x g).1.map rI,x.ah,⟨x.aH.rows,if g.length=0 then Oc x.aH x.round d else x.aH.rounds⟩,x.bW,x.seed,af.wrap (x.round+1),(Cc x g).2,if g.length=0 then x.cancelled else af.wrap (x.cancelled+1)⟩else x
theorem avR{x:dF}(h:okW x=true):QD x.round x.aC:=by
 intro s hs;obtain⟨i,hi,rfl⟩:=fL.1 hs;have h1:=Qf h hi;have e:x.aC.getD i (aO .cH)=x.aC[i]:=by rw[aq,az hi];rfl
 have he:=Fj h _ hs;simp only[W8,e,an,beq_iff_eq]at h1;exact⟨h1.1.2,by rw[he];decide,fun r hr=>by rw[he]at hr;cases hr⟩
def aiq(key:Int)(a:gw):Bool:=a.mac==Qs key a.server a.round a.selection a.data
def fls(key:Int)(d:DB)(a:gw):Bool:=aiq key a&& !(a.data==kP d a.selection)
def tsK(i:Nat):Int:=oo x.bW (i:Int)
def tsA(i:Nat):gw:=Xi (x.aC.getD i (aO .cH)) (tsK x i) (gS x.aH) (l5 x.aH.rounds (gS x.aH)) (dI (kh x.seed [227,x.round,(i:Int)]) x.rows)
def tsB(i:Nat):Bool:=fls (tsK x i) (l5 x.aH.rounds (gS x.aH)) (tsA x i)
def TR(n:Nat):List Int:=(bK n).flatMap fun i=>if tsB x i then [(i:Int)]else []
theorem afi{x:dF}(h:tsB x n=true):TR x (n+1)=TR x n++ [(n:Int)]:=by
 unfold TR;rw[gl,fY];simp[h]
theorem Zo{x:dF}(h:tsB x n=false):TR x (n+1)=TR x n:=by
 unfold TR;rw[gl,fY];simp[h]
def HP(n:Nat):List cH×List Int:=NA x.rows x.round (x.aC,x.replaced) (TR x n)
theorem VX{x:dF}(h:tsB x n=true):HP x (n+1)=Jc x.rows x.round (HP x n) (n:Int):=by
 unfold HP NA;rw[afi h,fQ];rfl
theorem QE{x:dF}(h:tsB x n=false):HP x (n+1)=HP x n:=by unfold HP;rw[Zo h]
def HV:Bool:=okW x&&nk x.aH.rounds (gS x.aH)
def testW:dF:=if HV x then⟨x.rows,(HP x x.aC.length).1,x.ah,x.aH,x.bW,x.seed,x.round,(HP x x.aC.length).2,x.cancelled⟩else x
def gG:dF:=if tD x then MR (testW (eX x (p7 x.bW (cF x) (eW (cF x)) (mV x) (cF x).length) (jw (eW (cF x)))))else x
def jC(x:dF):Nat→dF
 |0=>x
 |k+1=>gG (jC x k)
end
section
variable{d:DB}{c:kf}{x:dF}{n:Nat}
theorem G9{α:Type}(f:α→Nat)(C n:Nat)(l:List α)(h: ∀y,y∈l→f y≤C)(hl:l.length≤n):gb f l≤(C+1)*n:=by
 have h1:=avN f C l h;have h2:(C+1)*l.length≤(C+1)*n:=nI _ hl;unfold gb;rw[cM,mH]at h2;omega
theorem QF(h:fZ d=true):gb aN d.rows≤1600:=by
 have h1:=asO h;have h2:=P2 h;unfold ayM at h1;unfold gb;omega
def VY(c:kf):Prop:=c.aT.length≤16∧c.inbox.length≤16∧(∀b,b∈c.aT→b.length≤14)∧ ∀b,b∈c.inbox→b.length≤14
theorem Jd(h:iJ c=true):VY c:=by
 obtain⟨h1,h2,h3,h4,_⟩:=rU h;exact⟨h1,h2,h3,h4⟩
theorem TS(h:VY c):eO c≤480:=by
 have h1:=G9 aN 14 16 c.aT h.2.2.1 h.1;have h2:=G9 aN 14 16 c.inbox h.2.2.2 h.2.1;unfold eO;omega
theorem Je(h:VY c)(r:Int)(own other:List UInt8):VY (lO c r own other):=by
 unfold lO;split
 ·refine⟨h.1,?_,h.2.2.1,?_⟩
  ·dsimp only;split
   ·rename_i hg;simp only[tM,an,decide_eq_true_eq]at hg;rw[aQ,gz];omega
   ·exact h.2.1
  ·dsimp only;split
   ·intro b hb;rcases bg.1 hb with h1|h1
    ·exact h.2.2.2 b h1
    ·rw[aV.1 h1];exact amr _ _ _
   ·exact h.2.2.2
 ·exact h
def VZ(d:bR):Prop:=VY d.live∧VY d.saved
theorem ayZ{d:bR}(h:VZ d)(r:Int)(own other:List UInt8):VZ (rdev d r own other):=by
 unfold rdev;split
 ·split
  ·exact⟨Je h.1 _ _ _,Je h.1 _ _ _⟩
  ·exact⟨Je h.1 _ _ _,h.2⟩
 ·exact h
theorem acL(x:dF)(d0:bR): ∀(l:List Int) (d:bR),VZ d→VZ (l.foldl (Ls x d0) d)
 | [],_,h=>h
 |r::l,_,h=>acL x d0 l _ (ayZ h _ _ _)
theorem uy{d:bR}(h:VZ d):cE d≤960:=by
 have h1:=TS h.1;have h2:=TS h.2;unfold cE;omega
theorem aD1{i:Nat}(h:M8 x i=true):VZ (x.ah.getD i (aO .bR)):=by
 simp only[M8,gx,an]at h;exact⟨Jd h.1.1.1.1.1.1.1.1.1,Jd h.1.1.1.1.1.1.1.1.2⟩
theorem TT(h:okW x=true): ∀d,d∈x.ah→VZ d:=by
 intro d hd;obtain⟨i,hi,rfl⟩:=fL.1 hd;have h1:=aD1 (Bm h hi)
 rwa [aq,az hi]at h1
def wC(x:dF)(n:Nat):Prop:=gb jm x.aC≤1048576∧gb cE x.ah≤1048576∧iS x.aH≤1048576∧x.replaced.length≤n
theorem amW(h:wC x n)(hn:n≤4194304):wB x:=⟨h.1,h.2.1,h.2.2.1,cB h.2.2.2 hn⟩
theorem oG{m:Nat}(h:wC x n)(hn:n≤m):wC x m:=⟨h.1,h.2.1,h.2.2.1,cB h.2.2.2 hn⟩
theorem aD2(h:wC x n):wC (MR x) n:=by
 unfold MR;split
 ·rename_i hk;refine⟨h.1,?_,h.2.2.1,h.2.2.2⟩;have h1:gb cE (x.ah.map (rV x))≤(960+1)*8:=by
   refine G9 cE 960 8 _ (fun d hd=> ?_) (by rw[bt];exact(Bi (uk hk)).2.1);obtain⟨e,he,rfl⟩:=bQ.1 hd;exact uy (acL x e _ _ (TT hk e he))
  exact cB h1 cO
 ·exact h
theorem aGX{s:cH}(h:s.received= []):jm s=0:=by unfold jm;rw[h];rfl
def MS(l:List cH):Prop:=l.length≤4∧ ∀s,s∈l→s.received= []
theorem He{l:List cH}(h:MS l):gb jm l≤1048576:=
 cB (G9 jm 0 4 l (fun s hs=>by rw[aGX (h.2 s hs)];exact aS 0) h.1) cO
theorem aD3{rows rd:Int}{p:List cH×List Int}{id:Int}(h:MS p.1):MS (Jc rows rd p id).1:=by
 unfold Jc;split
 ·refine⟨by rw[bX];exact h.1,fun s hs=> ?_⟩;rcases iT hs with h1|h1
  ·exact h.2 s h1
  ·subst h1;rfl
 ·exact h
theorem amX{rows rd:Int}: ∀(g:List Int) {p:List cH×List Int},MS p.1→MS (NA rows rd p g).1∧(NA rows rd p g).2.length≤p.2.length+g.length
 | [],_,h=>⟨h,aS _⟩
 |i::g,p,h=>by
  have h1:=amX (rows:=rows) (rd:=rd) g (aD3 (rows:=rows) (rd:=rd) (id:=i) h);have h2:=(VU rows rd p i).2;refine⟨h1.1,?_⟩;have h3:(NA rows rd p (i::g)).2.length≤(Jc rows rd p i).2.length+g.length:=h1.2;rw[bp];omega
theorem amY(h:okW x=true):MS x.aC:=⟨(iY h).1,Fj h⟩
theorem ay0{l:List cH}(h:MS l):MS (l.map rI):=by
 refine⟨by rw[bt];exact h.1,fun s hs=> ?_⟩;obtain⟨t,ht,rfl⟩:=bQ.1 hs;unfold rI;split
 ·rfl
 ·exact h.2 t ht
theorem aD4{a:tE}{r:Int}(ha:lU a=true)(hd:fZ d=true):gb jo (Oc a r d)≤1048576:=by
 have h8:a.rounds.length≤8:=by simp only[lU,SS,an,decide_eq_true_eq]at ha;omega
 have hm: ∀y,y∈a.rounds→jo y≤1600:=by
  intro y hy;obtain⟨i,hi,rfl⟩:=fL.1 hy;simp only[lU,an,bE,cS]at ha;have h2:=ha.2 i hi;have e:a.rounds.getD i (aO .bn)=a.rounds[i]:=by rw[aq,az hi];rfl
  simp only[Cj,e,an]at h2;exact QF h2.1.2
 have hL: ∀y,y∈Cv a r d→jo y≤1600:=by
  intro y hy;rcases bg.1 hy with h1|h1
  ·exact hm y h1
  ·rw[aV.1 h1];exact QF hd
 have hl:(Cv a r d).length≤9:=by unfold Cv;rw[aQ,gz];omega
 have key:gb jo (Oc a r d)≤(1600+1)*9:=by
  unfold Oc;split
  ·split
   ·exact G9 _ _ _ _ (fun y hy=>hL y (gf hy)) ag4
   ·exact G9 _ _ _ _ hL hl
  ·exact G9 _ _ _ _ hm aJ
 exact cB key cO
theorem as0(h:okW x=true):lU x.aH=true:=by
 have h:=uk h;simp only[XF,an]at h;exact h.1.1.1.1.1.2
theorem Zp{g:List Int}(h:wC x n)(hd:fZ d=true):wC (eX x g d) (n+g.length):=by
 unfold eX;split
 ·rename_i hk;simp only[tD,an]at hk;have h0:=amX (rows:=x.rows) (rd:=x.round) g (p:=(x.aC,x.replaced)) (amY hk.1);refine⟨He (ay0 h0.1),h.2.1,?_,?_⟩
  ·show gb jo _≤_
   dsimp only;split
   ·exact aD4 (as0 hk.1) hd
   ·exact h.2.2.1
  ·have h1:=h0.2;have h2:=h.2.2.2;show(NA x.rows x.round (x.aC,x.replaced) g).2.length≤_
   dsimp only at h1;omega
 ·exact oG h (qS _ _)
theorem V0(x:dF): ∀n,(TR x n).length≤n
 |0=>aS _
 |n+1=>by
  have ih:=V0 x n;cases h:tsB x n with
  |true=>rw[afi h,aQ];simp;omega
  |false=>rw[Zo h];omega
theorem afj(h:wC x n):wC (testW x) (n+4):=by
 unfold testW;split
 ·rename_i hk;simp only[HV,an]at hk;have h0:=amX (rows:=x.rows) (rd:=x.round) (TR x x.aC.length) (p:=(x.aC,x.replaced)) (amY hk.1);have h4:=(iY hk.1).1;have h5:=V0 x x.aC.length;refine⟨He h0.1,h.2.1,h.2.2.1,?_⟩;have h1:=h0.2;have h2:=h.2.2.2;show(NA x.rows x.round (x.aC,x.replaced) (TR x x.aC.length)).2.length≤_
  dsimp only at h1;omega
 ·exact oG h (qS _ _)
theorem Zq(h:wC x n):wC (gG x) (n+8):=by
 unfold gG;split
 ·rename_i hk;simp only[tD,an]at hk;have h1:=yd x.bW (cF x) (eW (cF x)) (mV x) (cF x).length;rw[mu hk.1]at h1;have h4:=(iY hk.1).1;have h2:=afj (Zp (g:=p7 x.bW (cF x) (eW (cF x)) (mV x) (cF x).length) (d:=jw (eW (cF x))) h (TQ _ (yU _)));rw[mu hk.1]at h2 ⊢;exact oG (aD2 h2) aJ
 ·exact oG h (qS _ _)
theorem amZ{x:dF}{n:Nat}(h:wC x n): ∀k,wC (jC x k) (n+8*k)
 |0=>h
 |k+1=>oG (Zq (amZ h k)) aJ
end
section
variable(c:kf)(d:bR)(x:dF)
def acM(b:List UInt8):kf:=⟨c.id,c.gJ,c.key,c.seed,c.aT++ [b],c.sent,c.inbox,c.next⟩
def CZ(b:List UInt8):Bool:=iJ c&&iJ (acM c b)
def qG(b:List UInt8):kf:=if CZ c b then acM c b else c
def HW(b:List UInt8):Bool:=(gx d&&CZ d.live b)&&CZ d.saved b
def Jf(b:List UInt8):bR:=if HW d b then⟨qG d.live b,qG d.saved b⟩else d
def Zr:bR:=if gx d then⟨d.saved,d.saved⟩else d
def Sd:bR:=if gx d then⟨d.live,d.live⟩else d
def FK(i:Nat)(d:bR):dF:=⟨x.rows,x.aC,x.ah.set i d,x.aH,x.bW,x.seed,x.round,x.replaced,x.cancelled⟩
def aD5(i:Nat)(s:cH):dF:=⟨x.rows,x.aC.set i s,x.ah,x.aH,x.bW,x.seed,x.round,x.replaced,x.cancelled⟩
def gY(c:Int):Bool:=okW x&&n8 x c
def D4(c:Int):bR:=x.ah.getD c.toNat (aO .bR)
def Zs(c:Int)(b:List UInt8):Bool:=gY x c&&HW (D4 x c) b
def TU(c:Int)(b:List UInt8):dF:=if gY x c then FK x c.toNat (Jf (D4 x c) b)else x
def Se(c:Int):dF:=if gY x c then FK x c.toNat (Zr (D4 x c))else x
def D5(c:Int):dF:=if gY x c then FK x c.toNat (Sd (D4 x c))else x
def beh(s:cH)(b:Int):cH:=⟨s.id,s.rows,s.round,s.received,b⟩
def Cl(i b:Int):Bool:=(okW x&&inr i 0 (af.wrap ((x.aC.length:Int)-1)))&&inr b 0 3
def V1(i b:Int):dF:=if Cl x i b then aD5 x i.toNat (beh (x.aC.getD i.toNat (aO .cH)) b)else x
def vr(e:Ev):Bool:=okW x&&(if e.kind=1 then decide (x.round<99999)else if e.kind=2 then Zs x e.node e.body else if e.kind=3 then gY x e.node else if e.kind=4 then Cl x e.node e.value else if e.kind=5 then gY x e.node else false)
def FL(e:Ev):dF:=if e.kind=1 then gG x else if e.kind=2 then TU x e.node e.body else if e.kind=3 then Se x e.node else if e.kind=4 then V1 x e.node e.value else if e.kind=5 then D5 x e.node else x
theorem ay1{x:dF}{e:Ev}(h:okW x=false):FL x e=x:=by
 have h1:tD x=false:=by unfold tD;rw[h];rfl
 have h2:gY x e.node=false:=by unfold gY;rw[h];rfl
 have h3:Cl x e.node e.value=false:=by unfold Cl;rw[h];rfl
 have n1: ¬tD x=true:=by rw[h1];decide
 have n2: ¬gY x e.node=true:=by rw[h2];decide
 have n3: ¬Cl x e.node e.value=true:=by rw[h3];decide
 unfold FL;rw[gG,if_neg n1,TU,if_neg n2,Se,if_neg n2,V1,if_neg n3,D5,if_neg n2];simp
theorem as1{x:dF}{e:Ev}(h:okW x=false):vr x e=false:=by unfold vr;rw[h];rfl
theorem p8{x:dF}{c:Int}(h:gY x c=true):okW x=true∧0≤c∧c<x.ah.length:=by
 simp only[gY,n8,an,dK]at h;exact⟨h.1,aJ⟩
theorem ay2{x:dF}{c:Int}(h:gY x c=true):VZ (D4 x c):=by
 obtain⟨h1,h2⟩:=p8 h;exact TT h1 _ (getD_in _ aJ)
theorem acN{x:dF}{i b:Int}(h:Cl x i b=true):okW x=true∧(0≤i∧i<x.aC.length)∧0≤b∧b≤3:=by
 simp only[Cl,an,dK]at h;have:=iY h.1.1;rw[cY (a:=(x.aC.length:Int)-1) aJ]at h;exact⟨h.1.1,aJ,h.2⟩
end
section
variable{r:Int}{other:List UInt8}{d:bR}{x:dF}
theorem Jg(c:kf):rB c.key (af.wrap (1-fK c))=DX c:=by
 unfold DX;rw[cY (by unfold fK;split<;>omega)]
theorem Zt{c:kf}{own:List UInt8}(h:Gz c r=false):lO c r own other=c:=by rw[lO,h];rfl
theorem am0{c:kf}(h:Gz c r=true):iJ c=true∧c.next≤r∧r≤99999∧0≤c.next:=by
 simp only[Gz,an,dK]at h;have:=(rU h.1).2.2.2.2.2.2.1;exact⟨h.1,h.2.1,h.2.2,this⟩
theorem afk{own:List UInt8}(h:Kr d r=false):rdev d r own other=d:=by rw[rdev,h];rfl
theorem afl{own:List UInt8}(h:Kr d r=true)(hn:HX (vp d r own other)=true):rdev d r own other=Sd (vp d r own other):=by
 have hk:gx (vp d r own other)=true:=by
  simp only[HX,an]at hn;exact hn.1
 rw[rdev,if_pos h,if_pos hn,Sd,if_pos hk];rfl
theorem afm{own:List UInt8}(h:Kr d r=true)(hn:HX (vp d r own other)=false):rdev d r own other=vp d r own other:=by
 rw[rdev,if_pos h,hn];rfl
theorem Zu{own:List UInt8}(h:Kr d r=true):cE (vp d r own other)≤1048576:=by
 simp only[Kr,an]at h;have hd:=h.2;simp only[gx,an]at hd;have hb:VZ (vp d r own other):=⟨Je (Jd hd.1.1.1.1.1) _ _ _,Jd hd.1.1.1.1.2⟩;have:=uy hb;omega
theorem ay3(h:okW x=true){k:Nat}(hk:k<x.ah.length)(l:List Int):cE (VP x (x.ah.getD k (aO .bR)) l)≤1048576:=by
 have:=uy (acL x (x.ah.getD k (aO .bR)) l _ (TT h _ (getD_in (aO .bR) hk)));unfold VP;omega
theorem am1(h:okW x=true){k:Nat}(hk:k<x.ah.length)(i:Nat):cE ((AI x k i).getD k (aO .bR))≤1048576:=by
 rw[N8 x k i hk];exact ay3 h hk _
theorem am2(x:dF)(k i:Nat)(hk:k<x.ah.length):B7 ((AI x k i).getD k (aO .bR)).live (x.ah.getD k (aO .bR)).live:=by
 rw[N8 x k i hk];exact Lt x _ _ _ ⟨rfl,rfl,rfl,rfl⟩
theorem am3(x:dF)(k i:Nat)(h:k<x.ah.length)(hi:i<(Br x (x.ah.getD k (aO .bR))).length):
  (AI x k i).set k (rdev ((AI x k i).getD k (aO .bR)) ((Br x (x.ah.getD k (aO .bR))).getD i (aO .int))
   (FJ x ((Br x (x.ah.getD k (aO .bR))).getD i (aO .int)) (jK ((AI x k i).getD k (aO .bR)).live.key ((Br x (x.ah.getD k (aO .bR))).getD i (aO .int)) (fK ((AI x k i).getD k (aO .bR)).live) x.rows) ((AI x k i).getD k (aO .bR)).live.seed)
   (FJ x ((Br x (x.ah.getD k (aO .bR))).getD i (aO .int)) (jK ((AI x k i).getD k (aO .bR)).live.key ((Br x (x.ah.getD k (aO .bR))).getD i (aO .int)) (1-fK ((AI x k i).getD k (aO .bR)).live) x.rows) ((AI x k i).getD k (aO .bR)).live.seed))=AI x k (i+1):=by
 have hs:=am2 x k i h;rw[acF hs,hs.2.2.1,hs.2.2.2];exact Zh x k i h hi
theorem am4(h:okW x=false):MR x=x:=by rw[MR,h];rfl
theorem Bv(h:okW x=true):MR x=⟨x.rows,x.aC,x.ah.map (rV x),x.aH,x.bW,x.seed,x.round,x.replaced,x.cancelled⟩:=by rw[MR,if_pos h]
theorem am5(c:kf):af.wrap (1-fK c)=1-fK c:=cY (by unfold fK;split<;>omega)
end
section
variable{l:List cH}{rows id r:Int}{x:dF}{g:List Int}{k:Nat}{d:DB}{a:tE}
theorem aD7(l:List DB):(l.take ((l.length:Int)).toNat).drop (cX 1)=l.drop 1:=by simp
theorem Zx{α:Type}(l:List α)(k:Nat)(d:α):(l.drop 1).getD k d=l.getD (k+1) d:=by
 rw[aq,aq,dc,o9]
theorem aG3{l:List DB}(ha:D2 l)(h:(if(!dR l.length)=true then true else !fZ (l.getD (cX 0) (aO .DB)))=true):dR l.length=false:=by
 cases hs:dR l.length with
 |false=>rfl
 |true=>
  rw[hs]at h;have:=ux ha 0;have h2:fZ (l.getD (cX 0) (aO .DB))=true:=this;rw[h2]at h;cases h
theorem aD8{l:List DB}(h:(if(!dR l.length)=true then true else !fZ (l.getD (cX 0) (aO .DB)))=false):dR l.length=true:=by
 cases hs:dR l.length with
 |true=>rfl
 |false=>rw[hs]at h;cases h
theorem aG4{l:List DB}(h:(!dR (l.length:Int))=false):(0:Int)≤0∧(0:Int)<(l.length:Int):=by
 have h2:dR (l.length:Int)=true:=by simpa using h
 have:=QB h2;omega
theorem V2{rd:Int}{p:List cH×List Int}(h:D3 p.1 id=true):Jc rows rd p id=(p.1.set id.toNat ⟨id,rows,rd,[],0⟩,p.2++ [id]):=by rw[Jc,if_pos h]
theorem afn{rd:Int}{p:List cH×List Int}(h:D3 p.1 id=false):Jc rows rd p id=p:=by rw[Jc,h];rfl
theorem am6(hl:l.length≤4)(h:D3 l id=true):0≤id∧id<l.length:=by
 simp only[D3,dK]at h;rw[cY aJ]at h;omega
theorem Jp(h:0≤id∧id≤3)(hr:1≤rows∧rows≤64):newS id rows 0=⟨id,rows,0,[],0⟩:=by
 have:Xz id rows 0=true:=by simp only[Xz,an,dK];omega
 rw[newS,if_pos this]
def QH(x:dF)(g:List Int)(k:Nat):List cH×List Int:=NA x.rows x.round (x.aC,x.replaced) (g.take k)
theorem Zy(h:k<g.length):Jc x.rows x.round (QH x g k) (g.getD k (aO .int))=QH x g (k+1):=(QC _ _ _ _ k h).symm
theorem Fo(h:g.length≤k):QH x g k=Cc x g:=by unfold QH Cc;rw[aD h]
theorem Jq(h:k≤g.length):(QH x g k).1.length=x.aC.length∧(QH x g k).2.length≤x.replaced.length+k:=VW _ _ _ g k h
theorem Zz(hk:okW x=true)(h:k≤g.length):QD x.round (QH x g k).1:=amT g (avR hk) k h
theorem avS(g:List Int)(hk:okW x=true):QD x.round (Cc x g).1:=by
 have:=Zz (g:=g) hk (aS _)
 rwa [Fo (aS _)]at this
theorem afo(x:dF)(g:List Int):(Cc x g).1.length=x.aC.length∧(Cc x g).2.length≤x.replaced.length+g.length:=by
 have:=Jq (x:=x) (g:=g) (aS _)
 rwa [Fo (aS _)]at this
theorem Al{rd:Int}(h:QD rd l)(hk:k<l.length):(l.getD k (aO .cH)).round=rd∧xQ (l.getD k (aO .cH)):=h _ (getD_in (aO .cH) hk)
def NB(l:List cH)(k:Nat):List cH:=(l.map rI).take k++l.drop k
theorem aBD(l:List cH):NB l 0=l:=by unfold NB;simp
theorem Jr(h:k<l.length):(NB l k).set k (rI ((NB l k).getD k (aO .cH)))=NB l (k+1):=amU l k h
theorem Od(h:k<l.length):(NB l k).getD k (aO .cH)=l.getD k (aO .cH):=sM _ _ _ _ Uy
theorem Oe(h:k≤l.length):(NB l k).length=l.length:=sO _ _ _ (by rw[bt]) h
theorem Of(h:l.length≤k):NB l k=l.map rI:=by
 unfold NB;rw[aD aq5,jT h,cW]
theorem TV(h:tD x=false):eX x g d=x:=by rw[eX,h];rfl
theorem QI(h:tD x=true)(hg:g.length=0):eX x g d=⟨x.rows,(Cc x g).1.map rI,x.ah,⟨x.aH.rows,Oc x.aH x.round d⟩,x.bW,x.seed,af.wrap (x.round+1),(Cc x g).2,x.cancelled⟩:=by
 rw[eX,if_pos h,if_pos hg,if_pos hg]
theorem QJ(h:tD x=true)(hg: ¬g.length=0):eX x g d=⟨x.rows,(Cc x g).1.map rI,x.ah,x.aH,x.bW,x.seed,af.wrap (x.round+1),(Cc x g).2,af.wrap (x.cancelled+1)⟩:=by
 rw[eX,if_pos h,if_neg hg,if_neg hg]
theorem V3(h:tD x=true):okW x=true∧x.round<99999:=by
 simp only[tD,an,bO,decide_eq_false_iff_not]at h;exact⟨h.1,aJ⟩
theorem am7(h:GB a r d=false):Oc a r d=a.rounds:=by rw[Oc,h];rfl
theorem afp(h:GB a r d=true):Oc a r d=if(8:Int)<(Cv a r d).length then(Cv a r d).drop 1 else Cv a r d:=by rw[Oc,if_pos h]
theorem am8(h:GB a r d=true):a.rounds.length≤8∧fZ d=true:=by
 simp only[GB,lU,SS,an,decide_eq_true_eq]at h;exact⟨aJ,h.1.2⟩
theorem Eb{s:Int}(h:1≤rows∧rows≤64):gW (dI s rows) rows=true:=by
 have e:dI s rows=(bK rows.toNat).map (ayA s):=by rw[dI,if_pos aJ]
 simp only[gW,an,decide_eq_true_eq,bE,dK];refine⟨⟨by rw[e];simp;omega,h.2⟩,fun v hv=> ?_⟩;rw[e]at hv;obtain⟨i,_,rfl⟩:=bQ.1 hv;have:=ah2 (kh s [(i:Int),41]);unfold ayA;omega
theorem ZA(h:okW x=true)(hh:nk x.aH.rounds r=true):fZ (l5 x.aH.rounds r)=true∧((l5 x.aH.rounds r).rows.length:Int)=x.rows:=by
 have ha:=uk h;simp only[XF,an,beq_iff_eq]at ha;have har:x.aH.rows=x.rows:=ha.1.1.1.1.2;have hok:lU x.aH=true:=ha.1.1.1.1.1.2;simp only[lU,an,bE,cS]at hok;have hi:(x.aH.rounds.findIdx (Xh r))<x.aH.rounds.length:=by
  rw[List.findIdx_lt_length];obtain⟨y,h1,h2⟩:=fF.1 hh;exact⟨y,h1,h2⟩
 have hd:=hok.2 _ hi;simp only[Cj,an,beq_iff_eq]at hd;have e:l5 x.aH.rounds r=(x.aH.rounds.getD (x.aH.rounds.findIdx (Xh r)) (aO .bn)).db:=by
  rw[l5,if_pos hh];have hh2:x.aH.rounds.any (Xh r)=true:=hh;rw[fidx,if_pos hh2];rfl
 rw[e];exact⟨hd.1.2,by rw[←har];exact hd.2⟩
theorem am9(h:okW x=true)(hh:nk x.aH.rounds r=true)(s:Int):su (l5 x.aH.rounds r) (dI s x.rows)=true:=by
 obtain⟨h1,h2⟩:=ZA h hh;apply I5;have hs:gW (dI s x.rows) ((l5 x.aH.rounds r).rows.length:Int)=true:=by rw[h2];exact Eb (vU h).1
 rw[kP,h1,hs];simp only[Bool.and_self,if_true];rw[jg,sV];omega
theorem afq(h:okW x=true)(k:Nat)(hk:k≤x.aC.length):QD x.round (HP x k).1∧(HP x k).1.length=x.aC.length∧(HP x k).2.length≤x.replaced.length+k:=by
 have h1:=amT (rows:=x.rows) (rd:=x.round) (p:=(x.aC,x.replaced)) (TR x k) (avR h) (TR x k).length (aS _);have h2:=VW x.rows x.round (x.aC,x.replaced) (TR x k) (TR x k).length (aS _);rw[vX]at h1 h2;have h3:=V0 x k;exact⟨h1,h2.1,by have h4:=h2.2;show(NA x.rows x.round (x.aC,x.replaced) (TR x k)).2.length≤_;dsimp only at h4;omega⟩
theorem QK(h:HV x=false):testW x=x:=by rw[testW,h];rfl
theorem Fp(h:HV x=true):testW x=⟨x.rows,(HP x x.aC.length).1,x.ah,x.aH,x.bW,x.seed,x.round,(HP x x.aC.length).2,x.cancelled⟩:=by rw[testW,if_pos h]
theorem TW(h:tD x=false):gG x=x:=by rw[gG,h];rfl
theorem Hj(h:tD x=true):gG x=MR (testW (eX x (p7 x.bW (cF x) (eW (cF x)) (mV x) (cF x).length) (jw (eW (cF x))))):=by rw[gG,if_pos h]
theorem avT(h:wB x):x.aH.rounds.length≤1048576∧ ∀y,y∈x.aH.rounds→gb aN y.db.rows≤1048576:=by
 have h2:gb jo x.aH.rounds≤1048576:=h.2.2.1;refine⟨fT h2,fun y hy=> ?_⟩;obtain⟨i,hi⟩:=mq.1 hy;exact pO h2 hi
end
section
variable{x:dF}
theorem afr(h:wB x)(hok:okW x=true)(hr:x.replaced.length≤4194000):wB (eX x (p7 x.bW (cF x) (eW (cF x)) (mV x) (cF x).length) (jw (eW (cF x))))∧wB (testW (eX x (p7 x.bW (cF x) (eW (cF x)) (mV x) (cF x).length) (jw (eW (cF x))))):=by
 have h1:=yd x.bW (cF x) (eW (cF x)) (mV x) (cF x).length;have h4:=(iY hok).1;rw[mu hok]at h1;have hc:wC x 4194000:=⟨h.1,h.2.1,h.2.2.1,hr⟩;have h2:=Zp (g:=p7 x.bW (cF x) (eW (cF x)) (mV x) (cF x).length) (d:=jw (eW (cF x))) hc (TQ _ (yU _));rw[mu hok]at h2 ⊢;exact⟨amW h2 aJ,amW (afj h2) aJ⟩
def wR(x:dF):Prop:=wB x∧x.replaced.length≤4194000
theorem ana{n:Nat}(h:wC x n)(hn:n≤4194000):wR x:=⟨amW h aJ,cB h.2.2.2 hn⟩
theorem ay6{n k:Nat}(h:wC x n)(hn:n+8*k≤4194000):wR (jC x k):=ana (amZ h k) hn
end
section
variable{k:Nat}
theorem V4(a:Int): -9223372036854775808≤af.wrap a∧af.wrap a≤9223372036854775807:=by
 rw[vY];omega
theorem anb(a b c:Int):af.wrap (a+af.wrap (b-c))=af.wrap (af.wrap (a+b)-c):=by
 simp only[vY];omega
def waiting(c:kf):Int:=af.wrap ((c.aT.length:Int)-c.sent)
def qt(l:List bR):Nat→Int
 |0=>0
 |k+1=>af.wrap (qt l k+waiting (l.getD k (aO .bR)).live)
theorem Og(l:List bR)(k:Nat): -9223372036854775808≤qt l k∧qt l k≤9223372036854775807:=by
 cases k with
 |zero=>exact⟨show(-9223372036854775808:Int)≤0 by decide,show(0:Int)≤9223372036854775807 by decide⟩
 |succ k=>exact V4 _
def CC(l:List bR):Nat→Int
 |0=>0
 |k+1=>if(k^^^1)<l.length then af.wrap (af.wrap (CC l k+((l.getD k (aO .bR)).live.aT.length:Int))-((l.getD (k^^^1) (aO .bR)).live.inbox.length:Int))else CC l k
theorem V5(l:List bR)(k:Nat): -9223372036854775808≤CC l k∧CC l k≤9223372036854775807:=by
 induction k with
 |zero=>exact⟨show(-9223372036854775808:Int)≤0 by decide,show(0:Int)≤9223372036854775807 by decide⟩
 |succ k ih=>
  unfold CC;split
  ·exact V4 _
  ·exact ih
theorem V6{l:List bR}(h:(k^^^1)<l.length):CC l (k+1)=af.wrap (af.wrap (CC l k+((l.getD k (aO .bR)).live.aT.length:Int))-((l.getD (k^^^1) (aO .bR)).live.inbox.length:Int)):=if_pos h
theorem QL{l:List bR}(h: ¬(k^^^1)<l.length):CC l (k+1)=CC l k:=if_neg h
theorem QM{x:dF}(h:k<x.ah.length):jW x (k:Int)=decide ((k^^^1)<x.ah.length):=by
 have:n8 x (k:Int)=true:=by rw[n8,dK];omega
 rw[jW,this,dj];simp only[gQ,Int.ofNat_lt]
end
section
variable{c:Int}{k:Nat}
def Ao(c:Int):Nat:=if 0≤c∧c≤400 then c.toNat else 0
theorem anc(c:Int):Ao c≤400:=by unfold Ao;split<;>omega
theorem acO(h:0≤c∧c≤400):(Ao c:Int)=c:=by unfold Ao;rw[if_pos h];omega
theorem afs(h: ¬(0≤c∧c≤400)):Ao c=0:=by unfold Ao;rw[if_neg h]
theorem aEc(h:(if decide ((k:Int)<c)=true then decide (c≤400)else false)=true):k<Ao c:=by
 by_cases h1:(k:Int)<c
 ·rw[if_pos abz,decide_eq_true_eq]at h;have:=acO (c:=c) aJ;omega
 ·rw[if_neg abz]at h;cases h
theorem ay7(hk:k≤Ao c)(h:(if decide ((k:Int)<c)=true then decide (c≤400)else false)=false):k=Ao c:=by
 by_cases hc:0≤c∧c≤400
 ·have h2:=acO hc;by_cases h1:(k:Int)<c
  ·rw[if_pos abz,decide_eq_false_iff_not]at h;omega
  ·omega
 ·have:=afs hc;omega
def vK(x:dF):Bool:=(qt x.ah x.ah.length==0)&&(CC x.ah x.ah.length==0)
def yy(x:dF):Int:=lW 400 (af.wrap (20+af.wrap (8*RY (RY 0 (qt x.ah x.ah.length)) (CC x.ah x.ah.length))))
def mx(a b:Int):Int:=if b>a then b else a
theorem as5(a b:Int):mx 0 (mx a b)=RY (RY 0 a) b:=by
 unfold mx RY
 (repeat' split)<;>omega
theorem ane{x:dF}(h:wC x 4100000)(hk:k≤401):wR (jC x k)∧(jC x k).ah.length≤1048576:=by
 have h1:=ay6 h (k:=k) aJ;exact⟨h1,IX h1.1⟩
end
section
variable{c:Int}{b:List UInt8}{x:dF}{e:Ev}
theorem aft{c:kf}(h:CZ c b=false):qG c b=c:=by rw[qG,h];rfl
theorem Jw{c:kf}(h:CZ c b=true):qG c b=acM c b:=by rw[qG,if_pos h]
theorem V7{d:bR}(h:HW d b=false):Jf d b=d:=by rw[Jf,h];rfl
theorem ZB{d:bR}(h:HW d b=true):Jf d b=⟨qG d.live b,qG d.saved b⟩:=by rw[Jf,if_pos h]
theorem anf{α:Type}(l:List α)(i:Nat)(d:α)(h:i<l.length):l.set i (l.getD i d)=l:=by
 rw[aq,az h];exact List.set_getElem_self h
theorem LG(h:gY x c=true):cE (x.ah.getD c.toNat (aO .bR))≤1048576:=by
 have:=uy (ay2 h);unfold D4 at this;omega
theorem ang(h:gY x c=false):TU x c b=x∧Zs x c b=false:=⟨by rw[TU,h];rfl,by rw[Zs,h];rfl⟩
theorem V8(h:gY x c=true):TU x c b=FK x c.toNat (Jf (D4 x c) b)∧Zs x c b=HW (D4 x c) b:=⟨by rw[TU,if_pos h],by rw[Zs,h,dj]⟩
theorem anh(h:gY x c=true)(hs:HW (D4 x c) b=false):TU x c b=x:=by
 rw[(V8 h).1,V7 hs];obtain⟨_,h1,h2⟩:=p8 h;unfold FK D4;rw[anf _ _ _ aJ]
theorem ani(h:gY x c=false):Se x c=x:=by rw[Se,h];rfl
theorem afu(h:gY x c=true):Se x c=FK x c.toNat (Zr (D4 x c)):=by rw[Se,if_pos h]
theorem anj(h:gY x c=false):D5 x c=x:=by rw[D5,h];rfl
theorem afv(h:gY x c=true):D5 x c=FK x c.toNat (Sd (D4 x c)):=by rw[D5,if_pos h]
theorem ank{i b:Int}(h:Cl x i b=false):V1 x i b=x:=by rw[V1,h];rfl
theorem afw{i b:Int}(h:Cl x i b=true):V1 x i b=aD5 x i.toNat (beh (x.aC.getD i.toNat (aO .cH)) b):=by rw[V1,if_pos h]
theorem avW(h:okW x=false):FL x e=x∧vr x e=false:=⟨ay1 h,as1 h⟩
theorem aEd(h:okW x=true)(h1:e.kind=1):FL x e=gG x∧vr x e=decide (x.round<99999):=⟨by rw[FL,if_pos h1],by rw[vr,h,if_pos h1,dj]⟩
theorem aEe(h:okW x=true)(h1:e.kind=2):FL x e=TU x e.node e.body∧vr x e=Zs x e.node e.body:=by
 unfold FL vr;rw[h,dj,if_neg aJ,if_pos h1,if_neg aJ,if_pos h1];exact⟨rfl,rfl⟩
theorem aEf(h:okW x=true)(h1:e.kind=3):FL x e=Se x e.node∧vr x e=gY x e.node:=by
 unfold FL vr;rw[h,dj,if_neg aJ,if_neg aJ,if_pos h1,if_neg aJ,if_neg aJ,if_pos h1];exact⟨rfl,rfl⟩
theorem aEg(h:okW x=true)(h1:e.kind=4):FL x e=V1 x e.node e.value∧vr x e=Cl x e.node e.value:=by
 unfold FL vr;rw[h,dj,if_neg aJ,if_neg aJ,if_neg aJ,if_pos h1,if_neg aJ,if_neg aJ,if_neg aJ,if_pos h1];exact⟨rfl,rfl⟩
theorem aEh(h:okW x=true)(h1:e.kind=5):FL x e=D5 x e.node∧vr x e=gY x e.node:=by
 unfold FL vr;rw[h,dj,if_neg aJ,if_neg aJ,if_neg aJ,if_neg aJ,if_pos h1,if_neg aJ,if_neg aJ,if_neg aJ,if_neg aJ,if_pos h1];exact⟨rfl,rfl⟩
theorem aEi(h:okW x=true)(h1: ¬e.kind=1)(h2: ¬e.kind=2)(h3: ¬e.kind=3)(h4: ¬e.kind=4)(h5: ¬e.kind=5):FL x e=x∧vr x e=false:=by
 unfold FL vr;rw[h,dj,if_neg h1,if_neg h2,if_neg h3,if_neg h4,if_neg h5,if_neg h1,if_neg h2,if_neg h3,if_neg h4,if_neg h5];exact⟨rfl,rfl⟩
theorem Jx(h:okW x=true):gY x c=n8 x c:=by rw[gY,h,dj]
end
section
variable{α:Type}{k i:Nat}{rows r:Int}{x:dF}{a:tE}{l:List bn}{d:DB}{other:List UInt8}
theorem LH{l m:List α}(d:α)(h:k<l.length):(l++m).getD k d=l.getD k d:=by
 rw[aq,aq,List.getElem?_append_left h]
theorem TX{l:List α}{y:α}(d:α):(l++ [y]).getD l.length d=y:=by
 rw[aq,dm (aS _)];simp
theorem Hu(l:List α)(k:Nat)(d:α):(l.drop 1).getD k d=l.getD (k+1) d:=by
 rw[aq,aq,dc,o9]
theorem rX{l:List α}(d y:α)(h:k<l.length):(l.set i y).getD k d=if i=k then y else l.getD k d:=by
 rw[aq,aq,List.getElem?_set];split
 ·rename_i e;subst e;simp[h]
 ·rfl
theorem getD_map{β:Type}(f:α→β){l:List α}(d:β)(e:α)(h:k<l.length):(l.map f).getD k d=f (l.getD k e):=by
 rw[aq,aq,ec,az h];rfl
def sOK(rows rd:Int)(i:Nat)(s:cH):Prop:=s.id=(i:Int)∧s.rows=rows∧s.round=rd∧s.received= []∧0≤s.behavior∧s.behavior≤3
def svs(rows rd:Int)(l:List cH):Prop:= ∀i,i<l.length→sOK rows rd i (l.getD i (aO .cH))
theorem anl{rd:Int}{s:cH}(h:sOK rows rd i s)(hr:1≤rows∧rows≤64)(hd:0≤rd∧rd≤100000)(hi:i≤3):fk s=true:=by
 obtain⟨h1,h2,h3,h4,h5⟩:=h;simp only[fk,Gb,an,dK,decide_eq_true_eq,h4,dh];refine⟨⟨⟨⟨⟨aJ,aJ⟩,aJ⟩,aJ⟩,aJ⟩,by simp⟩
theorem V9(hr:1≤x.rows∧x.rows≤64)(hd:0≤x.round∧x.round≤100000)(hi:i≤3):W8 x i=true↔sOK x.rows x.round i (x.aC.getD i (aO .cH)):=by
 constructor
 ·intro h;simp only[W8,an,beq_iff_eq,decide_eq_true_eq]at h;obtain⟨⟨⟨⟨h1,h2⟩,h3⟩,h4⟩,h5⟩:=h;simp only[fk,Gb,an,dK]at h1;exact⟨h2,h3,h4,iE.1 aJ,h1.1.1.1.2⟩
 ·intro h;have h1:=anl h hr hd hi;obtain⟨h2,h3,h4,h5,_⟩:=h;simp only[W8,an,beq_iff_eq,decide_eq_true_eq];exact⟨⟨⟨⟨h1,h2⟩,h3⟩,h4⟩,by rw[h5];decide⟩
def inc(rows:Int)(l:List bn):Prop:= ∀i,i<l.length→Cj rows l i=true
theorem rY:lU a=true↔((1≤a.rows∧a.rows≤64)∧a.rounds.length≤8)∧inc a.rows a.rounds:=by
 simp only[lU,SS,an,dK,decide_eq_true_eq,bE,cS];constructor
 ·rintro⟨⟨h1,h2⟩,h3⟩;exact⟨⟨h1,aJ⟩,h3⟩
 ·rintro⟨⟨h1,h2⟩,h3⟩;exact⟨⟨h1,aJ⟩,h3⟩
theorem qH:Cj rows l i=true↔(0≤(l.getD i (aO .bn)).round∧(l.getD i (aO .bn)).round≤100000)∧(0<i→(l.getD (i-1) (aO .bn)).round<(l.getD i (aO .bn)).round)∧fZ (l.getD i (aO .bn)).db=true∧((l.getD i (aO .bn)).db.rows.length:Int)=rows:=by
 simp only[Cj,an,dK,beq_iff_eq,bO,o8,decide_eq_false_iff_not];constructor
 ·rintro⟨⟨⟨h1,h2⟩,h3⟩,h4⟩;refine⟨h1,fun hi=> ?_,h3,h4⟩;rcases h2 with h2|h2
  ·omega
  ·omega
 ·rintro⟨h1,h2,h3,h4⟩;refine⟨⟨⟨h1,?_⟩,h3⟩,h4⟩;by_cases hi:0<i
  ·right;have:=h2 hi;omega
  ·left;omega
theorem anm(h:inc rows l):inc rows (l.drop 1):=by
 intro i hi;have hi:i+1<l.length:=by rw[cV]at hi;omega
 have h1:=qH.1 (h (i+1) hi);rw[qH,Hu];refine⟨h1.1,fun hp=> ?_,h1.2.2⟩;rw[Hu,show i-1+1=i by omega];exact h1.2.1 aJ
theorem ann(h:inc rows l)(h0:0≤r∧r≤100000)(hl:0<l.length→(l.getD (l.length-1) (aO .bn)).round<r)(hd:fZ d=true)(hr:(d.rows.length:Int)=rows):inc rows (l++ [⟨r,d⟩]):=by
 intro i hi;rw[aQ,gz]at hi;by_cases hil:i<l.length
 ·have h1:=qH.1 (h i hil);rw[qH,LH _ hil];refine⟨h1.1,fun hp=> ?_,h1.2.2⟩;rw[LH _ aJ];exact h1.2.1 hp
 ·obtain rfl:i=l.length:=by omega
  rw[qH,TX];refine⟨h0,fun hp=> ?_,hd,hr⟩;rw[LH _ aJ];exact hl hp
theorem ano{rows:Int}{l:List bn}(h:inc rows l): ∀(j i:Nat),i<j→j<l.length→(l.getD i (aO .bn)).round<(l.getD j (aO .bn)).round
 |0,i,h1,_=>by omega
 |j+1,i,h1,h2=>by
  have h3:=(qH.1 (h (j+1) h2)).2.1 aJ;rw[show j+1-1=j by omega]at h3;by_cases e:i=j
  ·subst e;exact h3
  ·have:=ano h j i aJ aJ;omega
theorem Aq(h:0<a.rounds.length):gS a=(a.rounds.getD (a.rounds.length-1) (aO .bn)).round:=by rw[gS,if_neg aJ]
theorem acP(h:a.rounds= []):gS a= -1:=by rw[gS,h];rfl
theorem ay8(h:lU a=true): ∀y,y∈a.rounds→0≤y.round∧y.round≤gS a:=by
 intro y hy;have h2:=(rY.1 h).2;obtain⟨i,hi,rfl⟩:=fL.1 hy;have e:a.rounds[i]=a.rounds.getD i (aO .bn):=by rw[aq,az hi];rfl
 rw[Aq aJ,e];refine⟨(qH.1 (h2 i hi)).1.1,?_⟩;by_cases hl:i=a.rounds.length-1
 ·rw[hl];exact iK _
 ·exact Int.le_of_lt (ano h2 _ _ aJ aJ)
theorem as6(h:lU a=true)(h0:0≤r∧r≤100000)(hl:gS a<r)(hd:fZ d=true)(hr:(d.rows.length:Int)=a.rows):GB a r d=true:=by
 simp only[GB,an,h,hd,dK,h0,hr,bO,decide_eq_false_iff_not,decide_true];exact⟨⟨⟨⟨trivial,⟨trivial,trivial⟩⟩,aJ⟩,trivial⟩,trivial⟩
theorem as7(h:GB a r d=true):Oc a r d=if(8:Int)<(Cv a r d).length then(Cv a r d).drop 1 else Cv a r d:=by rw[Oc,if_pos h]
theorem anp:(Cv a r d).length=a.rounds.length+1∧ ∀e,(Cv a r d).getD a.rounds.length e=⟨r,d⟩:=by
 unfold Cv;exact⟨by rw[aQ];rfl,fun e=>TX e⟩
theorem anq(h:lU a=true)(h0:0≤r∧r≤100000)(hl:gS a<r)(hd:fZ d=true)(hr:(d.rows.length:Int)=a.rows):
  lU ⟨a.rows,Oc a r d⟩=true∧gS ⟨a.rows,Oc a r d⟩=r∧0<(Oc a r d).length∧(Oc a r d).getD ((Oc a r d).length-1) (aO .bn)=⟨r,d⟩:=by
 have ha:=rY.1 h;have hi:inc a.rows (Cv a r d):=ann ha.2 h0 (fun hp=>by rw[Aq hp]at hl;exact hl) hd hr;obtain⟨hL,hG⟩:=anp (a:=a) (r:=r) (d:=d);rw[as7 (as6 h h0 hl hd hr)];split
 ·rename_i h8;have hlen:((Cv a r d).drop 1).length=a.rounds.length:=by rw[cV];omega
  have hg:((Cv a r d).drop 1).getD (((Cv a r d).drop 1).length-1) (aO .bn)=⟨r,d⟩:=by
   rw[hlen,Hu,show a.rounds.length-1+1=a.rounds.length by omega];exact hG _
  refine⟨rY.2 ⟨⟨ha.1.1,by show((Cv a r d).drop 1).length≤8;omega⟩,anm hi⟩,?_,aJ,hg⟩;rw[Aq (by show 0<((Cv a r d).drop 1).length;omega)];exact congrArg bn.round hg
 ·rename_i h8;have hg:(Cv a r d).getD ((Cv a r d).length-1) (aO .bn)=⟨r,d⟩:=by
   rw[hL,show a.rounds.length+1-1=a.rounds.length by omega];exact hG _
  refine⟨rY.2 ⟨⟨ha.1.1,by show(Cv a r d).length≤8;omega⟩,hi⟩,?_,aJ,hg⟩;rw[Aq (by show 0<(Cv a r d).length;omega)];exact congrArg bn.round hg
structure RP(x:dF):Prop where
 rows:1≤x.rows∧x.rows≤64
 nsv:2≤x.aC.length∧x.aC.length≤4
 ndv:2≤x.ah.length∧x.ah.length≤8
 even:x.ah.length % 2=0
 arc:lU x.aH=true
 MU:x.aH.rows=x.rows
 last:gS x.aH<x.round
 key:jZ x.bW=true
 round:0≤x.round∧x.round≤100000
 CF:0≤x.cancelled
 sv:svs x.rows x.round x.aC
 dv: ∀i,i<x.ah.length→M8 x i=true
theorem RP.of(h:okW x=true):RP x:=by
 have hh:=uk h;have he:=Bi hh;have hs:=iY h;have hh2:=hh;simp only[XF,an,dK,beq_iff_eq,decide_eq_true_eq]at hh;obtain⟨⟨⟨⟨⟨⟨⟨⟨⟨h1,h2⟩,h3⟩,h4⟩,h5⟩,h6⟩,h7⟩,h8⟩,h9⟩,h10⟩:=hh;exact⟨h1,⟨hs.2,hs.1⟩,⟨he.2.2,he.2.1⟩,he.1,h5,h6,h7,h8,h9,h10,fun i hi=>(V9 h1 h9 aJ).1 (Qf h hi),fun i hi=>Bm h hi⟩
theorem RP.ok(h:RP x):okW x=true:=by
 obtain⟨h1,h2,h3,h4,h5,h6,h7,h8,h9,h10,h11,h12⟩:=h;have ht:(x.ah.length:Int).tmod 2=0:=by rw[jy aJ];omega
 simp only[okW,XF,dR,an,dK,beq_iff_eq,decide_eq_true_eq,bE,cS];exact⟨⟨⟨⟨⟨⟨⟨⟨⟨⟨⟨h1,aJ⟩,aJ⟩,ht⟩,h5⟩,h6⟩,h7⟩,h8⟩,h9⟩,h10⟩,fun i hi=>(V9 h1 h9 aJ).2 (h11 i hi)⟩,h12⟩
theorem as9{rd:Int}{p:List cH×List Int}{id:Int}(hl:p.1.length≤4)(h:svs rows rd p.1):svs rows rd (Jc rows rd p id).1:=by
 unfold Jc;split
 ·rename_i hk;simp only[D3,dK]at hk;rw[cY aJ]at hk;intro i hi;rw[bX]at hi;show sOK rows rd i ((p.1.set id.toNat ⟨id,rows,rd,[],0⟩).getD i (aO .cH))
  rw[rX _ _ hi];split
  ·rename_i e;exact⟨by show id=(i:Int);omega,rfl,rfl,rfl,iK _,by show(0:Int)≤3;decide⟩
  ·exact h i hi
 ·exact h
theorem Wa{rows rd:Int}: ∀(g:List Int) {p:List cH×List Int},p.1.length≤4→svs rows rd p.1→svs rows rd (NA rows rd p g).1∧(NA rows rd p g).1.length=p.1.length
 | [],_,_,h=>⟨h,rfl⟩
 |i::g,p,hl,h=>by
  have uI:=(VU rows rd p i).1;have:=Wa g (p:=Jc rows rd p i) aJ (as9 (id:=i) hl h);exact⟨this.1,this.2.trans uI⟩
theorem ata{rd:Int}{s:cH}(h:sOK rows rd i s)(hr:1≤rows∧rows≤64)(hd:0≤rd∧rd<100000)(hi:i≤3):sOK rows (rd+1) i (rI s):=by
 have hk:=anl h hr aJ hi;obtain⟨h1,h2,h3,h4,h5⟩:=h;have hb:XA s=true:=by
  simp only[XA,hk,dj,bO,beq_eq_false_iff_ne];omega
 rw[rI,if_pos hb];refine⟨h1,h2,?_,rfl,h5⟩;show af.wrap (s.round+1)=rd+1
 rw[cY aJ,h3]
theorem TY{y:dF}(hd:y.ah=x.ah)(hr:x.round≤y.round)(h:M8 x i=true):M8 y i=true:=by
 simp only[M8,an,decide_eq_true_eq]at h ⊢;rw[hd];exact⟨h.1,aJ⟩
theorem Hv(h:okW x=true)(hr:x.round<99999):tD x=true:=by
 simp only[tD,h,dj,bO,decide_eq_false_iff_not];omega
theorem TZ{g:List Int}(h:okW x=true)(hr:x.round<99999)(hc:x.cancelled<9223372036854775807)(hd:g= []→fZ d=true∧(d.rows.length:Int)=x.rows):okW (eX x g d)=true:=by
 have w:=RP.of h;have hp:=Wa (rows:=x.rows) (rd:=x.round) g (p:=(x.aC,x.replaced)) w.nsv.2 w.sv;have w1:=w.rows;have w2:=w.nsv;have w3:=w.round;have w4:=w.CF;have hrd:af.wrap (x.round+1)=x.round+1:=cY aJ;rw[eX,if_pos (Hv h hr)];have hsv:svs x.rows (x.round+1) ((Cc x g).1.map rI):=by
  intro i hi;rw[bt]at hi;have hi4:i≤3:=by have:=hp.2;unfold Cc at hi;dsimp only at this;omega
  rw[getD_map rI _ (aO .cH) hi];exact ata (hp.1 i hi) w1 aJ hi4
 have hlen:((Cc x g).1.map rI).length=x.aC.length:=by rw[bt];exact hp.2
 have aEj:lU ⟨x.aH.rows,if g.length=0 then Oc x.aH x.round d else x.aH.rounds⟩=true∧gS ⟨x.aH.rows,if g.length=0 then Oc x.aH x.round d else x.aH.rounds⟩<x.round+1:=by
  by_cases hg:g.length=0
  ·obtain⟨q1,q2⟩:=hd (iE.1 hg);rw[if_pos hg];have:=anq w.arc (by omega:0≤x.round∧x.round≤100000) w.last q1 (by rw[w.MU];exact q2);exact⟨this.1,by rw[this.2.1];omega⟩
  ·rw[if_neg hg];have:=w.last;exact⟨w.arc,by show gS x.aH<_;omega⟩
 refine RP.ok ⟨w1,by dsimp only;rw[hlen];exact w2,w.ndv,w.even,aEj.1,w.MU,?_,w.key,?_,?_,?_,fun i hi=> ?_⟩
 ·dsimp only;rw[hrd];exact aEj.2
 ·dsimp only;rw[hrd];omega
 ·dsimp only;split
  ·exact w4
  ·rw[cY aJ];omega
 ·dsimp only;rw[hrd];exact hsv
 ·exact TY (x:=x) rfl (by dsimp only;rw[hrd];omega) (w.dv i hi)
theorem ZD(h:okW x=true):okW (testW x)=true:=by
 unfold testW;split
 ·have w:=RP.of h;have hp:=Wa (rows:=x.rows) (rd:=x.round) (TR x x.aC.length) (p:=(x.aC,x.replaced)) w.nsv.2 w.sv;have w2:=w.nsv;refine RP.ok ⟨w.rows,?_,w.ndv,w.even,w.arc,w.MU,w.last,w.key,w.round,w.CF,hp.1,fun i hi=>TY (x:=x) rfl (iK _) (w.dv i hi)⟩;have hp2:(NA x.rows x.round (x.aC,x.replaced) (TR x x.aC.length)).1.length=x.aC.length:=hp.2;show 2≤(NA x.rows x.round (x.aC,x.replaced) (TR x x.aC.length)).1.length∧(NA x.rows x.round (x.aC,x.replaced) (TR x x.aC.length)).1.length≤4
  rw[hp2];exact w2
 ·exact h
theorem QT{a b:List (List UInt8)}:GC a b=true↔a.length≤b.length∧a=b.take a.length:=by
 simp only[GC,an,decide_eq_true_eq,beq_iff_eq];constructor
 ·rintro⟨h1,h2⟩;exact⟨aJ,h2⟩
 ·rintro⟨h1,h2⟩;exact⟨aJ,h2⟩
theorem LI(a:List (List UInt8)):GC a a=true:=QT.2 ⟨aS _,(vX).symm⟩
theorem anr{a b c:List (List UInt8)}(h:GC a b=true):GC a (b++c)=true:=by
 obtain⟨h1,h2⟩:=QT.1 h;refine QT.2 ⟨by rw[aQ];omega,?_⟩;rw[iV h1];exact h2
theorem LJ{c:kf}:iJ c=true↔(((0≤c.id∧c.id≤7)∧(0≤c.gJ∧c.gJ≤7))∧c.id≠c.gJ∧jZ c.key=true)∧VY c∧(0≤c.sent∧c.sent≤c.aT.length)∧0≤c.next∧c.next≤100000:=by
 simp only[iJ,VY,an,bO,cq,dK,decide_eq_true_eq,beq_eq_false_iff_ne];have hl: ∀b:List UInt8, ¬long b=true↔b.length≤14:=by
  intro b;simp only[long,decide_eq_true_eq];omega
 constructor
 ·rintro⟨⟨⟨⟨⟨⟨⟨⟨⟨h1,h2⟩,h3⟩,h4⟩,h5⟩,h6⟩,h7⟩,h8⟩,h9⟩,h10⟩;exact⟨⟨⟨h1,h2⟩,h3,h4⟩,⟨aJ,aJ,fun b hb=>(hl b).1 (h7 b hb),fun b hb=>(hl b).1 (h8 b hb)⟩,h9,h10⟩
 ·rintro⟨⟨⟨h1,h2⟩,h3,h4⟩,⟨h5,h6,h7,h8⟩,h9,h10⟩;exact⟨⟨⟨⟨⟨⟨⟨⟨⟨h1,h2⟩,h3⟩,h4⟩,aJ⟩,aJ⟩,fun b hb=>(hl b).2 (h7 b hb)⟩,fun b hb=>(hl b).2 (h8 b hb)⟩,h9⟩,h10⟩
theorem ant{c:kf}{own:List UInt8}(h:iJ c=true):iJ (lO c r own other)=true:=by
 by_cases hk:Gz c r=true
 ·have hB:=Je (Jd h) r own other;rw[lO,if_pos hk]at hB ⊢;obtain⟨h1,_,h3,h4⟩:=LJ.1 h;simp only[Gz,an,dK]at hk;refine LJ.2 ⟨h1,hB,?_,?_⟩
  ·dsimp only;split
   ·rename_i hh;simp only[HU,an,decide_eq_true_eq]at hh;omega
   ·exact h3
  ·dsimp only;omega
 ·rw[lO,if_neg hk];exact h
structure Dok(d:bR):Prop where
 live:iJ d.live=true
 saved:iJ d.saved=true
 same:wJ d.live d.saved=true
 sent:d.saved.sent≤d.live.sent
 next:d.saved.next≤d.live.next
 pre:GC d.saved.inbox d.live.inbox=true
theorem Dok.iff{d:bR}:gx d=true↔Dok d:=by
 simp only[gx,an,decide_eq_true_eq];constructor
 ·rintro⟨⟨⟨⟨⟨h1,h2⟩,h3⟩,h4⟩,h5⟩,h6⟩;exact⟨h1,h2,h3,h4,h5,h6⟩
 ·rintro⟨h1,h2,h3,h4,h5,h6⟩;exact⟨⟨⟨⟨⟨h1,h2⟩,h3⟩,h4⟩,h5⟩,h6⟩
theorem mz{a b:kf}:wJ a b=true↔B7 a b∧a.aT=b.aT:=by
 simp only[wJ,B7,an,beq_iff_eq];constructor
 ·rintro⟨⟨⟨⟨h1,h2⟩,h3⟩,h4⟩,h5⟩;exact⟨⟨h1,h2,h3,h4⟩,h5⟩
 ·rintro⟨⟨h1,h2,h3,h4⟩,h5⟩;exact⟨⟨⟨⟨h1,h2⟩,h3⟩,h4⟩,h5⟩
theorem T0(c:kf)(r:Int)(own other:List UInt8):(lO c r own other).aT=c.aT∧c.sent≤(lO c r own other).sent∧(lO c r own other).sent≤c.sent+1∧c.next≤(lO c r own other).next∧ ∃m,(lO c r own other).inbox=c.inbox++m:=by
 unfold lO;split
 ·rename_i hk;simp only[Gz,an,dK]at hk;refine⟨rfl,?_,?_,?_,?_⟩
  ·dsimp only;split<;>omega
  ·dsimp only;split<;>omega
  ·dsimp only;omega
  ·dsimp only;split
   ·exact⟨_,rfl⟩
   ·exact⟨[],(cW _).symm⟩
 ·exact⟨rfl,iK _,aJ,iK _,[],(cW _).symm⟩
theorem atb{d:bR}{own:List UInt8}(h:gx d=true):gx (rdev d r own other)=true:=by
 have hd:=Dok.iff.1 h;unfold rdev;split
 ·have hc:=ant (r:=r) (own:=own) (other:=other) hd.live;split
  ·exact Dok.iff.2 ⟨hc,hc,mz.2 ⟨⟨rfl,rfl,rfl,rfl⟩,rfl⟩,iK _,iK _,LI _⟩
  ·obtain⟨q1,q2,_,q3,m,q4⟩:=T0 d.live r own other;obtain⟨p1,p2⟩:=mz.1 hd.same;have p3:=G8 d.live r own other;refine Dok.iff.2 ⟨hc,hd.saved,mz.2 ⟨⟨p3.1.trans p1.1,p3.2.1.trans p1.2.1,p3.2.2.1.trans p1.2.2.1,p3.2.2.2.trans p1.2.2.2⟩,q1.trans p2⟩,ZE hd.sent q2,ZE hd.next q3,?_⟩;show GC d.saved.inbox (lO d.live r own other).inbox=true
   rw[q4];exact anr hd.pre
 ·exact h
theorem aiu{d:bR}{own:List UInt8}{R:Int}(h:d.live.next≤R)(hr:r+1≤R):(rdev d r own other).live.next≤R:=by
 have key:(lO d.live r own other).next≤R:=by
  unfold lO;split
  ·exact hr
  ·exact h
 unfold rdev;split
 ·split
  ·exact key
  ·exact key
 ·exact h
theorem afx(x:dF)(d0:bR){R:Int}: ∀(l:List Int) (d:bR),(∀r,r∈l→r+1≤R)→gx d=true→d.live.next≤R→gx (l.foldl (Ls x d0) d)=true∧(l.foldl (Ls x d0) d).live.next≤R
 | [],_,_,h1,h2=>⟨h1,h2⟩
 |r::l,d,hl,h1,h2=>afx x d0 l _ (fun q hq=>hl q (aE _ hq)) (atb h1) (aiu h2 (hl r (bA ..)))
theorem QU{f:Int}(h:r∈nH l f):f≤r∧ ∃y,y∈l∧y.round=r:=by
 unfold nH at h;obtain⟨y,hy,rfl⟩:=bQ.1 h;rw[List.mem_filter]at hy;exact⟨by simpa using hy.2,y,hy.1,rfl⟩
theorem ZF(h:okW x=true)(hi:i<x.ah.length):gx (rV x (x.ah.getD i (aO .bR)))=true∧(rV x (x.ah.getD i (aO .bR))).live.next≤x.round∧B7 (rV x (x.ah.getD i (aO .bR))).live (x.ah.getD i (aO .bR)).live:=by
 have w:=RP.of h;have hd:=Bm h hi;simp only[M8,an,decide_eq_true_eq]at hd;have h1:=afx x (x.ah.getD i (aO .bR)) (R:=x.round) (Br x (x.ah.getD i (aO .bR))) _ (fun r hr=>by
  obtain⟨_,y,hy,rfl⟩:=QU hr;have:=(ay8 w.arc y hy).2;have:=w.last;omega) hd.1.1.1.1 hd.2
 exact⟨h1.1,h1.2,Lt x _ _ _ ⟨rfl,rfl,rfl,rfl⟩⟩
theorem anu(h:okW x=true):okW (MR x)=true:=by
 have w:=RP.of h;rw[MR,if_pos h];have hg: ∀i,i<x.ah.length→(x.ah.map (rV x)).getD i (aO .bR)=rV x (x.ah.getD i (aO .bR)):=fun i hi=>getD_map _ _ _ hi;refine RP.ok ⟨w.rows,w.nsv,by dsimp only;rw[bt];exact w.ndv,by dsimp only;rw[bt];exact w.even,w.arc,w.MU,w.last,w.key,w.round,w.CF,w.sv,fun i hi=> ?_⟩;have hi:i<x.ah.length:=by dsimp only at hi;rwa [bt]at hi
 obtain⟨q1,q2,q3⟩:=ZF h hi;have hd:=Bm h hi;have hx:=Bh i x.ah.length hi w.even;obtain⟨_,_,p3⟩:=ZF h hx;simp only[M8,an,decide_eq_true_eq,beq_iff_eq]at hd ⊢;rw[hg i hi,hg _ hx];exact⟨⟨⟨⟨q1,q3.1.trans hd.1.1.1.2⟩,q3.2.1.trans hd.1.1.2⟩,by rw[q3.2.2.1,p3.2.2.1];exact hd.1.2⟩,q2⟩
end
section
variable{rows:Int}{i:Nat}{c:List UInt8}(x:dF)
theorem Bz(h:0≤rows∧rows≤64):((ir rows).rows.length:Int)=rows:=by
 rw[xe h,ku];omega
theorem ZG{i:Int}(h:vT rows i c=true):((YV rows i c).rows.length:Int)=rows:=by
 have h':=h;simp only[vT,an]at h';have hr:1≤rows∧rows≤64:=by have:=h'.1;rw[dK]at this;exact this
 rw[YV,if_pos h'.1,Ab h'.2];show(((ir rows).rows.set i.toNat c).length:Int)=rows
 rw[bX];exact Bz aJ
theorem T3{α:Type}(f:α→DB): ∀(l:List α) (d:DB),(l.foldl (fun d s=>lM d (f s)) d).rows.length=d.rows.length:=by
 intro l;induction l with
 |nil=>intro d;rfl
 |cons x r ih=>intro d;rw[cI,ih,Bt]
theorem acQ{i:Int}(h:vT rows i c=true)(sd:List Int):((B4 rows i c sd).rows.length:Int)=rows:=by
 unfold B4;rw[T3 (fun s=>mdb s rows)];exact ZG h
theorem acR{i:Int}{sd:List Int}: ∀d,d∈xP rows i c sd→(d.rows.length:Int)=rows:=by
 intro d hd;unfold xP at hd;split at hd
 ·rename_i h;have hu:vT rows i c=true:=by simp only[Ck,an]at h;exact h.1
  rcases bg.1 hd with h1|h1
  ·obtain⟨s,_,rfl⟩:=bQ.1 h1;have:=(G0 hu).2;show((nG s rows).length:Int)=rows
   rw[rS];omega
  ·rw[aV.1 h1];exact acQ hu sd
 ·cases hd
def Sf(i:Nat)(c:Nat):DB:=(gU x (c:Int)).getD i (aO .DB)
def rcs(i n:Nat):List bL:=(bK n).map fun c:Nat=>⟨(c:Int),Sf x i c⟩
theorem anv(i n:Nat):rcs x i (n+1)=rcs x i n++ [⟨(n:Int),Sf x i n⟩]:=by
 unfold rcs;rw[gl,gj];rfl
theorem afy(i n:Nat):(rcs x i n).length=n:=by simp[rcs]
theorem Oi(i n:Nat){k:Nat}(h:k<n):(rcs x i n).getD k (aO .bL)=⟨(k:Int),Sf x i k⟩:=jz _ _ _ _ h
def rJ(k i:Nat):cH:=⟨(x.aC.getD i (aO .cH)).id,(x.aC.getD i (aO .cH)).rows,(x.aC.getD i (aO .cH)).round,rcs x i k,(x.aC.getD i (aO .cH)).behavior⟩
theorem aEk{x:dF}(h:okW x=true):2≤x.ah.length∧x.ah.length≤8:=by
 have:=uk h;simp only[XF,an,dK]at this;omega
theorem anw{x:dF}(h:okW x=true){c:Nat}(hi:i<x.aC.length)(hc:c<x.ah.length):fZ (Sf x i c)=true∧((Sf x i c).rows.length:Int)=x.rows:=by
 have hl:(gU x (c:Int)).length=x.aC.length:=oY h aJ;have hm:Sf x i c∈gU x (c:Int):=getD_in _ aJ;exact⟨G3 h _ hm,acR _ hm⟩
theorem T4{x:dF}(h:okW x=true)(hi:i<x.aC.length):(x.aC.getD i (aO .cH)).id=(i:Int)∧(x.aC.getD i (aO .cH)).rows=x.rows∧(x.aC.getD i (aO .cH)).round=x.round∧(x.aC.getD i (aO .cH)).received= []∧0≤(x.aC.getD i (aO .cH)).behavior∧(x.aC.getD i (aO .cH)).behavior≤3:=by
 have hs:=iY h;have hr:=vU h;exact(V9 hr.1 hr.2 aJ).1 (Qf h hi)
theorem Oj{x:dF}(h:okW x=true){k:Nat}(hi:i<x.aC.length)(hk:k≤x.ah.length):fk (rJ x k i)=true:=by
 have hs:=iY h;have hr:=vU h;have hn:=aEk h;obtain⟨h1,h2,h3,h4,h5⟩:=T4 h hi;have hl:(rJ x k i).received.length=k:=afy x i k;simp only[fk,Gb,an,dK,decide_eq_true_eq,bE,hl];refine⟨⟨⟨⟨⟨?_,?_⟩,?_⟩,?_⟩,?_⟩,fun j hj=> ?_⟩
 ·show 0≤(x.aC.getD i (aO .cH)).id∧(x.aC.getD i (aO .cH)).id≤3
  omega
 ·show 1≤(x.aC.getD i (aO .cH)).rows∧(x.aC.getD i (aO .cH)).rows≤64
  omega
 ·exact h5
 ·show 0≤(x.aC.getD i (aO .cH)).round∧(x.aC.getD i (aO .cH)).round≤100000
  omega
 ·omega
 ·have hj':j<k:=cS.1 hj;have e:(rJ x k i).received.getD j (aO .bL)=⟨(j:Int),Sf x i j⟩:=Oi x i k hj';have ho:=anw h hi (show j<x.ah.length by omega);have er:(rJ x k i).rows=x.rows:=h2;simp only[BS,e,an,dK,beq_iff_eq,bO,o8,decide_eq_false_iff_not,er];refine⟨⟨⟨aJ,?_⟩,ho.1⟩,ho.2⟩;by_cases hz:j=0
  ·left;omega
  ·right;have e':(rJ x k i).received.getD (j-1) (aO .bL)=⟨((j-1:Nat):Int),Sf x i (j-1)⟩:=Oi x i k aJ;rw[e'];show¬(j:Int)≤((j-1:Nat):Int)
   omega
theorem afz{x:dF}(h:okW x=true){i:Nat}(hi:i<x.aC.length): ∀k,k≤x.ah.length→(FH x k).getD i (aO .cH)=rJ x k i
 |0,_=>by
  have h4:=(T4 h hi).2.2.2.1;show x.aC.getD i (aO .cH)=rJ x 0 i
  unfold rJ;have e:rcs x i 0=(x.aC.getD i (aO .cH)).received:=by rw[h4];rfl
  rw[e]
 |k+1,hk=>by
  have ha:sX (rJ x k i) (k:Int) (Sf x i k)=rJ x (k+1) i:=by
   unfold sX;show(⟨_,_,_,rcs x i k++ [⟨(k:Int),Sf x i k⟩],_⟩:cH)=_
   rw[←anv];rfl
  rw[Y8 h aJ hi,afz h hi k aJ];show rcv (rJ x k i) (k:Int) (Sf x i k)=_
  rw[adO (by unfold sY;rw[ha,Oj h hi aJ,Oj h hi hk];rfl),ha]
theorem Ok{x:dF}(h:okW x=true)(hi:i<x.aC.length):(cF x).getD i (aO .cH)=rJ x x.ah.length i:=by
 rw[cF,if_pos h];exact afz h hi _ (aS _)
theorem atc(i n:Nat){a:Nat}(ha:a<n):tQ (rcs x i n) (a:Int)=true∧G2 (rcs x i n) (a:Int)=Sf x i a:=by
 have hg:=Oi x i n ha;have:=acE (l:=rcs x i n) (c:=(a:Int)) (k:=a) (by rw[afy];exact ha) (by
  rw[cq];intro r hr;obtain⟨j,hj⟩:=mq.1 hr;have hj2:j<a:=by
   have:=(aU.1 hj).1;rw[ct]at this;omega
  rw[List.getElem?_take,if_pos hj2]at hj;have e:r=⟨(j:Int),Sf x i j⟩:=by
   rw[←Oi x i n (show j<n by omega),aq,hj];rfl
  rw[e];simp only[isC,beq_iff_eq];omega) (by rw[hg];simp[isC])
 rw[hg]at this;exact this
theorem T6(rows:Int)(l:List bL):(l6 rows l).rows.length=(ir rows).rows.length:=T3 (fun r:bL=>r.share) l _
theorem anx(d:DB):(alt d).rows.length=d.rows.length:=bX ..
theorem anz{x:dF}(h:okW x=true){d:DB}(hd:d∈eW (cF x)):(d.rows.length:Int)=x.rows:=by
 obtain⟨s,hs,rfl⟩:=bQ.1 hd;obtain⟨i,hi⟩:=mq.1 hs;have hl:i<x.aC.length:=by
  have:=(aU.1 hi).1;rw[mu h]at this;exact this
 have e:s=rJ x x.ah.length i:=by
  rw[←Ok h hl,aq,hi];rfl
 have hr:s.rows=x.rows:=by rw[e];exact(T4 h hl).2.1
 have hk:fk s=true:=by rw[e];exact Oj h hl (aS _)
 have hw:=vU h;have hn:((ir s.rows).rows.length:Int)=x.rows:=by rw[hr];exact Bz aJ
 unfold tJ;rw[if_pos hk];split
 ·rw[anx,T6];exact hn
 ·rw[T6];exact hn
theorem ZH: ∀(l:List DB) (a:DB),fZ a=true→(∀d,d∈l→fZ d=true∧d.rows.length=a.rows.length)→ ∃d,Xj a l=some d∧d.rows.length=a.rows.length
 | [],a,_,_=>⟨a,rfl,rfl⟩
 |s::r,a,ha,hl=>by
  have hs:=hl s (bA ..);have hx:pL a s=true:=by
   simp only[pL,an,decide_eq_true_eq];exact⟨⟨ha,hs.1⟩,aJ⟩
  have he:=Bt a s;obtain⟨d,h1,h2⟩:=ZH r (lM a s) (Fm ha) (fun d hd=>by
   have:=hl d (aE _ hd);exact⟨this.1,aJ⟩)
  exact⟨d,by rw[Xj,if_pos hx,h1],aJ⟩
theorem ZI{x:dF}(h:okW x=true):Ny (eW (cF x))=true∧((jw (eW (cF x))).rows.length:Int)=x.rows:=by
 have hs:=iY h;have hl:(eW (cF x)).length=x.aC.length:=by rw[show(eW (cF x)).length=(cF x).length from bt ..,mu h]
 have h0:(eW (cF x)).getD 0 (aO .DB)∈eW (cF x):=getD_in _ aJ;have e0:=anz h h0;obtain⟨d,h1,h2⟩:=ZH ((eW (cF x)).drop 1) ((eW (cF x)).getD 0 (aO .DB)) (yU (cF x) _ h0) (fun d hd=>by
  have hm:=gf hd;have:=anz h hm;exact⟨yU (cF x) _ hm,aJ⟩)
 have e:jwR (eW (cF x))=some d:=by
  rw[jwR,if_pos (by simp only[dR,dK];omega),h1]
 exact⟨by rw[Ny,e];rfl,by rw[jw,e];show(d.rows.length:Int)=x.rows;omega⟩
end
section
variable(l:List UInt8){k:Nat}(seed rows:Int){c:Int}{b:List UInt8}
structure xj where
 b:List UInt8
 i:Nat
 h:Int
def aiv(x:Int):Int:=af.wrap (aF af.bits x&&&aF af.bits 255).toNat
theorem anB(x:Int):0≤aiv x∧aiv x≤255:=by
 have h:(aF af.bits x&&&aF af.bits 255).toNat≤255:=by
  rw[Np];exact cB Nat.and_le_right cO
 unfold aiv;rw[cY aJ];omega
def xj.h1(c:xj):Int:=af.wrap (af.wrap (c.h*6364136223846793005)+1442695040888963407)
def xj.x0(c:xj):Int:=aiv (af.wrap (aF af.bits (c.h1.fdiv (2^(min (cX 33) af.bits)))^^^aF af.bits (c.h1.fdiv (2^(min (cX 47) af.bits)))).toNat)
def xj.x(c:xj):Int:=if c.i<c.b.length then aiv (af.wrap (c.x0+af.wrap ((c.b.getD c.i (aO .u8)).toNat:Int)))else c.x0
def xj.n(c:xj):xj:=⟨c.b,if c.i<c.b.length then c.i+1 else c.i,c.h1⟩
theorem xj.x_b(c:xj):0≤c.x∧c.x≤255:=by
 unfold xj.x;split
 ·exact anB _
 ·exact anB _
def gV(c:xj)(n:Int):Int:=if n≤0 then 0 else if n≤256 then c.x.tmod n else(af.wrap (af.wrap (af.wrap (c.x*65536)+af.wrap (c.n.x*256))+c.n.n.x)).tmod n
def dn(c:xj)(n:Int):xj:=if n≤0 then c else if n≤256 then c.n else c.n.n.n
theorem jO(c:xj)(n:Int):(dn c n).b=c.b:=by
 unfold dn;split
 ·rfl
 ·split<;>rfl
theorem nK(c:xj){n:Int}(h:0<n):0≤gV c n∧gV c n<n:=by
 have h1:=c.x_b;have h2:=c.n.x_b;have h3:=c.n.n.x_b;unfold gV;rw[if_neg aJ];split
 ·rw[jy h1.1];exact⟨lH _ aJ,kH _ h⟩
 ·rw[cY (a:=c.x*65536) aJ,cY (a:=c.n.x*256) aJ,cY (a:=c.x*65536+c.n.x*256) aJ,cY aJ,jy aJ];exact⟨lH _ aJ,kH _ h⟩
def aEl(h:Int)(x:UInt8):Int:=af.wrap (aF af.bits (af.wrap (af.wrap (af.wrap (h*137)+af.wrap (x.toNat:Int))+11))&&&aF af.bits 1073741823).toNat
def atd(k:Nat):Int:=(l.take k).foldl aEl (af.wrap (193017+(l.length:Int)))
theorem aiw{l:List UInt8}(h:k<l.length):atd l (k+1)=aEl (atd l k) (l.getD k (aO .u8)):=xE _ _ _ _ _ h
def QV:Nat:=min l.length 4000
def jQ:xj:=⟨l,0,atd l (QV l)⟩
theorem ay9{l:List UInt8}(h:(if decide ((k:Int)<(l.length:Int))=true then decide ((k:Int)<4000)else false)=true):k<QV l:=by
 unfold QV;by_cases h1:(k:Int)<(l.length:Int)
 ·rw[if_pos abz,decide_eq_true_eq]at h;omega
 ·rw[if_neg abz]at h;cases h
theorem ate{l:List UInt8}(hk:k≤QV l)(h:(if decide ((k:Int)<(l.length:Int))=true then decide ((k:Int)<4000)else false)=false):k=QV l:=by
 unfold QV at hk ⊢;by_cases h1:(k:Int)<(l.length:Int)
 ·rw[if_pos abz,decide_eq_false_iff_not]at h;omega
 ·omega
def Sg(m:Int):Int:=if af.wrap (3+af.wrap ((l.length:Int).tdiv 12))>m then m else af.wrap (3+af.wrap ((l.length:Int).tdiv 12))
def nwC(i:Nat):kf:=⟨(i:Int),((i^^^1:Nat):Int),GS (kh seed [199,(i:Int).tdiv 2]),kh seed [211,(i:Int)],[],0,[],0⟩
def nwD(i:Nat):bR:=⟨nwC seed i,nwC seed i⟩
def nwS(i:Nat):cH:=⟨(i:Int),rows,0,[],0⟩
def NG(n:Nat):List cH:=(bK n).map (nwS rows)
def CG(n:Nat):List bR:=(bK n).map (nwD seed)
def Wb(s p:Nat)(seed:Int):dF:=⟨rows,NG rows s,CG seed (2*p),⟨rows,[]⟩,GS (kh seed [197]),seed,0,[],0⟩
theorem Wc(n:Nat):(NG rows n).length=n:=by simp[NG]
theorem Ol(n:Nat):(CG seed n).length=n:=by simp[CG]
theorem aj8(k:Nat):NG rows (k+1)=NG rows k++ [nwS rows k]:=GU _ k
theorem aj7(k:Nat):CG seed (k+1)=CG seed k++ [nwD seed k]:=GU _ k
theorem T7(i:Nat):((i^^^1:Nat):Int).tdiv 2=(i:Int).tdiv 2:=by
 have h:(i^^^1)/2=i/2:=by
  rw[PS];simp
 rw[vh aJ,vh aJ];omega
theorem Wd(i:Nat):i^^^1≠i:=by
 intro h;have h2:(i^^^1)^^^i=i^^^i:=by rw[h]
 rw[vv i 1,JA,MV,MW]at h2;cases h2
theorem aza{seed:Int}{i:Nat}(hi:i<8):iJ (nwC seed i)=true:=by
 have hk:=zR (iQ seed [199,(i:Int).tdiv 2]);have hx:i^^^1<8:=Bh i 8 hi cO;have hn:=Wd i;have hB:VY (nwC seed i):=by
  refine⟨aY _,aY _,?_,?_⟩<;>(intro b hb;cases hb)
 refine LJ.2 ⟨⟨⟨by show 0≤(i:Int)∧(i:Int)≤7;omega,by show 0≤((i^^^1:Nat):Int)∧((i^^^1:Nat):Int)≤7;omega⟩,by show(i:Int)≠((i^^^1:Nat):Int);omega,?_⟩,hB,by show(0:Int)≤0∧(0:Int)≤0;omega,by show(0:Int)≤0;omega,by show(0:Int)≤100000;omega⟩;show jZ (GS _)=true
 unfold jZ;rw[dK];omega
theorem afA{rows seed:Int}{s p:Nat}(hr:1≤rows∧rows≤64)(hs:2≤s∧s≤4)(hp:1≤p∧p≤4):okW (Wb rows s p seed)=true:=by
 have hl1:=Wc rows s;have uI:=Ol seed (2*p);have hk:=zR (iQ seed [197]);refine RP.ok ⟨hr,by show 2≤(NG rows s).length∧(NG rows s).length≤4;omega,by show 2≤(CG seed (2*p)).length∧(CG seed (2*p)).length≤8;omega,by show(CG seed (2*p)).length % 2=0;omega,rY.2 ⟨⟨hr,by show 0≤8;omega⟩,fun i hi=>by cases hi⟩,rfl,?_,?_,by show(0:Int)≤0∧(0:Int)≤100000;omega,by show(0:Int)≤0;omega,fun i hi=> ?_,fun i hi=> ?_⟩
 ·show gS ⟨rows,[]⟩<0
  rw[acP rfl];decide
 ·show jZ (GS _)=true
  unfold jZ;rw[dK];omega
 ·have hi':i<s:=by have:i<(NG rows s).length:=hi;omega
  have e:(NG rows s).getD i (aO .cH)=nwS rows i:=jz _ _ _ _ hi';show sOK rows 0 i ((NG rows s).getD i (aO .cH))
  rw[e];exact⟨rfl,rfl,rfl,rfl,by show(0:Int)≤0;omega,by show(0:Int)≤3;omega⟩
 ·have hi':i<2*p:=by have:i<(CG seed (2*p)).length:=hi;omega
  have hx:=Bh i (2*p) hi' aJ;have e: ∀j,j<2*p→(CG seed (2*p)).getD j (aO .bR)=nwD seed j:=fun j hj=>jz _ _ _ _ hj;have hc:=aza (seed:=seed) (i:=i) aJ;have aHb:gx (nwD seed i)=true:=Dok.iff.2 ⟨hc,hc,mz.2 ⟨⟨rfl,rfl,rfl,rfl⟩,rfl⟩,iK _,iK _,LI _⟩;show(gx ((CG seed (2*p)).getD i (aO .bR))&&(((CG seed (2*p)).getD i (aO .bR)).live.id==(i:Int))&&(((CG seed (2*p)).getD i (aO .bR)).live.gJ==((i^^^1:Nat):Int))&&(((CG seed (2*p)).getD i (aO .bR)).live.key==((CG seed (2*p)).getD (i^^^1) (aO .bR)).live.key)&&decide (((CG seed (2*p)).getD i (aO .bR)).live.next≤0))=true
  rw[e i hi',e _ hx,aHb];simp only[an,beq_iff_eq,decide_eq_true_eq];refine⟨⟨⟨⟨trivial,rfl⟩,rfl⟩,?_⟩,iK _⟩;show GS (kh seed [199,(i:Int).tdiv 2])=GS (kh seed [199,((i^^^1:Nat):Int).tdiv 2])
  rw[T7]
theorem aEo{x:dF}{n:Nat}(h:okW x=true)(hr:x.replaced.length≤n):wC x n:=by
 have w:=RP.of h;refine⟨He (amY h),?_,?_,hr⟩
 ·exact cB (G9 cE 960 8 _ (fun d hd=>uy (TT h d hd)) w.ndv.2) cO
 ·have ha:=rY.1 w.arc;refine cB (G9 jo 1600 8 _ (fun y hy=> ?_) ha.1.2) cO;obtain⟨i,hi,rfl⟩:=fL.1 hy;have h2:=qH.1 (ha.2 i hi);have e:x.aH.rounds.getD i (aO .bn)=x.aH.rounds[i]:=by rw[aq,az hi];rfl
  rw[e]at h2;exact QF h2.2.2.1
theorem We{x:dF}{i:Nat}{d:bR}(h:okW x=true)(hi:i<x.ah.length)(hd:gx d=true)(hs:B7 d.live (x.ah.getD i (aO .bR)).live)(hn:d.live.next≤x.round):okW (FK x i d)=true:=by
 have w:=RP.of h;have hg: ∀j,j<x.ah.length→(x.ah.set i d).getD j (aO .bR)=if i=j then d else x.ah.getD j (aO .bR):=fun j hj=>rX _ _ hj
 refine RP.ok ⟨w.rows,w.nsv,by show 2≤(x.ah.set i d).length∧(x.ah.set i d).length≤8;rw[bX];exact w.ndv,by show(x.ah.set i d).length % 2=0;rw[bX];exact w.even,w.arc,w.MU,w.last,w.key,w.round,w.CF,w.sv,fun j hj=> ?_⟩;have hj:j<x.ah.length:=by have:j<(x.ah.set i d).length:=hj;rwa [bX]at this
 have hx:=Bh j x.ah.length hj w.even;have hq:=Bm h hj;have key: ∀m,m<x.ah.length→((x.ah.set i d).getD m (aO .bR)).live.key=(x.ah.getD m (aO .bR)).live.key:=by
  intro m hm;rw[hg m hm];split
  ·rename_i e;subst e;exact hs.2.2.1
  ·rfl
 simp only[M8,an,decide_eq_true_eq,beq_iff_eq]at hq ⊢;show(((gx ((x.ah.set i d).getD j (aO .bR))=true∧((x.ah.set i d).getD j (aO .bR)).live.id=(j:Int))∧((x.ah.set i d).getD j (aO .bR)).live.gJ=((j^^^1:Nat):Int))∧((x.ah.set i d).getD j (aO .bR)).live.key=((x.ah.set i d).getD (j^^^1) (aO .bR)).live.key)∧((x.ah.set i d).getD j (aO .bR)).live.next≤x.round
 rw[key j hj,key _ hx,hg j hj];split
 ·rename_i e;subst e;exact⟨⟨⟨⟨hd,hs.1.trans hq.1.1.1.2⟩,hs.2.1.trans hq.1.1.2⟩,hq.1.2⟩,hn⟩
 ·exact hq
theorem anC{x:dF}(h:gY x c=true):c.toNat<x.ah.length∧gx (D4 x c)=true∧(D4 x c).live.next≤x.round:=by
 obtain⟨h1,h2,h3⟩:=p8 h;have hi:c.toNat<x.ah.length:=by omega
 have hq:=Bm h1 hi;simp only[M8,an,decide_eq_true_eq]at hq;exact⟨hi,hq.1.1.1.1,hq.2⟩
theorem afB{c:kf}(h:iJ c=true):iJ (qG c b)=true:=by
 unfold qG;split
 ·rename_i hk;simp only[CZ,an]at hk;exact hk.2
 ·exact h
theorem T8(c:kf)(b:List UInt8):B7 (qG c b) c∧(qG c b).next=c.next∧(qG c b).sent=c.sent∧(qG c b).inbox=c.inbox:=by
 unfold qG;split
 ·exact⟨⟨rfl,rfl,rfl,rfl⟩,rfl,rfl,rfl⟩
 ·exact⟨⟨rfl,rfl,rfl,rfl⟩,rfl,rfl,rfl⟩
theorem atf{d:bR}(h:gx d=true):gx (Jf d b)=true∧B7 (Jf d b).live d.live∧(Jf d b).live.next=d.live.next:=by
 unfold Jf;split
 ·rename_i hk;simp only[HW,an]at hk;have hd:=Dok.iff.1 h;obtain⟨p1,p2⟩:=mz.1 hd.same;obtain⟨a1,a2,a3,a4⟩:=T8 d.live b;obtain⟨b1,b2,b3,b4⟩:=T8 d.saved b;refine⟨Dok.iff.2 ⟨afB hd.live,afB hd.saved,mz.2 ⟨⟨a1.1.trans (p1.1.trans b1.1.symm),a1.2.1.trans (p1.2.1.trans b1.2.1.symm),a1.2.2.1.trans (p1.2.2.1.trans b1.2.2.1.symm),a1.2.2.2.trans (p1.2.2.2.trans b1.2.2.2.symm)⟩,?_⟩,?_,?_,?_⟩,a1,a2⟩
  ·show(qG d.live b).aT=(qG d.saved b).aT
   rw[Jw hk.1.2,Jw hk.2];show d.live.aT++ [b]=d.saved.aT++ [b]
   rw[p2]
  ·show(qG d.saved b).sent≤(qG d.live b).sent
   rw[a3,b3];exact hd.sent
  ·show(qG d.saved b).next≤(qG d.live b).next
   rw[a2,b2];exact hd.next
  ·show GC (qG d.saved b).inbox (qG d.live b).inbox=true
   rw[a4,b4];exact hd.pre
 ·exact⟨h,⟨rfl,rfl,rfl,rfl⟩,rfl⟩
theorem anD{x:dF}(h:okW x=true):okW (TU x c b)=true:=by
 unfold TU;split
 ·rename_i hk;obtain⟨h1,h2,h3⟩:=anC hk;obtain⟨q1,q2,q3⟩:=atf (b:=b) h2;exact We h h1 q1 q2 (by rw[q3];exact h3)
 ·exact h
theorem afC{c:kf}(h:iJ c=true):gx ⟨c,c⟩=true:=Dok.iff.2 ⟨h,h,mz.2 ⟨⟨rfl,rfl,rfl,rfl⟩,rfl⟩,iK _,iK _,LI _⟩
theorem anE{x:dF}(h:okW x=true):okW (Se x c)=true:=by
 unfold Se;split
 ·rename_i hk;obtain⟨h1,h2,h3⟩:=anC hk;have hd:=Dok.iff.1 h2;obtain⟨p1,p2⟩:=mz.1 hd.same;have hn:=hd.next;rw[Zr,if_pos h2];exact We h h1 (afC hd.saved) ⟨p1.1.symm,p1.2.1.symm,p1.2.2.1.symm,p1.2.2.2.symm⟩ (by show(D4 x c).saved.next≤x.round;omega)
 ·exact h
theorem anF{x:dF}(h:okW x=true):okW (D5 x c)=true:=by
 unfold D5;split
 ·rename_i hk;obtain⟨h1,h2,h3⟩:=anC hk;rw[Sd,if_pos h2];exact We h h1 (afC (Dok.iff.1 h2).live) ⟨rfl,rfl,rfl,rfl⟩ h3
 ·exact h
theorem anG{x:dF}{i b:Int}(h:okW x=true):okW (V1 x i b)=true:=by
 unfold V1;split
 ·rename_i hk;obtain⟨_,h1,h2⟩:=acN hk;have w:=RP.of h;refine RP.ok ⟨w.rows,by show 2≤(x.aC.set i.toNat (beh (x.aC.getD i.toNat (aO .cH)) b)).length∧(x.aC.set i.toNat (beh (x.aC.getD i.toNat (aO .cH)) b)).length≤4;rw[bX];exact w.nsv,w.ndv,w.even,w.arc,w.MU,w.last,w.key,w.round,w.CF,fun j hj=> ?_,w.dv⟩;have hj:j<x.aC.length:=by have:j<(x.aC.set i.toNat (beh (x.aC.getD i.toNat (aO .cH)) b)).length:=hj;rwa [bX]at this
  show sOK x.rows x.round j ((x.aC.set i.toNat (beh (x.aC.getD i.toNat (aO .cH)) b)).getD j (aO .cH))
  rw[rX _ _ hj];have hq:=w.sv j hj;split
  ·rename_i e;subst e;obtain⟨q1,q2,q3,q4,_⟩:=hq;exact⟨q1,q2,q3,q4,h2.1,h2.2⟩
  ·exact hq
 ·exact h
theorem aEp(x:dF):(MR x).round=x.round∧(MR x).cancelled=x.cancelled∧(MR x).replaced=x.replaced∧(MR x).rows=x.rows∧(MR x).aC=x.aC∧(MR x).aH=x.aH∧(MR x).ah.length=x.ah.length∧(MR x).bW=x.bW:=by
 unfold MR;split
 ·exact⟨rfl,rfl,rfl,rfl,rfl,rfl,bt ..,rfl⟩
 ·exact⟨rfl,rfl,rfl,rfl,rfl,rfl,rfl,rfl⟩
theorem atg(x:dF):(testW x).round=x.round∧(testW x).cancelled=x.cancelled∧(testW x).rows=x.rows∧(testW x).aH=x.aH∧(testW x).ah=x.ah∧(testW x).bW=x.bW:=by
 unfold testW;split
 ·exact⟨rfl,rfl,rfl,rfl,rfl,rfl⟩
 ·exact⟨rfl,rfl,rfl,rfl,rfl,rfl⟩
theorem aix{x:dF}(h:okW x=true)(hc:x.cancelled<9223372036854775807):okW (gG x)=true:=by
 unfold gG;split
 ·rename_i hk;have hr:x.round<99999:=by simp only[tD,h,dj,bO,decide_eq_false_iff_not]at hk;omega
  exact anu (ZD (TZ h hr hc fun _=>⟨TQ _ (yU _),(ZI h).2⟩))
 ·exact h
theorem anH{x:dF}(h:okW x=true)(hr:x.round<99999)(hc:x.cancelled<9223372036854775807):(gG x).round=x.round+1∧(gG x).cancelled=(if(p7 x.bW (cF x) (eW (cF x)) (mV x) (cF x).length).length=0 then x.cancelled else x.cancelled+1)∧(gG x).rows=x.rows∧(gG x).ah.length=x.ah.length∧gS (gG x).aH=(if(p7 x.bW (cF x) (eW (cF x)) (mV x) (cF x).length).length=0 then x.round else gS x.aH):=by
 have w:=RP.of h;have w3:=w.round;have w4:=w.CF;have hk:=Hv h hr;rw[gG,if_pos hk];obtain⟨a1,a2,_,a4,_,a6,a7,_⟩:=aEp (testW (eX x (p7 x.bW (cF x) (eW (cF x)) (mV x) (cF x).length) (jw (eW (cF x)))));obtain⟨b1,b2,b3,b4,b5,_⟩:=atg (eX x (p7 x.bW (cF x) (eW (cF x)) (mV x) (cF x).length) (jw (eW (cF x))));have hj:=ZI h;rw[a1,a2,a4,a6,a7,b1,b2,b3,b4,b5,eX,if_pos hk];refine⟨cY aJ,?_,rfl,rfl,?_⟩
 ·dsimp only;split
  ·rfl
  ·exact cY aJ
 ·dsimp only;split
  ·exact(anq w.arc w3 w.last (TQ _ (yU _)) (by rw[w.MU];exact hj.2)).2.1
  ·rfl
structure QW(x:dF)(n:Nat):Prop where
 ok:okW x=true
 round:x.round≤n
 CF:x.cancelled≤n
 ZJ:x.replaced.length≤8*n
theorem QW.mono{x:dF}{n m:Nat}(h:QW x n)(hn:n≤m):QW x m:=⟨h.ok,by have:=h.round;omega,by have:=h.CF;omega,by have:=h.ZJ;omega⟩
theorem QW.C{x:dF}{n:Nat}(h:QW x n):wC x (8*n):=aEo h.ok h.ZJ
theorem QW.R{x:dF}{n:Nat}(h:QW x n)(hn:n≤100000):wR x:=ana h.C aJ
theorem QW.sm{x:dF}{n:Nat}(h:QW x n):QW (TU x c b) n:=by
 refine⟨anD h.ok,?_,?_,?_⟩<;>(unfold TU;split)<;>first|exact h.round|exact h.CF|exact h.ZJ
theorem QW.cc{x:dF}{n:Nat}(h:QW x n):QW (Se x c) n:=by
 refine⟨anE h.ok,?_,?_,?_⟩<;>(unfold Se;split)<;>first|exact h.round|exact h.CF|exact h.ZJ
theorem QW.sv{x:dF}{n:Nat}(h:QW x n):QW (D5 x c) n:=by
 refine⟨anF h.ok,?_,?_,?_⟩<;>(unfold D5;split)<;>first|exact h.round|exact h.CF|exact h.ZJ
theorem QW.co{x:dF}{n:Nat}{i b:Int}(h:QW x n):QW (V1 x i b) n:=by
 refine⟨anG h.ok,?_,?_,?_⟩<;>(unfold V1;split)<;>first|exact h.round|exact h.CF|exact h.ZJ
theorem QW.rd{x:dF}{n:Nat}(h:QW x n)(hn:n≤99998):QW (gG x) (n+1):=by
 have h1:=h.round;have h2:=h.CF;have hf:=anH h.ok aJ aJ;have hC:=Zq h.C;refine⟨aix h.ok aJ,aJ,?_,by have:=hC.2.2.2;omega⟩;rw[hf.2.1];split<;>omega
theorem azb(h:l.length≤1048576){m:Int}(hm:3≤m):3≤Sg l m∧Sg l m≤m:=by
 unfold Sg;rw[vh aJ,cY (a:=(l.length:Int)/12) aJ,cY aJ];split<;>omega
end
structure ArP where
 c:xj
 a:tE
 r:Int
def n4(c:xj)(a b:Int):xj:=dn (dn (dn (dn c a) b) 99) 999
structure ClP where
 c:xj
 x:kf
def nx(x:kf)(n:Int):kf:=⟨x.id,x.gJ,x.key,x.seed,x.aT,x.sent,x.inbox,n⟩
structure DvP where
 c:xj
 d:bR
def aHd(p:DvP):Prop:=p.d.live.sent<(p.d.live.aT.length:Int)
instance (p:DvP):Decidable (aHd p):=inferInstanceAs (Decidable (_<_))
def low(l:List bL)(c:Int):Nat:=(l.takeWhile fun r=>decide (r.client<c)).length
structure SvP where
 c:xj
 s:cH
section
variable{a b v:List Int}{n rows:Int}{d:DB}{x:dF}
theorem yl: ∀(a b:List UInt8) (i:Nat),AH (iA a b) i=AH a i^^^AH b i
 | [],b,i=>by rw[uK];simp[AH]
 |x::a,[],i=>by rw[oS];simp[AH]
 |x::a,y::b,0=>by simp[iA,AH]
 |x::a,y::b,i+1=>by
  have:=yl a b i;rw[iA];simpa[AH]using this
theorem azj{a b:List UInt8}(hl:a.length=b.length)(h: ∀i,AH a i=AH b i):a=b:=by
 apply qU hl;intro i h1 h2;have:=h i;unfold AH at this;rw[aq,az h1,aq,az h2]at this;exact this
def sb(rows:List (List UInt8))(v:List Int)(i k:Nat):UInt8:=if k<v.length∧v.getD k (aO .int)=1 then AH (rows.getD k (aO (.sl .u8))) i else 0
def sx(rows:List (List UInt8))(v:List Int)(i:Nat):Nat→UInt8
 |0=>0
 |n+1=>sx rows v i n^^^sb rows v i n
theorem Z5(rows:List (List UInt8))(v:List Int)(i:Nat): ∀n,AH (Ag rows v n) i=sx rows v i n
 |0=>rfl
 |n+1=>by
  have ih:=Z5 rows v i n;by_cases h:n<v.length∧v.getD n (aO .int)=1
  ·rw[DT h.1 h.2,yl,ih,sx,sb,if_pos h]
  ·rw[xh h,ih,sx,sb,if_neg h,n7]
theorem azk(hl:b.length=a.length){k:Nat}(hk:k<a.length):(eJ xb a b).getD k (aO .int)=xb (a.getD k (aO .int)) (b.getD k (aO .int)):=by
 have hz:k<(eJ xb a b).length:=by rw[lK];omega
 rw[aq,az hz,FX,aq,az hk,aq,az (show k<b.length by omega)];rfl
theorem azl(rows:List (List UInt8))(ha:gW a n=true)(hb:gW b n=true)(i k:Nat):sb rows (eJ xb a b) i k=sb rows a i k^^^sb rows b i k:=by
 have h1:=rR ha;have h2:=rR hb;have hl:b.length=a.length:=by omega
 have hz:(eJ xb a b).length=a.length:=by rw[lK];omega
 unfold sb;rw[hz,hl];by_cases hk:k<a.length
 ·rw[azk hl hk];rcases Fe ha k hk with e1|e1<;>rcases Fe hb k aJ with e2|e2<;>rw[e1,e2]<;>simp[xb,hk]
 ·simp[hk]
theorem aEq(a b c d:UInt8):(a^^^b)^^^(c^^^d)=(a^^^c)^^^(b^^^d):=by
 rw[iw,iw, ←iw b c d,zv b c,iw c b d]
theorem anM(rows:List (List UInt8)){a b:List Int}{n:Int}(ha:gW a n=true)(hb:gW b n=true)(i:Nat): ∀k,sx rows (eJ xb a b) i k=sx rows a i k^^^sx rows b i k
 |0=>by simp[sx]
 |k+1=>by rw[sx,sx,sx,anM rows ha hb i k,azl rows ha hb,aEq]
theorem atB(ha:gW a n=true)(hb:gW b n=true):gW (eJ xb a b) n=true:=by
 have h1:=rR ha;have h2:=rR hb;have hz:(eJ xb a b).length=a.length:=by rw[lK];omega
 simp only[gW,an,decide_eq_true_eq,bE,dK];refine⟨⟨aJ,h1.2⟩,fun x hx=> ?_⟩;obtain⟨k,hk,rfl⟩:=fL.1 hx;rw[FX];unfold xb;split<;>omega
theorem acY(ha:gW a n=true)(hb:gW b n=true):um a b=eJ xb a b:=by
 have h1:=rR ha;apply Bj;rw[wm,h1.1,ha,hb];rfl
theorem Z6(rows:List (List UInt8)){n:Int}(hn:1≤n∧n≤64)(i k:Nat): ∀(sd:List Int) (l:List Int),gW l n=true→
  gW (sd.foldl (fun l s=>um l (dI s n)) l) n=true∧sx rows (sd.foldl (fun l s=>um l (dI s n)) l) i k=sd.foldl (fun z s=>z^^^sx rows (dI s n) i k) (sx rows l i k)
 | [],l,h=>⟨h,rfl⟩
 |s::sd,l,h=>by
  have hr:=Eb (s:=s) hn;have e:=acY h hr;have hz:=atB h hr;have ih:=Z6 rows hn i k sd (eJ xb l (dI s n)) hz;rw[cI,cI,e];refine⟨ih.1,?_⟩;rw[ih.2,anM rows h hr]
theorem Wu{α:Type}(g:α→UInt8): ∀(l:List α) (z:UInt8),l.foldl (fun z s=>z^^^g s) z=z^^^l.foldl (fun z s=>z^^^g s) 0
 | [],z=>by simp
 |s::l,z=>by
  rw[cI,cI,Wu g l (z^^^g s),Wu g l (0^^^g s),iU,iw]
theorem Oo(i:Nat):AH VD i=0:=by
 unfold AH VD;rw[aq,kW];split<;>rfl
theorem anN(hd:fZ d=true)(hv:gW v d.rows.length=true):kP d v=iA VD (G7 d.rows v):=by
 rw[kP,hd,hv];rfl
theorem anO(hd:fZ d=true)(hv:gW v d.rows.length=true)(i:Nat):AH (kP d v) i=sx d.rows v i d.rows.length:=by
 rw[anN hd hv,yl,Oo,iU];exact Z5 d.rows v i _
theorem anP(hd:fZ d=true)(hv:gW v d.rows.length=true):su d v=true:=by
 apply I5;rw[anN hd hv,jg,sV];omega
theorem afS(hd:fZ d=true)(hv:gW v d.rows.length=true):(kP d v).length=24:=Fl (anP hd hv)
theorem Z7{i:Int}(h:qg rows i=true):gW (wA rows i) rows=true:=by
 obtain⟨h1,h2,h3,h4⟩:=Aa h;rw[wZ h];simp only[gW,an,decide_eq_true_eq,bE,dK,bX,ku];refine⟨⟨aJ,h2⟩,fun x hx=> ?_⟩;rcases iT hx with h5|h5
 ·have h6:=(yO.1 h5).2;rw[h6];show 0≤(0:Int)∧(0:Int)≤1
  omega
 ·omega
theorem atC(db:List (List UInt8)){i:Int}(h:qg rows i=true)(j:Nat): ∀n:Nat,(n:Int)≤rows→sx db (wA rows i) j n=if i<(n:Int)then AH (db.getD i.toNat (aO (.sl .u8))) j else 0:=by
 obtain⟨h1,h2,h3,h4⟩:=Aa h;intro n;induction n with
 |zero=>intro _;rw[if_neg aJ];rfl
 |succ n ih=>
  intro hn;have hg:(wA rows i).getD n (aO .int)=if i.toNat=n then 1 else 0:=by
   rw[wZ h,rX _ _ (by rw[ku];omega)];split
   ·rfl
   ·rw[aq,kW,if_pos aJ];rfl
  have hl:n<(wA rows i).length:=by rw[wZ h,bX,ku];omega
  rw[sx,ih aJ,sb,hg];by_cases he:i.toNat=n
  ·rw[if_neg aJ,if_pos ⟨hl,if_pos he⟩,if_pos aJ,iU,he]
  ·rw[if_neg (show¬(n<(wA rows i).length∧(if i.toNat=n then(1:Int)else 0)=1)by rw[if_neg he];omega),n7];by_cases hi:i<(n:Int)
   ·rw[if_pos hi,if_pos aJ]
   ·rw[if_neg hi,if_neg aJ]
theorem afT(i:Nat): ∀(l:List (List UInt8)) (a:List UInt8),AH (l.foldl iA a) i=l.foldl (fun z b=>z^^^AH b i) (AH a i)
 | [],_=>rfl
 |b::l,a=>by rw[cI,cI,afT i l,yl]
theorem Z8: ∀(l:List (List UInt8)) (a:List UInt8),(∀b,b∈l→b.length=24)→a.length=24∨(l≠ []∧a.length≤24)→(l.foldl iA a).length=24
 | [],a,_,h=>by
   rcases h with h|h
   ·exact h
   ·exact absurd rfl h.1
 |b::l,a,hb,h=>by
  rw[cI];refine Z8 l _ (fun y hy=>hb y (aE _ hy)) (bP ?_);have:=hb b (bA ..);rw[jg];rcases h with h|h<;>omega
theorem aiQ{row:Int}{sd:List Int}(hd:fZ d=true)(hl:(d.rows.length:Int)=rows)(hu:qg rows row=true)(hc:OK rows row sd=true):
  (∀v,v∈qd rows row sd→gW v d.rows.length=true)∧DW ((qd rows row sd).map (kP d))=d.rows.getD row.toNat (aO (.sl .u8)):=by
 obtain⟨h1,h2,h3,h4⟩:=Aa hu;have hsel: ∀s,gW (dI s rows) rows=true:=fun s=>Eb ⟨h1,h2⟩;have anQ: ∀i k,gW (DE rows row sd) rows=true∧sx d.rows (DE rows row sd) i k=sd.foldl (fun z s=>z^^^sx d.rows (dI s rows) i k) (sx d.rows (wA rows row) i k):=fun i k=>Z6 d.rows ⟨h1,h2⟩ i k sd _ (Z7 hu);have hv: ∀v,v∈qd rows row sd→gW v d.rows.length=true:=by
  intro v hm;rw[hl];rw[qd,if_pos hc]at hm;rcases bg.1 hm with h|h
  ·obtain⟨s,_,rfl⟩:=bQ.1 h;exact hsel s
  ·rw[aV.1 h];exact(anQ 0 0).1
 refine⟨hv,azj ?_ fun i=> ?_⟩
 ·rw[uM hd _ aJ];refine Z8 _ _ (fun b hb=> ?_) (bw ⟨?_,by show 0≤24;omega⟩)
  ·obtain⟨v,hm,rfl⟩:=bQ.1 hb;exact afS hd (hv v hm)
  ·rw[qd,if_pos hc];simp
 ·show AH (((qd rows row sd).map (kP d)).foldl iA []) i=_
  rw[afT,Sw,qd,if_pos hc,fQ];have e0:AH ([]:List UInt8) i=0:=rfl;have e1:(sd.map fun s=>dI s rows).foldl (fun z v=>z^^^AH (kP d v) i) 0=sd.foldl (fun z s=>z^^^sx d.rows (dI s rows) i d.rows.length) 0:=by
   rw[Sw];have:(fun(z:UInt8) s=>z^^^AH (kP d (dI s rows)) i)=fun z s=>z^^^sx d.rows (dI s rows) i d.rows.length:=by
    funext z s;rw[anO hd (by rw[hl];exact hsel s)]
   rw[this]
  rw[e0,e1,cI,Sx,anO hd (by rw[hl];exact(anQ 0 0).1),(anQ i d.rows.length).2,Wu _ sd (sx d.rows (wA rows row) i d.rows.length),atC d.rows hu i d.rows.length aJ,if_pos aJ];rw[zv (AH _ i), ←iw,Gq,iU]
theorem QZ{α β:Type}(f:α→β)(l:List α)(d:α):((bK l.length).map fun i=>f (l.getD i d))=l.map f:=by
 apply qU
 ·simp
 ·intro i h1 h2;simp only[bt,Av]at h1;simp[aq,az h1]
theorem atD{r row s:Int}(h:okW x=true)(hb: ∀i,i<x.aC.length→(x.aC.getD i (aO .cH)).behavior≠3)(hh:nk x.aH.rounds r=true)(hr:0≤row∧row<x.rows):
  Ah x r row s=true∧FJ x r row s=(l5 x.aH.rounds r).rows.getD row.toNat (aO (.sl .u8)):=by
 have hs:=iY h;have hrw:=(vU h).1;obtain⟨hd,hl⟩:=ZA h hh;have hu:qg x.rows row=true:=by
  simp only[qg,an,dK];rw[cY aJ];omega
 have Gj:=uo x.aC.length r row s;have hul:=rR (Z7 hu);have hc:OK x.rows row (mI x.aC.length r row s)=true:=by
  simp only[OK,an,bO,decide_eq_false_iff_not,dR,dK];rw[Gj,cY aJ];omega
 obtain⟨q1,q2⟩:=aiQ (sd:=mI x.aC.length r row s) hd hl hu hc;have hql:(query' x r row s).length=x.aC.length:=by
  show(qd x.rows row (mI x.aC.length r row s)).length=_
  rw[qd,if_pos hc,aQ,bt,Gj];show x.aC.length-1+1=_
  omega
 have hp:yR x r row s=(query' x r row s).map (kP (l5 x.aH.rounds r)):=by
  unfold yR B6;rw[jM, ←QZ (kP (l5 x.aH.rounds r)) (query' x r row s) (aO (.sl .int))];apply List.map_congr_left;intro i hi;have hi:=cS.1 hi;have hm:(query' x r row s).getD i (aO (.sl .int))∈query' x r row s:=getD_in _ hi;have hsg:=anP hd (q1 _ hm);show(Xi _ _ _ _ _).data=_
  rw[Xi,if_pos hsg,if_neg (hb i aJ)];rfl
 have hall: ∀a,a∈yR x r row s→a.length=24:=by
  intro a ha;rw[hp]at ha;obtain⟨v,hm,rfl⟩:=bQ.1 ha;exact afS hd (q1 v hm)
 have hcm:nq (yR x r row s)=true:=by
  simp only[nq,an,bE,decide_eq_true_eq,dR,dK];refine⟨?_,fun a ha=>by have:=hall a ha;omega⟩;rw[hp,bt,hql];omega
 refine⟨by rw[Ah,hh,hcm];rfl,?_⟩;rw[FJ,if_pos hh,Ob hcm,hp];exact q2
theorem azm{b:List UInt8}(h:0<b.length):UA b≠b:=by
 intro he;have h1:(UA b).getD 0 (aO .u8)=b.getD 0 (aO .u8):=by rw[he]
 unfold UA at h1;rw[rX _ _ h,if_pos rfl]at h1;have h2:b.getD 0 (aO .u8)^^^(b.getD 0 (aO .u8)^^^128)=b.getD 0 (aO .u8)^^^b.getD 0 (aO .u8):=by rw[h1]
 rw[←iw,Gq,iU]at h2;exact absurd h2 cO
theorem acZ(h:okW x=true)(hh:nk x.aH.rounds (gS x.aH)=true){k:Nat}(hb:(x.aC.getD k (aO .cH)).behavior=3):tsB x k=true:=by
 have hsg:=am9 h hh (kh x.seed [227,x.round,(k:Int)]);have h24:=Fl hsg;have e:tsA x k=mkA (tsK x k) (x.aC.getD k (aO .cH)).id (gS x.aH) (dI (kh x.seed [227,x.round,(k:Int)]) x.rows) (UA (kP (l5 x.aH.rounds (gS x.aH)) (dI (kh x.seed [227,x.round,(k:Int)]) x.rows))):=by
  unfold tsA;rw[Xi,if_pos hsg,if_pos hb]
 unfold tsB fls;rw[e];simp only[an,bO,beq_eq_false_iff_ne];exact⟨by unfold aiq mkA;simp,azm aJ⟩
theorem Q0{a:tE}(h:0<a.rounds.length):nk a.rounds (gS a)=true:=by
 rw[Aq h];refine fF.2 ⟨a.rounds.getD (a.rounds.length-1) (aO .bn),getD_in _ aJ,?_⟩;unfold Xh;simp
theorem atE(h:okW x=true)(ha:0<x.aH.rounds.length):HV x=true:=by rw[HV,h,Q0 ha];rfl
theorem anR(h:okW x=true)(ha:0<x.aH.rounds.length): ∀i,i<(testW x).aC.length→((testW x).aC.getD i (aO .cH)).behavior≠3:=by
 have hh:=Q0 ha;have hs:=iY h;have key: ∀k,k≤x.aC.length→ ∀i,i<x.aC.length→(i<k→((HP x k).1.getD i (aO .cH)).behavior≠3)∧(k≤i→(HP x k).1.getD i (aO .cH)=x.aC.getD i (aO .cH)):=by
  intro k;induction k with
  |zero=>intro _ i _;exact⟨fun hi=>by omega,fun _=>rfl⟩
  |succ k ih=>
   intro hk i hi;have hlen:=(afq h k aJ).2.1;have q:=ih aJ i hi;cases hb:tsB x k with
   |true=>
    have ho:D3 (HP x k).1 (k:Int)=true:=by
     rw[D3,dK,hlen,cY aJ];omega
    rw[VX hb,V2 ho];show(i<k+1→((((HP x k).1.set (k:Int).toNat _).getD i (aO .cH)).behavior≠3))∧(k+1≤i→((HP x k).1.set (k:Int).toNat _).getD i (aO .cH)=_)
    rw[rX _ _ aJ];refine⟨fun h1=> ?_,fun h1=> ?_⟩
    ·split
     ·show(0:Int)≠3;decide
     ·exact q.1 aJ
    ·rw[if_neg aJ];exact q.2 aJ
   |false=>
    rw[QE hb];refine⟨fun h1=> ?_,fun h1=>q.2 aJ⟩;by_cases hik:i<k
    ·exact q.1 hik
    ·have:i=k:=by omega
     subst this;rw[q.2 (aS _)];intro h3;rw[acZ h hh h3]at hb;cases hb
 have hn:=(afq h x.aC.length (aS _)).2.1;rw[Fp (atE h ha)];intro i hi;have hi':i<x.aC.length:=by dsimp only at hi;omega
 exact(key x.aC.length (aS _) i hi').1 hi'
end

theorem afU{x:dF}(h:okW x=true): ∀s,s∈x.aC→jm s≤15000:=by
 intro s hs;have:=Fj h s hs;unfold jm;rw[this];exact aY _
def iz(B:Nat):List Nat→Nat
 | []=>0
 |x::l=>2^B*iz B l+x
def sma(B:Nat)(l:List Nat):Prop:= ∀x,x∈l→x<2^B
theorem sma.hd{B x:Nat}{l:List Nat}(h:sma B (x::l)):x<2^B∧sma B l:=⟨h x (bA ..),fun y hy=>h y (aE _ hy)⟩
theorem agh{B a b x y:Nat}(hx:x<2^B)(hy:y<2^B):(2^B*a+x)^^^(2^B*b+y)=2^B*(a^^^b)+(x^^^y):=by
 have hxy:x^^^y<2^B:=kI hx hy;apply F8;intro i;rw[EL,iy _ hx,iy _ hy,iy _ hxy];split
 ·rw[EL]
 ·rw[EL]
def AJ(B n:Nat):Nat:=iz B (ew n 1)
theorem aEP(B n:Nat):AJ B (n+1)=2^B*AJ B n+1:=rfl
theorem WM(B c n:Nat):c*AJ B n=iz B (ew n c):=by
 induction n with
 |zero=>rfl
 |succ n ih=>
  rw[aEP,lP,iz, ←ih,jX,lF,L5]
theorem aov{B c:Nat}(hc:c<2^B): ∀{l:List Nat},sma B l→iz B l^^^c*AJ B l.length=iz B (l.map fun x=>x^^^c)
 | [],_=>by show 0^^^c*0=0;simp
 |x::l,h=>by
  have ih:=aov hc h.hd.2;rw[WM]at ih ⊢;rw[bp,lP,iz,iz,agh h.hd.1 hc,ih];rfl
theorem aow(B w:Nat): ∀l:List Nat,iz B l*w=iz B (l.map fun x=>x*w)
 | []=>oO w
 |x::l=>by rw[iz,cM,tv,aow B w l];rfl
theorem aox{B k b:Nat}(hkb:k+b≤B): ∀{l:List Nat},sma B l→(iz B l>>>k)&&&((2^b-1)*AJ B l.length)=iz B (l.map fun x=>(x>>>k)% 2^b)
 | [],_=>by show(0>>>k)&&&_=0;simp
 |x::l,h=>by
  have ih:=aox hkb h.hd.2;have hb:2^b-1<2^B:=cz (Nat.sub_lt (mX b) Nat.one_pos) (mP cO aJ);rw[WM]at ih ⊢;rw[bp,lP,iz,iz,cg,iz, ←ih];have hm:(x>>>k)% 2^b<2^B:=cz (iN _ (mX b)) (mP cO aJ);apply F8;intro i;rw[Rf,tS,iy _ h.hd.1,iy _ hb,iy _ hm,Rf,tS,Nat.testBit_mod_two_pow,tS,Nat.testBit_two_pow_sub_one];by_cases h1:i<B
  ·rw[if_pos h1,if_pos h1];by_cases h2:i<b
   ·rw[if_pos aJ,decide_eq_true h2,wQ,dj]
   ·rw[decide_eq_false h2,ke,Bool.false_and]
  ·rw[if_neg h1,if_neg h1,if_neg aJ,show k+i-B=k+(i-B)by omega]
theorem aoy{B:Nat}: ∀{l m:List Nat},l.length=m.length→sma B l→sma B m→iz B l=iz B m→l=m
 | [],[],_,_,_,_=>rfl
 | [],_::_,h,_,_,_=>by cases h
 |_::_,[],h,_,_,_=>by cases h
 |x::l,y::m,h,hl,hm,e=>by
  rw[iz,iz]at e;have h1:x=y:=by
   have:=congrArg (· % 2^B) e;simpa[Df,gK hl.hd.1,gK hm.hd.1]using this
  subst h1;have h2:iz B l=iz B m:=Nat.eq_of_mul_eq_mul_left (mX B) aJ;rw[aoy Fy hl.hd.2 hm.hd.2 h2]
def EM:List Nat→List Nat→List Nat
 | [],m=>m
 |l,[]=>l
 |x::l,y::m=>(x+y)::EM l m
def conv:List Nat→List Nat→List Nat
 | [],_=> []
 |x::l,w=>EM (w.map fun y=>x*y) (0::conv l w)
theorem J4(B:Nat): ∀l m:List Nat,iz B (EM l m)=iz B l+iz B m
 | [],m=>by rw[EM];show _=0+_;rw[dB]
 |x::l,[]=>by rw[EM];rfl;intro h;cases h
 |x::l,y::m=>by
  rw[EM,iz,iz,iz,J4 B l m,jX];omega
theorem aax(B x:Nat): ∀w:List Nat,iz B (w.map fun y=>x*y)=x*iz B w
 | []=>rfl
 |y::w=>by rw[cg,iz,iz,aax B x w,jX,L5]
theorem J5(B:Nat): ∀l w:List Nat,iz B (conv l w)=iz B l*iz B w
 | [],w=>by show 0=0*_;rw[oO]
 |x::l,w=>by
  rw[conv,J4,aax,iz,J5 B l w,iz,cM,ia,tv];omega
theorem aoz{B:Nat}: ∀(i:Nat) {l:List Nat},sma B l→(iz B l>>>(B*i))% 2^B=l.getD i 0
 |i,[],_=>by show(0>>>_)% _=_;simp
 |0,x::l,h=>by
  rw[M4,HE,iz,Df,gK h.hd.1];rfl
 |i+1,x::l,h=>by
  have ih:=aoz i h.hd.2;rw[jX,lF,o9 (B*i),Nat.shiftRight_add,iz];have e:(2^B*iz B l+x)>>>B=iz B l:=by
   rw[qL,Nat.mul_add_div (mX B),Nat.div_eq_of_lt h.hd.1,ia]
  rw[e,ih];rfl
theorem J6{U V:Nat}: ∀{u v:List Nat},(∀z,z∈u→z≤U)→(∀z,z∈v→z≤V)→ ∀z,z∈EM u v→z≤U+V
 | [],v,_,h2,z,hz=>by rw[EM]at hz;exact cB (h2 z hz) (Nat.le_add_left ..)
 |x::u,[],h1,_,z,hz=>by
  have e:EM (x::u) []=x::u:=rfl;rw[e]at hz;exact cB (h1 z hz) (qS ..)
 |x::u,y::v,h1,h2,z,hz=>by
  rw[EM]at hz;rcases bh.1 hz with rfl|hz
  ·exact Nat.add_le_add (h1 x (bA ..)) (h2 y (bA ..))
  ·exact J6 (fun z hz=>h1 z (aE _ hz)) (fun z hz=>h2 z (aE _ hz)) z hz
theorem agj{a b:Nat}{w:List Nat}(hw: ∀y,y∈w→y≤b): ∀{l:List Nat},(∀x,x∈l→x≤a)→ ∀z,z∈conv l w→z≤l.length*(a*b)
 | [],_,z,hz=>nomatch hz
 |x::l,h,z,hz=>by
  rw[conv]at hz;have:=J6 (U:=a*b) (V:=l.length*(a*b)) (fun z hz=>by
   obtain⟨y,hy,rfl⟩:=bQ.1 hz;exact Nat.mul_le_mul (h x (bA ..)) (hw y hy)) (fun z hz=>by
   rcases bh.1 hz with rfl|hz
   ·exact aY _
   ·exact agj hw (fun x hx=>h x (aE _ hx)) z hz) z hz
  rw[bp,cM,mH];omega
section
variable{α:Type}{B:Nat}{M:List Nat}
structure C5 where
 a:Nat
 b:Nat
 c:Nat
 d:Nat
 t:Nat
def fo(n:Nat)(f:Nat→α):α:=Nat.rec (motive:=fun _=>α) (f 0) (fun k _=>f (J7 k)) n
def fo5(x:C5)(f:C5→α):α:=fo x.a fun a=>fo x.b fun b=>fo x.c fun c=>fo x.d fun d=>fo x.t fun t=>f ⟨a,b,c,d,t⟩
theorem nV(n:Nat)(f:Nat→α):fo n f=f n:=by cases n<;>rfl
theorem Rh(x:C5)(f:C5→α):fo5 x f=f x:=by unfold fo5;rw[nV,nV,nV,nV,nV]
def x5(x y:C5):C5:=⟨tB x.a y.a,tB x.b y.b,tB x.c y.c,tB x.d y.d,tB x.t y.t⟩
def vG:C5:=⟨0,0,0,0,0⟩
theorem Oz(x y:C5):x5 x y=x5 y x:=by
 show C5.mk (x.a^^^y.a) (x.b^^^y.b) (x.c^^^y.c) (x.d^^^y.d) (x.t^^^y.t)=C5.mk (y.a^^^x.a) (y.b^^^x.b) (y.c^^^x.c) (y.d^^^x.d) (y.t^^^x.t)
 rw[vv x.a,vv x.b,vv x.c,vv x.d,vv x.t]
theorem J8(x y z:C5):x5 (x5 x y) z=x5 x (x5 y z):=by
 show C5.mk (x.a^^^y.a^^^z.a) (x.b^^^y.b^^^z.b) (x.c^^^y.c^^^z.c) (x.d^^^y.d^^^z.d) (x.t^^^y.t^^^z.t)=C5.mk (x.a^^^(y.a^^^z.a)) (x.b^^^(y.b^^^z.b)) (x.c^^^(y.c^^^z.c)) (x.d^^^(y.d^^^z.d)) (x.t^^^(y.t^^^z.t))
 simp only[JA]
theorem J9(x:C5):x5 x vG=x:=by
 show C5.mk (x.a^^^0) (x.b^^^0) (x.c^^^0) (x.d^^^0) (x.t^^^0)=x
 simp only[MW]
def WO(x:C5):Prop:=(x.a<2^184∧x.b<2^184∧x.c<2^184∧x.d<2^184)∧x.t<2^32
theorem aay{x y:C5}(hx:WO x)(hy:WO y):WO (x5 x y):=
 ⟨⟨kI hx.1.1 hy.1.1,kI hx.1.2.1 hy.1.2.1,kI hx.1.2.2.1 hy.1.2.2.1,kI hx.1.2.2.2 hy.1.2.2.2⟩,kI hx.2 hy.2⟩
theorem agk:WO vG:=by unfold WO vG;decide
structure VV where
 n:Nat
 o:Nat
 m1:Nat
 m2:Nat
 m3:Nat
 o7:Nat
 p:C5
def foV(v:VV)(f:VV→α):α:=fo v.n fun n=>fo v.o fun o=>fo v.m1 fun m1=>fo v.m2 fun m2=>fo v.m3 fun m3=>fo v.o7 fun o7=>fo5 v.p fun p=>f ⟨n,o,m1,m2,m3,o7,p⟩
theorem adp(v:VV)(f:VV→α):foV v f=f v:=by unfold foV;rw[nV,nV,nV,nV,nV,nV,Rh]
def mkV(n o:Nat)(p:C5):VV:=⟨n,o,jF 17592186044415 o,jF 2147483647 o,jF 281474976710655 o,jF 2147483631 o,p⟩
def azL:VV:=mkV 1 1 vG
def mxw(p c o w:Nat):Nat:=jF (tB p (jF c o)) w
def adq(p q c o s:Nat):Nat:=fX p (Ka (tB q (jF c o)) s)
def vcx(v w:VV)(x:C5):VV:=fo (jF 400 v.n) fun s=>mkV (fX v.n w.n) (fX v.o (Ka w.o s))
 ⟨adq v.p.a w.p.a x.a w.o s,adq v.p.b w.p.b x.b w.o s,adq v.p.c w.p.c x.c w.o s,adq v.p.d w.p.d x.d w.o s,adq v.p.t w.p.t x.t w.o s⟩
def aub(m2 m3 y:Nat):Nat:=fX (Kb y m2) (Kb (uP y 31) m3)
def wgA:Nat:=192917019990970640546997290252453914132553166370470672597859929
def wgB:Nat:=175089255888851855480568817098291215213379762391526498385352378
def wgC:Nat:=60664229453413267107784888066217578059743907324149536047377254
def wgD:Nat:=187101731764025492714197462502526482742919511277620474300809795
def azQ(k:Nat)(v:VV)(x:C5):Bool:=
 fo (Kb (uP (fX (fX (mxw v.p.a x.a v.o wgA) (mxw v.p.b x.b v.o wgB)) (fX (mxw v.p.c x.c v.o wgC) (mxw v.p.d x.d v.o wgD))) 176) v.m1) fun sl=>
 fo (fX (mxw v.p.t x.t v.o 143570042) (fX (jF sl 2003913605) (jF k v.o))) fun y=>
 fo (aub v.m2 v.m3 y) fun y=>fo (aub v.m2 v.m3 y) fun y=>fo (aub v.m2 v.m3 y) fun y=>
 and (bH (Kb (uP (fX y v.o7) 31) v.o) v.o) (bH (Kb (uP (fX y v.o) 31) v.o) 0)
def EN(z:C5):Nat:=((z.a*wgA+z.b*wgB+(z.c*wgC+z.d*wgD))>>>176)% 2^44
def CT(k:Nat)(z:C5):Nat:=(z.t*143570042+(EN z*2003913605+k))% 2147483647
structure Xo(v:VV)(l:List C5):Prop where
 ok: ∀x,x∈l→WO x
 n:v.n=l.length
 e:v=mkV l.length (AJ 400 l.length) ⟨iz 400 (l.map C5.a),iz 400 (l.map C5.b),iz 400 (l.map C5.c),iz 400 (l.map C5.d),iz 400 (l.map C5.t)⟩
theorem awJ{l:List α}{f:α→Nat}{c:Nat}(hc:c<2^B)(hf: ∀x,x∈l→f x<2^B):iz B (l.map f)^^^c*AJ B l.length=iz B (l.map fun x=>f x^^^c):=by
 have:=aov (B:=B) (c:=c) hc (l:=l.map f) fun x hx=>by obtain⟨y,hy,rfl⟩:=bQ.1 hx;exact hf y hy
 rw[bt,jM]at this;exact this
theorem awK(B w:Nat)(l:List α)(f:α→Nat):iz B (l.map f)*w=iz B (l.map fun x=>f x*w):=by
 rw[aow,jM];rfl
theorem M5(B:Nat){α:Type}: ∀(l:List α) (f g:α→Nat),iz B (l.map f)+iz B (l.map g)=iz B (l.map fun x=>f x+g x)
 | [],_,_=>rfl
 |x::l,f,g=>by
  have ih:=M5 B l f g;rw[cg,cg,cg,iz,iz,iz, ←ih,jX];omega
theorem aoC(B c:Nat)(l:List α):c*AJ B l.length=iz B (l.map fun _=>c):=by
 rw[WM];congr 1;induction l with
 |nil=>rfl
 |cons a l ih=>rw[bp,lP,cg,ih]
theorem agl{k b:Nat}(hkb:k+b≤B){l:List α}{f:α→Nat}(hf: ∀x,x∈l→f x<2^B):(iz B (l.map f)>>>k)&&&((2^b-1)*AJ B l.length)=iz B (l.map fun x=>(f x>>>k)% 2^b):=by
 have:=aox (B:=B) (k:=k) (b:=b) hkb (l:=l.map f) fun x hx=>by obtain⟨y,hy,rfl⟩:=bQ.1 hx;exact hf y hy
 rw[bt,jM]at this;exact this
theorem aER{l:List α}{f g:α→Nat}(hf: ∀x,x∈l→f x<2^B)(hg: ∀x,x∈l→g x<2^B)(h:iz B (l.map f)=iz B (l.map g)): ∀x,x∈l→f x=g x:=by
 have:=aoy (by rw[bt,bt]) (fun x hx=>by obtain⟨y,hy,rfl⟩:=bQ.1 hx;exact hf y hy) (fun x hx=>by obtain⟨y,hy,rfl⟩:=bQ.1 hx;exact hg y hy) h;intro x hx;exact List.map_inj_left.1 this x hx
def NM(x:Nat):Nat:=x % 2^31+(x>>>31)% 2^48
theorem aoD{l:List α}{f:α→Nat}(hf: ∀x,x∈l→f x<2^400):aub (jF 2147483647 (AJ 400 l.length)) (jF 281474976710655 (AJ 400 l.length)) (iz 400 (l.map f))=iz 400 (l.map fun x=>NM (f x)):=by
 show(iz 400 (l.map f)&&&2147483647*AJ 400 l.length)+((iz 400 (l.map f)>>>31)&&&281474976710655*AJ 400 l.length)=_
 have h1:=agl (B:=400) (k:=0) (b:=31) cO hf;have h2:=agl (B:=400) (k:=31) (b:=48) cO hf;rw[HE]at h1;rw[show(2147483647:Nat)=2^31-1 from rfl,show(281474976710655:Nat)=2^48-1 from rfl,h1,h2,M5];rfl
theorem Gv{n m:Nat}(h:n≤m):2^n≤2^m:=mP cO h
theorem aHo(m:Nat):2^m+2^m+(2^m+2^m)=2^(m+2):=by rw[BN];omega
theorem aoE(x:Nat):NM x<2^400:=by
 unfold NM;have h1:=iN x (show 0<2^31 by decide);have h2:=iN (x>>>31) (show 0<2^48 by decide);exact cz (zB h1 h2) (cB (show 2^31+2^48≤2^49 by decide) (Gv (n:=49) (m:=400) cO))
theorem aoF{x:Nat}(h:x<604462909807314587353088):NM x=x % 2147483648+x/2147483648∧NM x % 2147483647=x % 2147483647:=by
 have e:NM x=x % 2147483648+(x/2147483648)% 281474976710656:=by unfold NM;rw[qL]
 have h2:x/2147483648<281474976710656:=by omega
 rw[e,gK h2];omega
theorem aES{x:Nat}(h:x<2^78):NM (NM (NM x))≤2147483647∧NM (NM (NM x))% 2147483647=x % 2147483647:=by
 have h:x<302231454903657293676544:=h;obtain⟨a1,a2⟩:=aoF (x:=x) aJ;have b1:NM x<281477124194304:=by omega
 obtain⟨c1,c2⟩:=aoF (x:=NM x) aJ;have d1:NM (NM x)<2147745792:=by omega
 obtain⟨e1,e2⟩:=aoF (x:=NM (NM x)) aJ;exact⟨aJ,aJ⟩
theorem awL{l:List α}{f:α→Nat}{c d:Nat}(hf: ∀x,x∈l→f x+c<2^400)(hd:d<2^400)(h:(iz 400 (l.map f)+c*AJ 400 l.length)>>>31&&&AJ 400 l.length=d*AJ 400 l.length): ∀x,x∈l→(f x+c)/2147483648 % 2=d:=by
 have e:AJ 400 l.length=(2^1-1)*AJ 400 l.length:=(mH _).symm;rw[aoC,aoC,M5,e,agl cO hf]at h;intro x hx;have:=aER (fun x _=>cz (iN _ cO) (Gv (n:=1) cO)) (fun _ _=>hd) h x hx
 rwa [qL]at this
theorem HG{k:Nat}{v:VV}{l:List C5}{y:C5}(hv:Xo v l)(hy:WO y)(hk:k<2147483647)(hc:azQ k v y=true): ∀x,x∈l→17≤CT k (x5 x y):=by
 have he:=hv.e;subst he;unfold azQ at hc;rw[nV,nV,nV,nV,nV,an]at hc;have hb: ∀(f:C5→Nat) (c w:Nat),(∀x,x∈l→f x<2^184)→c<2^184→mxw (iz 400 (l.map f)) c (AJ 400 l.length) w=iz 400 (l.map fun x=>(f x^^^c)*w):=by
  intro f c w hf hc;rw[←awK];exact congrArg (· *w) (awJ (cz hc (Gv (n:=184) (m:=400) cO)) fun x hx=>cz (hf x hx) (Gv (n:=184) (m:=400) cO))
 have e1:=hb C5.a y.a wgA (fun x hx=>(hv.ok x hx).1.1) hy.1.1;have e2:=hb C5.b y.b wgB (fun x hx=>(hv.ok x hx).1.2.1) hy.1.2.1;have e3:=hb C5.c y.c wgC (fun x hx=>(hv.ok x hx).1.2.2.1) hy.1.2.2.1;have e4:=hb C5.d y.d wgD (fun x hx=>(hv.ok x hx).1.2.2.2) hy.1.2.2.2;have e5:=hb C5.t y.t 143570042 (fun x hx=>cz (hv.ok x hx).2 cO) (cz hy.2 cO);obtain⟨m,hm,hw⟩: ∃m,m=184+207∧ ∀a w:Nat,a<2^184→w<2^207→a*w<2^m:=⟨184+207,rfl,fun a w h1 h2=>Nat.lt_of_lt_of_eq (Nat.mul_lt_mul'' h1 h2) (BN 2 184 207).symm⟩;have hs:Kb (uP (fX (fX (mxw (iz 400 (l.map C5.a)) y.a (AJ 400 l.length) wgA) (mxw (iz 400 (l.map C5.b)) y.b (AJ 400 l.length) wgB)) (fX (mxw (iz 400 (l.map C5.c)) y.c (AJ 400 l.length) wgC) (mxw (iz 400 (l.map C5.d)) y.d (AJ 400 l.length) wgD))) 176) (jF 17592186044415 (AJ 400 l.length))=iz 400 (l.map fun x=>EN (x5 x y)):=by
  rw[e1,e2,e3,e4];show((iz 400 _+iz 400 _+(iz 400 _+iz 400 _))>>>176)&&&(2^44-1)*AJ 400 l.length=_
  rw[M5,M5,M5,agl cO]
  ·rfl
  ·intro x hx;have ho:=aay (hv.ok x hx) hy;have q1:=hw _ wgA ho.1.1 cO;have q2:=hw _ wgB ho.1.2.1 cO;have q3:=hw _ wgC ho.1.2.2.1 cO;have q4:=hw _ wgD ho.1.2.2.2 cO;refine cz (zB (zB q1 q2) (zB q3 q4)) (cB (Nat.le_of_eq (aHo m)) (Gv (n:=m+2) (m:=400) aJ))
 have hF: ∀x,x∈l→(x.t^^^y.t)*143570042+(EN (x5 x y)*2003913605+k)<2^78:=by
  intro x hx;have h1:x.t^^^y.t<2^32:=(aay (hv.ok x hx) hy).2;have h2:EN (x5 x y)<2^44:=iN _ cO;omega
 have hy0:fX (mxw (iz 400 (l.map C5.t)) y.t (AJ 400 l.length) 143570042) (fX (jF (iz 400 (l.map fun x=>EN (x5 x y))) 2003913605) (jF k (AJ 400 l.length)))=iz 400 (l.map fun x=>(x.t^^^y.t)*143570042+(EN (x5 x y)*2003913605+k)):=by
  rw[e5];show iz 400 _+(iz 400 _*2003913605+k*AJ 400 l.length)=_
  rw[awK,aoC,M5,M5]
 simp only[mkV]at hc;rw[hs,hy0,aoD (fun x hx=>cz (hF x hx) (Gv (n:=78) (m:=400) cO)),aoD (fun x _=>aoE _),aoD (fun x _=>aoE _)]at hc;intro x hx;have h31:=fun x (hx:x∈l)=>(aES (hF x hx)).1;obtain⟨c1,c2⟩:=hc;have c1:=aG c1;have c2:=aG c2;have hbb: ∀(x:C5) (c:Nat),x∈l→c<2^32→NM (NM (NM ((x.t^^^y.t)*143570042+(EN (x5 x y)*2003913605+k))))+c<2^400:=fun x c hx hc=>cz (cz (Nat.add_lt_add_of_le_of_lt (h31 x hx) hc) (show 2147483647+2^32≤2^33 by decide)) (Gv (n:=33) (m:=400) cO);have f1:=awL (c:=2147483631) (d:=1) (fun x hx=>hbb x _ hx cO) (cz (show 1<2^1 by decide) (Gv (n:=1) (m:=400) cO)) (by rw[mH];exact c1) x hx;have f2:=awL (c:=1) (d:=0) (fun x hx=>hbb x _ hx cO) (mX 400) (by rw[oO,mH];exact c2) x hx;obtain⟨g1,g2⟩:=aES (hF x hx);unfold CT;show 17≤((x.t^^^y.t)*143570042+(EN (x5 x y)*2003913605+k))% 2147483647
 rw[←g2];generalize NM (NM (NM ((x.t^^^y.t)*143570042+(EN (x5 x y)*2003913605+k))))=z at g1 f1 f2 ⊢;omega
theorem aoG(B:Nat): ∀l m:List Nat,iz B (l++m)=iz B l+2^(B*l.length)*iz B m
 | [],m=>by rw[eM,dh,M4,aaz,mH];show _=0+_;rw[dB]
 |x::l,m=>by
  rw[fE,iz,iz,aoG B l m,bp,jX B l.length 1,lF,o9 (B*l.length),BN,jX,tv];omega
theorem azR(B n m:Nat):AJ B (n+m)=AJ B n+2^(B*n)*AJ B m:=by
 unfold AJ;rw[←List.replicate_append_replicate,aoG,ku]
theorem aoH(B x:Nat):iz B [x]=x:=by rw[iz,iz,M4,dB]
theorem auc(B:Nat):AJ B 1=1:=aoH B 1
theorem Xo.one:Xo azL [vG]:=⟨fun x hx=>by rw[aV.1 hx];exact agk,rfl,by
 have h: ∀f:C5→Nat,iz 400 ([vG].map f)=f vG:=fun f=>aoH 400 _;rw[gz,auc,h,h,h,h,h];rfl⟩
theorem Xo.nil:Xo (mkV 0 0 vG) []:=⟨fun _ hx=>(nomatch hx),rfl,rfl⟩
theorem Xo.cx{v w:VV}{l m:List C5}{x:C5}(hv:Xo v l)(hw:Xo w m)(hx:WO x):Xo (vcx v w x) (l++m.map fun z=>x5 z x):=by
 refine⟨fun z hz=> ?_,?_,?_⟩
 ·rcases bg.1 hz with hz|hz
  ·exact hv.ok z hz
  ·obtain⟨y,hy,rfl⟩:=bQ.1 hz;exact aay (hw.ok y hy) hx
 ·unfold vcx;rw[nV];show v.n+w.n=_
  rw[hv.n,hw.n,aQ,bt]
 ·have key: ∀(f:C5→Nat) (c:Nat),(∀z,z∈m→f z<2^184)→c<2^184→(∀z,f (x5 z x)=f z^^^c)→adq (iz 400 (l.map f)) (iz 400 (m.map f)) c (AJ 400 m.length) (400*l.length)=iz 400 ((l++m.map fun z=>x5 z x).map f):=by
   intro f c hf hc he;have h1:tB (iz 400 (m.map f)) (jF c (AJ 400 m.length))=iz 400 (m.map fun z=>f (x5 z x)):=by
    simp only[he];exact awJ (cz hc (Gv (n:=184) (m:=400) cO)) fun z hz=>cz (hf z hz) (Gv (n:=184) (m:=400) cO)
   unfold adq;rw[h1,gj,jM,aoG,bt];show _+_<<<(400*l.length)=_
   rw[NN,kg];rfl
  have e1:=hv.e;have e2:=hw.e;subst e1;subst e2;unfold vcx;rw[nV];rw[aQ,bt];have eo:fX (AJ 400 l.length) (Ka (AJ 400 m.length) (400*l.length))=AJ 400 (l.length+m.length):=by
   show AJ 400 l.length+AJ 400 m.length<<<(400*l.length)=_
   rw[NN,azR,kg]
  have hC: ∀{a b c d t a' b' c' d' t':Nat},a=a'→b=b'→c=c'→d=d'→t=t'→C5.mk a b c d t=C5.mk a' b' c' d' t':=by intros;subst_vars;rfl
  exact congr (congrArg (mkV (l.length+m.length)) eo) (hC (key C5.a x.a (fun z hz=>(hw.ok z hz).1.1) hx.1.1 fun _=>rfl) (key C5.b x.b (fun z hz=>(hw.ok z hz).1.2.1) hx.1.2.1 fun _=>rfl) (key C5.c x.c (fun z hz=>(hw.ok z hz).1.2.2.1) hx.1.2.2.1 fun _=>rfl) (key C5.d x.d (fun z hz=>(hw.ok z hz).1.2.2.2) hx.1.2.2.2 fun _=>rfl) (key C5.t x.t (fun z hz=>cz (hw.ok z hz).2 cO) (cz hx.2 cO) fun _=>rfl))
def tK{α:Type}(d:α):List α→Nat→α
 | [],_=>d
 |x::_,0=>x
 |_::l,n+1=>tK d l n
def lp5(inner:Nat→VV):List (List C5)→Nat→VV→VV
 |c::l,b+1,acc=>foV (c.foldl (fun acc x=>foV (vcx acc (inner b) x) fun a=>a) acc) fun acc=>lp5 inner l b acc
 |_,_,acc=>acc
def ll5(inner:Nat→List C5):List (List C5)→Nat→List C5
 |c::l,b+1=>(c.flatMap fun x=>(inner b).map fun z=>x5 z x)++ll5 inner l b
 |_,_=> []
def aud(ML:List (List (List C5))):List Nat→Nat→VV
 | [],_=>azL
 |i::M,b=>lp5 (aud ML M) (tK [] ML i) b (aud ML M b)
def vl5(ML:List (List (List C5))):List Nat→Nat→List C5
 | [],_=> [vG]
 |i::M,b=>vl5 ML M b++ll5 (vl5 ML M) (tK [] ML i) b
def okP(L:List (List C5)):Prop:= ∀c,c∈L→ ∀x,x∈c→WO x
theorem aaA{w:VV}{m:List C5}(hw:Xo w m): ∀(c:List C5) {acc:VV} {l:List C5},Xo acc l→(∀x,x∈c→WO x)→Xo (c.foldl (fun acc x=>foV (vcx acc w x) fun a=>a) acc) (l++c.flatMap fun x=>m.map fun z=>x5 z x)
 | [],acc,l,h,_=>by rw[List.flatMap_nil,cW];exact h
 |x::c,acc,l,h,ho=>by
  rw[cI,fP, ←bU];refine aaA hw c ?_ fun y hy=>ho y (aE _ hy);rw[adp];exact h.cx hw (ho x (bA ..))
theorem aoI{inner:Nat→VV}{il:Nat→List C5}(hi: ∀b,Xo (inner b) (il b)): ∀(L:List (List C5)) (b:Nat) {acc:VV} {l:List C5},Xo acc l→okP L→Xo (lp5 inner L b acc) (l++ll5 il L b)
 | [],b,acc,l,h,_=>by rw[lp5,ll5,cW];exact h;all_goals (intros;simp_all)
 |c::L,0,acc,l,h,_=>by rw[lp5,ll5,cW];exact h;all_goals (intros;simp_all)
 |c::L,b+1,acc,l,h,ho=>by
  rw[lp5,ll5,adp, ←bU];exact aoI hi L b (aaA (hi b) c h (ho c (bA ..))) fun d hd=>ho d (aE _ hd)
theorem agn{α:Type}{d:α}: ∀{l:List α} {i:Nat},tK d l i=d∨tK d l i∈l
 | [],_=>bP rfl
 |_::_,0=>bw (bA ..)
 |_::l,i+1=>(agn (l:=l) (i:=i)).imp id fun h=>aE _ h
def SH(ML:List (List (List C5))):Prop:= ∀L,L∈ML→okP L
theorem SH.at{ML:List (List (List C5))}(h:SH ML)(i:Nat):okP (tK [] ML i):=by
 rcases agn (d:=([]:List (List C5))) (l:=ML) (i:=i)with e|e
 ·rw[e];exact fun c hc=>nomatch hc
 ·exact h _ e
theorem WQ{ML:List (List (List C5))}(h:SH ML): ∀(M:List Nat) (b:Nat),Xo (aud ML M b) (vl5 ML M b)
 | [],_=>Xo.one
 |i::M,b=>aoI (WQ h M) _ b (WQ h M b) (h.at i)
def Gud(k:Nat)(L:List C5)(x:C5):Prop:= ∀z,z∈L→17≤CT k (x5 z x)
def lt5(f:Nat→C5→Bool):List (List C5)→Nat→C5→Bool
 |c::l,b+1,x=>and (c.all fun y=>fo5 (x5 x y) (f b)) (lt5 f l b x)
 |_,_,_=>true
theorem Ri{k:Nat}{f:Nat→C5→Bool}{il:Nat→List C5}{n:Nat}(hf: ∀b x,b≤n→WO x→f b x=true→Gud k (il b) x): ∀(L:List (List C5)) (b:Nat) (x:C5),b≤n→WO x→okP L→lt5 f L b x=true→Gud k (ll5 il L b) x
 | [],b,x,_,_,_,_=>by rw[ll5];exact fun z hz=>(nomatch hz);all_goals (intros;simp_all)
 |c::L,0,x,_,_,_,_=>by rw[ll5];exact fun z hz=>(nomatch hz);all_goals (intros;simp_all)
 |c::L,b+1,x,hb,hx,ho,h=>by
  rw[lt5,an,bE]at h;rw[ll5];intro z hz;rcases bg.1 hz with hz|hz
  ·obtain⟨y,hy,hz⟩:=kL.1 hz;obtain⟨u,hu,rfl⟩:=bQ.1 hz;have h1:=h.1 y hy;rw[Rh]at h1;have:=hf b (x5 x y) aJ (aay hx (ho c (bA ..) y hy)) h1 u hu
   rwa [Oz x y, ←J8]at this
  ·exact Ri hf L b x aJ hx (fun d hd=>ho d (aE _ hd)) h.2 z hz
def adr:List Nat→Nat
 | []=>0
 | [i]=>J7 i
 |i::j::_=>fX 5 (fX (jF 4 i) j)
def Ms5:List (List Nat):= [[],[0],[1],[2],[3],[],[0,1],[0,2],[0,3],[],[],[1,2],[1,3],[],[],[],[2,3]]
def tT5(tab:List (List VV))(M:List Nat)(b:Nat):VV:=tK azL (tK [] tab (adr M)) b
def SI(tab:List (List VV))(ML:List (List (List C5)))(k:Nat):List Nat→Nat→C5→Bool
 |i::j::l::M,b,x=>and (SI tab ML k (j::l::M) b x) (lt5 (SI tab ML k (j::l::M)) (tK [] ML i) b x)
 |M,b,x=>azQ k (tT5 tab M b) x
def up5:Nat→List Nat
 |0=> [0]
 |n+1=>up5 n++ [n+1]
def Rj(ML:List (List (List C5))):List (List VV):=Ms5.map fun M=>(up5 10).map fun b=>aud ML M b
theorem OA{α β:Type}(f:α→β)(d:α)(e:β): ∀(l:List α) (i:Nat),i<l.length→tK e (l.map f) i=f (tK d l i)
 | [],i,h=>absurd h (jE i)
 |_::_,0,_=>rfl
 |_::l,i+1,h=>OA f d e l i Fy
theorem azT{i:Nat}(h:i≤10):tK 0 (up5 10) i=i:=by
 have: ∀i,i<11→tK 0 (up5 10) i=i:=by decide
 exact this i aJ
def okM(M:List Nat):Prop:=M.Pairwise (· < ·)∧ ∀i,i∈M→i<4
theorem okM.tail{i:Nat}(h:okM (i::M)):okM M:=⟨(zh.1 h.1).2,fun j hj=>h.2 j (aE _ hj)⟩
theorem azU(h:okM M)(hl:M.length≤2):adr M<Ms5.length∧tK [] Ms5 (adr M)=M:=by
 match M,hl with
 | [],_=>decide
 | [i],_=>
   have:=h.2 i (bA ..);have: ∀i,i<4→adr [i]<Ms5.length∧tK [] Ms5 (adr [i])= [i]:=by decide
   exact this i aJ
 | [i,j],_=>
   have h1:=h.2 i (bA ..);have h2:=h.2 j fI;have h3:i<j:=by have:=h.1;simpa using this
   have: ∀i,i<4→ ∀j,j<4→i<j→adr [i,j]<Ms5.length∧tK [] Ms5 (adr [i,j])= [i,j]:=by decide
   exact this i h1 j h2 h3
theorem ads{ML:List (List (List C5))}(h:SH ML)(hM:okM M)(hl:M.length≤2){b:Nat}(hb:b≤10):Xo (tT5 (Rj ML) M b) (vl5 ML M b):=by
 obtain⟨c1,c2⟩:=azU hM hl;unfold tT5 Rj;rw[OA _ [] _ _ _ c1,c2,OA _ 0 _ _ _ (by show b<11;omega),azT hb];exact WQ h M b
section
variable{ML:List (List (List C5))}{k:Nat}
theorem AD(h:SH ML)(hk:k<2147483647): ∀(M:List Nat) (b:Nat) (x:C5),okM M→b≤10→WO x→SI (Rj ML) ML k M b x=true→Gud k (vl5 ML M b) x
 | [],b,x,hM,hb,hx,ht=>HG (ads h hM cO hb) hx hk ht
 | [i],b,x,hM,hb,hx,ht=>HG (ads h hM fI hb) hx hk ht
 | [i,j],b,x,hM,hb,hx,ht=>HG (ads h hM fI hb) hx hk ht
 |i::j::l::M,b,x,hM,hb,hx,ht=>by
  rw[SI,an]at ht;have hM':=hM.tail;intro z hz;rw[vl5]at hz;rcases bg.1 hz with hz|hz
  ·exact AD h hk (j::l::M) b x hM' hb hx ht.1 z hz
  ·exact Ri (fun b x hb hx ht=>AD h hk (j::l::M) b x hM' hb hx ht) _ b x hb hx (h.at i) ht.2 z hz
def tL(w:Nat→Option (Nat×C5)):List Nat→Nat
 | []=>0
 |i::M=>(match w i with|none=>0|some p=>p.1+1)+tL w M
def nW(w:Nat→Option (Nat×C5)):List Nat→C5
 | []=>vG
 |i::M=>match w i with|none=>nW w M|some p=>x5 (nW w M) p.2
def ai0(ML:List (List (List C5)))(w:Nat→Option (Nat×C5)):Prop:= ∀i p,w i=some p→p.2∈tK [] (tK [] ML i) p.1
theorem adt{il:Nat→List C5}{x z:C5}: ∀(L:List (List C5)) (s b:Nat),x∈tK [] L s→s<b→z∈il (b-1-s)→x5 z x∈ll5 il L b
 | [],s,b,h,_,_=>by rw[tK]at h;cases h
 |c::L,s,0,_,h,_=>absurd h (jE s)
 |c::L,0,b+1,h,_,hz=>by
  rw[ll5];exact bl _ (kL.2 ⟨x,h,bQ.2 ⟨z,hz,rfl⟩⟩)
 |c::L,s+1,b+1,h,hs,hz=>by
  rw[ll5];exact aW _ (adt L s b h aJ (by rw[show b-1-s=b+1-1-(s+1)by omega];exact hz))
theorem WR{w:Nat→Option (Nat×C5)}(hw:ai0 ML w): ∀(M:List Nat) (b:Nat),tL w M≤b→nW w M∈vl5 ML M b
 | [],_,_=>aV.2 rfl
 |i::M,b,h=>by
  rw[nW,vl5];rw[tL]at h;cases hi:w i with
  |none=>
   rw[hi]at h;exact bl _ (WR hw M b Fy)
  |some p=>
   rw[hi]at h;have h:p.1+1+tL w M≤b:=h;exact aW _ (adt _ p.1 b (hw i p hi) aJ (WR hw M _ aJ))
def Rk(tab:List (List VV))(ML:List (List (List C5)))(k f:Nat):List Nat→Bool
 | []=>SI tab ML k [] 0 vG
 |j::l=>and (cond (bH j f) true (lt5 (SI tab ML k (cond (kV f j) (f::l) l)) (tK [] ML j) 10 vG)) (Rk tab ML k f l)
theorem aaB(h:SH ML)(hk:k<2147483647){f:Nat}: ∀l,Rk (Rj ML) ML k f l=true→17≤CT k vG
 | [],hg=>by
   have:=AD h hk [] 0 vG ⟨List.Pairwise.nil,fun i hi=>(nomatch hi)⟩ aJ agk hg vG (aV.2 rfl)
   rwa [J9]at this
 |j::l,hg=>by
  rw[Rk,an]at hg;exact aaB h hk l hg.2
theorem L7(h:SH ML)(hk:k<2147483647){f:Nat}{w:Nat→Option (Nat×C5)}(hw:ai0 ML w)(hf:f<4): ∀l,okM l→Rk (Rj ML) ML k f l=true→(∃j,j∈l∧j≠f∧w j≠none)→
  (f∈l→tL w l≤10→17≤CT k (nW w l))∧((∀i,i∈l→f<i)→tL w (f::l)≤10→17≤CT k (nW w (f::l)))
 | [],_,_,⟨_,hj,_⟩=>nomatch hj
 |j::l,hM,hg,hj=>by
  rw[Rk,an]at hg;obtain⟨g1,g2⟩:=hg;have hlt:=(zh.1 hM.1).1;by_cases e:j=f
  ·subst e;have hj2: ∃i,i∈l∧i≠j∧w i≠none:=by
    obtain⟨i,h1,h2,h3⟩:=hj;exact⟨i,(bh.1 h1).resolve_left h2,h2,h3⟩
   have ih:=(L7 h hk hw hf l hM.tail g2 hj2).2 hlt;exact⟨fun _=>ih,fun hh=>absurd (hh j (bA ..)) (Nat.lt_irrefl _)⟩
  ·rw[show bH j f=false from mY.2 fun q=>e (aG q)]at g1;have g1:lt5 (SI (Rj ML) ML k (cond (kV f j) (f::l) l)) (tK [] ML j) 10 vG=true:=g1;cases hwj:w j with
   |none=>
    have hj2: ∃i,i∈l∧i≠f∧w i≠none:=by
     obtain⟨i,h1,h2,h3⟩:=hj;refine⟨i,(bh.1 h1).resolve_left fun q=> ?_,h2,h3⟩;rw[q]at h3;exact h3 hwj
    obtain⟨i1,i2⟩:=L7 h hk hw hf l hM.tail g2 hj2;refine⟨fun hm hc=> ?_,fun hh hc=> ?_⟩
    ·rw[tL,hwj]at hc;rw[nW,hwj];exact i1 ((bh.1 hm).resolve_left fun q=>e q.symm) (by simpa using hc)
    ·rw[tL,tL,hwj]at hc;rw[nW,nW,hwj];refine i2 (fun i hi=>hh i (aE _ hi)) ?_;rw[tL];simpa using hc
   |some p=>
    have hgd: ∀R,okM R→kV f j=true∧R=f::l∨kV f j=false∧R=l→p.1+1+tL w R≤10→17≤CT k (x5 (nW w R) p.2):=by
     intro R hR hq hc;have e1:cond (kV f j) (f::l) l=R:=by
      rcases hq with⟨q1,q2⟩| ⟨q1,q2⟩
      ·rw[q1,q2];rfl
      ·rw[q1,q2];rfl
     rw[e1]at g1;have:=Ri (fun b x hb hx ht=>AD h hk R b x hR hb hx ht) _ 10 vG (aS _) agk (h.at j) g1 _ (adt _ p.1 10 (hw j p hwj) aJ (WR hw R (10-1-p.1) aJ))
     rwa [J9]at this
    refine⟨fun hm hc=> ?_,fun hh hc=> ?_⟩
    ·have hfl:=(bh.1 hm).resolve_left fun q=>e q.symm;have:=hlt f hfl;rw[tL,hwj]at hc;rw[nW,hwj];exact hgd l hM.tail (bw ⟨mY.2 fun q=>by have:=bV q;omega,rfl⟩) hc
    ·have hfj:=hh j (bA ..);rw[tL,tL,hwj]at hc;have hR:okM (f::l):=⟨zh.2 ⟨fun i hi=>hh i (aE _ hi),hM.tail.1⟩,fun i hi=>by
      rcases bh.1 hi with rfl|hi
      ·exact hf
      ·exact hM.2 i (aE _ hi)⟩
     have:=hgd (f::l) hR (bP ⟨kr aJ,rfl⟩) (by rw[tL];show p.1+1+(_+_)≤10;have hc:_+(p.1+1+tL w l)≤10:=hc;omega);rw[nW]at this;rw[nW,nW,hwj];cases hwf:w f with
     |none=>rw[hwf]at this;exact this
     |some p'=>
      rw[hwf]at this;have this:17≤CT k (x5 (x5 (nW w l) p'.2) p.2):=this;show 17≤CT k (x5 (x5 (nW w l) p.2) p'.2)
      rwa [J8,Oz p'.2, ←J8]at this
end
instance:Std.Associative x5:=⟨J8⟩
instance:Std.Commutative x5:=⟨Oz⟩
def NO(a b:Nat):Nat:=fX (WT a b) (WT b a)
theorem ago{a b r:Nat}(h:a % r=b % r):r ∣ NO a b:=by
 have e:NO a b=(a-b)+(b-a):=rfl;rw[e];rcases Nat.le_total a b with q|q
 ·rw[EO q,dB];exact CU (wj h.symm)
 ·rw[EO q,ia];exact CU (wj h)
structure Gw where
 i:Nat
 m:Nat
 h:Nat
 x:C5
def SJ:List Gw→Nat→(List Nat→Bool)→Bool
 | [],_,k=>k []
 |y::M,g,k=>fo (mD g y.m) fun h=>cond (kV 8 h) (and (SJ M h fun N=>k (y.i::N)) (cond (bH h g) true (SJ M g k))) (SJ M g k)
def aaC(t:List Nat→C5→Bool):List Gw→Nat→C5→Bool→List Gw→Bool
 | [],g,x,c,M=>cond c (SJ M g fun N=>t N x) true
 |y::l,g,x,c,M=>and (aaC t l g x c (y::M)) (fo (mD g y.h) fun g=>cond (kV 8 g) (fo5 (x5 x y.x) fun x=>aaC t l g x true M) true)
def tt5(κ:Nat→Bool)(w:Nat→Option (Nat×C5)):List Gw→C5
 | []=>vG
 |y::l=>if κ y.i=true then x5 (tt5 κ w l) y.x else match w y.i with|none=>tt5 κ w l|some p=>x5 (tt5 κ w l) p.2
def tc5(κ:Nat→Bool)(w:Nat→Option (Nat×C5)):List Gw→Nat
 | []=>0
 |y::l=>(if κ y.i=true then 0 else match w y.i with|none=>0|some p=>p.1+1)+tc5 κ w l
theorem okM.sub{N:List Nat}(h:okM M)(hs:N.Sublist M):okM N:=⟨h.1.sublist hs,fun i hi=>h.2 i (hs.subset hi)⟩
theorem L8{r:Nat}{w:Nat→Option (Nat×C5)}(hr:8≤r): ∀(M:List Gw) (g:Nat) (k:List Nat→Bool),0<g→r ∣ g→(∀y,y∈M→w y.i≠none→r ∣ y.m)→SJ M g k=true→ ∃N,k N=true∧N.Sublist (M.map Gw.i)∧nW w N=nW w (M.map Gw.i)∧tL w N=tL w (M.map Gw.i)
 | [],_,_,_,_,_,hk=>⟨[],hk,List.Sublist.slnil,rfl,rfl⟩
 |y::M,g,k,hg,hrg,h,hk=>by
  rw[SJ,nV]at hk;rw[cg,nW,tL];have hM: ∀z,z∈M→w z.i≠none→r ∣ z.m:=fun z hz=>h z (aE _ hz);have inc:r ∣ mD g y.m→SJ M (mD g y.m) (fun N=>k (y.i::N))=true→ ∃N,k N=true∧N.Sublist (y.i::M.map Gw.i)∧nW w N=(match w y.i with|none=>nW w (M.map Gw.i)|some p=>x5 (nW w (M.map Gw.i)) p.2)∧tL w N=(match w y.i with|none=>0|some p=>p.1+1)+tL w (M.map Gw.i):=by
   intro hd q;obtain⟨N,n1,n2,n3,n4⟩:=L8 hr M _ _ (tC _ hg) hd hM q;exact⟨y.i::N,n1,n2.cons_cons _,by rw[nW,n3],by rw[tL,n4]⟩
  have exc:w y.i=none→SJ M g k=true→ ∃N,k N=true∧N.Sublist (y.i::M.map Gw.i)∧nW w N=(match w y.i with|none=>nW w (M.map Gw.i)|some p=>x5 (nW w (M.map Gw.i)) p.2)∧tL w N=(match w y.i with|none=>0|some p=>p.1+1)+tL w (M.map Gw.i):=by
   intro hn q;obtain⟨N,n1,n2,n3,n4⟩:=L8 hr M _ _ hg hrg hM q;exact⟨N,n1,n2.cons _,by rw[hn,n3],by rw[hn,n4,dB]⟩
  cases hb:kV 8 (mD g y.m)with
  |true=>
   rw[hb]at hk;have hk:(SJ M (mD g y.m) (fun N=>k (y.i::N))&&cond (bH (mD g y.m) g) true (SJ M g k))=true:=hk;rw[an]at hk;by_cases hn:w y.i=none
   ·cases he:bH (mD g y.m) g with
    |true=>exact inc (by rw[aG he];exact hrg) hk.1
    |false=>
     rw[he]at hk;exact exc hn hk.2
   ·exact inc (BO hrg (h y (bA ..) hn)) hk.1
  |false=>
   rw[hb]at hk;refine exc ?_ hk;cases hw:w y.i with
   |none=>rfl
   |some p=>
    have h1:=BO hrg (h y (bA ..) (by rw[hw];exact Option.some_ne_none p));have h2:=WU (tC _ hg) h1;rw[kr (cB hr h2)]at hb;cases hb
section
variable{ML:List (List (List C5))}{k b r:Nat}{t:List Nat→C5→Bool}{κ:Nat→Bool}{w:Nat→Option (Nat×C5)}
theorem L9(ht: ∀M x,okM M→WO x→t M x=true→Gud k (vl5 ML M b) x)(hr:8≤r)(hw:ai0 ML w): ∀(l:List Gw) (g:Nat) (x:C5) (c:Bool) (M:List Gw),0<g→r ∣ g→WO x→(∀y,y∈l→WO y.x)→okM ((l.map Gw.i).reverse++M.map Gw.i)→(∀y,y∈l→κ y.i=true→r ∣ y.h)→(∀y,y∈l→κ y.i=false→w y.i≠none→r ∣ y.m)→(∀y,y∈M→w y.i≠none→r ∣ y.m)→(c=true∨ ∃y,y∈l∧κ y.i=true)→tc5 κ w l+tL w (M.map Gw.i)≤b→aaC t l g x c M=true→17≤CT k (x5 (x5 (tt5 κ w l) (nW w (M.map Gw.i))) x)
 | [],g,x,c,M,hg,hrg,hx,_,hM,_,_,hm,hc,hb,h=>by
   rw[aaC]at h;have hct:c=true:=hc.resolve_right fun⟨y,hy,_⟩=>nomatch hy;subst hct;have hM:okM (M.map Gw.i):=hM;obtain⟨N,n1,n2,e1,e2⟩:=L8 hr M g _ hg hrg hm h;rw[tt5, ←e1,Oz vG,J9];exact ht N x (hM.sub n2) hx n1 _ (WR hw _ _ (by rw[e2];rw[tc5]at hb;omega))
 |y::l,g,x,c,M,hg,hrg,hx,hlx,hM,hh,hmm,hm,hc,hb,h=>by
  rw[aaC,an,nV]at h;obtain⟨h1,h2⟩:=h;rw[cg,List.reverse_cons,bU]at hM;rw[tt5];rw[tc5]at hb;cases hk:κ y.i with
  |true=>
   have hd:=BO hrg (hh y (bA ..) hk);have hp:=tC y.h hg;rw[kr (cB hr (WU hp hd)),Rh]at h2;rw[if_pos hk]at hb;have:=L9 ht hr hw l _ (x5 x y.x) true M hp hd (aay hx (hlx y (bA ..))) (fun z hz=>hlx z (aE _ hz)) (hM.sub (List.Sublist.append (List.Sublist.refl _) (List.sublist_cons_self ..))) (fun z hz=>hh z (aE _ hz)) (fun z hz=>hmm z (aE _ hz)) hm (bP rfl) aJ h2;rw[if_pos rfl];have e:x5 (x5 (x5 (tt5 κ w l) y.x) (nW w (M.map Gw.i))) x=x5 (x5 (tt5 κ w l) (nW w (M.map Gw.i))) (x5 x y.x):=by ac_rfl
   rw[e];exact this
  |false=>
   rw[if_neg OJ]at hb;have:=L9 ht hr hw l g x c (y::M) hg hrg hx (fun z hz=>hlx z (aE _ hz)) hM (fun z hz=>hh z (aE _ hz)) (fun z hz=>hmm z (aE _ hz)) (fun z hz hn=>by
    rcases bh.1 hz with rfl|hz
    ·exact hmm z (bA ..) hk hn
    ·exact hm z hz hn) (hc.imp id fun⟨z,hz,hq⟩=>by
    rcases bh.1 hz with rfl|hz
    ·rw[hk]at hq;cases hq
    ·exact⟨z,hz,hq⟩) (by
    rw[cg,tL];omega) h1
   rw[cg,nW]at this;rw[if_neg cO];cases hwy:w y.i with
   |none=>rw[hwy]at this;exact this
   |some p=>
    rw[hwy]at this;have e:x5 (x5 (x5 (tt5 κ w l) p.2) (nW w (M.map Gw.i))) x=x5 (x5 (tt5 κ w l) (x5 (nW w (M.map Gw.i)) p.2)) x:=by ac_rfl
    show 17≤CT k (x5 (x5 (x5 (tt5 κ w l) p.2) (nW w (M.map Gw.i))) x)
    rw[e];exact this
end
def Uj(κ:Nat→Bool)(w:Nat→Option (Nat×C5))(cv:Nat→C5):Nat→C5
 |0=>vG
 |n+1=>if κ n=true then x5 (Uj κ w cv n) (cv n)else match w n with|none=>Uj κ w cv n|some p=>x5 (Uj κ w cv n) p.2
def ck5(κ:Nat→Bool)(w:Nat→Option (Nat×C5)):Nat→Nat
 |0=>0
 |n+1=>(if κ n=true then 0 else match w n with|none=>0|some p=>p.1+1)+ck5 κ w n
def NP(mh ch:Nat→Nat)(cv:Nat→C5)(hf i:Nat):Gw:=⟨i,mD 720720 (NO (mh i) hf),mD 720720 (NO (ch i) hf),cv i⟩
theorem awO(κ:Nat→Bool)(w:Nat→Option (Nat×C5))(mh ch:Nat→Nat)(cv:Nat→C5)(hf:Nat):tt5 κ w [NP mh ch cv hf 3,NP mh ch cv hf 2,NP mh ch cv hf 1,NP mh ch cv hf 0]=Uj κ w cv 4∧tc5 κ w [NP mh ch cv hf 3,NP mh ch cv hf 2,NP mh ch cv hf 1,NP mh ch cv hf 0]=ck5 κ w 4:=⟨rfl,rfl⟩
theorem ai2{ML:List (List (List C5))}{k b r hf:Nat}{κ:Nat→Bool}{w:Nat→Option (Nat×C5)}{mh ch:Nat→Nat}{cv:Nat→C5}(h:SH ML)(hk:k<2147483647)(hcv: ∀i,WO (cv i))(hb:b≤10)(hw:ai0 ML w)(hr:8≤r)(hr2:r ∣ 720720)(h1: ∀i,i<4→κ i=true→ch i % r=hf % r)(h2: ∀i,i<4→κ i=false→w i≠none→mh i % r=hf % r)(h3: ∃i,i<4∧κ i=true)(hc:ck5 κ w 4≤b)(hg:aaC (fun M x=>SI (Rj ML) ML k M b x) [NP mh ch cv hf 3,NP mh ch cv hf 2,NP mh ch cv hf 1,NP mh ch cv hf 0] 720720 vG false []=true):17≤CT k (Uj κ w cv 4):=by
 have hcl: ∀(P:Gw→Prop),(∀i,i<4→P (NP mh ch cv hf i))→ ∀y,y∈ [NP mh ch cv hf 3,NP mh ch cv hf 2,NP mh ch cv hf 1,NP mh ch cv hf 0]→P y:=by
  intro P hP y hy;simp only[bh,nX,or_false]at hy;rcases hy with rfl|rfl|rfl|rfl
  ·exact hP 3 cO
  ·exact hP 2 cO
  ·exact hP 1 cO
  ·exact hP 0 cO
 have:=L9 (κ:=κ) (r:=r) (b:=b) (ML:=ML) (k:=k) (fun M x hM hx ht=>AD h hk M b x hM hb hx ht) hr hw _ 720720 vG false [] cO hr2 agk (hcl _ fun i _=>hcv i) (show okM [0,1,2,3]from ⟨by decide,by decide⟩) (hcl _ fun i hi hq=>BO hr2 (ago (h1 i hi hq))) (hcl _ fun i hi hq hn=>BO hr2 (ago (h2 i hi hq hn))) (fun y hy=>nomatch hy) (bw (by
  obtain⟨i,hi,hq⟩:=h3;have:i=0∨i=1∨i=2∨i=3:=by omega
  rcases this with rfl|rfl|rfl|rfl
  ·exact⟨NP mh ch cv hf 0,by simp,hq⟩
  ·exact⟨NP mh ch cv hf 1,by simp,hq⟩
  ·exact⟨NP mh ch cv hf 2,by simp,hq⟩
  ·exact⟨NP mh ch cv hf 3,by simp,hq⟩)) (by rw[(awO ..).2];exact hc) hg
 rw[(awO ..).1]at this;have e:x5 (x5 (Uj κ w cv 4) (nW w (List.map Gw.i []))) vG=Uj κ w cv 4:=by
  rw[J9];exact J9 _
 rwa [e]at this
theorem azV(w:Nat→Option (Nat×C5))(cv:Nat→C5):Uj (fun _=>false) w cv 4=nW w [0,1,2,3]∧ck5 (fun _=>false) w 4=tL w [0,1,2,3]:=by
 simp only[Uj,ck5,nW,tL];refine⟨?_,by simp;omega⟩;cases w 0<;>cases w 1<;>cases w 2<;>cases w 3<;>(simp only[Bool.false_eq_true,if_false];try ac_rfl)
theorem aaD{w:Nat→Option (Nat×C5)}: ∀l,(∀i,i∈l→w i=none)→nW w l=vG
 | [],_=>rfl
 |i::l,h=>by rw[nW,h i (bA ..)];exact aaD l fun j hj=>h j (aE _ hj)
theorem ai3{ML:List (List (List C5))}{k f:Nat}{w:Nat→Option (Nat×C5)}(cv:Nat→C5)(h:SH ML)(hk:k<2147483647)(hw:ai0 ML w)(hf:f<4)(h3:w f=none∨ ∃j,j<4∧j≠f∧w j≠none)(hc:ck5 (fun _=>false) w 4≤10)(hg:Rk (Rj ML) ML k f [0,1,2,3]=true):17≤CT k (Uj (fun _=>false) w cv 4):=by
 obtain⟨e1,e2⟩:=azV w cv;rw[e1];rw[e2]at hc;have hin: ∀i,i<4→i∈ [0,1,2,3]:=by decide
 have hi4: ∀i,i∈ [0,1,2,3]→i<4:=by decide
 by_cases hj: ∃j,j<4∧j≠f∧w j≠none
 ·obtain⟨j,j1,j2,j3⟩:=hj;exact(L7 h hk hw hf [0,1,2,3] ⟨by decide,by decide⟩ hg ⟨j,hin j j1,j2,j3⟩).1 (hin f hf) hc
 ·have hn:=h3.resolve_right hj;have hall: ∀i,i∈ [0,1,2,3]→w i=none:=by
   intro i hi;by_cases e:i=f
   ·rw[e];exact hn
   ·cases hwi:w i with
    |none=>rfl
    |some p=>exact absurd ⟨i,hi4 i hi,e,by rw[hwi];exact Option.some_ne_none p⟩ hj
  rw[aaD _ hall];exact aaB h hk _ hg
end
section
variable{j:Nat}{a b:DB}{rows i:Int}{c:List UInt8}{x:dF}
def qa(d:DB)(j i:Nat):UInt8:=AH (d.rows.getD j (aO (.sl .u8))) i
theorem Rl{d:DB}(h:d.rows.length≤j)(i:Nat):qa d j i=0:=by
 unfold qa;rw[PL _ _ _ h];rfl
theorem aaE(h:pL a b=true)(j i:Nat):qa (lM a b) j i=qa a j i^^^qa b j i:=by
 have hb:=Bk h;by_cases hj:j<a.rows.length
 ·unfold qa;rw[xg h];show AH ((lZ a b).getD j (aO (.sl .u8))) i=_
  rw[Bl h j hj,yl]
 ·rw[Rl (by rw[xg h];show(lZ a b).length≤j;rw[oW h];omega),Rl aJ,Rl aJ];rfl
def xs{α:Type}(g:α→UInt8)(l:List α):UInt8:=l.foldl (fun z s=>z^^^g s) 0
theorem lT{α:Type}(g:α→UInt8)(a:α)(l:List α):xs g (a::l)=g a^^^xs g l:=by
 unfold xs;rw[cI,Wu,iU]
theorem aoL{α:Type}(g:α→UInt8): ∀a b:List α,xs g (a++b)=xs g a^^^xs g b
 | [],b=>by rw[eM];show _=0^^^_;rw[iU]
 |x::a,b=>by rw[fE,lT,lT,aoL g a b,iw]
theorem aoM{α:Type}(f g:α→UInt8): ∀l:List α,xs (fun s=>f s^^^g s) l=xs f l^^^xs g l
 | []=>by show(0:UInt8)=0^^^0;rw[n7]
 |a::l=>by rw[lT,lT,lT,aoM f g l,aEq]
theorem agr{α:Type}: ∀l:List α,xs (fun _=>0) l=0
 | []=>rfl
 |a::l=>by rw[lT,agr l];rfl
theorem Kc{α:Type}{f g:α→UInt8}: ∀{l:List α},(∀a,a∈l→f a=g a)→xs f l=xs g l
 | [],_=>rfl
 |a::l,h=>by rw[lT,lT,h a (bA ..),Kc fun b hb=>h b (aE _ hb)]
theorem Rm{α β:Type}(g:β→UInt8)(f:α→β): ∀l:List α,xs g (l.map f)=xs (fun a=>g (f a)) l
 | []=>rfl
 |a::l=>by rw[cg,lT,lT,Rm g f l]
theorem ags{α β:Type}(f:α→β→UInt8)(m:List β): ∀l:List α,xs (fun a=>xs (f a) m) l=xs (fun b=>xs (fun a=>f a b) l) m
 | []=>(agr m).symm
 |a::l=>by
  rw[lT,ags f m l, ←aoM];exact Kc fun b _=>(lT (fun a=>f a b) a l).symm
def Uk(n:Nat)(d:DB):Prop:=fZ d=true∧d.rows.length=n
theorem Uk.xd{n:Nat}(ha:Uk n a)(hb:Uk n b):pL a b=true:=by
 simp only[pL,ha.1,hb.1,dj,decide_eq_true_eq];rw[ha.2,hb.2]
theorem Uk.xor{n:Nat}(ha:Uk n a)(hb:Uk n b):Uk n (lM a b):=⟨P8 ha.1 hb.1,by rw[Bt];exact ha.2⟩
theorem adu{α:Type}(f:α→DB)(n j i:Nat): ∀(l:List α) (a:DB),Uk n a→(∀s,s∈l→Uk n (f s))→Uk n (l.foldl (fun d s=>lM d (f s)) a)∧qa (l.foldl (fun d s=>lM d (f s)) a) j i=qa a j i^^^xs (fun s=>qa (f s) j i) l
 | [],a,ha,_=>⟨ha,by show qa a j i=qa a j i^^^0;rw[n7]⟩
 |s::l,a,ha,hl=>by
  have h1:=hl s (bA ..);have ih:=adu f n j i l (lM a (f s)) (ha.xor h1) fun t ht=>hl t (aE _ ht);rw[cI];refine⟨ih.1,ih.2.trans ?_⟩;rw[aaE (ha.xd h1),lT,iw]
theorem aEU(h:0≤rows∧rows≤64):Uk rows.toNat (ir rows):=⟨Zj rows,by have:=Bz h;omega⟩
theorem aoN(rows:Int)(j i:Nat):qa (ir rows) j i=0:=by
 unfold qa ir;dsimp only;split
 ·rw[aq,kW];split
  ·exact Oo i
  ·rfl
 ·rfl
theorem aEV(s:Int)(h:1≤rows∧rows≤64):Uk rows.toNat (mdb s rows):=⟨P9 s rows h.2,rS s rows⟩
theorem aHq(h:vT rows i c=true):Uk rows.toNat (YV rows i c):=⟨(G0 h).1,by have:=ZG h;omega⟩
theorem aoO{sd:List Int}(h:Ck rows i c sd=true)(j b:Nat):xs (fun d=>qa d j b) (xP rows i c sd)=qa (YV rows i c) j b:=by
 have hu:vT rows i c=true:=by simp only[Ck,an]at h;exact h.1
 have hr:=(G0 hu).2;have q:=(adu (fun s=>mdb s rows) rows.toNat j b sd (YV rows i c) (aHq hu) fun s _=>aEV s hr).2;rw[xP,if_pos h,aoL,Rm,lT];show xs (fun s=>qa (mdb s rows) j b) sd^^^(qa (B4 rows i c sd) j b^^^0)=_
 unfold B4;rw[q,n7,zv (qa (YV rows i c) j b), ←iw,Gq,iU]
theorem azW(h:vT rows i c=true)(hj:(j:Int)<rows)(b:Nat):qa (YV rows i c) j b=if i.toNat=j then AH c b else 0:=by
 have hr:=(G0 h).2;have h1:=Qd rows i c;rw[h]at h1;have h2:=h1.symm;simp only[an,dK,decide_eq_true_eq]at h2;have hn:=Bz (rows:=rows) aJ;have hro:wo (ir rows) i c=true:=by
  simp only[vT,an]at h;exact h.2
 have hb:=N4 (by have:=w9 rows;omega) hro;unfold YV;rw[if_pos (by rw[dK];omega),Ab hro];unfold qa;show AH (((ir rows).rows.set i.toNat c).getD j (aO (.sl .u8))) b=_
 rw[rX _ _ aJ];split
 ·rfl
 ·exact aoN rows j b
def hon(x:dF):Prop:= ∀i,i<x.aC.length→(x.aC.getD i (aO .cH)).behavior=0
def aHr(x:dF):Prop:= ∀i,i<x.aC.length→(x.aC.getD i (aO .cH)).behavior=0∨(x.aC.getD i (aO .cH)).behavior=3
theorem hon.w(h:hon x):aHr x:=fun i hi=>bP (h i hi)
theorem aoP(h:okW x=true):cF x=(bK x.aC.length).map (rJ x x.ah.length):=by
 apply qU
 ·rw[bt,Av,mu h]
 ·intro i h1 h2;have hi:i<x.aC.length:=by rw[mu h]at h1;exact h1
  have:=Ok h hi;rw[aq,az h1]at this;rw[NQ,List.getElem_range];exact this
def aaF(x:dF):Prop:= ∀i,i<x.aC.length→ ∀j b,Uk x.rows.toNat (tJ (rJ x x.ah.length i))∧qa (tJ (rJ x x.ah.length i)) j b=xs (fun c=>qa (Sf x i c) j b) (bK x.ah.length)
theorem azX(h:okW x=true){i:Nat}(hi:i<x.aC.length)(j b:Nat):Uk x.rows.toNat (l6 x.rows (rcs x i x.ah.length))∧qa (l6 x.rows (rcs x i x.ah.length)) j b=xs (fun c=>qa (Sf x i c) j b) (bK x.ah.length):=by
 have hr:=al6 h;unfold l6;have q:=adu (fun r:bL=>r.share) x.rows.toNat j b (rcs x i x.ah.length) (ir x.rows) (aEU aJ) (fun s hs=>by
  obtain⟨c,hc,rfl⟩:=bQ.1 hs;have hc:=cS.1 hc;have:=anw h hi hc;exact⟨this.1,by have:=this.2;show(Sf x i c).rows.length=_;omega⟩)
 refine⟨q.1,q.2.trans ?_⟩;rw[aoN,iU];unfold rcs;rw[Rm]
theorem aaG(n j b:Nat): ∀(l:List DB) (a:DB),Uk n a→(∀d,d∈l→Uk n d)→ ∃d,Xj a l=some d∧Uk n d∧qa d j b=qa a j b^^^xs (fun d=>qa d j b) l
 | [],a,ha,_=>⟨a,rfl,ha,by show _=_^^^0;rw[n7]⟩
 |s::l,a,ha,hl=>by
  have h1:=hl s (bA ..);obtain⟨d,q1,q2,q3⟩:=aaG n j b l (lM a s) (ha.xor h1) fun t ht=>hl t (aE _ ht);refine⟨d,?_,q2,q3.trans ?_⟩
  ·rw[Xj,if_pos (ha.xd h1),q1]
  ·rw[aaE (ha.xd h1),lT,iw]
theorem aoQ(h:okW x=true)(hh:aaF x)(hj:(j:Int)<x.rows)(b:Nat):
  Uk x.rows.toNat (jw (eW (cF x)))∧qa (jw (eW (cF x))) j b=xs (fun c:Nat=>if(mL (rG x (c:Int)) x.round x.rows).toNat=j then AH (jt (rG x (c:Int)) x.round x.rows) b else 0) (bK x.ah.length):=by
 have hs:=iY h;have hl:(eW (cF x)).length=x.aC.length:=by rw[show(eW (cF x)).length=(cF x).length from bt ..,mu h]
 have e:eW (cF x)=(bK x.aC.length).map fun i=>tJ (rJ x x.ah.length i):=by
  unfold eW;rw[aoP h,jM];rfl
 have hok: ∀d,d∈eW (cF x)→Uk x.rows.toNat d:=by
  intro d hd;rw[e]at hd;obtain⟨i,hi,rfl⟩:=bQ.1 hd;exact(hh i (cS.1 hi) 0 0).1
 obtain⟨d,q1,q2,q3⟩:=aaG x.rows.toNat j b ((eW (cF x)).drop 1) ((eW (cF x)).getD 0 (aO .DB)) (hok _ (getD_in _ aJ)) fun d hd=>hok d (gf hd);have ej:jw (eW (cF x))=d:=by
  rw[jw,jwR,if_pos (by simp only[dR,dK];omega),q1];rfl
 rw[ej];refine⟨q2,q3.trans ?_⟩;have e2:qa ((eW (cF x)).getD 0 (aO .DB)) j b^^^xs (fun d=>qa d j b) ((eW (cF x)).drop 1)=xs (fun d=>qa d j b) (eW (cF x)):=by
  have:=getD_drop (eW (cF x)) 0 (aO .DB) aJ;rw[ju]at this;rw[dB]at this;exact(lT (fun d=>qa d j b) ((eW (cF x)).getD 0 (aO .DB)) ((eW (cF x)).drop 1)).symm.trans (congrArg (xs fun d=>qa d j b) this.symm)
 rw[e2,e,Rm];rw[Kc (g:=fun i=>xs (fun c=>qa (Sf x i c) j b) (bK x.ah.length)) fun i hi=>(hh i (cS.1 hi) j b).2];rw[ags];apply Kc;intro c hc;have hc:=cS.1 hc;have hcc:0≤(c:Int)∧(c:Int)<x.ah.length:=by omega
 have hm:=TD h hcc;have hu:vT x.rows (mL (rG x c) x.round x.rows) (jt (rG x c) x.round x.rows)=true:=by simp only[Ck,an]at hm;exact hm.1
 have e3:(bK x.aC.length).map (fun i=>Sf x i c)=gU x (c:Int):=by
  have:=QZ (fun d:DB=>d) (gU x (c:Int)) (aO .DB);rw[oY h hcc,List.map_id']at this;exact this
 rw[←azW hu hj b, ←aoO hm j b];show _=xs _ (gU x (c:Int))
 rw[←e3,Rm]
def adv(x:dF)(j:Nat):List UInt8:=(bK x.ah.length).foldl (fun a (c:Nat)=>if(mL (rG x (c:Int)) x.round x.rows).toNat=j then iA a (jt (rG x (c:Int)) x.round x.rows)else a) VD
theorem Ma(x:dF)(h:okW x=true)(j:Nat): ∀(l:List Nat) (a:List UInt8),a.length=24→(∀c,c∈l→c<x.ah.length)→(l.foldl (fun a (c:Nat)=>if(mL (rG x (c:Int)) x.round x.rows).toNat=j then iA a (jt (rG x (c:Int)) x.round x.rows)else a) a).length=24∧ ∀b,AH (l.foldl (fun a (c:Nat)=>if(mL (rG x (c:Int)) x.round x.rows).toNat=j then iA a (jt (rG x (c:Int)) x.round x.rows)else a) a) b=AH a b^^^xs (fun c:Nat=>if(mL (rG x (c:Int)) x.round x.rows).toNat=j then AH (jt (rG x (c:Int)) x.round x.rows) b else 0) l
 | [],a,ha,_=>⟨ha,fun b=>by show _=_^^^0;rw[n7];rfl⟩
 |c::l,a,ha,hl=>by
  have hc:=hl c (bA ..);have h24:=IW (VI h (c:=(c:Int)) aJ);rw[cI];by_cases hq:(mL (rG x (c:Int)) x.round x.rows).toNat=j
  ·rw[if_pos hq];have ih:=Ma x h j l (iA a (jt (rG x (c:Int)) x.round x.rows)) ag5 fun t ht=>hl t (aE _ ht);refine⟨ih.1,fun b=>(ih.2 b).trans ?_⟩;rw[yl,lT,if_pos hq,iw]
  ·rw[if_neg hq];have ih:=Ma x h j l a ha fun t ht=>hl t (aE _ ht);refine⟨ih.1,fun b=>(ih.2 b).trans ?_⟩;rw[lT,if_neg hq,iU]
theorem row_eq(h:okW x=true)(hh:aaF x)(hj:(j:Int)<x.rows):(jw (eW (cF x))).rows.getD j (aO (.sl .u8))=adv x j:=by
 have q:=Ma x h j (bK x.ah.length) VD sV fun c hc=>cS.1 hc;have hd:=(aoQ h hh hj 0).1;refine azj ?_ fun b=> ?_
 ·rw[uM hd.1 j (by rw[hd.2];omega)];exact q.1.symm
 ·refine((aoQ h hh hj b).2).trans ?_;refine Eq.trans ?_ (q.2 b).symm;rw[Oo,iU]
end
theorem auf{x:dF}(h:okW x=true){r:kj}(hr:r∈mV x): ∃c i:Nat,c<x.ah.length∧i<x.aC.length∧r=mkR (oo x.bW (i:Int)) (i:Int) (c:Int) x.round (Sf x i c):=by
 unfold mV at hr;rw[if_pos h]at hr;unfold Ql at hr;obtain⟨c,hc,hr⟩:=kL.1 hr;unfold Qk at hr;obtain⟨i,hi,hr⟩:=kL.1 hr;unfold ayN at hr;exact⟨c,i,cS.1 hc,cS.1 hi,aV.1 hr⟩
theorem ai4{x:dF}(h:okW x=true){i:Nat}(hi:i<x.aC.length){r:kj}(hr:r∈mV x):pg (oo x.bW (i:Int)) (rJ x x.ah.length i) r=0:=by
 obtain⟨c,k,hc,hk,rfl⟩:=auf h hr;cases hs:BT (oo x.bW (i:Int)) (rJ x x.ah.length i) (mkR (oo x.bW (k:Int)) (k:Int) (c:Int) x.round (Sf x k c))with
 |true=>exact ayY hs
 |false=>
  have hid:=(T4 h hi).1;have e:k=i:=by
   unfold BT mkR at hs;simp only[Bool.or_eq_false_iff,bne_eq_false_iff_eq]at hs;have h1:(k:Int)=(rJ x x.ah.length i).id:=hs.1.1;have h2:(rJ x x.ah.length i).id=(i:Int):=hid;omega
  subst e;obtain⟨q1,q2⟩:=atc x k x.ah.length hc;refine ayX hs q1 ?_;show XG (mkR (oo x.bW (k:Int)) (k:Int) (c:Int) x.round (Sf x k c)) (G2 (rcs x k x.ah.length) (c:Int))=true
  rw[q2];unfold XG mkR;exact beq_self_eq_true _
structure aIy(x y:dF):Prop where
 ok:okW y=true
 rows:y.rows=x.rows
 nd:y.ah.length=x.ah.length
 ns:y.aC.length=x.aC.length
 sv: ∀i,i<x.aC.length→(y.aC.getD i (aO .cH)).behavior=(x.aC.getD i (aO .cH)).behavior
 round:y.round=x.round+1
 CF:y.cancelled=x.cancelled
 ZJ:y.replaced=x.replaced
 arc:gS y.aH=x.round
 seed:y.seed=x.seed

section
variable{i:Nat}
def Kp(seed:Int)(i:Nat):Int:=GS (kh seed [199,(i:Int).tdiv 2])
def sOf(seed:Int)(i:Nat):Int:=kh seed [211,(i:Int)]
def uF(i:Nat):Int:=if(i:Int)<((i^^^1:Nat):Int)then 0 else 1
def Ke(m:List UInt8)(d i:Nat):List (List UInt8):=if i=d then [m]else []
def EP(seed:Int)(m:List UInt8)(d:Nat)(st:Bool)(i:Nat)(nx:Int):kf:=⟨(i:Int),((i^^^1:Nat):Int),Kp seed i,sOf seed i,Ke m d i,if st=true then((Ke m d i).length:Int)else 0,if st=true then Ke m d (i^^^1)else [],nx⟩
def aEW(seed:Int)(m:List UInt8)(d:Nat):List UInt8:=lJ (rB (Kp seed d) (uF d)) 0 ⟨1,m⟩
def auh(rows seed:Int)(d:Nat)(r:Int)(i:Nat):Int:=if i=d then jK (Kp seed i) r (uF i) rows else Co (sOf seed i) r rows
def aui(seed:Int)(m:List UInt8)(d:Nat)(r:Int)(i:Nat):List UInt8:=if i=d then aEW seed m d else cover (kh (sOf seed i) [r])
def auj(rows seed:Int)(m:List UInt8)(n d:Nat)(r:Int)(j:Nat):List UInt8:=(bK n).foldl (fun a c=>if(auh rows seed d r c).toNat=j then iA a (aui seed m d r c)else a) VD
def dW(n d:Nat)(st:Bool):Nat:=if st=true then n else d
theorem aEX(n d:Nat):dW n d false=d:=rfl
theorem aEY(n d:Nat):dW n d true=n:=rfl
theorem adw(m:List UInt8)(d:Nat):Ke m d d= [m]:=if_pos rfl
theorem aoR{m:List UInt8}{d:Nat}(h:i≠d):Ke m d i= []:=if_neg h
theorem Rn{α β:Type}{f g:β→α→β}: ∀{l:List α} {a:β},(∀b, ∀c,c∈l→f b c=g b c)→l.foldl f a=l.foldl g a
 | [],_,_=>rfl
 |c::l,a,h=>by
  rw[cI,cI,h a c (bA ..)];exact Rn fun b e he=>h b e (aE _ he)
structure At(rows seed:Int)(m:List UInt8)(n d:Nat)(y:dF)(r:Nat)(st:Bool)(nx:Nat):Prop where
 ok:okW y=true
 rows:y.rows=rows
 nd:y.ah.length=n
 round:y.round=(r:Int)
 arc:gS y.aH<(nx:Int)
 le:nx≤r
 lv: ∀i,i<n→rG y (i:Int)=EP seed m d st i (nx:Int)
section
variable{rows seed:Int}{m:List UInt8}{n d:Nat}{y z:dF}{r nx:Nat}{st:Bool}
theorem At.cw(h:At rows seed m n d y r st nx)(hi:i<n):zD (EP seed m d st i (nx:Int)) (r:Int) rows=true:=by
 have:=VI h.ok (c:=(i:Int)) Xy;rw[h.lv i hi,h.round,h.rows]at this;exact this
theorem auk(seed:Int)(m:List UInt8)(i:Nat)(nx:Int):rQ (EP seed m i false i nx) (EP seed m i false i nx).sent=aEW seed m i:=by
 show lJ (rB (Kp seed i) (uF i)) 0 ⟨1,(Ke m i i).getD 0 (aO (.sl .u8))⟩=_
 rw[adw];rfl
theorem At.wr(h:At rows seed m n d y r st nx)(hi:i<n):mL (rG y (i:Int)) y.round y.rows=auh rows seed (dW n d st) (r:Int) i:=by
 have hc:=h.cw hi;rw[h.lv i hi,h.round,h.rows,mL,if_pos hc];cases st with
 |true=>
  rw[if_neg (show¬(EP seed m d true i (nx:Int)).sent<(((EP seed m d true i (nx:Int)).aT.length:Nat):Int)by show¬((Ke m d i).length:Int)<((Ke m d i).length:Int);omega),aEY];unfold auh;rw[if_neg (show¬i=n by omega)];rfl
 |false=>
  rw[aEX];unfold auh;by_cases e:i=d
  ·subst e;rw[if_pos (show(EP seed m i false i (nx:Int)).sent<(((EP seed m i false i (nx:Int)).aT.length:Nat):Int)by show(0:Int)<((Ke m i i).length:Int);rw[adw];exact(by decide:(0:Int)<1)),if_pos rfl];rfl
  ·rw[if_neg (show¬(EP seed m d false i (nx:Int)).sent<(((EP seed m d false i (nx:Int)).aT.length:Nat):Int)by show¬(0:Int)<((Ke m d i).length:Int);rw[aoR e];exact(by decide: ¬(0:Int)<0)),if_neg e];rfl
theorem At.wc(h:At rows seed m n d y r st nx)(hi:i<n):jt (rG y (i:Int)) y.round y.rows=aui seed m (dW n d st) (r:Int) i:=by
 have hc:=h.cw hi;rw[h.lv i hi,h.round,h.rows,jt,if_pos hc];cases st with
 |true=>
  rw[if_neg (show¬(EP seed m d true i (nx:Int)).sent<(((EP seed m d true i (nx:Int)).aT.length:Nat):Int)by show¬((Ke m d i).length:Int)<((Ke m d i).length:Int);omega),aEY];unfold aui;rw[if_neg (show¬i=n by omega)];rfl
 |false=>
  rw[aEX];unfold aui;by_cases e:i=d
  ·subst e;rw[if_pos (show(EP seed m i false i (nx:Int)).sent<(((EP seed m i false i (nx:Int)).aT.length:Nat):Int)by show(0:Int)<((Ke m i i).length:Int);rw[adw];exact(by decide:(0:Int)<1)),if_pos rfl];exact auk seed m i (nx:Int)
  ·rw[if_neg (show¬(EP seed m d false i (nx:Int)).sent<(((EP seed m d false i (nx:Int)).aT.length:Nat):Int)by show¬(0:Int)<((Ke m d i).length:Int);rw[aoR e];exact(by decide: ¬(0:Int)<0)),if_neg e];rfl
theorem At.rw(h:At rows seed m n d y r st nx)(j:Nat):adv y j=auj rows seed m n (dW n d st) (r:Int) j:=by
 unfold adv auj;rw[h.nd];refine Rn fun b c hc=> ?_;have hc:=cS.1 hc;rw[h.wr hc,h.wc hc]
def aHs(rows seed:Int)(r:Int)(i:Nat):Nat:=(jK (Kp seed i) r (uF i) rows).toNat
def aHt(rows seed:Int)(r:Int)(i:Nat):Nat:=(jK (Kp seed i) r (1-uF i) rows).toNat
def Reads(y z:dF):Prop:= ∀i:Nat,i<y.ah.length→rG z (i:Int)=lO (rG y (i:Int)) y.round (adv y (jK (rG y (i:Int)).key y.round (fK (rG y (i:Int))) y.rows).toNat) (adv y (jK (rG y (i:Int)).key y.round (1-fK (rG y (i:Int))) y.rows).toNat)
theorem At.next(h:At rows seed m n d y r st nx)(hq:Reads y z): ∀i:Nat,i<n→rG z (i:Int)=lO (EP seed m d st i (nx:Int)) (r:Int) (auj rows seed m n (dW n d st) (r:Int) (aHs rows seed (r:Int) i)) (auj rows seed m n (dW n d st) (r:Int) (aHt rows seed (r:Int) i)):=by
 intro i hi;have:=hq i axz;rw[h.rw,h.rw,h.lv i hi,h.round,h.rows]at this;exact this
theorem aoS{d:Nat}(h:d<8):Kp seed (d^^^1)=Kp seed d:=by unfold Kp;rw[T7]
theorem aoT{d:Nat}(h:d<8):1-uF (d^^^1)=uF d:=by
 have:d=0∨d=1∨d=2∨d=3∨d=4∨d=5∨d=6∨d=7:=by omega
 rcases this with rfl|rfl|rfl|rfl|rfl|rfl|rfl|rfl<;>decide
theorem ai5(k:Int)(l:List UInt8):decr k (oT k l)=l:=by
 apply qU
 ·rw[vl,jS]
 ·intro i h1 h2;have hi:i<(oT k l).length:=by rw[jS];exact h2
  have e:=PK k (oT k l) i hi;rw[IE k l i h2]at e;rw[aq,az h1,aq,az h2]at e;refine Eq.trans e ?_;refine Eq.trans (Dp (b:=((l[i].toNat:Nat):Int)) ?_) (asB _);rw[vg];show(((l[i].toNat:Int)+kh k [(i:Int)]% 256)% 256-kh k [(i:Int)]% 256)% 256=(l[i].toNat:Int)% 256
  omega
theorem aul{key c:Int}{b:List UInt8}(hb:b.length≤14):(iR key c ⟨1,b⟩).length=20:=by
 unfold iR;simp only[aQ,bp,dh,cV,jV];omega
structure AtH(rows seed:Int)(m:List UInt8)(n d:Nat)(y:dF)(r:Nat)(st:Bool)(nx:Nat):Prop extends At rows seed m n d y r st nx where
 hon:hon y
 CF:y.cancelled<1000000
end
end
section
variable(s:Nat)
class HF where
 f:Nat→Nat→Nat
 g:Nat→Nat
 hf: ∀h v:Nat,hs1 (h:Int) (v:Int)=((f h v:Nat):Int)
 hg: ∀h:Nat,((h:Int)*h+5)% 2147483647=((g h:Nat):Int)
 lt: ∀h v:Nat,f h v<2147483647
section
variable [HF]
def wG(h v:Nat):Nat:=HF.f h v
def sqN(h:Nat):Nat:=HF.g h
theorem agv(h v:Nat):hs1 (h:Int) (v:Int)=((wG h v:Nat):Int):=HF.hf h v
theorem aEZ(h:Nat):((h:Int)*h+5)% 2147483647=((sqN h:Nat):Int):=HF.hg h
def kU:List Nat→Nat→Nat
 | [],h=>h
 |v::l,h=>kU l (wG h v)
def vH(k:Nat)(l:List Nat):Nat:=wG (kU l (wG 11 k)) k
def csN(s k:Nat):Nat:=sqN (vH s [47,k])
def SK(n:Nat):Nat:=cond (bH n 0) 1 n
def kN(seed i:Nat):Nat:=SK (vH seed [199,zi i 2])
def sN(seed i:Nat):Nat:=vH seed [211,i]
def ai7(i:Nat):Nat:=cond (kV (J7 i) (tB i 1)) 0 1
def dkN(key dir:Nat):Nat:=SK (vH key [83,dir])
def aHu(key r dir rows:Nat):Nat:=nN (csN (vH key [79,r,dir]) 0) rows
def aHv(s r rows:Nat):Nat:=nN (csN (vH s [157,r]) 0) rows
def nY(s:Nat):Nat→Nat→List Nat
 |0,_=> []
 |k+1,i=>nN (zi (csN s (fX 100 i)) 256) 256::nY s k (J7 i)
def aum:List Nat:=nY (vH s [73]) 24 0
def Mb(s:Nat):List Nat→Nat→List Nat
 | [],_=> []
 |b::l,i=>nN (fX b (nN (vH s [i]) 256)) 256::Mb s l (J7 i)
def aaH(n:Nat):List Nat:= [nN n 256,nN (zi n 256) 256,nN (zi n 65536) 256,nN (zi n 16777216) 256]
def xoN:List Nat→List Nat→List Nat
 |a::l,b::k=>tB a b::xoN l k
 |_,_=> []
def aoU:List Nat→Nat
 | [a,b,c,d]=>fX a (fX (jF 256 b) (fX (jF 65536 c) (jF 16777216 d)))
 |_=>0
def goN(key:Nat):Nat→List Nat→Nat→Bool
 |0,l,h=>bH (aoU l) (wG h key)
 |_+1,[],_=>true
 |n+1,b::l,h=>goN key n l (wG h b)
def azY(key c:Nat)(cell:List Nat):Bool:=goN key 20 cell (kU [71,c] (wG 11 key))
def jY(l:List UInt8):List Nat:=l.map adx
def ints(l:List Nat):List Int:=l.map fun(n:Nat)=>(n:Int)
theorem ai8(v:Nat)(l:List Nat):ints (v::l)=(v:Int)::ints l:=rfl
theorem aoV: ∀(l:List Nat) (h:Nat),(ints l).foldl hs1 (h:Int)=((kU l h:Nat):Int)
 | [],h=>rfl
 |v::l,h=>by rw[ai8,cI,agv,aoV l,kU]
theorem NR(k:Nat)(l:List Nat):kh (k:Int) (ints l)=((vH k l:Nat):Int):=by
 have h11:(11:Int)=((11:Nat):Int):=rfl;unfold kh hsh vH;rw[cI,fQ,h11,agv,aoV,cI,Sx,agv]
theorem azZ(s k:Nat):cs (s:Int) (k:Int)=((csN s k:Nat):Int):=by
 unfold cs csN;rw[show kh (s:Int) [47,(k:Int)]=((vH s [47,k]:Nat):Int)from NR s [47,k],aEZ]
theorem aoW(n:Nat):GS (n:Int)=((SK n:Nat):Int):=by
 unfold GS SK;by_cases h:n=0
 ·subst h;rfl
 ·rw[if_neg aJ,show bH n 0=false from mY.2 fun q=>h (aG q)];rfl
theorem aoX(seed i:Nat):Kp (seed:Int) i=((kN seed i:Nat):Int):=by
 unfold Kp;rw[show kh (seed:Int) [199,(i:Int).tdiv 2]=((vH seed [199,zi i 2]:Nat):Int)from NR seed [199,zi i 2],aoW];rfl
theorem awQ(seed i:Nat):sOf (seed:Int) i=((sN seed i:Nat):Int):=NR seed [211,i]
theorem aoY(i:Nat):uF i=((ai7 i:Nat):Int):=by
 unfold uF ai7;show _=((cond (kV (i+1) (i^^^1)) 0 1:Nat):Int)
 by_cases h:i<i^^^1
 ·rw[if_pos aJ,kr h];rfl
 ·rw[if_neg aJ];cases hb:kV (i+1) (i^^^1)with
  |true=>exact absurd (bV hb) h
  |false=>rfl
theorem aun(k d:Nat):rB (k:Int) (d:Int)=((dkN k d:Nat):Int):=by
 unfold rB;rw[show kh (k:Int) [83,(d:Int)]=((vH k [83,d]:Nat):Int)from NR k [83,d],aoW];rfl
theorem aE0{key r dir rows:Nat}(h:1≤rows∧rows≤64)(hr:r≤100000):jK (key:Int) (r:Int) (dir:Int) (rows:Int)=((aHu key r dir rows:Nat):Int):=by
 unfold jK;rw[if_pos aJ,show kh (key:Int) [79,(r:Int),(dir:Int)]=((vH key [79,r,dir]:Nat):Int)from NR key [79,r,dir],show(0:Int)=((0:Nat):Int)from rfl,azZ];exact(wk _ _).symm
theorem aE1{s r rows:Nat}(h:1≤rows∧rows≤64):Co (s:Int) (r:Int) (rows:Int)=((aHv s r rows:Nat):Int):=by
 unfold Co;rw[if_pos aJ,show kh (s:Int) [157,(r:Int)]=((vH s [157,r]:Nat):Int)from NR s [157,r],show(0:Int)=((0:Nat):Int)from rfl,azZ];exact(wk _ _).symm
theorem auo(n:Nat):(b8 (n:Int)).toNat=n % 256:=by
 have:=vg (n:Int);omega
theorem awR(s:Nat): ∀k i,nY s k i=(List.range' i k).map fun j=>csN s (100+j)/256 % 256
 |0,_=>rfl
 |k+1,i=>by rw[nY,List.range'_succ,cg,awR s k];rfl
theorem aE2(s i:Nat):(b8 (cs (s:Int) (100+(i:Int))/256)).toNat=csN s (100+i)/256 % 256:=by
 rw[show(100+(i:Int))=((100+i:Nat):Int)by omega,azZ];generalize csN s (100+i)=c;rw[show(c:Int)/256=((c/256:Nat):Int)by omega,auo]
theorem aaI(s n:Nat):jY (stream (s:Int) n)=nY s n 0:=by
 rw[awR, ←List.range_eq_range'];unfold jY stream;rw[jM];simp only[Function.comp_def,aE2]
theorem aE3:jY (cover (s:Int))=aum s:=by
 unfold cover aum;rw[show kh (s:Int) [73]=((vH s [73]:Nat):Int)from NR s [73]];exact aaI _ 24
theorem aaJ(s:Nat): ∀(l:List Nat) (i:Nat),(Mb s l i).length=l.length
 | [],_=>rfl
 |b::l,i=>by rw[Mb,bp,aaJ s l,bp]
theorem aaK(s:Nat): ∀(l:List Nat) (i j:Nat) (h:j<(Mb s l i).length) (h2:j<l.length),(Mb s l i)[j]=(l[j]+vH s [i+j]% 256)% 256
 | [],_,_,_,h2=>absurd h2 (jE _)
 |b::l,i,0,_,_=>rfl
 |b::l,i,j+1,h,h2=>by
  show(Mb s l (i+1))[j]'_=_
  rw[aaK s l (i+1) j _ (by simpa using h2)];rw[show i+1+j=i+(j+1)by omega];rfl
theorem aaL{l:List UInt8}{i:Nat}(h:i<(jY l).length)(h2:i<l.length):(jY l)[i]=l[i].toNat:=NQ adx
theorem aE4(l:List UInt8):jY (oT (s:Int) l)=Mb s (jY l) 0:=by
 apply qU
 ·rw[aaJ];unfold jY;rw[bt,bt,jS]
 ·intro i h1 h2;have hi:i<l.length:=by
   have:(jY (oT (s:Int) l)).length=l.length:=by unfold jY;rw[bt,jS]
   omega
  rw[aaK s _ _ _ h2 (by unfold jY;rw[bt];exact hi)];rw[aaL h1 (by rw[jS];exact hi),aaL _ hi];have e:=IE (s:Int) l i hi;rw[aq,az (by rw[jS];exact hi),aq,az hi]at e;have e':(oT (s:Int) l)[i]'(by rw[jS];exact hi)=b8 ((l[i].toNat:Int)+kh (s:Int) [(i:Int)]% 256):=e;rw[e',show kh (s:Int) [(i:Int)]=((vH s [i]:Nat):Int)from NR s [i],show((l[i].toNat:Nat):Int)+((vH s [i]:Nat):Int)% 256=((l[i].toNat+vH s [i]% 256:Nat):Int)by omega,auo,dB]
theorem az1(n:Nat):jY (four (n:Int))=aaH n:=by
 unfold four jY aaH;rw[show(n:Int)/256=((n/256:Nat):Int)by omega,show(n:Int)/65536=((n/65536:Nat):Int)by omega,show(n:Int)/16777216=((n/16777216:Nat):Int)by omega];simp only[cg,rL,auo];rfl
theorem Mc: ∀(a b:List Nat) (h:Nat),kU (a++b) h=kU b (kU a h)
 | [],_,_=>rfl
 |v::a,b,h=>Mc a b (wG h v)
theorem awS(key c:Nat)(l:List UInt8):ql (key:Int) (c:Int) l=((wG (kU (jY l) (kU [71,c] (wG 11 key))) key:Nat):Int):=by
 unfold ql;have e: [71,(c:Int)]++l.map (fun c=>(c.toNat:Int))=ints ([71,c]++jY l):=by
  unfold ints jY;rw[gj,jM];rfl
 rw[e,NR];unfold vH;rw[Mc]
theorem Ro(a b:List UInt8):jY (a++b)=jY a++jY b:=gj ..
theorem AE(l:List UInt8):(jY l).length=l.length:=bt ..
section
variable{rows seed n d r:Nat}{m:List UInt8}
theorem awT: ∀{a b:List UInt8},a.length=b.length→jY (iA a b)=xoN (jY a) (jY b)
 | [],[],_=>rfl
 | [],_::_,h=>by cases h
 |_::_,[],h=>by cases h
 |x::a,y::b,h=>by
  show(x^^^y).toNat::jY (iA a b)=tB x.toNat y.toNat::xoN (jY a) (jY b)
  rw[awT (Nat.succ.inj h),PG];rfl
theorem ady(key:Nat): ∀(k:Nat) (l:List Nat) (h:Nat),k≤l.length→goN key k l h=bH (aoU (l.drop k)) (wG (kU (l.take k) h) key)
 |0,l,h,_=>by rw[goN,ju,jv];rfl
 |k+1,[],h,hk=>absurd hk fI
 |k+1,b::l,h,hk=>by
  rw[goN,ady key k l _ (by simpa using hk)];rfl
theorem aE5{key c:Nat}{cell:List UInt8}(hk:jZ (key:Int)=true)(hc:c≤1000)(hl:cell.length=24):SR (key:Int) (c:Int) cell=azY key c (jY cell):=by
 unfold azY;rw[ady _ _ _ _ (by rw[AE];omega),ae6 hk (by rw[dK];omega) hl];have h1:ql (key:Int) (c:Int) (cell.take 20)=((wG (kU ((jY cell).take 20) (kU [71,c] (wG 11 key))) key:Nat):Int):=by
  rw[awS];unfold jY;rw[List.map_take]
 have h2:aim cell=((aoU ((jY cell).drop 20):Nat):Int):=by
  have:=amA hl;have e:(jY cell).drop 20=jY (cell.drop 20):=by unfold jY;rw[List.map_drop]
  rw[e,this];show aim cell=(((cell.getD 20 (aO .u8)).toNat+(256*(cell.getD 21 (aO .u8)).toNat+(65536*(cell.getD 22 (aO .u8)).toNat+16777216*(cell.getD 23 (aO .u8)).toNat)):Nat):Int)
  unfold aim;omega
 rw[h1,h2];by_cases e:aoU ((jY cell).drop 20)=wG (kU ((jY cell).take 20) (kU [71,c] (wG 11 key))) key
 ·rw[e,Nat.beq_refl,decide_eq_true rfl]
 ·rw[show bH _ _=false from mY.2 fun q=>e (aG q),decide_eq_false aJ]
end
end
end
section
variable{l:List Nat}{key c seed:Nat}{β:Type}
section
variable [HF]
theorem Rp(h v:Nat):wG h v=(h*1000003+v % 2147483647+13)% 2147483647:=by
 have q:((h:Int)*1000003+(v:Int)% 2147483647+13)% 2147483647=((wG h v:Nat):Int):=agv h v;omega
theorem awV(h:Nat):sqN h=(h*h+5)% 2147483647:=by
 have q:=aEZ h;have e:((h:Int)*h+5)% 2147483647=(((h*h+5)% 2147483647:Nat):Int):=by rw[wk,Rq,Rr];rfl
 rw[e]at q;omega
end
def c5(l:List Nat):C5:=⟨iz 44 (l.take 5),iz 44 ((l.drop 5).take 5),iz 44 ((l.drop 10).take 5),iz 44 ((l.drop 15).take 5),iz 8 (l.drop 20)⟩
def byB(l:List Nat):Prop:= ∀b,b∈l→b<256
theorem ES: ∀(n:Nat) (a b:List Nat),(xoN a b).take n=xoN (a.take n) (b.take n)
 |0,_,_=>by simp only[jv,xoN]
 |n+1,[],b=>by simp only[List.take_nil,xoN]
 |n+1,x::a,[]=>rfl
 |n+1,x::a,y::b=>by
  show tB x y::(xoN a b).take n=_
  rw[ES n a b];rfl
theorem ET: ∀(n:Nat) {a b:List Nat},a.length=b.length→(xoN a b).drop n=xoN (a.drop n) (b.drop n)
 |0,_,_,_=>rfl
 |n+1,[],[],_=>rfl
 |n+1,[],_::_,h=>by cases h
 |n+1,_::_,[],h=>by cases h
 |n+1,x::a,y::b,h=>ET n (a:=a) (b:=b) Fy
theorem awW{B:Nat}: ∀{a b:List Nat},a.length=b.length→sma B a→sma B b→iz B (xoN a b)=iz B a^^^iz B b
 | [],[],_,_,_=>by show 0=0^^^0;rw[MV]
 | [],_::_,h,_,_=>by cases h
 |_::_,[],h,_,_=>by cases h
 |x::a,y::b,h,ha,hb=>by
  show iz B ((x^^^y)::xoN a b)=_
  rw[iz,iz,iz,awW Fy ha.hd.2 hb.hd.2,agh ha.hd.1 hb.hd.1]
theorem az2{a b:List Nat}(hl:a.length=b.length)(ha:byB a)(hb:byB b):c5 (xoN a b)=x5 (c5 a) (c5 b):=by
 have hs: ∀(B:Nat) (f:List Nat→List Nat),8≤B→(∀l b,b∈f l→b∈l)→(∀l m:List Nat,l.length=m.length→(f l).length=(f m).length)→iz B (xoN (f a) (f b))=iz B (f a)^^^iz B (f b):=by
  intro B f hB hf hm;have h2:256≤2^B:=cB (by decide:256≤2^8) (mP cO hB);exact awW (hm a b hl) (fun x hx=>cz (ha x (hf _ x hx)) h2) fun x hx=>cz (hb x (hf _ x hx)) h2
 have hd: ∀(n m:Nat), ∀(l:List Nat) b,b∈(Af n l).take m→b∈l:=fun n m l b h=>gf (qw h);have hle: ∀(n m:Nat), ∀l k:List Nat,l.length=k.length→((Af n l).take m).length=((Af n k).take m).length:=fun n m l k h=>by simp[h]
 have e0: ∀l:List Nat,l.take 5=(l.drop 0).take 5:=fun l=>rfl;unfold c5;show C5.mk _ _ _ _ _=C5.mk (iz 44 (a.take 5)^^^iz 44 (b.take 5)) (iz 44 ((a.drop 5).take 5)^^^iz 44 ((b.drop 5).take 5)) (iz 44 ((a.drop 10).take 5)^^^iz 44 ((b.drop 10).take 5)) (iz 44 ((a.drop 15).take 5)^^^iz 44 ((b.drop 15).take 5)) (iz 8 (a.drop 20)^^^iz 8 (b.drop 20))
 rw[ET 5 hl,ET 10 hl,ET 15 hl,ET 20 hl,ES,ES,ES,ES];rw[hs 44 (ON 5) cO (fun l b h=>qw h) (fun l m h=>by simp[h]),hs 44 (fun l=>(l.drop 5).take 5) cO (hd 5 5) (hle 5 5),hs 44 (fun l=>(l.drop 10).take 5) cO (hd 10 5) (hle 10 5),hs 44 (fun l=>(l.drop 15).take 5) cO (hd 15 5) (hle 15 5),hs 8 (Af 20) cO (fun l b h=>gf h) (fun l m h=>by simp[h])]
theorem awX{B:Nat}: ∀(n:Nat) {l:List Nat},l.length≤n→sma B l→iz B l<2^(B*n)
 |n,[],_,_=>mX _
 |0,_::_,h,_=>by simp at h
 |n+1,x::l,h,hs=>by
  have ih:=awX n (l:=l) Fy hs.hd.2;have hx:=hs.hd.1;rw[iz,jX B,lF,BN,kg (2^(B*n))];have:2^B*(iz B l+1)≤2^B*2^(B*n):=nI _ ih;rw[jX,lF]at this;omega
theorem az3(hl:l.length≤5)(hb:byB l):iz 44 l<2^184:=by
 have key: ∀(n:Nat) (l:List Nat),l.length≤n+1→byB l→iz 44 l<2^(44*n+8):=by
  intro n;induction n with
  |zero=>
   intro l h hb;match l,h with
   | [],_=>decide
   | [x],_=>show 2^44*0+x<256;have:=hb x (bA ..);omega
  |succ n ih=>
   intro l h hb;cases l with
   |nil=>exact mX _
   |cons x l=>
    have:=ih l Fy fun b hq=>hb b (aE _ hq);have hx:=hb x (bA ..);rw[iz,show 44*(n+1)+8=44+(44*n+8)by omega,BN];have h2:2^44*(iz 44 l+1)≤2^44*2^(44*n+8):=nI _ aJ;rw[jX,lF]at h2;have:(256:Nat)≤2^44:=by decide
    omega
 exact key 4 l hl hb
theorem awY(hl:l.length=24)(hb:byB l):WO (c5 l):=by
 have h1: ∀n,iz 44 ((l.drop n).take 5)<2^184:=fun n=>az3 (List.length_take_le ..) fun b h=>hb b (gf (qw h));exact⟨⟨h1 0,h1 5,h1 10,h1 15⟩,awX (B:=8) 4 (by simp[hl]) fun x hx=>hb x (gf hx)⟩
section
variable [HF]
def lin:List Nat→Nat→Nat
 | [],h=>h
 |v::l,h=>lin l (h*1000003+v+13)
def pol:List Nat→Nat
 | []=>0
 |v::l=>v*1000003^l.length+pol l
theorem aaM: ∀(l:List Nat) (h g:Nat),h % 2147483647=g % 2147483647→kU l h % 2147483647=lin l g % 2147483647
 | [],_,_,e=>e
 |v::l,h,g,e=>by
  rw[kU,lin];refine aaM l _ _ ?_;rw[Rp];omega
omit [HF]in theorem Kf: ∀(l:List Nat) (h:Nat),lin l h=lin (ew l.length 0) h+pol l∧ ∀g,lin l (h+g)=lin l h+g*1000003^l.length
 | [],h=>⟨rfl,fun g=>by rw[lin,lin,dh,aaz,lF]⟩
 |v::l,h=>by
  have hs: ∀(x:Nat) (h g:Nat),lin l ((h+g)*1000003+x+13)=lin l (h*1000003+x+13)+g*1000003^(l.length+1):=by
   intro x h g;rw[show(h+g)*1000003+x+13=(h*1000003+x+13)+g*1000003 by rw[cM];omega,(Kf l _).2,tv,Nat.pow_succ',kg 1000003]
  refine⟨?_,fun g=>by rw[lin,lin,hs];rfl⟩;rw[lin,pol,bp,lP,lin];have h1:=(Kf l (h*1000003+0+13)).1;have h2:=(Kf l (h*1000003+0+13)).2 v;rw[show h*1000003+v+13=h*1000003+0+13+v by omega,h2,h1];omega
end
section
variable [HF]
theorem agx: ∀(d:List Nat) (k:Nat),pol (d++ [k])=pol d*1000003+k
 | [],k=>by show k*1000003^0+0=0*1000003+k;omega
 |v::d,k=>by
  rw[fE,pol,pol,agx d k,aQ,cM,tv];show v*1000003^(d.length+1)+_=_
  rw[Ep];omega
def sR:List Nat→Nat
 | []=>0
 |v::l=>v*(1000003^(l.length+1)% 2147483647)+sR l
theorem ao0: ∀l:List Nat,sR l % 2147483647=(pol l*1000003)% 2147483647
 | []=>rfl
 |v::l=>by
  rw[sR,pol,cM,tv, ←Ep,HH,ao0 l,yt,adz, ←yt, ←HH]
def ao1:List Nat:= [0,0,0,0,0,0,0,0,0,0,0,0,0,0,0,0,0,0,0,0]
def A5(key:Nat):Nat:=wG (kU ao1 (kU [71,0] (wG 11 key))) key
def Kk5(key:Nat):Nat:=nN (jF (WT 2147483647 (A5 key)) 143570042) 2147483647
theorem aaN: ∀n,pol (ew n 0)=0
 |0=>rfl
 |n+1=>by rw[lP,pol,aaN n,oO]
theorem adA(h v:Nat):wG h v<2147483647:=by rw[Rp];exact iN _ cO
theorem aus(c x y:Nat)(h:x % 2147483647=y):(c*x)% 2147483647=(c*y)% 2147483647:=by
 rw[yt,h,yt c y, ←h,adz]
theorem comb{H A X Y Z S m:Nat}(h1:H=(X+(Z+key)+Y)% 2147483647)(h3:A % 2147483647=(X+(0+key)+0)% 2147483647)(h4:S % 2147483647=Z % 2147483647)(h6:Y % 2147483647=m % 2147483647):H=(A+S+m)% 2147483647:=by omega
theorem ao2{d:List Nat}(hd:d.length=20)(hc:c≤16):wG (kU d (kU [71,c] (wG 11 key))) key % 2147483647=(A5 key+sR d+c*880634293)% 2147483647:=by
 have h1: ∀(e:List Nat) (c:Nat),e.length=20→c≤16→wG (kU e (kU [71,c] (wG 11 key))) key % 2147483647=(lin (ew 21 0) (wG (wG 11 key) 71*1000003+0+13)+(pol e*1000003+key)+c*1000003^21)% 2147483647:=by
  intro e c he hc;have q:wG (kU e (kU [71,c] (wG 11 key))) key=kU (e++ [key]) (wG (wG (wG 11 key) 71) c):=by rw[Mc];rfl
  rw[q,aaM _ _ (wG (wG 11 key) 71*1000003+0+13+c) (by rw[Rp _ c];omega),(Kf _ _).2,(Kf _ _).1,agx,aQ,he];rfl
 have h2:=h1 ao1 0 rfl (aY _);rw[show pol ao1=0 from aaN 20,oO 1000003]at h2;exact comb (h1 d c hd hc) h2 (ao0 d) (aus c _ _ cO)
end
theorem aut(hl:l.length=24)(hb:byB l):EN (c5 l)=sR (l.take 20):=by
 match l,hl with
 | [b0,b1,b2,b3,b4,b5,b6,b7,b8,b9,b10,b11,b12,b13,b14,b15,b16,b17,b18,b19,t0,t1,t2,t3],_=>
   have eA:wgA=iz 44 [777862745,1404488248,1649104745,1165208113,2014147668]:=by decide
   have eB:wgB=iz 44 [66148026,1433149184,206851044,1744706798,1828017126]:=by decide
   have eC:wgC=iz 44 [2061642598,57298384,1544709545,1274554124,633364108]:=by decide
   have eD:wgD=iz 44 [1000003,1426104154,1049561761,1604566856,1953433226]:=by decide
   have e:(c5 [b0,b1,b2,b3,b4,b5,b6,b7,b8,b9,b10,b11,b12,b13,b14,b15,b16,b17,b18,b19,t0,t1,t2,t3]).a*wgA+(c5 [b0,b1,b2,b3,b4,b5,b6,b7,b8,b9,b10,b11,b12,b13,b14,b15,b16,b17,b18,b19,t0,t1,t2,t3]).b*wgB+((c5 [b0,b1,b2,b3,b4,b5,b6,b7,b8,b9,b10,b11,b12,b13,b14,b15,b16,b17,b18,b19,t0,t1,t2,t3]).c*wgC+(c5 [b0,b1,b2,b3,b4,b5,b6,b7,b8,b9,b10,b11,b12,b13,b14,b15,b16,b17,b18,b19,t0,t1,t2,t3]).d*wgD)=iz 44 (EM (EM (conv [b0,b1,b2,b3,b4] [777862745,1404488248,1649104745,1165208113,2014147668]) (conv [b5,b6,b7,b8,b9] [66148026,1433149184,206851044,1744706798,1828017126])) (EM (conv [b10,b11,b12,b13,b14] [2061642598,57298384,1544709545,1274554124,633364108]) (conv [b15,b16,b17,b18,b19] [1000003,1426104154,1049561761,1604566856,1953433226]))):=by
    rw[eA,eB,eC,eD,J4,J4,J4,J5,J5,J5,J5];rfl
   have hx: ∀x y z u v:Nat,x<256→y<256→z<256→u<256→v<256→ ∀b,b∈ [x,y,z,u,v]→b≤255:=by
    intro x y z u v _ _ _ _ _ b hq;simp only[bh,nX,or_false]at hq;omega
   have hB: ∀b,b∈ [b0,b1,b2,b3,b4,b5,b6,b7,b8,b9,b10,b11,b12,b13,b14,b15,b16,b17,b18,b19,t0,t1,t2,t3]→b<256:=hb;simp only[bh,nX,or_false,forall_eq_or_imp,forall_eq]at hB;obtain⟨q0,q1,q2,q3,q4,q5,q6,q7,q8,q9,q10,q11,q12,q13,q14,q15,q16,q17,q18,q19,_⟩:=hB;have hw: ∀l,l∈ [[777862745,1404488248,1649104745,1165208113,2014147668],[66148026,1433149184,206851044,1744706798,1828017126],[2061642598,57298384,1544709545,1274554124,633364108],[1000003,1426104154,1049561761,1604566856,1953433226]]→ ∀y,y∈l→y≤2147483646:=by decide
   have hs:sma 44 (EM (EM (conv [b0,b1,b2,b3,b4] [777862745,1404488248,1649104745,1165208113,2014147668]) (conv [b5,b6,b7,b8,b9] [66148026,1433149184,206851044,1744706798,1828017126])) (EM (conv [b10,b11,b12,b13,b14] [2061642598,57298384,1544709545,1274554124,633364108]) (conv [b15,b16,b17,b18,b19] [1000003,1426104154,1049561761,1604566856,1953433226]))):=by
    intro z hz;have hc: ∀l w,(∀b,b∈l→b≤255)→l.length=5→w∈ [[777862745,1404488248,1649104745,1165208113,2014147668],[66148026,1433149184,206851044,1744706798,1828017126],[2061642598,57298384,1544709545,1274554124,633364108],[1000003,1426104154,1049561761,1604566856,1953433226]]→ ∀z,z∈conv l w→z≤2738041648650:=by
     intro l w h1 h2 h3 z hz;have:=agj (hw w h3) h1 z hz;rw[h2]at this;exact this
    have:=J6 (J6 (hc [b0,b1,b2,b3,b4] [777862745,1404488248,1649104745,1165208113,2014147668] (hx _ _ _ _ _ q0 q1 q2 q3 q4) rfl fI) (hc [b5,b6,b7,b8,b9] [66148026,1433149184,206851044,1744706798,1828017126] (hx _ _ _ _ _ q5 q6 q7 q8 q9) rfl fI)) (J6 (hc [b10,b11,b12,b13,b14] [2061642598,57298384,1544709545,1274554124,633364108] (hx _ _ _ _ _ q10 q11 q12 q13 q14) rfl fI) (hc [b15,b16,b17,b18,b19] [1000003,1426104154,1049561761,1604566856,1953433226] (hx _ _ _ _ _ q15 q16 q17 q18 q19) rfl fI)) z hz;exact Nat.lt_of_le_of_lt this cO
   unfold EN;rw[e,show(176:Nat)=44*4 from rfl,aoz 4 hs];simp only[conv,EM,cg,rL,HI,HJ,jd,jv,sR,bp,dh];have hp: ∀n,n≤20→1000003^n % 2147483647= [1,1000003,1426104154,1049561761,1604566856,1953433226,2061642598,57298384,1544709545,1274554124,633364108,66148026,1433149184,206851044,1744706798,1828017126,777862745,1404488248,1649104745,1165208113,2014147668].getD n 0:=by decide
   rw[hp 20 cO,hp 19 cO,hp 18 cO,hp 17 cO,hp 16 cO,hp 15 cO,hp 14 cO,hp 13 cO,hp 12 cO,hp 11 cO,hp 10 cO,hp 9 cO,hp 8 cO,hp 7 cO,hp 6 cO,hp 5 cO,hp 4 cO,hp 3 cO,hp 2 cO,hp 1 cO];simp only[HI,HJ];omega
section
variable [HF]
theorem auF{t A S:Nat}(hA:A<2147483647)(hc:c≤16)(h:t=(A+S+c*880634293)% 2147483647):(t*143570042+(S*2003913605+((2147483647-A)*143570042)% 2147483647))% 2147483647=c:=by
 omega
theorem ao3(hl:l.length=24)(hb:byB l)(hc:c≤16)(h:aoU (l.drop 20)=wG (kU (l.take 20) (kU [71,c] (wG 11 key))) key):CT (Kk5 key) (c5 l)=c:=by
 unfold CT;rw[aut hl hb];refine auF (adA _ _) hc ?_;rw[←ao2 (by simp[hl]) hc,gK (adA _ _), ←h];match l,hl with
 | [b0,b1,b2,b3,b4,b5,b6,b7,b8,b9,b10,b11,b12,b13,b14,b15,b16,b17,b18,b19,t0,t1,t2,t3],_=>
   show 2^8*(2^8*(2^8*(2^8*0+t3)+t2)+t1)+t0=t0+(256*t1+(65536*t2+16777216*t3))
   omega
end
def f5(f:C5→β)(x:C5):β:=fo5 x f
def fN(f:Nat→β)(x:Nat):β:=fo x f
def fVv(f:VV→β)(x:VV):β:=foV x f
def frc{α β:Type}(g:(α→β)→α→β):List α→(List α→β)→β
 | [],k=>k []
 |x::l,k=>g (fun y=>frc g l fun l=>k (y::l)) x
theorem HK{α β:Type}{g:(α→β)→α→β}(hg: ∀f x,g f x=f x): ∀(l:List α) (k:List α→β),frc g l k=k l
 | [],_=>rfl
 |x::l,k=>by rw[frc,hg,HK hg l]
theorem aHw(l:List C5)(k:List C5→β):frc f5 l k=k l:=HK (fun f x=>Rh x f) l k
theorem az4(l:List Nat)(k:List Nat→β):frc fN l k=k l:=HK (fun f x=>nV x f) l k
theorem aHx(l:List VV)(k:List VV→β):frc fVv l k=k l:=HK (fun f x=>adp x f) l k
def auG(f:Nat→Bool):Nat→Bool
 |0=>true
 |k+1=>and (f k) (auG f k)
theorem aaO{f:Nat→Bool}: ∀{n:Nat},auG f n=true→ ∀i,i<n→f i=true
 |0,_,i,hi=>absurd hi (jE i)
 |n+1,h,i,hi=>by
  rw[auG,an]at h;by_cases e:i=n
  ·rw[e];exact h.1
  ·exact aaO h.2 i aJ
section
variable [HF]
def aHy(u:Nat):Nat:=nN (zi (sqN u) 256) 256
def pI5(B:Nat):Nat→Nat→Nat
 |0,_=>0
 |n+1,u=>fX (jF B (pI5 B n (fX u 1000003))) (aHy u)
def cvU(u:Nat):C5:=⟨pI5 17592186044416 5 u,pI5 17592186044416 5 (fX u 5000015),pI5 17592186044416 5 (fX u 10000030),pI5 17592186044416 5 (fX u 15000045),pI5 256 4 (fX u 20000060)⟩
def cv5(s q:Nat):C5:=fo (vH (vH (vH s [q]) [73]) [47,100]) cvU
theorem az5{x y:Nat}(h:x % 2147483647=y % 2147483647):sqN x=sqN y:=by
 rw[awV,awV,HH,yt,h, ←yt, ←HH]
theorem aHz(s k:Nat):vH s [47,100+k]% 2147483647=(vH s [47,100]+k*1000003)% 2147483647:=by
 show wG (wG (wG (wG 11 s) 47) (100+k)) s % 2147483647=(wG (wG (wG (wG 11 s) 47) 100) s+k*1000003)% 2147483647
 generalize wG (wG 11 s) 47=h;rw[Rp _ s,Rp _ (100+k),Rp _ s,Rp _ 100];omega
theorem ao4(B s:Nat): ∀(n i u:Nat),u % 2147483647=(vH s [47,100]+i*1000003)% 2147483647→pI5 (2^B) n u=iz B (nY s n i)
 |0,_,_,_=>rfl
 |n+1,i,u,h=>by
  have e:sqN u=csN s (100+i):=by
   unfold csN;exact az5 (by rw[h,aHz])
  show 2^B*pI5 (2^B) n (u+1000003)+(sqN u/256)% 256=2^B*iz B (nY s n (i+1))+csN s (100+i)/256 % 256
  rw[ao4 B s n (i+1) (u+1000003) aJ,e]
theorem Rs(s:Nat): ∀(k n i:Nat),(nY s (k+n) i).take k=nY s k i
 |0,_,_=>by rw[jv];rfl
 |k+1,n,i=>by
  rw[show k+1+n=(k+n)+1 by omega,nY,jd,Rs s k n];rfl
theorem Rt(s:Nat): ∀(k n i:Nat),(nY s (k+n) i).drop k=nY s n (i+k)
 |0,n,i=>by rw[ju,dB];rfl
 |k+1,n,i=>by
  rw[show k+1+n=(k+n)+1 by omega,nY,lE,Rt s k n];show nY s n (i+1+k)=_
  rw[show i+1+k=i+(k+1)by omega]
theorem ao5(s q:Nat):cv5 s q=c5 (aum (vH s [q])):=by
 unfold cv5 aum;rw[nV];generalize vH (vH s [q]) [73]=z;have h1: ∀(k n:Nat),((nY z (k+(5+n)) 0).drop k).take 5=nY z 5 k:=fun k n=>by rw[Rt,Rs,dB]
 have e0:(nY z 24 0).take 5=nY z 5 0:=Rs z 5 19 0;have e1:((nY z 24 0).drop 5).take 5=nY z 5 5:=h1 5 14;have e2:((nY z 24 0).drop 10).take 5=nY z 5 10:=h1 10 9;have e3:((nY z 24 0).drop 15).take 5=nY z 5 15:=h1 15 4;have e4:(nY z 24 0).drop 20=nY z 4 20:=by have:=Rt z 20 4 0;rwa [dB]at this
 have p:=fun(B n i u:Nat) (h:u=vH z [47,100]+i*1000003)=>ao4 B z n i u (by rw[h]);unfold c5 cvU;rw[e0,e1,e2,e3,e4, ←p 44 5 0 _ (ia _).symm, ←p 44 5 5 _ rfl, ←p 44 5 10 _ rfl, ←p 44 5 15 _ rfl, ←p 8 4 20 _ rfl]
def Md:Nat→List Nat
 |0=> [97]
 |1=> [98,99]
 |_=> [104,101,108,108,111]
def ajb(s:Nat):Nat→Nat→List Nat
 |0,_=> []
 |k+1,i=>nN (vH s [i]) 256::ajb s k (J7 i)
def ao6:List Nat→List Nat→List Nat
 |x::l,y::m=>nN (fX x y) 256::ao6 l m
 |_,_=> []
def e5(key h:Nat)(l:List Nat):C5:=⟨iz 44 (l.take 5),iz 44 ((l.drop 5).take 5),iz 44 ((l.drop 10).take 5),iz 44 ((l.drop 15).take 5),wG (kU l h) key⟩
def m5(key h:Nat)(st pd:List Nat)(t:Nat):C5:=frc fN (ao6 ((1::(Md t).length::Md t)++st.drop (Md t).length) pd) (e5 key h)
def ms5(key s:Nat):List C5:=frc fN (nY (vH key [61,s]) 18 0) fun st=>frc fN (ajb (SK (vH key [67,s])) 20 0) fun pd=>fo (kU [71,s] (wG 11 key)) fun h=> [m5 key h st pd 0,m5 key h st pd 1,m5 key h st pd 2]
def enS(key s:Nat)(m:List Nat):List Nat:=Mb (SK (vH key [67,s])) ((1::m.length::m)++(nY (vH key [61,s]) 18 0).drop m.length) 0
def seS(key s:Nat)(m:List Nat):List Nat:=enS key s m++aaH (wG (kU (enS key s m) (kU [71,s] (wG 11 key))) key)
theorem agA(s:Nat): ∀(l:List Nat) (i:Nat),ao6 l (ajb s l.length i)=Mb s l i
 | [],_=>rfl
 |x::l,i=>by
  show nN (fX x _) 256::ao6 l (ajb s l.length (i+1))=_
  rw[agA s l (i+1)];rfl
theorem OB(s:Nat): ∀n i,(nY s n i).length=n
 |0,_=>rfl
 |n+1,i=>by rw[nY,bp,OB s n]
theorem agB(s:Nat): ∀(l:List Nat) (i:Nat),(Mb s l i).length=l.length
 | [],_=>rfl
 |b::l,i=>by rw[Mb,bp,agB s l,bp]
theorem agC{s:Nat}{m:List Nat}(hm:m.length≤14):(enS key s m).length=20:=by
 unfold enS;rw[agB];simp only[aQ,bp,cV,OB];omega
theorem auH{H:Nat}(h:H<2147483647):iz 8 (aaH H)=H:=by
 show 2^8*(2^8*(2^8*(2^8*0+H/16777216 % 256)+H/65536 % 256)+H/256 % 256)+H % 256=H
 omega
theorem ao7(key s t:Nat):m5 key (kU [71,s] (wG 11 key)) (nY (vH key [61,s]) 18 0) (ajb (SK (vH key [67,s])) 20 0) t=c5 (seS key s (Md t)):=by
 have hm:(Md t).length≤14:=by
  unfold Md;split<;>decide
 have e:ao6 ((1::(Md t).length::Md t)++(nY (vH key [61,s]) 18 0).drop (Md t).length) (ajb (SK (vH key [67,s])) 20 0)=enS key s (Md t):=by
  have hl:((1::(Md t).length::Md t)++(nY (vH key [61,s]) 18 0).drop (Md t).length).length=20:=by
   simp only[aQ,bp,cV,OB];omega
  have:=agA (SK (vH key [67,s])) ((1::(Md t).length::Md t)++(nY (vH key [61,s]) 18 0).drop (Md t).length) 0;rw[hl]at this;exact this
 have hl:=agC (key:=key) (s:=s) hm;unfold m5;rw[az4,e];unfold e5 c5 seS;generalize enS key s (Md t)=E at hl ⊢;have hd: ∀(n:Nat) (F:List Nat),n≤15→((E++F).drop n).take 5=(E.drop n).take 5:=fun n F hn=>by
  rw[List.drop_append_of_le_length aJ,iV ag4]
 rw[iV aJ,hd 5 _ cO,hd 10 _ cO,hd 15 _ cO,List.drop_left' hl,auH (adA _ _)]
theorem ms_eq(key s:Nat):ms5 key s= [c5 (seS key s (Md 0)),c5 (seS key s (Md 1)),c5 (seS key s (Md 2))]:=by
 unfold ms5;rw[az4,az4,nV,ao7,ao7,ao7]
def pl5(key:Nat):List (List C5):=(up5 9).map (ms5 key)
def mhN(key r dir:Nat):Nat:=csN (vH key [79,r,dir]) 0
def chN(s r:Nat):Nat:=csN (vH s [157,r]) 0
def goB(k b:Nat)(tab:List (List VV))(ML:List (List (List C5)))(m0 m1 m2 m3 h0 h1 h2 h3:Nat)(c0 c1 c2 c3:C5)(hf:Nat):Bool:=
 fo (mD 720720 (NO m3 hf)) fun m3=>fo (mD 720720 (NO h3 hf)) fun h3=>fo (mD 720720 (NO m2 hf)) fun m2=>fo (mD 720720 (NO h2 hf)) fun h2=>fo (mD 720720 (NO m1 hf)) fun m1=>fo (mD 720720 (NO h1 hf)) fun h1=>fo (mD 720720 (NO m0 hf)) fun m0=>fo (mD 720720 (NO h0 hf)) fun h0=>
 aaC (fun M x=>SI tab ML k M b x) [⟨3,m3,h3,c3⟩,⟨2,m2,h2,c2⟩,⟨1,m1,h1,c1⟩,⟨0,m0,h0,c0⟩] 720720 vG false []
def aFa(tab:List (List VV))(ML:List (List (List C5)))(k0 k1 k2 k3 a0 a1 a2 a3 s0 s1 s2 s3 q:Nat):Bool:=
 fo (mhN a0 q 0) fun m0=>fo (mhN a1 q 1) fun m1=>fo (mhN a2 q 0) fun m2=>fo (mhN a3 q 1) fun m3=>
 fo (chN s0 q) fun h0=>fo (chN s1 q) fun h1=>fo (chN s2 q) fun h2=>fo (chN s3 q) fun h3=>
 fo5 (cv5 s0 q) fun c0=>fo5 (cv5 s1 q) fun c1=>fo5 (cv5 s2 q) fun c2=>fo5 (cv5 s3 q) fun c3=>
 fo (WT 10 (zi q 60)) fun b=>
 and (goB k0 b tab ML m0 m1 m2 m3 h0 h1 h2 h3 c0 c1 c2 c3 m0) (and (goB k1 b tab ML m0 m1 m2 m3 h0 h1 h2 h3 c0 c1 c2 c3 m1) (and (goB k2 b tab ML m0 m1 m2 m3 h0 h1 h2 h3 c0 c1 c2 c3 m2) (goB k3 b tab ML m0 m1 m2 m3 h0 h1 h2 h3 c0 c1 c2 c3 m3)))
def chS(Q seed:Nat):Bool:=
 fo (kN seed 0) fun a0=>fo (kN seed 1) fun a1=>fo (kN seed 2) fun a2=>fo (kN seed 3) fun a3=>fo (sN seed 0) fun s0=>fo (sN seed 1) fun s1=>fo (sN seed 2) fun s2=>fo (sN seed 3) fun s3=>
 fo (dkN a0 0) fun d0=>fo (dkN a1 1) fun d1=>fo (dkN a2 0) fun d2=>fo (dkN a3 1) fun d3=>
 fo (Kk5 d0) fun k0=>fo (Kk5 d1) fun k1=>fo (Kk5 d2) fun k2=>fo (Kk5 d3) fun k3=>
 frc (fun f x=>frc (fun f x=>frc f5 x f) x f) [pl5 d0,pl5 d1,pl5 d2,pl5 d3] fun ML=>frc (fun f x=>frc fVv x f) (Rj ML) fun tab=>
 and (and (Rk tab ML k0 0 [0,1,2,3]) (and (Rk tab ML k1 1 [0,1,2,3]) (and (Rk tab ML k2 2 [0,1,2,3]) (Rk tab ML k3 3 [0,1,2,3]))))
  (auG (fun q=>aFa tab ML k0 k1 k2 k3 a0 a1 a2 a3 s0 s1 s2 s3 q) Q)
def dq5(seed i:Nat):Nat:=dkN (kN seed i) (ai7 i)
def kf5(seed i:Nat):Nat:=Kk5 (dq5 seed i)
def mhf(seed q i:Nat):Nat:=mhN (kN seed i) q (ai7 i)
def chf(seed q i:Nat):Nat:=chN (sN seed i) q
def cvf(seed q i:Nat):C5:=cv5 (sN seed i) q
def MLf(seed:Nat):List (List (List C5)):= [pl5 (dq5 seed 0),pl5 (dq5 seed 1),pl5 (dq5 seed 2),pl5 (dq5 seed 3)]
theorem ao9(s:Nat): ∀n i,byB (nY s n i)
 |0,_=>fun b hb=>nomatch hb
 |n+1,i=>fun b hb=>by
  rw[nY]at hb;rcases bh.1 hb with rfl|hb
  ·exact iN _ cO
  ·exact ao9 s n (i+1) b hb
theorem apa(s:Nat): ∀(l:List Nat) (i:Nat),byB (Mb s l i)
 | [],_=>fun b hb=>nomatch hb
 |x::l,i=>fun b hb=>by
  rw[Mb]at hb;rcases bh.1 hb with rfl|hb
  ·exact iN _ cO
  ·exact apa s l (i+1) b hb
theorem aFb(s q:Nat):WO (cv5 s q):=by rw[ao5];exact awY (OB _ 24 0) (ao9 _ 24 0)
theorem aw2(key s:Nat){m:List Nat}(hm:m.length≤14):(seS key s m).length=24∧byB (seS key s m):=by
 unfold seS;refine⟨by rw[aQ,agC hm];rfl,fun b hb=> ?_⟩;rcases bg.1 hb with hb|hb
 ·exact apa _ _ _ b hb
 ·unfold aaH at hb;simp only[bh,nX,or_false]at hb;rcases hb with rfl|rfl|rfl|rfl<;>exact iN _ cO
theorem aw3(t:Nat):(Md t).length≤14:=by unfold Md;split<;>decide
theorem aw4(seed:Nat):SH (MLf seed):=by
 intro L hL c hc x hx;have: ∃d,L=pl5 d:=by
  unfold MLf at hL;simp only[bh,nX,or_false]at hL;rcases hL with e|e|e|e<;>exact⟨_,e⟩
 obtain⟨d,rfl⟩:=this;obtain⟨s,_,rfl⟩:=bQ.1 hc;rw[ms_eq]at hx;simp only[bh,nX,or_false]at hx;have h:=fun t=>awY (aw2 d s (aw3 t)).1 (aw2 d s (aw3 t)).2;rcases hx with rfl|rfl|rfl
 ·exact h 0
 ·exact h 1
 ·exact h 2
theorem aFc{i s:Nat}(hi:i<4)(hs:s<10):tK [] (tK [] (MLf seed) i) s=ms5 (dq5 seed i) s:=by
 have e: ∀d,tK [] (pl5 d) s=ms5 d s:=fun d=>by
  unfold pl5;rw[OA _ 0 _ _ _ (by show s<10;omega)];have: ∀s,s<10→tK 0 (up5 9) s=s:=by decide
  rw[this s hs]
 have:i=0∨i=1∨i=2∨i=3:=by omega
 rcases this with rfl|rfl|rfl|rfl<;>exact e _
theorem auJ{Q:Nat}(h:chS Q seed=true):(∀f,f<4→Rk (Rj (MLf seed)) (MLf seed) (kf5 seed f) f [0,1,2,3]=true)∧ ∀q,q<Q→ ∀f,f<4→aaC (fun M x=>SI (Rj (MLf seed)) (MLf seed) (kf5 seed f) M (10-q/60) x) [NP (mhf seed q) (chf seed q) (cvf seed q) (mhf seed q f) 3,NP (mhf seed q) (chf seed q) (cvf seed q) (mhf seed q f) 2,NP (mhf seed q) (chf seed q) (cvf seed q) (mhf seed q f) 1,NP (mhf seed q) (chf seed q) (cvf seed q) (mhf seed q f) 0] 720720 vG false []=true:=by
 unfold chS at h;simp only[nV]at h;rw[HK (fun f x=>HK (fun f x=>aHw x f) x f),HK (fun f x=>aHx x f)]at h;rw[an,an,an,an]at h;obtain⟨⟨g0,g1,g2,g3⟩,hq⟩:=h;have four: ∀(P:Nat→Prop),P 0→P 1→P 2→P 3→ ∀f,f<4→P f:=by
  intro P p0 p1 p2 p3 f hf;have:f=0∨f=1∨f=2∨f=3:=by omega
  rcases this with rfl|rfl|rfl|rfl
  ·exact p0
  ·exact p1
  ·exact p2
  ·exact p3
 refine⟨four _ g0 g1 g2 g3,fun q Yf=> ?_⟩;have h2:=aaO hq q Yf;unfold aFa goB at h2;simp only[nV,Rh]at h2;rw[an,an,an]at h2;obtain⟨q0,q1,q2,q3⟩:=h2;exact four _ q0 q1 q2 q3
theorem aw5(d:Nat):Kk5 d<2147483647:=iN _ cO
theorem aaP{κ:Nat→Bool}{w:Nat→Option (Nat×C5)}{cv:Nat→C5}: ∀n,(∀i,i<n→κ i=false)→Uj κ w cv n=Uj (fun _=>false) w cv n∧ck5 κ w n=ck5 (fun _=>false) w n
 |0,_=>⟨rfl,rfl⟩
 |n+1,h=>by
  obtain⟨i1,i2⟩:=aaP (w:=w) (cv:=cv) n fun i hi=>h i aJ;rw[Uj,Uj,ck5,ck5,h n aJ,i1,i2];exact⟨rfl,rfl⟩
theorem adE{Q f q r:Nat}(h:chS Q seed=true)(hf:f<4)(hq:q<Q)(hr:8≤r)(hr2:r ∣ 720720){κ:Nat→Bool}{w:Nat→Option (Nat×C5)}(hw:ai0 (MLf seed) w)(hc:ck5 κ w 4≤10-q/60)(h1: ∀i,i<4→κ i=true→chf seed q i % r=mhf seed q f % r)(h2: ∀i,i<4→κ i=false→w i≠none→mhf seed q i % r=mhf seed q f % r)(h3:(∃i,i<4∧κ i=true)∨w f=none∨ ∃j,j<4∧j≠f∧w j≠none):17≤CT (kf5 seed f) (Uj κ w (cvf seed q) 4):=by
 obtain⟨g1,g2⟩:=auJ h;by_cases hk: ∃i,i<4∧κ i=true
 ·exact ai2 (aw4 seed) (aw5 _) (fun i=>aFb _ _) aJ hw hr hr2 h1 h2 hk hc (g2 q hq f hf)
 ·have hk2: ∀i,i<4→κ i=false:=fun i hi=>by
   cases e:κ i with
   |false=>rfl
   |true=>exact absurd ⟨i,hi,e⟩ hk
  obtain⟨e1,e2⟩:=aaP (w:=w) (cv:=cvf seed q) 4 hk2;rw[e1];exact ai3 _ (aw4 seed) (aw5 _) hw hf (h3.resolve_left hk) aJ (g1 f hf)
def AC(a:Nat):Nat→Prop
 |0=>True
 |n+1=>chS 364 (a+n)=true∧AC a n
theorem HL{a:Nat}: ∀{n:Nat},AC a n→ ∀s,a≤s→s<a+n→chS 364 s=true
 |0,_,s,h1,h2=>absurd h1 aJ
 |n+1,h,s,h1,h2=>by
  by_cases e:s=a+n
  ·rw[e];exact h.1
  ·exact HL h.2 s h1 aJ
end
end
def hsK(h v:Nat):Nat:=nN (fX (fX (jF h 1000003) v) 13) 2147483647
def sqK(h:Nat):Nat:=nN (fX (jF h h) 5) 2147483647
theorem aAk(h v:Nat):hs1 (h:Int) (v:Int)=((hsK h v:Nat):Int):=by
 show((h:Int)*1000003+(v:Int)% 2147483647+13)% 2147483647=(((h*1000003+v+13)% 2147483647:Nat):Int)
 omega
theorem aAl(h:Nat):((h:Int)*h+5)% 2147483647=((sqK h:Nat):Int):=by
 have e:sqK h=(h*h+5)% 2147483647:=rfl;rw[e,wk,Rq,Rr];rfl
instance hfK:HF:=⟨hsK,sqK,aAk,aAl,fun _ _=>iN _ cO⟩
end Go.Proofs.YtaalpcnbbldlaaaGreatDoor.G
