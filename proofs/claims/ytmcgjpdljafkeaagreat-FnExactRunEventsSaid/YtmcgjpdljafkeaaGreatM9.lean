/-
  Rounds run. No program in sight.
-/
import Derived.KernelRfl
import Derived.Test.YtmcgjpdljafkeaaGreatProg
import Derived.Test.YtmcgjpdljafkeaaGreatM8
namespace Go.Proofs.YtmcgjpdljafkeaaGreat.G
set_option linter.all false
open Go.RowKit L D
section
theorem Tv:(Tryz.prog.info? 3).map (fun i=>(i.zero,i.size,i.bytes))=some (some (.int .i64 0),1,8):=by kernel_rfl
theorem Tw:(Tryz.prog.info? 5).map (fun i=>(i.zero,i.size,i.bytes))=some (some (.int .u8 0),1,1):=by kernel_rfl
theorem WM:(Tryz.prog.info? 9).map (fun i=>(i.zero,i.size,i.bytes))=some (some (.string ⟨#[]⟩),1,16):=by kernel_rfl
theorem Pf:(Tryz.prog.info? 45).map (fun i=>(i.zero,i.size,i.bytes))=some (some (.slice none 0 0),1,24):=by kernel_rfl
theorem Pg:(Tryz.prog.info? 27).map (fun i=>(i.zero,i.size,i.bytes))=some (some (.slice none 0 0),1,24):=by kernel_rfl
theorem UJ:(Tryz.prog.info? 79).map (fun i=>(i.zero,i.size,i.bytes))=some (some (.slice none 0 0),1,24):=by kernel_rfl
theorem JU:(Tryz.prog.info? 81).map (fun i=>(i.zero,i.size,i.bytes))=some (some (.agg #[.slice none 0 0]),1,24):=by kernel_rfl
theorem Sd:(Tryz.prog.info? 168).map (fun i=>(i.zero,i.size,i.bytes))=some (some (.agg #[.slice none 0 0]),1,24):=by kernel_rfl
theorem FQ:(Tryz.prog.info? 175).map (fun i=>(i.zero,i.size,i.bytes))=some (some (.agg #[.int .i64 0, .slice none 0 0]),2,32):=by kernel_rfl
theorem Le:(Tryz.prog.info? 224).map (fun i=>(i.zero,i.size,i.bytes))=some (some (.agg #[.int .i64 0, .slice none 0 0]),2,32):=by kernel_rfl
theorem FR:(Tryz.prog.info? 122).map (fun i=>(i.zero,i.size,i.bytes))=some (some (.agg #[.int .i64 0, .int .i64 0, .int .i64 0, .slice none 0 0, .int .i64 0]),5,56):=by kernel_rfl
theorem Lf:(Tryz.prog.info? 111).map (fun i=>(i.zero,i.size,i.bytes))=some (some (.agg #[.int .i64 0, .int .i64 0, .int .i64 0, .slice none 0 0, .int .i64 0]),5,56):=by kernel_rfl
theorem FT:(Tryz.prog.info? 172).map (fun i=>(i.zero,i.size,i.bytes))=some (some (.agg #[.int .i64 0, .slice none 0 0]),2,32):=by kernel_rfl
theorem Lg:(Tryz.prog.info? 170).map (fun i=>(i.zero,i.size,i.bytes))=some (some (.agg #[.int .i64 0, .slice none 0 0]),2,32):=by kernel_rfl
theorem Ph:(Tryz.prog.info? 35).map (fun i=>(i.zero,i.size,i.bytes))=some (some (.agg #[.int .i64 0, .slice none 0 0]),2,32):=by kernel_rfl
theorem UK:(Tryz.prog.info? 26).map (fun i=>(i.zero,i.size,i.bytes))=some (some (.agg #[.int .i64 0, .slice none 0 0]),2,32):=by kernel_rfl
theorem Lh:(Tryz.prog.info? 101).map (fun i=>(i.zero,i.size,i.bytes))=some (some (.agg #[.int .i64 0, .int .i64 0, .int .i64 0, .int .i64 0, .slice none 0 0, .int .i64 0, .slice none 0 0, .int .i64 0]),8,96):=by kernel_rfl
theorem Se:(Tryz.prog.info? 113).map (fun i=>(i.zero,i.size,i.bytes))=some (some (.agg #[.int .i64 0, .int .i64 0, .int .i64 0, .int .i64 0, .slice none 0 0, .int .i64 0, .slice none 0 0, .int .i64 0]),8,96):=by kernel_rfl
theorem FU:(Tryz.prog.info? 103).map (fun i=>(i.zero,i.size,i.bytes))=some (some (.agg #[.int .i64 0, .int .i64 0, .int .i64 0, .int .i64 0, .slice none 0 0, .int .i64 0, .slice none 0 0, .int .i64 0, .int .i64 0, .int .i64 0, .int .i64 0, .int .i64 0, .slice none 0 0, .int .i64 0, .slice none 0 0, .int .i64 0]),16,192):=by kernel_rfl
theorem Li:(Tryz.prog.info? 115).map (fun i=>(i.zero,i.size,i.bytes))=some (some (.agg #[.int .i64 0, .int .i64 0, .int .i64 0, .int .i64 0, .slice none 0 0, .int .i64 0, .slice none 0 0, .int .i64 0, .int .i64 0, .int .i64 0, .int .i64 0, .int .i64 0, .slice none 0 0, .int .i64 0, .slice none 0 0, .int .i64 0]),16,192):=by kernel_rfl
theorem Pj:(Tryz.prog.info? 37).map (fun i=>(i.zero,i.size,i.bytes))=some (some (.agg #[.int .i64 0, .slice none 0 0, .slice none 0 0, .int .i64 0, .slice none 0 0, .int .i64 0, .int .i64 0, .int .i64 0, .slice none 0 0, .int .i64 0]),10,144):=by kernel_rfl
theorem UL:(Tryz.prog.info? 29).map (fun i=>(i.zero,i.size,i.bytes))=some (some (.agg #[.int .i64 0, .slice none 0 0, .slice none 0 0, .int .i64 0, .slice none 0 0, .int .i64 0, .int .i64 0, .int .i64 0, .slice none 0 0, .int .i64 0]),10,144):=by kernel_rfl
theorem JV:(Tryz.prog.info? 51).map (fun i=>(i.zero,i.size,i.bytes))=some (some (.agg #[.int .i64 0, .int .i64 0, .int .i64 0, .slice none 0 0]),4,48):=by kernel_rfl
theorem Pk:(Tryz.prog.info? 47).map (fun i=>(i.zero,i.size,i.bytes))=some (some (.agg #[.int .i64 0, .int .i64 0, .int .i64 0, .slice none 0 0]),4,48):=by kernel_rfl
theorem FV:(Tryz.prog.info? 135).map (fun i=>(i.zero,i.size,i.bytes))=some (some (.agg #[.int .i64 0, .int .i64 0, .int .i64 0, .int .i64 0, .int .i64 0]),5,40):=by kernel_rfl
theorem Lj:(Tryz.prog.info? 245).map (fun i=>(i.zero,i.size,i.bytes))=some (some (.agg #[.int .i64 0, .slice none 0 0]),2,32):=by kernel_rfl
theorem FW:(Tryz.prog.info? 147).map (fun i=>(i.zero,i.size,i.bytes))=some (some (.agg #[.int .i64 0, .int .i64 0, .slice none 0 0, .slice none 0 0, .int .i64 0]),5,72):=by kernel_rfl
theorem lu{P:Program}{i:Nat}{z:Option Value}{k b:Nat}(h:(P.info? i).map (fun i=>(i.zero,i.size,i.bytes))=some (z,k,b)):(P.info? i).map (·.size)=some k:=by
 cases hq:P.info? i with
 |none=>simp[hq]at h
 |some x=>simp[hq]at h;simp[h]
theorem Sf{P:Program}{i:Nat}{z:Option Value}{k b:Nat}(h:(P.info? i).map (fun i=>(i.zero,i.size,i.bytes))=some (z,k,b)):(P.info? i).map (fun i=>(i.size,i.zero))=some (k,z):=by
 cases hq:P.info? i with
 |none=>simp[hq]at h
 |some x=>simp[hq]at h;simp[h]
theorem iE{P:Program}{t:Nat}{z:List Value}{tg:List (Option Tag)}{fo:List Nat}{fs:Array Field}{b:Nat}(hu:P.underlying t=some (.struct fs))(hi:(P.info? t).map (fun i=>(i.zero,i.size,i.bytes))=some (some (.agg z.toArray),z.length,b))(hz:z.all (·.oneCell')=true)(hf:wv P z.length fs.toList fo=true):cw P t (.st z tg fo):=
 ⟨fs,hu,Sf hi,fun v hv=>List.all_eq_true.1 hz v hv,fun f k h=>by obtain⟨fd,h1,h2⟩:=(rG hf).1 f k h;exact⟨fd,by simpa using h1,h2⟩,(rG hf).2⟩
theorem dG{P:Program}{i:Nat}(h:(P.info? i).map (fun i=>Nat.beq i.size 1)=some true):(P.info? i).map (·.size)=some 1:=by
 cases hq:P.info? i with
 |none=>simp[hq]at h
 |some x=>simp[hq]at h;simp[h]
def tys:List (Nat×TK):= [(3, .int .i64),
 (2, .int .i64),
 (21, .int .i32),
 (5, .int .u8),
 (275, .int .u32),
 (210, .int .u64),
 (12, .int .u64),
 (4, .bool),
 (9, .str),
 (81, .st [.slice none 0 0] [some (.sl .u8)] [0]),
 (168, .st [.slice none 0 0] [some (.sl .u8)] [0]),
 (175, .st [.int .i64 0, .slice none 0 0] [none,some (.sl .u8)] [0,1]),
 (224, .st [.int .i64 0, .slice none 0 0] [none,some (.sl .u8)] [0,1]),
 (122, .st [.int .i64 0, .int .i64 0, .int .i64 0, .slice none 0 0, .int .i64 0] [none,none,none,some .aB,none] [0,1,2,3,4]),
 (111, .st [.int .i64 0, .int .i64 0, .int .i64 0, .slice none 0 0, .int .i64 0] [none,none,none,some .aB,none] [0,1,2,3,4]),
 (172, .st [.int .i64 0, .slice none 0 0] [none,some (.sl .u8)] [0,1]),
 (170, .st [.int .i64 0, .slice none 0 0] [none,some (.sl .u8)] [0,1]),
 (35, .st [.int .i64 0, .slice none 0 0] [none,some .aA] [0,1]),
 (26, .st [.int .i64 0, .slice none 0 0] [none,some .aA] [0,1]),
 (101, .st [.int .i64 0, .int .i64 0, .int .i64 0, .int .i64 0, .slice none 0 0, .int .i64 0, .slice none 0 0, .int .i64 0] [none,none,none,none,some (.sl .u8),none,some (.sl .u8),none] [0,1,2,3,4,5,6,7]),
 (113, .st [.int .i64 0, .int .i64 0, .int .i64 0, .int .i64 0, .slice none 0 0, .int .i64 0, .slice none 0 0, .int .i64 0] [none,none,none,none,some (.sl .u8),none,some (.sl .u8),none] [0,1,2,3,4,5,6,7]),
 (103, .st [.int .i64 0, .int .i64 0, .int .i64 0, .int .i64 0, .slice none 0 0, .int .i64 0, .slice none 0 0, .int .i64 0, .int .i64 0, .int .i64 0, .int .i64 0, .int .i64 0, .slice none 0 0, .int .i64 0, .slice none 0 0, .int .i64 0] [none,none,none,none,some (.sl .u8),none,some (.sl .u8),none,none,none,none,none,some (.sl .u8),none,some (.sl .u8),none] [0,8]),
 (115, .st [.int .i64 0, .int .i64 0, .int .i64 0, .int .i64 0, .slice none 0 0, .int .i64 0, .slice none 0 0, .int .i64 0, .int .i64 0, .int .i64 0, .int .i64 0, .int .i64 0, .slice none 0 0, .int .i64 0, .slice none 0 0, .int .i64 0] [none,none,none,none,some (.sl .u8),none,some (.sl .u8),none,none,none,none,none,some (.sl .u8),none,some (.sl .u8),none] [0,8]),
 (37, .st [.int .i64 0, .slice none 0 0, .slice none 0 0, .int .i64 0, .slice none 0 0, .int .i64 0, .int .i64 0, .int .i64 0, .slice none 0 0, .int .i64 0] [none,some .aU,some .aL,none,some .aA,none,none,none,some .int,none] [0,1,2,3,5,6,7,8,9]),
 (29, .st [.int .i64 0, .slice none 0 0, .slice none 0 0, .int .i64 0, .slice none 0 0, .int .i64 0, .int .i64 0, .int .i64 0, .slice none 0 0, .int .i64 0] [none,some .aU,some .aL,none,some .aA,none,none,none,some .int,none] [0,1,2,3,5,6,7,8,9]),
 (51, .st [.int .i64 0, .int .i64 0, .int .i64 0, .slice none 0 0] [none,none,none,some .u8] [0,1,2,3]),
 (47, .st [.int .i64 0, .int .i64 0, .int .i64 0, .slice none 0 0] [none,none,none,some .u8] [0,1,2,3]),
 (135, .st [.int .i64 0, .int .i64 0, .int .i64 0, .int .i64 0, .int .i64 0] [none,none,none,none,none] [0,1,2,3,4]),
 (245, .st [.int .i64 0, .slice none 0 0] [none,some .u8] [0,1]),
 (147, .st [.int .i64 0, .int .i64 0, .slice none 0 0, .slice none 0 0, .int .i64 0] [none,none,some .int,some .u8,none] [0,1,2,3,4]),
 (27, .sl .int 3),
 (45, .sl .u8 5),
 (79, .sl (.sl .u8) 45),
 (202, .sl (.sl .int) 27),
 (77, .sl .DB 81),
 (120, .sl .aB 175),
 (109, .sl .aB 224),
 (31, .sl .aU 122),
 (22, .sl .aU 111),
 (33, .sl .aA 172),
 (24, .sl .aA 170),
 (32, .sl .aL 103),
 (23, .sl .aL 115),
 (59, .sl .Ev 51),
 (56, .sl .Ev 47),
 (74, .sl .cU 135),
 (201, .sl .bJ 147)]
def Γ(t:Nat):TK:=match look tys t with|some k=>k|none=> .other
def ty:Tag→Nat
 | .int=>3
 | .u8=>5
 | .str=>9
 | (.sl .u8)=>45
 | (.sl .int)=>27
 | (.sl (.sl .u8))=>79
 | .DB=>81
 | .aB=>175
 | .aU=>122
 | .aA=>172
 | .iS=>35
 | .dV=>101
 | .aL=>103
 | .aN=>37
 | .Ev=>51
 | .cU=>135
 | .Plain=>245
 | .bJ=>147
 |_=>1000000000
theorem UM:cw Tryz.prog 3 (.int .i64):=Tryz.underlying3
theorem UN:cw Tryz.prog 2 (.int .i64):=Tryz.underlying2
theorem Sg:cw Tryz.prog 21 (.int .i32):=Tryz.underlying21
theorem UO:cw Tryz.prog 5 (.int .u8):=Tryz.underlying5
theorem Pm:cw Tryz.prog 275 (.int .u32):=Tryz.underlying275
theorem Pn:cw Tryz.prog 210 (.int .u64):=Tryz.underlying210
theorem Sh:cw Tryz.prog 12 (.int .u64):=Tryz.underlying12
theorem UP:cw Tryz.prog 4 (.bool):=Tryz.underlying4
theorem UQ:cw Tryz.prog 9 (.str):=Tryz.underlying9
theorem Si:cw Tryz.prog 81 (.st [.slice none 0 0] [some (.sl .u8)] [0]):=iE Tryz.underlying81 JU rfl (by kernel_rfl)
theorem Po:cw Tryz.prog 168 (.st [.slice none 0 0] [some (.sl .u8)] [0]):=iE Tryz.underlying168 Sd rfl (by kernel_rfl)
theorem Pp:cw Tryz.prog 175 (.st [.int .i64 0, .slice none 0 0] [none,some (.sl .u8)] [0,1]):=iE Tryz.underlying175 FQ rfl (by kernel_rfl)
theorem Pq:cw Tryz.prog 224 (.st [.int .i64 0, .slice none 0 0] [none,some (.sl .u8)] [0,1]):=iE Tryz.underlying224 Le rfl (by kernel_rfl)
theorem Pr:cw Tryz.prog 122 (.st [.int .i64 0, .int .i64 0, .int .i64 0, .slice none 0 0, .int .i64 0] [none,none,none,some .aB,none] [0,1,2,3,4]):=iE Tryz.underlying122 FR rfl (by kernel_rfl)
theorem Pt:cw Tryz.prog 111 (.st [.int .i64 0, .int .i64 0, .int .i64 0, .slice none 0 0, .int .i64 0] [none,none,none,some .aB,none] [0,1,2,3,4]):=iE Tryz.underlying111 Lf rfl (by kernel_rfl)
theorem Pu:cw Tryz.prog 172 (.st [.int .i64 0, .slice none 0 0] [none,some (.sl .u8)] [0,1]):=iE Tryz.underlying172 FT rfl (by kernel_rfl)
theorem Pv:cw Tryz.prog 170 (.st [.int .i64 0, .slice none 0 0] [none,some (.sl .u8)] [0,1]):=iE Tryz.underlying170 Lg rfl (by kernel_rfl)
theorem Sj:cw Tryz.prog 35 (.st [.int .i64 0, .slice none 0 0] [none,some .aA] [0,1]):=iE Tryz.underlying35 Ph rfl (by kernel_rfl)
theorem Sk:cw Tryz.prog 26 (.st [.int .i64 0, .slice none 0 0] [none,some .aA] [0,1]):=iE Tryz.underlying26 UK rfl (by kernel_rfl)
theorem Pw:cw Tryz.prog 101 (.st [.int .i64 0, .int .i64 0, .int .i64 0, .int .i64 0, .slice none 0 0, .int .i64 0, .slice none 0 0, .int .i64 0] [none,none,none,none,some (.sl .u8),none,some (.sl .u8),none] [0,1,2,3,4,5,6,7]):=iE Tryz.underlying101 Lh rfl (by kernel_rfl)
theorem Px:cw Tryz.prog 113 (.st [.int .i64 0, .int .i64 0, .int .i64 0, .int .i64 0, .slice none 0 0, .int .i64 0, .slice none 0 0, .int .i64 0] [none,none,none,none,some (.sl .u8),none,some (.sl .u8),none] [0,1,2,3,4,5,6,7]):=iE Tryz.underlying113 Se rfl (by kernel_rfl)
theorem Py:cw Tryz.prog 103 (.st [.int .i64 0, .int .i64 0, .int .i64 0, .int .i64 0, .slice none 0 0, .int .i64 0, .slice none 0 0, .int .i64 0, .int .i64 0, .int .i64 0, .int .i64 0, .int .i64 0, .slice none 0 0, .int .i64 0, .slice none 0 0, .int .i64 0] [none,none,none,none,some (.sl .u8),none,some (.sl .u8),none,none,none,none,none,some (.sl .u8),none,some (.sl .u8),none] [0,8]):=iE Tryz.underlying103 FU rfl (by kernel_rfl)
theorem Pz:cw Tryz.prog 115 (.st [.int .i64 0, .int .i64 0, .int .i64 0, .int .i64 0, .slice none 0 0, .int .i64 0, .slice none 0 0, .int .i64 0, .int .i64 0, .int .i64 0, .int .i64 0, .int .i64 0, .slice none 0 0, .int .i64 0, .slice none 0 0, .int .i64 0] [none,none,none,none,some (.sl .u8),none,some (.sl .u8),none,none,none,none,none,some (.sl .u8),none,some (.sl .u8),none] [0,8]):=iE Tryz.underlying115 Li rfl (by kernel_rfl)
theorem Sm:cw Tryz.prog 37 (.st [.int .i64 0, .slice none 0 0, .slice none 0 0, .int .i64 0, .slice none 0 0, .int .i64 0, .int .i64 0, .int .i64 0, .slice none 0 0, .int .i64 0] [none,some .aU,some .aL,none,some .aA,none,none,none,some .int,none] [0,1,2,3,5,6,7,8,9]):=iE Tryz.underlying37 Pj rfl (by kernel_rfl)
theorem Sn:cw Tryz.prog 29 (.st [.int .i64 0, .slice none 0 0, .slice none 0 0, .int .i64 0, .slice none 0 0, .int .i64 0, .int .i64 0, .int .i64 0, .slice none 0 0, .int .i64 0] [none,some .aU,some .aL,none,some .aA,none,none,none,some .int,none] [0,1,2,3,5,6,7,8,9]):=iE Tryz.underlying29 UL rfl (by kernel_rfl)
theorem So:cw Tryz.prog 51 (.st [.int .i64 0, .int .i64 0, .int .i64 0, .slice none 0 0] [none,none,none,some .u8] [0,1,2,3]):=iE Tryz.underlying51 JV rfl (by kernel_rfl)
theorem Sp:cw Tryz.prog 47 (.st [.int .i64 0, .int .i64 0, .int .i64 0, .slice none 0 0] [none,none,none,some .u8] [0,1,2,3]):=iE Tryz.underlying47 Pk rfl (by kernel_rfl)
theorem PA:cw Tryz.prog 135 (.st [.int .i64 0, .int .i64 0, .int .i64 0, .int .i64 0, .int .i64 0] [none,none,none,none,none] [0,1,2,3,4]):=iE Tryz.underlying135 FV rfl (by kernel_rfl)
theorem PB:cw Tryz.prog 245 (.st [.int .i64 0, .slice none 0 0] [none,some .u8] [0,1]):=iE Tryz.underlying245 Lj rfl (by kernel_rfl)
theorem PC:cw Tryz.prog 147 (.st [.int .i64 0, .int .i64 0, .slice none 0 0, .slice none 0 0, .int .i64 0] [none,none,some .int,some .u8,none] [0,1,2,3,4]):=iE Tryz.underlying147 FW rfl (by kernel_rfl)
theorem Sq:cw Tryz.prog 27 (.sl .int 3):=⟨Tryz.underlying27,lu Tv⟩
theorem Sr:cw Tryz.prog 45 (.sl .u8 5):=⟨Tryz.underlying45,lu Tw⟩
theorem Ss:cw Tryz.prog 79 (.sl (.sl .u8) 45):=⟨Tryz.underlying79,lu Pf⟩
theorem PD:cw Tryz.prog 202 (.sl (.sl .int) 27):=⟨Tryz.underlying202,lu Pg⟩
theorem Su:cw Tryz.prog 77 (.sl .DB 81):=⟨Tryz.underlying77,lu JU⟩
theorem PE:cw Tryz.prog 120 (.sl .aB 175):=⟨Tryz.underlying120,lu FQ⟩
theorem PF:cw Tryz.prog 109 (.sl .aB 224):=⟨Tryz.underlying109,lu Le⟩
theorem Sv:cw Tryz.prog 31 (.sl .aU 122):=⟨Tryz.underlying31,lu FR⟩
theorem Sw:cw Tryz.prog 22 (.sl .aU 111):=⟨Tryz.underlying22,lu Lf⟩
theorem Sx:cw Tryz.prog 33 (.sl .aA 172):=⟨Tryz.underlying33,lu FT⟩
theorem Sy:cw Tryz.prog 24 (.sl .aA 170):=⟨Tryz.underlying24,lu Lg⟩
theorem Sz:cw Tryz.prog 32 (.sl .aL 103):=⟨Tryz.underlying32,lu FU⟩
theorem SA:cw Tryz.prog 23 (.sl .aL 115):=⟨Tryz.underlying23,lu Li⟩
theorem SB:cw Tryz.prog 59 (.sl .Ev 51):=⟨Tryz.underlying59,lu JV⟩
theorem SC:cw Tryz.prog 56 (.sl .Ev 47):=⟨Tryz.underlying56,lu Pk⟩
theorem SD:cw Tryz.prog 74 (.sl .cU 135):=⟨Tryz.underlying74,lu FV⟩
theorem PG:cw Tryz.prog 201 (.sl .bJ 147):=⟨Tryz.underlying201,lu FW⟩
set_option maxRecDepth 100000 in
theorem kinds: ∀e,e∈tys→cw Tryz.prog e.1 e.2:=by
 simp only[tys,List.forall_mem_cons]
 exact⟨UM,UN,Sg,UO,Pm,Pn,Sh,UP,UQ,Si,Po,Pp,Pq,Pr,Pt,Pu,Pv,Sj,Sk,Pw,Px,Py,Pz,Sm,Sn,So,Sp,PA,PB,PC,Sq,Sr,Ss,PD,Su,PE,PF,Sv,Sw,Sx,Sy,Sz,SA,SB,SC,SD,PG,by simp⟩
set_option maxRecDepth 100000 in
theorem YO: ∀e,e∈tys→(∀z tg fo,e.2≠ .st z tg fo)→(Tryz.prog.info? e.1).map (·.size)=some 1:=by
 simp only[tys,List.forall_mem_cons]
 refine⟨fun _=>dG (by kernel_rfl),fun _=>dG (by kernel_rfl),fun _=>dG (by kernel_rfl),fun _=>dG (by kernel_rfl),fun _=>dG (by kernel_rfl),fun _=>dG (by kernel_rfl),fun _=>dG (by kernel_rfl),fun _=>dG (by kernel_rfl),fun _=>dG (by kernel_rfl),fun h=>absurd rfl (h _ _ _),fun h=>absurd rfl (h _ _ _),fun h=>absurd rfl (h _ _ _),fun h=>absurd rfl (h _ _ _),fun h=>absurd rfl (h _ _ _),fun h=>absurd rfl (h _ _ _),fun h=>absurd rfl (h _ _ _),fun h=>absurd rfl (h _ _ _),fun h=>absurd rfl (h _ _ _),fun h=>absurd rfl (h _ _ _),fun h=>absurd rfl (h _ _ _),fun h=>absurd rfl (h _ _ _),fun h=>absurd rfl (h _ _ _),fun h=>absurd rfl (h _ _ _),fun h=>absurd rfl (h _ _ _),fun h=>absurd rfl (h _ _ _),fun h=>absurd rfl (h _ _ _),fun h=>absurd rfl (h _ _ _),fun h=>absurd rfl (h _ _ _),fun h=>absurd rfl (h _ _ _),fun h=>absurd rfl (h _ _ _),fun _=>dG (by kernel_rfl),fun _=>dG (by kernel_rfl),fun _=>dG (by kernel_rfl),fun _=>dG (by kernel_rfl),fun _=>dG (by kernel_rfl),fun _=>dG (by kernel_rfl),fun _=>dG (by kernel_rfl),fun _=>dG (by kernel_rfl),fun _=>dG (by kernel_rfl),fun _=>dG (by kernel_rfl),fun _=>dG (by kernel_rfl),fun _=>dG (by kernel_rfl),fun _=>dG (by kernel_rfl),fun _=>dG (by kernel_rfl),fun _=>dG (by kernel_rfl),fun _=>dG (by kernel_rfl),fun _=>dG (by kernel_rfl),by simp⟩
theorem X:Ctx Tryz.prog ty Γ where
 kind:=fun t=>by
  unfold Γ
  split
  ·rename_i k hk;exact kinds (t,k) (eU hk)
  ·trivial
 one:=fun t h1 h2=>by
  unfold Γ at h1 h2
  split at h1
  ·rename_i k hk;exact YO (t,k) (eU hk) h1
  ·rename_i hk;rw[hk]at h2;exact absurd rfl h2
theorem bH(t:Tag)(h:ty t<1000000000):El Tryz.prog ty t:=by
 unfold ty at h
 split at h
 ·exact Tv
 ·exact Tw
 ·exact WM
 ·exact Pf
 ·exact Pg
 ·exact UJ
 ·exact JU
 ·exact FQ
 ·exact FR
 ·exact FT
 ·exact Ph
 ·exact Lh
 ·exact FU
 ·exact Pj
 ·exact JV
 ·exact FV
 ·exact Lj
 ·exact FW
 ·exact absurd h (by decide)
end
section
theorem MO:Tryz.prog.follows .mixedOrders=true:=by kernel_rfl
theorem nb:(∀(p:Prop) [Decidable p],(decide p=true)=p)∧(∀(p:Prop) [Decidable p],(decide p=false)= ¬p)∧(∀b:Bool,((!b)=true)=(b=false))∧(∀b:Bool,((!b)=false)=(b=true))∧
  (∀(α:Type) [BEq α] [LawfulBEq α] (a b:α),((a==b)=true)=(a=b))∧(∀(α:Type) [BEq α] [LawfulBEq α] (a b:α),((a !=b)=true)=(¬a=b))∧(∀(α:Type) [BEq α] [LawfulBEq α] (a b:α),((a==b)=false)=(¬a=b))∧(∀(α:Type) [BEq α] [LawfulBEq α] (a b:α),((a !=b)=false)=(a=b))∧
  (∀(α:Type) (a b:α),(a≠b)= ¬a=b)∧(∀a b:Int,(a>b)=(b<a))∧(∀a b:Int,(a≥b)=(b≤a))∧(∀a b:Nat,(a>b)=(b<a))∧(∀a b:Nat,(a≥b)=(b≤a))∧(∀a b:Int,(¬a<b)=(b≤a))∧(∀a b:Int,(¬a≤b)=(b<a))∧
  (∀(p:Prop) [Decidable p],(¬ ¬p)=p)∧(∀n:Nat,(n:Int).toNat=n)∧(∀m n:Nat,((m:Int)<n)=(m<n))∧(∀m n:Nat,((m:Int)≤n)=(m≤n))∧(∀a b:Nat,(¬a<b)=(b≤a))∧(∀a b:Nat,(¬a≤b)=(b<a))∧
  (∀(p:Prop) [Decidable p] (b:Bool),(if p then b else false)=(decide p&&b))∧(∀(p:Prop) [Decidable p] (b:Bool),(if p then true else b)=(decide p||b))∧(∀(p:Prop) [Decidable p] (b:Bool),(if p then false else b)=(!decide p&&b))∧(∀(p:Prop) [Decidable p] (b:Bool),(if p then b else true)=(!decide p||b))∧
  (∀a b:Bool,((a&&b)=true)=(a=true∧b=true))∧(∀a b:Bool,((a||b)=true)=(a=true∨b=true))∧(∀a b:Bool,((a&&b)=false)=(a=false∨b=false))∧(∀a b:Bool,((a||b)=false)=(a=false∧b=false))∧(∀(b:Bool),decide (b=true)=b):=by
 refine⟨by simp,by simp,by simp,by simp,fun _ _ _ a b=>propext beq_iff_eq,fun _ _ _ a b=>propext bne_iff_ne,fun _ _ _ a b=>propext beq_eq_false_iff_ne,fun _ _ _ a b=>propext bne_eq_false_iff_eq,by simp,by simp,by simp,by simp,by simp,by simp,by simp,by simp,by simp,by simp,by simp,by simp,by simp,by simp,by simp,by simp,by simp,by simp,by simp,by simp,by simp,by simp⟩
theorem lens:(∀n:Nat,(n:Int).toNat=n)∧(∀(α:Type) (a b:List α),(a++b).length=a.length+b.length)∧(∀(α:Type) (a:α),[a].length=1)∧(∀(α:Type) (a:α) (l:List α),(a::l).length=l.length+1)∧(∀(α:Type),([]:List α).length=0)∧(∀(α:Type) (n:Nat) (a:α),(List.replicate n a).length=n)∧
  (∀(α:Type) (l:List α) (n:Nat) (a:α),(l.set n a).length=l.length)∧(∀(α β:Type) (f:α→β) (l:List α),(l.map f).length=l.length)∧(∀(α:Type) (l:List α) (n:Nat),(l.take n).length=min n l.length)∧(∀(α:Type) (l:List α) (n:Nat),(l.drop n).length=l.length-n)∧(∀n:Nat,(List.range n).length=n):=by
 refine⟨by simp,by simp,by simp,by simp,by simp,by simp,by simp,by simp,by simp,by simp,by simp⟩
theorem ah.mk{p:Prop}{l:List Prop}(h:p)(k:ah l):ah (p::l):=⟨h,k⟩
theorem ah.nil:ah []:=True.intro
theorem bf{α:Type}(l:List α)(k:Nat)(d:α)(h:k<l.length):l.take (k+1)=l.take k++ [l.getD k d]:=by
 rw[List.take_add_one,List.getD_eq_getElem?_getD,List.getElem?_eq_getElem h];rfl
theorem aV(a:Int)(n:Nat)(h:a=n)(h2:n<9223372036854775807):IntKind.i64.wrap (a+1)=((n+1:Nat):Int):=by
 subst h;rw[IntWalk.i64_in _ (by omega)];omega
theorem mM{P:Program}{ty:Tag→Nat}{f:FuncId}{xs:List S1}{v:Value}(h:Sound ty P f xs [.a (.lit v)]){w:World}{us:List Value}(ha:bn (BO w) xs us)(hA:D6 w:=by first|assumption|exact trivial):Calls P f us.toArray w (zX w v):=by
 refine(h.2 w us hA ha).mono ?_
 rintro e w' ⟨u,fp,rfl,hb,_,f1,f2,⟨rfl,_⟩,_⟩
 exact⟨rfl,hb⟩
theorem nF{w:World}{l:List V}{cs:List Value}{fp:List Nat}(h:bR w l cs fp):BO w (.agg l) (.agg cs.toArray):=⟨cs,fp,rfl,h⟩
theorem W.bound{P:Program}{ty:Tag→Nat}{w0:cA}{c:Code}{Q:Post}{st:St}(d:Nat){t:Tag}{l:List (T t)}(h:look st.sl d=some (.one (.a (.sl t l))))(k:l.length≤9223372036854775807→W P ty w0 c Q st):W P ty w0 c Q st:=by
 intro a w iv
 obtain⟨env,g⟩:=iv.good
 obtain⟨fp,⟨oa,cap,_,h1,h2,_⟩,_⟩:=g.slot d _ h
 have e:maxLen=9223372036854775807:=by decide
 exact k (by omega) a w iv
theorem W.bS{P:Program}{ty:Tag→Nat}{w0:cA}{c:Code}{Q:Post}{st:St}(d i:Nat){cs:List V}{t:Tag}{l:List (T t)}(h:look st.sl d=some (.one (.agg cs)))(hc:cs[i]? =some (.sl t l))(k:l.length≤9223372036854775807→W P ty w0 c Q st):W P ty w0 c Q st:=by
 intro a w iv
 obtain⟨env,g⟩:=iv.good
 obtain⟨us,_,hr⟩:=g.slot d _ h
 obtain⟨u,_,fp,⟨oa,cap,_,h1,h2,_⟩,_⟩:=hr.at hc
 have e:maxLen=9223372036854775807:=by decide
 exact k (by omega) a w iv
theorem qb{α:Type} [DecidableEq α](a b:List α)(d:α)(k:Nat)(ha:k<a.length)(hb:k<b.length)(h:a.take k=b.take k)(he:a.getD k d=b.getD k d):a.take (k+1)=b.take (k+1):=by
 rw[bf a k d ha,bf b k d hb,h,he]
theorem va{α:Type} [BEq α] [LawfulBEq α](a b:List α)(d:α)(k:Nat)(he:a.getD k d≠b.getD k d):(a==b)=false:=by
 rw[beq_eq_false_iff_ne];rintro rfl;exact he rfl
theorem ve{α:Type} [BEq α] [LawfulBEq α](a b:List α)(k:Nat)(hk:k=a.length)(hl:a.length=b.length)(h:a.take k=b.take k):(a==b)=true:=by
 rw[List.take_of_length_le (by omega),List.take_of_length_le (by omega)]at h
 rw[h];simp
theorem yN{α:Type} [BEq α] [LawfulBEq α](a b:List α)(hl:(a.length:Int)≠b.length):(a==b)=false:=by
 rw[beq_eq_false_iff_ne];rintro rfl;exact hl rfl
theorem PI{x y:UInt8}(h:(x.toNat:Int)=y.toNat):x=y:=by
 have:x.toNat=y.toNat:=by omega
 exact UInt8.toNat_inj.1 this
end
section
def szr(left:Int)(n:Nat):Int:=if(n:Int)≤left then left-n else-1
theorem cB{l:Int}{n:Nat}(h:0≤szr l n):szr l n=l-n∧(n:Int)≤l:=by
 unfold szr at*
 split at h
 ·rename_i h1;exact⟨by rw[if_pos h1],h1⟩
 ·omega
theorem dM{l:Int}{n:Nat}(h0:0≤l)(h:szr l n<0):l<n:=by
 unfold szr at h
 split at h<;>omega
theorem gE{l:Int}{n:Nat}(h:(n:Int)≤l):szr l n=l-n:=by unfold szr;rw[if_pos h]
theorem dw{l:Int}{n:Nat}(h:l<(n:Int)):szr l n= -1:=by unfold szr;rw[if_neg (by omega)]
theorem lz{α:Type}(f:α→Nat)(l:List α)(d:α)(k:Nat)(h:k<l.length):((l.take (k+1)).map f).sum=((l.take k).map f).sum+f (l.getD k d):=
 GP l f k _ (by rw[List.getD_eq_getElem?_getD,List.getElem?_eq_getElem h];rfl)
theorem lB{α:Type}(l:List α)(d:α)(k:Nat)(h:k<l.length):(l.take k++List.replicate (l.length-k) d).set k (l.getD k d)=l.take (k+1)++List.replicate (l.length-(k+1)) d:=by
 have hk:(l.take k).length=k:=by rw[List.length_take];omega
 rw[List.set_append_right _ _ (by omega),hk,Nat.sub_self,show l.length-k=(l.length-(k+1))+1 by omega,List.replicate_succ,List.set_cons_zero,bf l k d h,List.append_assoc]
 rfl
theorem nG{α:Type}(l:List α)(d:α)(k:Nat)(h:k≤l.length):(l.take k++List.replicate (l.length-k) d).length=l.length:=by
 simp;omega
theorem Lm(x:UInt8):UInt8.ofNat (Int.toNat ((x.toNat:Nat):Int))=x:=by simp
theorem qc(n:Int):0≤IntKind.u8.wrap n∧IntKind.u8.wrap n<256:=by
 unfold IntKind.wrap
 simp only[IntKind.signed,IntKind.bits]
 simp
 omega
theorem ZQ(x:UInt8):0≤((x.toNat:Nat):Int)∧((x.toNat:Nat):Int)<256:=by
 have:=x.toNat_lt
 omega
theorem dN(n:Int):(((UInt8.ofNat (IntKind.u8.wrap n).toNat).toNat:Nat):Int)=IntKind.u8.wrap n:=by
 have h:=qc n
 generalize IntKind.u8.wrap n=m at h
 simp
 omega
def aC{α:Type}(mn:α→Nat)(l:List α):Nat:=(l.map mn).sum
section
variable{α:Type}{mk:Int→α→α}{mn:α→Nat}
theorem HD(x:α)(r:List α):aC mn (x::r)=mn x+aC mn r:=by simp[aC]
end
theorem W.conv{P:Program}{ty:Tag→Nat}{zb:cA}{c:Code}{Q:Post}{st:St}(st':St)(h:st=st')(k:W P ty zb c Q st'):W P ty zb c Q st:=h▸k
end
section
set_option maxRecDepth 100000
theorem getD_some{α:Type}(l:List α)(d:α)(k:Nat)(h:k<l.length):l[k]? =some (l.getD k d):=by
 rw[List.getD_eq_getElem?_getD,List.getElem?_eq_getElem h];rfl
def fT(x:DB):Nat:=(bL List.length) x.rows
def bF(x:aB):Nat:=fT x.share
def aO(x:aB):Nat:=1+(aC (aC (fun _=>1))) x.share.rows
def bl(x:aU):Nat:=(bL bF) x.received
def aS(x:aU):Nat:=1+1+1+(aC aO) x.received+1
def aY(x:aA):Nat:=fT x.db
def aT(x:aA):Nat:=1+(aC (aC (fun _=>1))) x.db.rows
def b7(x:iS):Nat:=(bL aY) x.rounds
def eW(x:iS):Nat:=(aC aT) x.rounds
def bh(x:dV):Nat:=(bL List.length) x.aq+(bL List.length) x.inbox
def aJ(x:aL):Nat:=bh x.live+bh x.saved
def aG(x:aL):Nat:=1+1+1+1+(aC (aC (fun _=>1))) x.live.aq+1+(aC (aC (fun _=>1))) x.live.inbox+1+1+1+1+1+(aC (aC (fun _=>1))) x.saved.aq+1+(aC (aC (fun _=>1))) x.saved.inbox+1
def bB(x:aN):Nat:=(bL bl) x.aj+(bL aJ) x.aa+b7 x.ak+List.length x.replaced
def bV(x:aN):Nat:=(aC aS) x.aj+(aC aG) x.aa+eW x.ak+(aC (fun _=>1)) x.replaced
theorem SE{α:Type}(l:List α):aC (fun _=>1) l=l.length:=by
 induction l with
 |nil=>rfl
 |cons x r ih=>rw[HD,ih,List.length_cons];omega
theorem iJ{α:Type}{mn sz:α→Nat}{C:Nat}(h: ∀e,mn e≤C*(1+sz e))(l:List α):aC mn l≤C*bL sz l:=by
 unfold bL aC
 induction l with
 |nil=>simp
 |cons x r ih=>
  simp only[List.map_cons,List.sum_cons,List.length_cons]
  have:=h x
  have e:C*(r.length+1+(sz x+(r.map sz).sum))=C*(1+sz x)+C*(r.length+(r.map sz).sum):=by rw[←Nat.mul_add];congr 1;omega
  omega
theorem mq{α:Type}(l:List α):aC (fun _=>1) l≤32*List.length l:=by rw[SE];omega
theorem DF(x:aB):aO x≤32*(1+bF x):=by
 have h0:(aC (aC (fun _=>1))) x.share.rows≤32*(bL List.length) x.share.rows:=iJ (C:=32) (sz:=List.length) (fun e=>by have:(aC (fun _=>1)) e≤32*List.length e:=mq e;omega) x.share.rows
 simp only[aO,bF,fT]
 omega
theorem JW(x:aU):aS x≤32*(1+bl x):=by
 have h0:(aC aO) x.received≤32*(bL bF) x.received:=iJ (C:=32) (sz:=bF) DF x.received
 simp only[aS,bl]
 omega
theorem DG(x:aA):aT x≤32*(1+aY x):=by
 have h0:(aC (aC (fun _=>1))) x.db.rows≤32*(bL List.length) x.db.rows:=iJ (C:=32) (sz:=List.length) (fun e=>by have:(aC (fun _=>1)) e≤32*List.length e:=mq e;omega) x.db.rows
 simp only[aT,aY,fT]
 omega
theorem JX(x:aL):aG x≤32*(1+aJ x):=by
 have h0:(aC (aC (fun _=>1))) x.live.aq≤32*(bL List.length) x.live.aq:=iJ (C:=32) (sz:=List.length) (fun e=>by have:(aC (fun _=>1)) e≤32*List.length e:=mq e;omega) x.live.aq
 have h1:(aC (aC (fun _=>1))) x.live.inbox≤32*(bL List.length) x.live.inbox:=iJ (C:=32) (sz:=List.length) (fun e=>by have:(aC (fun _=>1)) e≤32*List.length e:=mq e;omega) x.live.inbox
 have h2:(aC (aC (fun _=>1))) x.saved.aq≤32*(bL List.length) x.saved.aq:=iJ (C:=32) (sz:=List.length) (fun e=>by have:(aC (fun _=>1)) e≤32*List.length e:=mq e;omega) x.saved.aq
 have h3:(aC (aC (fun _=>1))) x.saved.inbox≤32*(bL List.length) x.saved.inbox:=iJ (C:=32) (sz:=List.length) (fun e=>by have:(aC (fun _=>1)) e≤32*List.length e:=mq e;omega) x.saved.inbox
 simp only[aG,aJ,bh]
 omega
theorem dP(x:aN):bV x≤32*bB x:=by
 have h0:(aC aS) x.aj≤32*(bL bl) x.aj:=iJ (C:=32) (sz:=bl) JW x.aj
 have h1:(aC aG) x.aa≤32*(bL aJ) x.aa:=iJ (C:=32) (sz:=aJ) JX x.aa
 have h2:(aC aT) x.ak.rounds≤32*(bL aY) x.ak.rounds:=iJ (C:=32) (sz:=aY) DG x.ak.rounds
 have h3:(aC (fun _=>1)) x.replaced≤32*List.length x.replaced:=mq x.replaced
 simp only[bV,eW,bB,b7]
 omega
end
section
set_option maxRecDepth 100000
theorem Ew(l:(List UInt8))(left:Int)(h0:0≤left)(h1:left≤1048576):Sound ty Tryz.prog 76 [.a (.sl .u8 l), .a (.lit (.int .i64 left))] [.a (.lit (.int .i64 (szr left (List.length l))))]:=by
 refine Sound.o X Tryz.call76 Tryz.func76 Tryz.ntmps76 rfl rfl ?_
 intro zb
 refine W.bound 0 rfl fun hl=> ?_
 refine W.s0 X [0,1] rfl ⟨⟩ ?_
 refine W.s0 X [1] rfl ⟨⟩ ?_
 rw[IntWalk.i64_in (left-(l.length:Nat)) (by omega)]
 refine W.seq ?_
 refine W.s0 X [1,10] rfl ⟨⟩ ?_
 refine W.cond rfl (fun hb0=> ?_) (fun hb0=> ?_)
 ·try simp only[nb]at hb0
  refine W.s0 X [4] rfl ⟨⟩ ?_
  refine W.ret ?_
  exact Fin.ret rfl ⟨by rw[dw (by omega)],⟨⟩⟩
 ·try simp only[nb]at hb0
  refine W.skip ?_
  refine W.s0 X [4] rfl ⟨⟩ ?_
  refine W.ret ?_
  exact Fin.ret rfl ⟨by rw[gE (by omega)],⟨⟩⟩
theorem vg(l:(List (List UInt8)))(left:Int)(h0:0≤left)(h1:left≤1048576):Sound ty Tryz.prog 240 [.a (.sl (.sl .u8) l), .a (.lit (.int .i64 left))] [.a (.lit (.int .i64 (szr left ((bL List.length) l))))]:=by
 refine Sound.o X Tryz.call240 Tryz.func240 Tryz.ntmps240 rfl rfl ?_
 intro zb
 refine W.bound 0 rfl fun hl=> ?_
 refine W.s0 X [0,1] rfl ⟨⟩ ?_
 refine W.s0 X [0,1] rfl ⟨⟩ ?_
 rw[IntWalk.i64_in (left-(l.length:Nat)) (by omega)]
 refine W.seq ?_
 refine W.s0 X [0,1,11] rfl ⟨⟩ ?_
 refine W.cond rfl (fun hb0=> ?_) (fun hb0=> ?_)
 ·try simp only[nb]at hb0
  refine W.s0 X [4] rfl ⟨⟩ ?_
  refine W.ret ?_
  exact Fin.ret rfl ⟨by rw[dw (by unfold bL;omega)],⟨⟩⟩
 ·try simp only[nb]at hb0
  refine W.skip ?_
  refine W.seq ?_
  refine W.s0 X [0,1,5] rfl ⟨⟩ ?_
  refine W.block ?_
  refine W.aI (fun k=>k≤l.length∧(l.length:Int)+(((l.take k).map List.length).sum:Nat)≤left) (fun k:Nat=> [(1, .one (.a (.lit (.int .i64 (left-(l.length:Nat)-(((l.take k).map List.length).sum:Nat)))))),(5, .one (.a (.lit (.int .i64 k))))]) (fun k=> []) (fun k=>l.length-k) 0 (fun k=>rfl) ⟨Nat.zero_le _,by simp;omega⟩ (by simp) ?_
  rintro k ⟨hk,hs⟩
  refine W.seq ?_
  refine W.s0 X [0,1,5,15] rfl ⟨⟩ ?_
  refine W.cond rfl (fun aD=> ?_) (fun aD=> ?_)
  ·try simp only[nb]at aD
   have PL:=lz List.length l (av (.sl .u8)) k aD
   have hle:=dn l List.length (k+1)
   refine W.skip ?_
   refine W.seq ?_
   refine W.block ?_
   refine W.sr X [] [(23,⟨false,[.a (.lit (.int .i64 (szr (left-(l.length:Nat)-(((l.take k).map List.length).sum:Nat)) (List.length (l.getD k (av (.sl .u8)))))))]⟩)] [0,1,5] [] rfl ⟨Ew (l.getD k (av (.sl .u8))) _ (by omega) (by omega),by omega,⟨⟩⟩ ?_
   refine W.s0 X [0,1,5,25] rfl ⟨⟩ ?_
   refine W.cond rfl (fun aR=> ?_) (fun aR=> ?_)
   ·try simp only[nb]at aR
    have hn:=dM (by omega) aR
    refine W.s0 X [4] rfl ⟨⟩ ?_
    refine W.ret ?_
    exact Fin.ret rfl ⟨by rw[dw (by unfold bL;omega)],⟨⟩⟩
   ·try simp only[nb]at aR
    obtain⟨e2,e3⟩:=cB aR
    rw[e2]
    refine W.skip ?_
    refine W.r0 X [0,1,5] rfl ⟨⟩ ?_
    refine⟨k+1,⟨by omega,by omega⟩,by omega,?_⟩
    rw[aV _ k rfl (by omega),show left-(l.length:Nat)-(((l.take k).map List.length).sum:Nat)-(List.length (l.getD k (av (.sl .u8))):Nat)=left-(l.length:Nat)-(((l.take (k+1)).map List.length).sum:Nat)by omega]
  ·try simp only[nb]at aD
   refine W.exit ?_
   refine W.s0 X [4] rfl ⟨⟩ ?_
   refine W.ret ?_
   have hf:l.take k=l:=List.take_of_length_le (by omega)
   rw[hf]at hs
   exact Fin.ret rfl ⟨by rw[hf,gE (by unfold bL;omega)];congr 1;unfold bL;omega,⟨⟩⟩
theorem wW(x:DB)(left:Int)(h0:0≤left)(h1:left≤1048576):Sound ty Tryz.prog 241 [.agg (aH x), .a (.lit (.int .i64 left))] [.a (.lit (.int .i64 (szr left (fT x))))]:=by
 refine Sound.o X Tryz.call241 Tryz.func241 Tryz.ntmps241 rfl rfl ?_
 intro zb
 refine W.s0 X [1,2] rfl ⟨⟩ ?_
 refine W.sr X [] [(8,⟨false,[.a (.lit (.int .i64 (szr (left) ((bL List.length) x.rows))))]⟩)] [1] [] rfl ⟨vg x.rows (left) (by omega) (by omega),⟨⟩⟩ ?_
 refine W.seq ?_
 refine W.s0 X [1,10] rfl ⟨⟩ ?_
 refine W.cond rfl (fun hb0=> ?_) (fun hb0=> ?_)
 ·try simp only[nb]at hb0
  refine W.s0 X [4] rfl ⟨⟩ ?_
  refine W.ret ?_
  exact Fin.ret rfl ⟨by rw[dw (by have:=dM (by omega) hb0;unfold fT;omega)],⟨⟩⟩
 ·try simp only[nb]at hb0
  obtain⟨e0,JY⟩:=cB hb0
  rw[e0]
  refine W.skip ?_
  refine W.s0 X [4] rfl ⟨⟩ ?_
  refine W.ret ?_
  exact Fin.ret rfl ⟨by rw[gE (by unfold fT;omega)];first|done| (congr 1;done)| (congr 1;unfold fT;omega),⟨⟩⟩
theorem wX(x:aA)(left:Int)(h0:0≤left)(h1:left≤1048576):Sound ty Tryz.prog 162 [.agg (fN x), .a (.lit (.int .i64 left))] [.a (.lit (.int .i64 (szr left (aY x))))]:=by
 refine Sound.o X Tryz.call162 Tryz.func162 Tryz.ntmps162 rfl rfl ?_
 intro zb
 refine W.s0 X [1,2] rfl ⟨⟩ ?_
 refine W.sr X [] [(8,⟨false,[.a (.lit (.int .i64 (szr (left) (fT x.db))))]⟩)] [1] [] rfl ⟨wW x.db (left) (by omega) (by omega),⟨⟩⟩ ?_
 refine W.seq ?_
 refine W.s0 X [1,10] rfl ⟨⟩ ?_
 refine W.cond rfl (fun hb0=> ?_) (fun hb0=> ?_)
 ·try simp only[nb]at hb0
  refine W.s0 X [4] rfl ⟨⟩ ?_
  refine W.ret ?_
  exact Fin.ret rfl ⟨by rw[dw (by have:=dM (by omega) hb0;unfold aY;omega)],⟨⟩⟩
 ·try simp only[nb]at hb0
  obtain⟨e0,JY⟩:=cB hb0
  rw[e0]
  refine W.skip ?_
  refine W.s0 X [4] rfl ⟨⟩ ?_
  refine W.ret ?_
  exact Fin.ret rfl ⟨by rw[gE (by unfold aY;omega)];first|done| (congr 1;done)| (congr 1;unfold aY;omega),⟨⟩⟩
theorem vh(l:(List aA))(left:Int)(h0:0≤left)(h1:left≤1048576):Sound ty Tryz.prog 92 [.a (.sl .aA l), .a (.lit (.int .i64 left))] [.a (.lit (.int .i64 (szr left ((bL aY) l))))]:=by
 refine Sound.o X Tryz.call92 Tryz.func92 Tryz.ntmps92 rfl rfl ?_
 intro zb
 refine W.bound 0 rfl fun hl=> ?_
 refine W.s0 X [0,1] rfl ⟨⟩ ?_
 refine W.s0 X [0,1] rfl ⟨⟩ ?_
 rw[IntWalk.i64_in (left-(l.length:Nat)) (by omega)]
 refine W.seq ?_
 refine W.s0 X [0,1,11] rfl ⟨⟩ ?_
 refine W.cond rfl (fun hb0=> ?_) (fun hb0=> ?_)
 ·try simp only[nb]at hb0
  refine W.s0 X [4] rfl ⟨⟩ ?_
  refine W.ret ?_
  exact Fin.ret rfl ⟨by rw[dw (by unfold bL;omega)],⟨⟩⟩
 ·try simp only[nb]at hb0
  refine W.skip ?_
  refine W.seq ?_
  refine W.s0 X [0,1,5] rfl ⟨⟩ ?_
  refine W.block ?_
  refine W.aI (fun k=>k≤l.length∧(l.length:Int)+(((l.take k).map aY).sum:Nat)≤left) (fun k:Nat=> [(1, .one (.a (.lit (.int .i64 (left-(l.length:Nat)-(((l.take k).map aY).sum:Nat)))))),(5, .one (.a (.lit (.int .i64 k))))]) (fun k=> []) (fun k=>l.length-k) 0 (fun k=>rfl) ⟨Nat.zero_le _,by simp;omega⟩ (by simp) ?_
  rintro k ⟨hk,hs⟩
  refine W.seq ?_
  refine W.s0 X [0,1,5,15] rfl ⟨⟩ ?_
  refine W.cond rfl (fun aD=> ?_) (fun aD=> ?_)
  ·try simp only[nb]at aD
   have PL:=lz aY l (av .aA) k aD
   have hle:=dn l aY (k+1)
   refine W.skip ?_
   refine W.seq ?_
   refine W.block ?_
   refine W.sr X [] [(23,⟨false,[.a (.lit (.int .i64 (szr (left-(l.length:Nat)-(((l.take k).map aY).sum:Nat)) (aY (l.getD k (av .aA))))))]⟩)] [0,1,5] [] rfl ⟨wX (l.getD k (av .aA)) _ (by omega) (by omega),by omega,⟨⟩⟩ ?_
   refine W.s0 X [0,1,5,25] rfl ⟨⟩ ?_
   refine W.cond rfl (fun aR=> ?_) (fun aR=> ?_)
   ·try simp only[nb]at aR
    have hn:=dM (by omega) aR
    refine W.s0 X [4] rfl ⟨⟩ ?_
    refine W.ret ?_
    exact Fin.ret rfl ⟨by rw[dw (by unfold bL;omega)],⟨⟩⟩
   ·try simp only[nb]at aR
    obtain⟨e2,e3⟩:=cB aR
    rw[e2]
    refine W.skip ?_
    refine W.r0 X [0,1,5] rfl ⟨⟩ ?_
    refine⟨k+1,⟨by omega,by omega⟩,by omega,?_⟩
    rw[aV _ k rfl (by omega),show left-(l.length:Nat)-(((l.take k).map aY).sum:Nat)-(aY (l.getD k (av .aA)):Nat)=left-(l.length:Nat)-(((l.take (k+1)).map aY).sum:Nat)by omega]
  ·try simp only[nb]at aD
   refine W.exit ?_
   refine W.s0 X [4] rfl ⟨⟩ ?_
   refine W.ret ?_
   have hf:l.take k=l:=List.take_of_length_le (by omega)
   rw[hf]at hs
   exact Fin.ret rfl ⟨by rw[hf,gE (by unfold bL;omega)];congr 1;unfold bL;omega,⟨⟩⟩
theorem HE(x:iS)(left:Int)(h0:0≤left)(h1:left≤1048576):Sound ty Tryz.prog 39 [.agg (cj x), .a (.lit (.int .i64 left))] [.a (.lit (.int .i64 (szr left (b7 x))))]:=by
 refine Sound.o X Tryz.call39 Tryz.func39 Tryz.ntmps39 rfl rfl ?_
 intro zb
 refine W.s0 X [1,2] rfl ⟨⟩ ?_
 refine W.sr X [] [(8,⟨false,[.a (.lit (.int .i64 (szr (left) ((bL aY) x.rounds))))]⟩)] [1] [] rfl ⟨vh x.rounds (left) (by omega) (by omega),⟨⟩⟩ ?_
 refine W.seq ?_
 refine W.s0 X [1,10] rfl ⟨⟩ ?_
 refine W.cond rfl (fun hb0=> ?_) (fun hb0=> ?_)
 ·try simp only[nb]at hb0
  refine W.s0 X [4] rfl ⟨⟩ ?_
  refine W.ret ?_
  exact Fin.ret rfl ⟨by rw[dw (by have:=dM (by omega) hb0;unfold b7;omega)],⟨⟩⟩
 ·try simp only[nb]at hb0
  obtain⟨e0,JY⟩:=cB hb0
  rw[e0]
  refine W.skip ?_
  refine W.s0 X [4] rfl ⟨⟩ ?_
  refine W.ret ?_
  exact Fin.ret rfl ⟨by rw[gE (by unfold b7;omega)];first|done| (congr 1;done)| (congr 1;unfold b7;omega),⟨⟩⟩
theorem Cw(x:dV)(left:Int)(h0:0≤left)(h1:left≤1048576):Sound ty Tryz.prog 161 [.agg (aX x), .a (.lit (.int .i64 left))] [.a (.lit (.int .i64 (szr left (bh x))))]:=by
 refine Sound.o X Tryz.call161 Tryz.func161 Tryz.ntmps161 rfl rfl ?_
 intro zb
 refine W.s0 X [1,2] rfl ⟨⟩ ?_
 refine W.sr X [] [(8,⟨false,[.a (.lit (.int .i64 (szr (left) ((bL List.length) x.aq))))]⟩)] [1,2] [] rfl ⟨vg x.aq (left) (by omega) (by omega),⟨⟩⟩ ?_
 refine W.seq ?_
 refine W.s0 X [1,2,10] rfl ⟨⟩ ?_
 refine W.cond rfl (fun hb0=> ?_) (fun hb0=> ?_)
 ·try simp only[nb]at hb0
  refine W.s0 X [4] rfl ⟨⟩ ?_
  refine W.ret ?_
  exact Fin.ret rfl ⟨by rw[dw (by have:=dM (by omega) hb0;unfold bh;omega)],⟨⟩⟩
 ·try simp only[nb]at hb0
  obtain⟨e0,JY⟩:=cB hb0
  rw[e0]
  refine W.skip ?_
  refine W.sr X [] [(14,⟨false,[.a (.lit (.int .i64 (szr (left-(((bL List.length) x.aq):Nat)) ((bL List.length) x.inbox))))]⟩)] [1] [] rfl ⟨vg x.inbox (left-(((bL List.length) x.aq):Nat)) (by omega) (by omega),⟨⟩⟩ ?_
  refine W.seq ?_
  refine W.s0 X [1,16] rfl ⟨⟩ ?_
  refine W.cond rfl (fun aD=> ?_) (fun aD=> ?_)
  ·try simp only[nb]at aD
   refine W.s0 X [4] rfl ⟨⟩ ?_
   refine W.ret ?_
   exact Fin.ret rfl ⟨by rw[dw (by have:=dM (by omega) aD;unfold bh;omega)],⟨⟩⟩
  ·try simp only[nb]at aD
   obtain⟨e1,WN⟩:=cB aD
   rw[e1]
   refine W.skip ?_
   refine W.s0 X [4] rfl ⟨⟩ ?_
   refine W.ret ?_
   exact Fin.ret rfl ⟨by rw[gE (by unfold bh;omega)];first|done| (congr 1;done)| (congr 1;unfold bh;omega),⟨⟩⟩
theorem JZ(x:aL)(left:Int)(h0:0≤left)(h1:left≤1048576):Sound ty Tryz.prog 91 [.agg (bg x), .a (.lit (.int .i64 left))] [.a (.lit (.int .i64 (szr left (aJ x))))]:=by
 refine Sound.o X Tryz.call91 Tryz.func91 Tryz.ntmps91 rfl rfl ?_
 intro zb
 refine W.s0 X [1,2] rfl ⟨⟩ ?_
 refine W.sr X [] [(8,⟨false,[.a (.lit (.int .i64 (szr (left) (bh x.live))))]⟩)] [1,2] [] rfl ⟨Cw x.live (left) (by omega) (by omega),⟨⟩⟩ ?_
 refine W.seq ?_
 refine W.s0 X [1,2,10] rfl ⟨⟩ ?_
 refine W.cond rfl (fun hb0=> ?_) (fun hb0=> ?_)
 ·try simp only[nb]at hb0
  refine W.s0 X [4] rfl ⟨⟩ ?_
  refine W.ret ?_
  exact Fin.ret rfl ⟨by rw[dw (by have:=dM (by omega) hb0;unfold aJ;omega)],⟨⟩⟩
 ·try simp only[nb]at hb0
  obtain⟨e0,JY⟩:=cB hb0
  rw[e0]
  refine W.skip ?_
  refine W.sr X [] [(14,⟨false,[.a (.lit (.int .i64 (szr (left-((bh x.live):Nat)) (bh x.saved))))]⟩)] [1] [] rfl ⟨Cw x.saved (left-((bh x.live):Nat)) (by omega) (by omega),⟨⟩⟩ ?_
  refine W.seq ?_
  refine W.s0 X [1,16] rfl ⟨⟩ ?_
  refine W.cond rfl (fun aD=> ?_) (fun aD=> ?_)
  ·try simp only[nb]at aD
   refine W.s0 X [4] rfl ⟨⟩ ?_
   refine W.ret ?_
   exact Fin.ret rfl ⟨by rw[dw (by have:=dM (by omega) aD;unfold aJ;omega)],⟨⟩⟩
  ·try simp only[nb]at aD
   obtain⟨e1,WN⟩:=cB aD
   rw[e1]
   refine W.skip ?_
   refine W.s0 X [4] rfl ⟨⟩ ?_
   refine W.ret ?_
   exact Fin.ret rfl ⟨by rw[gE (by unfold aJ;omega)];first|done| (congr 1;done)| (congr 1;unfold aJ;omega),⟨⟩⟩
theorem HF(l:(List aL))(left:Int)(h0:0≤left)(h1:left≤1048576):Sound ty Tryz.prog 38 [.a (.sl .aL l), .a (.lit (.int .i64 left))] [.a (.lit (.int .i64 (szr left ((bL aJ) l))))]:=by
 refine Sound.o X Tryz.call38 Tryz.func38 Tryz.ntmps38 rfl rfl ?_
 intro zb
 refine W.bound 0 rfl fun hl=> ?_
 refine W.s0 X [0,1] rfl ⟨⟩ ?_
 refine W.s0 X [0,1] rfl ⟨⟩ ?_
 rw[IntWalk.i64_in (left-(l.length:Nat)) (by omega)]
 refine W.seq ?_
 refine W.s0 X [0,1,11] rfl ⟨⟩ ?_
 refine W.cond rfl (fun hb0=> ?_) (fun hb0=> ?_)
 ·try simp only[nb]at hb0
  refine W.s0 X [4] rfl ⟨⟩ ?_
  refine W.ret ?_
  exact Fin.ret rfl ⟨by rw[dw (by unfold bL;omega)],⟨⟩⟩
 ·try simp only[nb]at hb0
  refine W.skip ?_
  refine W.seq ?_
  refine W.s0 X [0,1,5] rfl ⟨⟩ ?_
  refine W.block ?_
  refine W.aI (fun k=>k≤l.length∧(l.length:Int)+(((l.take k).map aJ).sum:Nat)≤left) (fun k:Nat=> [(1, .one (.a (.lit (.int .i64 (left-(l.length:Nat)-(((l.take k).map aJ).sum:Nat)))))),(5, .one (.a (.lit (.int .i64 k))))]) (fun k=> []) (fun k=>l.length-k) 0 (fun k=>rfl) ⟨Nat.zero_le _,by simp;omega⟩ (by simp) ?_
  rintro k ⟨hk,hs⟩
  refine W.seq ?_
  refine W.s0 X [0,1,5,15] rfl ⟨⟩ ?_
  refine W.cond rfl (fun aD=> ?_) (fun aD=> ?_)
  ·try simp only[nb]at aD
   have PL:=lz aJ l (av .aL) k aD
   have hle:=dn l aJ (k+1)
   refine W.skip ?_
   refine W.seq ?_
   refine W.block ?_
   refine W.sr X [] [(23,⟨false,[.a (.lit (.int .i64 (szr (left-(l.length:Nat)-(((l.take k).map aJ).sum:Nat)) (aJ (l.getD k (av .aL))))))]⟩)] [0,1,5] [] rfl ⟨JZ (l.getD k (av .aL)) _ (by omega) (by omega),by omega,⟨⟩⟩ ?_
   refine W.s0 X [0,1,5,25] rfl ⟨⟩ ?_
   refine W.cond rfl (fun aR=> ?_) (fun aR=> ?_)
   ·try simp only[nb]at aR
    have hn:=dM (by omega) aR
    refine W.s0 X [4] rfl ⟨⟩ ?_
    refine W.ret ?_
    exact Fin.ret rfl ⟨by rw[dw (by unfold bL;omega)],⟨⟩⟩
   ·try simp only[nb]at aR
    obtain⟨e2,e3⟩:=cB aR
    rw[e2]
    refine W.skip ?_
    refine W.r0 X [0,1,5] rfl ⟨⟩ ?_
    refine⟨k+1,⟨by omega,by omega⟩,by omega,?_⟩
    rw[aV _ k rfl (by omega),show left-(l.length:Nat)-(((l.take k).map aJ).sum:Nat)-(aJ (l.getD k (av .aL)):Nat)=left-(l.length:Nat)-(((l.take (k+1)).map aJ).sum:Nat)by omega]
  ·try simp only[nb]at aD
   refine W.exit ?_
   refine W.s0 X [4] rfl ⟨⟩ ?_
   refine W.ret ?_
   have hf:l.take k=l:=List.take_of_length_le (by omega)
   rw[hf]at hs
   exact Fin.ret rfl ⟨by rw[hf,gE (by unfold bL;omega)];congr 1;unfold bL;omega,⟨⟩⟩
theorem PM(l:(List Int))(left:Int)(h0:0≤left)(h1:left≤1048576):Sound ty Tryz.prog 40 [.a (.sl .int l), .a (.lit (.int .i64 left))] [.a (.lit (.int .i64 (szr left (List.length l))))]:=by
 refine Sound.o X Tryz.call40 Tryz.func40 Tryz.ntmps40 rfl rfl ?_
 intro zb
 refine W.bound 0 rfl fun hl=> ?_
 refine W.s0 X [0,1] rfl ⟨⟩ ?_
 refine W.s0 X [1] rfl ⟨⟩ ?_
 rw[IntWalk.i64_in (left-(l.length:Nat)) (by omega)]
 refine W.seq ?_
 refine W.s0 X [1,10] rfl ⟨⟩ ?_
 refine W.cond rfl (fun hb0=> ?_) (fun hb0=> ?_)
 ·try simp only[nb]at hb0
  refine W.s0 X [4] rfl ⟨⟩ ?_
  refine W.ret ?_
  exact Fin.ret rfl ⟨by rw[dw (by omega)],⟨⟩⟩
 ·try simp only[nb]at hb0
  refine W.skip ?_
  refine W.s0 X [4] rfl ⟨⟩ ?_
  refine W.ret ?_
  exact Fin.ret rfl ⟨by rw[gE (by omega)],⟨⟩⟩
theorem wY(x:aB)(left:Int)(h0:0≤left)(h1:left≤1048576):Sound ty Tryz.prog 239 [.agg (ff x), .a (.lit (.int .i64 left))] [.a (.lit (.int .i64 (szr left (bF x))))]:=by
 refine Sound.o X Tryz.call239 Tryz.func239 Tryz.ntmps239 rfl rfl ?_
 intro zb
 refine W.s0 X [1,2] rfl ⟨⟩ ?_
 refine W.sr X [] [(8,⟨false,[.a (.lit (.int .i64 (szr (left) (fT x.share))))]⟩)] [1] [] rfl ⟨wW x.share (left) (by omega) (by omega),⟨⟩⟩ ?_
 refine W.seq ?_
 refine W.s0 X [1,10] rfl ⟨⟩ ?_
 refine W.cond rfl (fun hb0=> ?_) (fun hb0=> ?_)
 ·try simp only[nb]at hb0
  refine W.s0 X [4] rfl ⟨⟩ ?_
  refine W.ret ?_
  exact Fin.ret rfl ⟨by rw[dw (by have:=dM (by omega) hb0;unfold bF;omega)],⟨⟩⟩
 ·try simp only[nb]at hb0
  obtain⟨e0,JY⟩:=cB hb0
  rw[e0]
  refine W.skip ?_
  refine W.s0 X [4] rfl ⟨⟩ ?_
  refine W.ret ?_
  exact Fin.ret rfl ⟨by rw[gE (by unfold bF;omega)];first|done| (congr 1;done)| (congr 1;unfold bF;omega),⟨⟩⟩
theorem vi(l:(List aB))(left:Int)(h0:0≤left)(h1:left≤1048576):Sound ty Tryz.prog 160 [.a (.sl .aB l), .a (.lit (.int .i64 left))] [.a (.lit (.int .i64 (szr left ((bL bF) l))))]:=by
 refine Sound.o X Tryz.call160 Tryz.func160 Tryz.ntmps160 rfl rfl ?_
 intro zb
 refine W.bound 0 rfl fun hl=> ?_
 refine W.s0 X [0,1] rfl ⟨⟩ ?_
 refine W.s0 X [0,1] rfl ⟨⟩ ?_
 rw[IntWalk.i64_in (left-(l.length:Nat)) (by omega)]
 refine W.seq ?_
 refine W.s0 X [0,1,11] rfl ⟨⟩ ?_
 refine W.cond rfl (fun hb0=> ?_) (fun hb0=> ?_)
 ·try simp only[nb]at hb0
  refine W.s0 X [4] rfl ⟨⟩ ?_
  refine W.ret ?_
  exact Fin.ret rfl ⟨by rw[dw (by unfold bL;omega)],⟨⟩⟩
 ·try simp only[nb]at hb0
  refine W.skip ?_
  refine W.seq ?_
  refine W.s0 X [0,1,5] rfl ⟨⟩ ?_
  refine W.block ?_
  refine W.aI (fun k=>k≤l.length∧(l.length:Int)+(((l.take k).map bF).sum:Nat)≤left) (fun k:Nat=> [(1, .one (.a (.lit (.int .i64 (left-(l.length:Nat)-(((l.take k).map bF).sum:Nat)))))),(5, .one (.a (.lit (.int .i64 k))))]) (fun k=> []) (fun k=>l.length-k) 0 (fun k=>rfl) ⟨Nat.zero_le _,by simp;omega⟩ (by simp) ?_
  rintro k ⟨hk,hs⟩
  refine W.seq ?_
  refine W.s0 X [0,1,5,15] rfl ⟨⟩ ?_
  refine W.cond rfl (fun aD=> ?_) (fun aD=> ?_)
  ·try simp only[nb]at aD
   have PL:=lz bF l (av .aB) k aD
   have hle:=dn l bF (k+1)
   refine W.skip ?_
   refine W.seq ?_
   refine W.block ?_
   refine W.sr X [] [(23,⟨false,[.a (.lit (.int .i64 (szr (left-(l.length:Nat)-(((l.take k).map bF).sum:Nat)) (bF (l.getD k (av .aB))))))]⟩)] [0,1,5] [] rfl ⟨wY (l.getD k (av .aB)) _ (by omega) (by omega),by omega,⟨⟩⟩ ?_
   refine W.s0 X [0,1,5,25] rfl ⟨⟩ ?_
   refine W.cond rfl (fun aR=> ?_) (fun aR=> ?_)
   ·try simp only[nb]at aR
    have hn:=dM (by omega) aR
    refine W.s0 X [4] rfl ⟨⟩ ?_
    refine W.ret ?_
    exact Fin.ret rfl ⟨by rw[dw (by unfold bL;omega)],⟨⟩⟩
   ·try simp only[nb]at aR
    obtain⟨e2,e3⟩:=cB aR
    rw[e2]
    refine W.skip ?_
    refine W.r0 X [0,1,5] rfl ⟨⟩ ?_
    refine⟨k+1,⟨by omega,by omega⟩,by omega,?_⟩
    rw[aV _ k rfl (by omega),show left-(l.length:Nat)-(((l.take k).map bF).sum:Nat)-(bF (l.getD k (av .aB)):Nat)=left-(l.length:Nat)-(((l.take (k+1)).map bF).sum:Nat)by omega]
  ·try simp only[nb]at aD
   refine W.exit ?_
   refine W.s0 X [4] rfl ⟨⟩ ?_
   refine W.ret ?_
   have hf:l.take k=l:=List.take_of_length_le (by omega)
   rw[hf]at hs
   exact Fin.ret rfl ⟨by rw[hf,gE (by unfold bL;omega)];congr 1;unfold bL;omega,⟨⟩⟩
theorem J0(x:aU)(left:Int)(h0:0≤left)(h1:left≤1048576):Sound ty Tryz.prog 90 [.agg (bw x), .a (.lit (.int .i64 left))] [.a (.lit (.int .i64 (szr left (bl x))))]:=by
 refine Sound.o X Tryz.call90 Tryz.func90 Tryz.ntmps90 rfl rfl ?_
 intro zb
 refine W.s0 X [1,2] rfl ⟨⟩ ?_
 refine W.sr X [] [(8,⟨false,[.a (.lit (.int .i64 (szr (left) ((bL bF) x.received))))]⟩)] [1] [] rfl ⟨vi x.received (left) (by omega) (by omega),⟨⟩⟩ ?_
 refine W.seq ?_
 refine W.s0 X [1,10] rfl ⟨⟩ ?_
 refine W.cond rfl (fun hb0=> ?_) (fun hb0=> ?_)
 ·try simp only[nb]at hb0
  refine W.s0 X [4] rfl ⟨⟩ ?_
  refine W.ret ?_
  exact Fin.ret rfl ⟨by rw[dw (by have:=dM (by omega) hb0;unfold bl;omega)],⟨⟩⟩
 ·try simp only[nb]at hb0
  obtain⟨e0,JY⟩:=cB hb0
  rw[e0]
  refine W.skip ?_
  refine W.s0 X [4] rfl ⟨⟩ ?_
  refine W.ret ?_
  exact Fin.ret rfl ⟨by rw[gE (by unfold bl;omega)];first|done| (congr 1;done)| (congr 1;unfold bl;omega),⟨⟩⟩
theorem HG(l:(List aU))(left:Int)(h0:0≤left)(h1:left≤1048576):Sound ty Tryz.prog 37 [.a (.sl .aU l), .a (.lit (.int .i64 left))] [.a (.lit (.int .i64 (szr left ((bL bl) l))))]:=by
 refine Sound.o X Tryz.call37 Tryz.func37 Tryz.ntmps37 rfl rfl ?_
 intro zb
 refine W.bound 0 rfl fun hl=> ?_
 refine W.s0 X [0,1] rfl ⟨⟩ ?_
 refine W.s0 X [0,1] rfl ⟨⟩ ?_
 rw[IntWalk.i64_in (left-(l.length:Nat)) (by omega)]
 refine W.seq ?_
 refine W.s0 X [0,1,11] rfl ⟨⟩ ?_
 refine W.cond rfl (fun hb0=> ?_) (fun hb0=> ?_)
 ·try simp only[nb]at hb0
  refine W.s0 X [4] rfl ⟨⟩ ?_
  refine W.ret ?_
  exact Fin.ret rfl ⟨by rw[dw (by unfold bL;omega)],⟨⟩⟩
 ·try simp only[nb]at hb0
  refine W.skip ?_
  refine W.seq ?_
  refine W.s0 X [0,1,5] rfl ⟨⟩ ?_
  refine W.block ?_
  refine W.aI (fun k=>k≤l.length∧(l.length:Int)+(((l.take k).map bl).sum:Nat)≤left) (fun k:Nat=> [(1, .one (.a (.lit (.int .i64 (left-(l.length:Nat)-(((l.take k).map bl).sum:Nat)))))),(5, .one (.a (.lit (.int .i64 k))))]) (fun k=> []) (fun k=>l.length-k) 0 (fun k=>rfl) ⟨Nat.zero_le _,by simp;omega⟩ (by simp) ?_
  rintro k ⟨hk,hs⟩
  refine W.seq ?_
  refine W.s0 X [0,1,5,15] rfl ⟨⟩ ?_
  refine W.cond rfl (fun aD=> ?_) (fun aD=> ?_)
  ·try simp only[nb]at aD
   have PL:=lz bl l (av .aU) k aD
   have hle:=dn l bl (k+1)
   refine W.skip ?_
   refine W.seq ?_
   refine W.block ?_
   refine W.sr X [] [(23,⟨false,[.a (.lit (.int .i64 (szr (left-(l.length:Nat)-(((l.take k).map bl).sum:Nat)) (bl (l.getD k (av .aU))))))]⟩)] [0,1,5] [] rfl ⟨J0 (l.getD k (av .aU)) _ (by omega) (by omega),by omega,⟨⟩⟩ ?_
   refine W.s0 X [0,1,5,25] rfl ⟨⟩ ?_
   refine W.cond rfl (fun aR=> ?_) (fun aR=> ?_)
   ·try simp only[nb]at aR
    have hn:=dM (by omega) aR
    refine W.s0 X [4] rfl ⟨⟩ ?_
    refine W.ret ?_
    exact Fin.ret rfl ⟨by rw[dw (by unfold bL;omega)],⟨⟩⟩
   ·try simp only[nb]at aR
    obtain⟨e2,e3⟩:=cB aR
    rw[e2]
    refine W.skip ?_
    refine W.r0 X [0,1,5] rfl ⟨⟩ ?_
    refine⟨k+1,⟨by omega,by omega⟩,by omega,?_⟩
    rw[aV _ k rfl (by omega),show left-(l.length:Nat)-(((l.take k).map bl).sum:Nat)-(bl (l.getD k (av .aU)):Nat)=left-(l.length:Nat)-(((l.take (k+1)).map bl).sum:Nat)by omega]
  ·try simp only[nb]at aD
   refine W.exit ?_
   refine W.s0 X [4] rfl ⟨⟩ ?_
   refine W.ret ?_
   have hf:l.take k=l:=List.take_of_length_le (by omega)
   rw[hf]at hs
   exact Fin.ret rfl ⟨by rw[hf,gE (by unfold bL;omega)];congr 1;unfold bL;omega,⟨⟩⟩
theorem kG(x:aN)(left:Int)(h0:0≤left)(h1:left≤1048576):Sound ty Tryz.prog 10 [.agg (ay x), .a (.lit (.int .i64 left))] [.a (.lit (.int .i64 (szr left (bB x))))]:=by
 refine Sound.o X Tryz.call10 Tryz.func10 Tryz.ntmps10 rfl rfl ?_
 intro zb
 refine W.s0 X [1,2] rfl ⟨⟩ ?_
 refine W.sr X [] [(8,⟨false,[.a (.lit (.int .i64 (szr (left) ((bL bl) x.aj))))]⟩)] [1,2] [] rfl ⟨HG x.aj (left) (by omega) (by omega),⟨⟩⟩ ?_
 refine W.seq ?_
 refine W.s0 X [1,2,10] rfl ⟨⟩ ?_
 refine W.cond rfl (fun hb0=> ?_) (fun hb0=> ?_)
 ·try simp only[nb]at hb0
  refine W.s0 X [4] rfl ⟨⟩ ?_
  refine W.ret ?_
  exact Fin.ret rfl ⟨by rw[dw (by have:=dM (by omega) hb0;unfold bB;omega)],⟨⟩⟩
 ·try simp only[nb]at hb0
  obtain⟨e0,JY⟩:=cB hb0
  rw[e0]
  refine W.skip ?_
  refine W.sr X [] [(14,⟨false,[.a (.lit (.int .i64 (szr (left-(((bL bl) x.aj):Nat)) ((bL aJ) x.aa))))]⟩)] [1,2] [] rfl ⟨HF x.aa (left-(((bL bl) x.aj):Nat)) (by omega) (by omega),⟨⟩⟩ ?_
  refine W.seq ?_
  refine W.s0 X [1,2,16] rfl ⟨⟩ ?_
  refine W.cond rfl (fun aD=> ?_) (fun aD=> ?_)
  ·try simp only[nb]at aD
   refine W.s0 X [4] rfl ⟨⟩ ?_
   refine W.ret ?_
   exact Fin.ret rfl ⟨by rw[dw (by have:=dM (by omega) aD;unfold bB;omega)],⟨⟩⟩
  ·try simp only[nb]at aD
   obtain⟨e1,WN⟩:=cB aD
   rw[e1]
   refine W.skip ?_
   refine W.sr X [] [(20,⟨false,[.a (.lit (.int .i64 (szr (left-(((bL bl) x.aj):Nat)-(((bL aJ) x.aa):Nat)) (b7 x.ak))))]⟩)] [1,2] [] rfl ⟨HE x.ak (left-(((bL bl) x.aj):Nat)-(((bL aJ) x.aa):Nat)) (by omega) (by omega),⟨⟩⟩ ?_
   refine W.seq ?_
   refine W.s0 X [1,2,22] rfl ⟨⟩ ?_
   refine W.cond rfl (fun aR=> ?_) (fun aR=> ?_)
   ·try simp only[nb]at aR
    refine W.s0 X [4] rfl ⟨⟩ ?_
    refine W.ret ?_
    exact Fin.ret rfl ⟨by rw[dw (by have:=dM (by omega) aR;unfold bB;omega)],⟨⟩⟩
   ·try simp only[nb]at aR
    obtain⟨e2,e2'⟩:=cB aR
    rw[e2]
    refine W.skip ?_
    refine W.sr X [] [(26,⟨false,[.a (.lit (.int .i64 (szr (left-(((bL bl) x.aj):Nat)-(((bL aJ) x.aa):Nat)-((b7 x.ak):Nat)) (List.length x.replaced))))]⟩)] [1] [] rfl ⟨PM x.replaced (left-(((bL bl) x.aj):Nat)-(((bL aJ) x.aa):Nat)-((b7 x.ak):Nat)) (by omega) (by omega),⟨⟩⟩ ?_
    refine W.seq ?_
    refine W.s0 X [1,28] rfl ⟨⟩ ?_
    refine W.cond rfl (fun dS=> ?_) (fun dS=> ?_)
    ·try simp only[nb]at dS
     refine W.s0 X [4] rfl ⟨⟩ ?_
     refine W.ret ?_
     exact Fin.ret rfl ⟨by rw[dw (by have:=dM (by omega) dS;unfold bB;omega)],⟨⟩⟩
    ·try simp only[nb]at dS
     obtain⟨e3,e3'⟩:=cB dS
     rw[e3]
     refine W.skip ?_
     refine W.s0 X [4] rfl ⟨⟩ ?_
     refine W.ret ?_
     exact Fin.ret rfl ⟨by rw[gE (by unfold bB;omega)];first|done| (congr 1;done)| (congr 1;unfold bB;omega),⟨⟩⟩
end
section
set_option maxRecDepth 100000
theorem Ey(l:(List UInt8))(hx:(List.length l)≤1048576):Sound ty Tryz.prog 82 [.a (.sl .u8 l)] [.a (.sl .u8 l)]:=by
 refine Sound.o X Tryz.call82 Tryz.func82 Tryz.ntmps82 rfl rfl ?_
 intro zb
 have hl:l.length≤1048576:=hx
 refine W.s0 X [0] rfl ⟨⟩ ?_
 refine W.s0 X [0,3] rfl (by and_intros<;>first|exact⟨⟩| (intros;omega)|exact rfl| (simp only[cN,maxLen,lens];omega)) ?_
 refine W.seq ?_
 refine W.s0 X [0,3,4] rfl ⟨⟩ ?_
 refine W.block ?_
 refine W.aI (fun k=>k≤l.length) (fun k:Nat=> [(4, .one (.a (.lit (.int .i64 k))))]) (fun k=> [(7, .arr .u8 (l.take k++List.replicate (l.length-k) (av .u8)))]) (fun k=>l.length-k) 0 (fun k=>rfl) (Nat.zero_le _) rfl ?_
 intro k hk
 refine W.seq ?_
 refine W.s0 X [0,3,4,11] rfl ⟨⟩ ?_
 refine W.cond rfl (fun hb0=> ?_) (fun hb0=> ?_)
 ·try simp only[nb]at hb0
  have rM:=nG l (av .u8) k (by omega)
  refine W.skip ?_
  refine W.seq ?_
  refine W.block ?_
  refine W.r0 X [0,3,4] rfl (by and_intros<;>first|exact⟨⟩| (intros;omega)|exact(ZQ _).2) ?_
  have e1:=lB l (av .u8) k hb0
  refine W.r0 X [0,3,4] rfl ⟨⟩ ?_
  refine⟨k+1,by omega,by omega,?_⟩
  rw[Lm]
  rw[aV _ k rfl (by omega), ←e1]
  try rfl
 ·try simp only[nb]at hb0
  refine W.exit ?_
  refine W.s0 X [2] rfl ⟨⟩ ?_
  refine W.ret ?_
  exact Fin.ret rfl ⟨by rw[List.take_of_length_le (by omega),show l.length-k=0 by omega,List.replicate_zero,List.append_nil],⟨⟩⟩
theorem vk(l:(List (List UInt8)))(hx:((bL List.length) l)≤1048576):Sound ty Tryz.prog 269 [.a (.sl (.sl .u8) l)] [.a (.sl (.sl .u8) l)]:=by
 refine Sound.o X Tryz.call269 Tryz.func269 Tryz.ntmps269 rfl rfl ?_
 intro zb
 have hl:l.length≤1048576:=cg hx
 refine W.s0 X [0] rfl ⟨⟩ ?_
 refine W.s0 X [0,3] rfl (by and_intros<;>first|exact⟨⟩| (intros;omega)|exact rfl| (simp only[cN,maxLen,lens];omega)) ?_
 refine W.seq ?_
 refine W.s0 X [0,3,4] rfl ⟨⟩ ?_
 refine W.block ?_
 refine W.aI (fun k=>k≤l.length) (fun k:Nat=> [(4, .one (.a (.lit (.int .i64 k))))]) (fun k=> [(7, .arr (.sl .u8) (l.take k++List.replicate (l.length-k) (av (.sl .u8))))]) (fun k=>l.length-k) 0 (fun k=>rfl) (Nat.zero_le _) rfl ?_
 intro k hk
 refine W.seq ?_
 refine W.s0 X [0,3,4,11] rfl ⟨⟩ ?_
 refine W.cond rfl (fun hb0=> ?_) (fun hb0=> ?_)
 ·try simp only[nb]at hb0
  have rM:=nG l (av (.sl .u8)) k (by omega)
  refine W.skip ?_
  refine W.seq ?_
  refine W.block ?_
  refine W.fH X [(20,300)] [(20,⟨true,[.a (.sl .u8 (l.getD k (av (.sl .u8))))]⟩)] [0,3,4] [] rfl (by(repeat' with_reducible first|exact ah.nil|refine ah.mk ?_ ?_|apply And.intro)<;>first|exact Ey (l.getD k (av (.sl .u8))) (eL hx (getD_some l _ k hb0))| (intros;omega)) ?_
  have e1:=lB l (av (.sl .u8)) k hb0
  refine W.r0 X [0,3,4] rfl ⟨⟩ ?_
  refine⟨k+1,by omega,by omega,?_⟩
  rw[aV _ k rfl (by omega), ←e1]
  try rfl
 ·try simp only[nb]at hb0
  refine W.exit ?_
  refine W.s0 X [2] rfl ⟨⟩ ?_
  refine W.ret ?_
  exact Fin.ret rfl ⟨by rw[List.take_of_length_le (by omega),show l.length-k=0 by omega,List.replicate_zero,List.append_nil],⟨⟩⟩
theorem wZ(x:DB)(hx:fT x≤1048576):Sound ty Tryz.prog 270 [.agg (aH x)] [.agg (aH x)]:=by
 refine Sound.o X Tryz.call270 Tryz.func270 Tryz.ntmps270 rfl rfl ?_
 intro zb
 have rT:=hx
 unfold fT at rT
 refine W.s0 X [1,2] rfl ⟨⟩ ?_
 refine W.s0 X [1,2,3] rfl ⟨⟩ ?_
 refine W.sr X [(6,230)] [(6,⟨true,[.a (.sl (.sl .u8) x.rows)]⟩)] [2,3] [] rfl ⟨vk x.rows (by omega),⟨⟩⟩ ?_
 refine W.s0 X [2] rfl (by and_intros<;>exact⟨⟩) ?_
 refine W.ret ?_
 exact Fin.ret rfl (by(repeat' (first|exact True.intro|apply And.intro))<;>rfl)
theorem w9(x:aA)(hx:aY x≤1048576):Sound ty Tryz.prog 189 [.agg (fN x)] [.agg (fN x)]:=by
 refine Sound.o X Tryz.call189 Tryz.func189 Tryz.ntmps189 rfl rfl ?_
 intro zb
 have rT:=hx
 unfold aY at rT
 refine W.s0 X [1,2] rfl ⟨⟩ ?_
 refine W.s0 X [1,2,3] rfl ⟨⟩ ?_
 refine W.s0 X [1,2,3] rfl ⟨⟩ ?_
 refine W.sr X [(9,230)] [(9,⟨true,[.agg (aH x.db)]⟩)] [2,3] [] rfl ⟨wZ x.db (by omega),⟨⟩⟩ ?_
 refine W.s0 X [2] rfl (by and_intros<;>exact⟨⟩) ?_
 refine W.ret ?_
 exact Fin.ret rfl (by(repeat' (first|exact True.intro|apply And.intro))<;>rfl)
theorem vl(l:(List aA))(hx:((bL aY) l)≤1048576):Sound ty Tryz.prog 110 [.a (.sl .aA l)] [.a (.sl .aA l)]:=by
 refine Sound.o X Tryz.call110 Tryz.func110 Tryz.ntmps110 rfl rfl ?_
 intro zb
 have hl:l.length≤1048576:=cg hx
 refine W.s0 X [0] rfl ⟨⟩ ?_
 refine W.s0 X [0,3] rfl (by and_intros<;>first|exact⟨⟩| (intros;omega)|exact rfl| (simp only[cN,maxLen,lens];omega)) ?_
 refine W.seq ?_
 refine W.s0 X [0,3,4] rfl ⟨⟩ ?_
 refine W.block ?_
 refine W.aI (fun k=>k≤l.length) (fun k:Nat=> [(4, .one (.a (.lit (.int .i64 k))))]) (fun k=> [(7, .arr .aA (l.take k++List.replicate (l.length-k) (av .aA)))]) (fun k=>l.length-k) 0 (fun k=>rfl) (Nat.zero_le _) rfl ?_
 intro k hk
 refine W.seq ?_
 refine W.s0 X [0,3,4,11] rfl ⟨⟩ ?_
 refine W.cond rfl (fun hb0=> ?_) (fun hb0=> ?_)
 ·try simp only[nb]at hb0
  have rM:=nG l (av .aA) k (by omega)
  refine W.skip ?_
  refine W.seq ?_
  refine W.block ?_
  refine W.fH X [(20,300)] [(20,⟨true,[.agg (fN (l.getD k (av .aA)))]⟩)] [0,3,4] [] rfl (by(repeat' with_reducible first|exact ah.nil|refine ah.mk ?_ ?_|apply And.intro)<;>first|exact w9 (l.getD k (av .aA)) (eL hx (getD_some l _ k hb0))| (intros;omega)) ?_
  have e1:=lB l (av .aA) k hb0
  refine W.r0 X [0,3,4] rfl ⟨⟩ ?_
  refine⟨k+1,by omega,by omega,?_⟩
  rw[aV _ k rfl (by omega), ←e1]
  try rfl
 ·try simp only[nb]at hb0
  refine W.exit ?_
  refine W.s0 X [2] rfl ⟨⟩ ?_
  refine W.ret ?_
  exact Fin.ret rfl ⟨by rw[List.take_of_length_le (by omega),show l.length-k=0 by omega,List.replicate_zero,List.append_nil],⟨⟩⟩
theorem HH(x:iS)(hx:b7 x≤1048576):Sound ty Tryz.prog 46 [.agg (cj x)] [.agg (cj x)]:=by
 refine Sound.o X Tryz.call46 Tryz.func46 Tryz.ntmps46 rfl rfl ?_
 intro zb
 have rT:=hx
 unfold b7 at rT
 refine W.s0 X [1,2] rfl ⟨⟩ ?_
 refine W.s0 X [1,2,3] rfl ⟨⟩ ?_
 refine W.s0 X [1,2,3] rfl ⟨⟩ ?_
 refine W.sr X [(9,230)] [(9,⟨true,[.a (.sl .aA x.rounds)]⟩)] [2,3] [] rfl ⟨vl x.rounds (by omega),⟨⟩⟩ ?_
 refine W.s0 X [2] rfl (by and_intros<;>exact⟨⟩) ?_
 refine W.ret ?_
 exact Fin.ret rfl (by(repeat' (first|exact True.intro|apply And.intro))<;>rfl)
theorem Cy(x:dV)(hx:bh x≤1048576):Sound ty Tryz.prog 188 [.agg (aX x)] [.agg (aX x)]:=by
 refine Sound.o X Tryz.call188 Tryz.func188 Tryz.ntmps188 rfl rfl ?_
 intro zb
 have rT:=hx
 unfold bh at rT
 refine W.s0 X [1,2] rfl ⟨⟩ ?_
 refine W.s0 X [1,2,3] rfl ⟨⟩ ?_
 refine W.s0 X [1,2,3] rfl ⟨⟩ ?_
 refine W.s0 X [1,2,3] rfl ⟨⟩ ?_
 refine W.s0 X [1,2,3] rfl ⟨⟩ ?_
 refine W.s0 X [1,2,3] rfl ⟨⟩ ?_
 refine W.sr X [(18,230)] [(18,⟨true,[.a (.sl (.sl .u8) x.aq)]⟩)] [1,2,3] [] rfl ⟨vk x.aq (by omega),⟨⟩⟩ ?_
 refine W.s0 X [1,2,3] rfl ⟨⟩ ?_
 refine W.sr X [(25,260)] [(25,⟨true,[.a (.sl (.sl .u8) x.inbox)]⟩)] [1,2,3] [] rfl ⟨vk x.inbox (by omega),⟨⟩⟩ ?_
 refine W.s0 X [2,3] rfl ⟨⟩ ?_
 refine W.s0 X [2] rfl (by and_intros<;>exact⟨⟩) ?_
 refine W.ret ?_
 exact Fin.ret rfl (by(repeat' (first|exact True.intro|apply And.intro))<;>rfl)
theorem J1(x:aL)(hx:aJ x≤1048576):Sound ty Tryz.prog 109 [.agg (bg x)] [.agg (bg x)]:=by
 refine Sound.o X Tryz.call109 Tryz.func109 Tryz.ntmps109 rfl rfl ?_
 intro zb
 have rT:=hx
 unfold aJ at rT
 refine W.s0 X [1,2] rfl ⟨⟩ ?_
 refine W.s0 X [1,2,3] rfl ⟨⟩ ?_
 refine W.sr X [(6,230)] [(6,⟨true,[.agg (aX x.live)]⟩)] [1,2,3] [] rfl ⟨Cy x.live (by omega),⟨⟩⟩ ?_
 refine W.sr X [(10,260)] [(10,⟨true,[.agg (aX x.saved)]⟩)] [2,3] [] rfl ⟨Cy x.saved (by omega),⟨⟩⟩ ?_
 refine W.s0 X [2] rfl (by and_intros<;>exact⟨⟩) ?_
 refine W.ret ?_
 exact Fin.ret rfl (by(repeat' (first|exact True.intro|apply And.intro))<;>rfl)
theorem HI(l:(List aL))(hx:((bL aJ) l)≤1048576):Sound ty Tryz.prog 45 [.a (.sl .aL l)] [.a (.sl .aL l)]:=by
 refine Sound.o X Tryz.call45 Tryz.func45 Tryz.ntmps45 rfl rfl ?_
 intro zb
 have hl:l.length≤1048576:=cg hx
 refine W.s0 X [0] rfl ⟨⟩ ?_
 refine W.s0 X [0,3] rfl (by and_intros<;>first|exact⟨⟩| (intros;omega)|exact rfl| (simp only[cN,maxLen,lens];omega)) ?_
 refine W.seq ?_
 refine W.s0 X [0,3,4] rfl ⟨⟩ ?_
 refine W.block ?_
 refine W.aI (fun k=>k≤l.length) (fun k:Nat=> [(4, .one (.a (.lit (.int .i64 k))))]) (fun k=> [(7, .arr .aL (l.take k++List.replicate (l.length-k) (av .aL)))]) (fun k=>l.length-k) 0 (fun k=>rfl) (Nat.zero_le _) rfl ?_
 intro k hk
 refine W.seq ?_
 refine W.s0 X [0,3,4,11] rfl ⟨⟩ ?_
 refine W.cond rfl (fun hb0=> ?_) (fun hb0=> ?_)
 ·try simp only[nb]at hb0
  have rM:=nG l (av .aL) k (by omega)
  refine W.skip ?_
  refine W.seq ?_
  refine W.block ?_
  refine W.fH X [(20,300)] [(20,⟨true,[.agg (bg (l.getD k (av .aL)))]⟩)] [0,3,4] [] rfl (by(repeat' with_reducible first|exact ah.nil|refine ah.mk ?_ ?_|apply And.intro)<;>first|exact J1 (l.getD k (av .aL)) (eL hx (getD_some l _ k hb0))| (intros;omega)) ?_
  have e1:=lB l (av .aL) k hb0
  refine W.r0 X [0,3,4] rfl ⟨⟩ ?_
  refine⟨k+1,by omega,by omega,?_⟩
  rw[aV _ k rfl (by omega), ←e1]
  try rfl
 ·try simp only[nb]at hb0
  refine W.exit ?_
  refine W.s0 X [2] rfl ⟨⟩ ?_
  refine W.ret ?_
  exact Fin.ret rfl ⟨by rw[List.take_of_length_le (by omega),show l.length-k=0 by omega,List.replicate_zero,List.append_nil],⟨⟩⟩
theorem PN(l:(List Int))(hx:(List.length l)≤1048576):Sound ty Tryz.prog 47 [.a (.sl .int l)] [.a (.sl .int l)]:=by
 refine Sound.o X Tryz.call47 Tryz.func47 Tryz.ntmps47 rfl rfl ?_
 intro zb
 have hl:l.length≤1048576:=hx
 refine W.s0 X [0] rfl ⟨⟩ ?_
 refine W.s0 X [0,3] rfl (by and_intros<;>first|exact⟨⟩| (intros;omega)|exact rfl| (simp only[cN,maxLen,lens];omega)) ?_
 refine W.seq ?_
 refine W.s0 X [0,3,4] rfl ⟨⟩ ?_
 refine W.block ?_
 refine W.aI (fun k=>k≤l.length) (fun k:Nat=> [(4, .one (.a (.lit (.int .i64 k))))]) (fun k=> [(7, .arr .int (l.take k++List.replicate (l.length-k) (av .int)))]) (fun k=>l.length-k) 0 (fun k=>rfl) (Nat.zero_le _) rfl ?_
 intro k hk
 refine W.seq ?_
 refine W.s0 X [0,3,4,11] rfl ⟨⟩ ?_
 refine W.cond rfl (fun hb0=> ?_) (fun hb0=> ?_)
 ·try simp only[nb]at hb0
  have rM:=nG l (av .int) k (by omega)
  refine W.skip ?_
  refine W.seq ?_
  refine W.block ?_
  refine W.r0 X [0,3,4] rfl (by and_intros<;>first|exact⟨⟩| (intros;omega)) ?_
  have e1:=lB l (av .int) k hb0
  refine W.r0 X [0,3,4] rfl ⟨⟩ ?_
  refine⟨k+1,by omega,by omega,?_⟩
  rw[aV _ k rfl (by omega), ←e1]
  try rfl
 ·try simp only[nb]at hb0
  refine W.exit ?_
  refine W.s0 X [2] rfl ⟨⟩ ?_
  refine W.ret ?_
  exact Fin.ret rfl ⟨by rw[List.take_of_length_le (by omega),show l.length-k=0 by omega,List.replicate_zero,List.append_nil],⟨⟩⟩
theorem xd(x:aB)(hx:bF x≤1048576):Sound ty Tryz.prog 268 [.agg (ff x)] [.agg (ff x)]:=by
 refine Sound.o X Tryz.call268 Tryz.func268 Tryz.ntmps268 rfl rfl ?_
 intro zb
 have rT:=hx
 unfold bF at rT
 refine W.s0 X [1,2] rfl ⟨⟩ ?_
 refine W.s0 X [1,2,3] rfl ⟨⟩ ?_
 refine W.s0 X [1,2,3] rfl ⟨⟩ ?_
 refine W.sr X [(9,230)] [(9,⟨true,[.agg (aH x.share)]⟩)] [2,3] [] rfl ⟨wZ x.share (by omega),⟨⟩⟩ ?_
 refine W.s0 X [2] rfl (by and_intros<;>exact⟨⟩) ?_
 refine W.ret ?_
 exact Fin.ret rfl (by(repeat' (first|exact True.intro|apply And.intro))<;>rfl)
theorem vm(l:(List aB))(hx:((bL bF) l)≤1048576):Sound ty Tryz.prog 187 [.a (.sl .aB l)] [.a (.sl .aB l)]:=by
 refine Sound.o X Tryz.call187 Tryz.func187 Tryz.ntmps187 rfl rfl ?_
 intro zb
 have hl:l.length≤1048576:=cg hx
 refine W.s0 X [0] rfl ⟨⟩ ?_
 refine W.s0 X [0,3] rfl (by and_intros<;>first|exact⟨⟩| (intros;omega)|exact rfl| (simp only[cN,maxLen,lens];omega)) ?_
 refine W.seq ?_
 refine W.s0 X [0,3,4] rfl ⟨⟩ ?_
 refine W.block ?_
 refine W.aI (fun k=>k≤l.length) (fun k:Nat=> [(4, .one (.a (.lit (.int .i64 k))))]) (fun k=> [(7, .arr .aB (l.take k++List.replicate (l.length-k) (av .aB)))]) (fun k=>l.length-k) 0 (fun k=>rfl) (Nat.zero_le _) rfl ?_
 intro k hk
 refine W.seq ?_
 refine W.s0 X [0,3,4,11] rfl ⟨⟩ ?_
 refine W.cond rfl (fun hb0=> ?_) (fun hb0=> ?_)
 ·try simp only[nb]at hb0
  have rM:=nG l (av .aB) k (by omega)
  refine W.skip ?_
  refine W.seq ?_
  refine W.block ?_
  refine W.fH X [(20,300)] [(20,⟨true,[.agg (ff (l.getD k (av .aB)))]⟩)] [0,3,4] [] rfl (by(repeat' with_reducible first|exact ah.nil|refine ah.mk ?_ ?_|apply And.intro)<;>first|exact xd (l.getD k (av .aB)) (eL hx (getD_some l _ k hb0))| (intros;omega)) ?_
  have e1:=lB l (av .aB) k hb0
  refine W.r0 X [0,3,4] rfl ⟨⟩ ?_
  refine⟨k+1,by omega,by omega,?_⟩
  rw[aV _ k rfl (by omega), ←e1]
  try rfl
 ·try simp only[nb]at hb0
  refine W.exit ?_
  refine W.s0 X [2] rfl ⟨⟩ ?_
  refine W.ret ?_
  exact Fin.ret rfl ⟨by rw[List.take_of_length_le (by omega),show l.length-k=0 by omega,List.replicate_zero,List.append_nil],⟨⟩⟩
theorem J2(x:aU)(hx:bl x≤1048576):Sound ty Tryz.prog 108 [.agg (bw x)] [.agg (bw x)]:=by
 refine Sound.o X Tryz.call108 Tryz.func108 Tryz.ntmps108 rfl rfl ?_
 intro zb
 have rT:=hx
 unfold bl at rT
 refine W.s0 X [1,2] rfl ⟨⟩ ?_
 refine W.s0 X [1,2,3] rfl ⟨⟩ ?_
 refine W.s0 X [1,2,3] rfl ⟨⟩ ?_
 refine W.s0 X [1,2,3] rfl ⟨⟩ ?_
 refine W.s0 X [1,2,3] rfl ⟨⟩ ?_
 refine W.sr X [(15,230)] [(15,⟨true,[.a (.sl .aB x.received)]⟩)] [1,2,3] [] rfl ⟨vm x.received (by omega),⟨⟩⟩ ?_
 refine W.s0 X [2,3] rfl ⟨⟩ ?_
 refine W.s0 X [2] rfl (by and_intros<;>exact⟨⟩) ?_
 refine W.ret ?_
 exact Fin.ret rfl (by(repeat' (first|exact True.intro|apply And.intro))<;>rfl)
theorem HJ(l:(List aU))(hx:((bL bl) l)≤1048576):Sound ty Tryz.prog 44 [.a (.sl .aU l)] [.a (.sl .aU l)]:=by
 refine Sound.o X Tryz.call44 Tryz.func44 Tryz.ntmps44 rfl rfl ?_
 intro zb
 have hl:l.length≤1048576:=cg hx
 refine W.s0 X [0] rfl ⟨⟩ ?_
 refine W.s0 X [0,3] rfl (by and_intros<;>first|exact⟨⟩| (intros;omega)|exact rfl| (simp only[cN,maxLen,lens];omega)) ?_
 refine W.seq ?_
 refine W.s0 X [0,3,4] rfl ⟨⟩ ?_
 refine W.block ?_
 refine W.aI (fun k=>k≤l.length) (fun k:Nat=> [(4, .one (.a (.lit (.int .i64 k))))]) (fun k=> [(7, .arr .aU (l.take k++List.replicate (l.length-k) (av .aU)))]) (fun k=>l.length-k) 0 (fun k=>rfl) (Nat.zero_le _) rfl ?_
 intro k hk
 refine W.seq ?_
 refine W.s0 X [0,3,4,11] rfl ⟨⟩ ?_
 refine W.cond rfl (fun hb0=> ?_) (fun hb0=> ?_)
 ·try simp only[nb]at hb0
  have rM:=nG l (av .aU) k (by omega)
  refine W.skip ?_
  refine W.seq ?_
  refine W.block ?_
  refine W.fH X [(20,300)] [(20,⟨true,[.agg (bw (l.getD k (av .aU)))]⟩)] [0,3,4] [] rfl (by(repeat' with_reducible first|exact ah.nil|refine ah.mk ?_ ?_|apply And.intro)<;>first|exact J2 (l.getD k (av .aU)) (eL hx (getD_some l _ k hb0))| (intros;omega)) ?_
  have e1:=lB l (av .aU) k hb0
  refine W.r0 X [0,3,4] rfl ⟨⟩ ?_
  refine⟨k+1,by omega,by omega,?_⟩
  rw[aV _ k rfl (by omega), ←e1]
  try rfl
 ·try simp only[nb]at hb0
  refine W.exit ?_
  refine W.s0 X [2] rfl ⟨⟩ ?_
  refine W.ret ?_
  exact Fin.ret rfl ⟨by rw[List.take_of_length_le (by omega),show l.length-k=0 by omega,List.replicate_zero,List.append_nil],⟨⟩⟩
theorem bU(x:aN)(hx:bB x≤1048576):Sound ty Tryz.prog 12 [.agg (ay x)] [.agg (ay x)]:=by
 refine Sound.o X Tryz.call12 Tryz.func12 Tryz.ntmps12 rfl rfl ?_
 intro zb
 have rT:=hx
 unfold bB at rT
 refine W.s0 X [1,2] rfl ⟨⟩ ?_
 refine W.s0 X [1,2,3] rfl ⟨⟩ ?_
 refine W.s0 X [1,2,3] rfl ⟨⟩ ?_
 refine W.sr X [(9,230)] [(9,⟨true,[.a (.sl .aU x.aj)]⟩)] [1,2,3] [] rfl ⟨HJ x.aj (by omega),⟨⟩⟩ ?_
 refine W.sr X [(13,260)] [(13,⟨true,[.a (.sl .aL x.aa)]⟩)] [1,2,3] [] rfl ⟨HI x.aa (by omega),⟨⟩⟩ ?_
 refine W.sr X [(17,290)] [(17,⟨true,[.agg (cj x.ak)]⟩)] [1,2,3] [] rfl ⟨HH x.ak (by omega),⟨⟩⟩ ?_
 refine W.s0 X [1,2,3] rfl ⟨⟩ ?_
 refine W.s0 X [1,2,3] rfl ⟨⟩ ?_
 refine W.s0 X [1,2,3] rfl ⟨⟩ ?_
 refine W.sr X [(30,320)] [(30,⟨true,[.a (.sl .int x.replaced)]⟩)] [1,2,3] [] rfl ⟨PN x.replaced (by omega),⟨⟩⟩ ?_
 refine W.s0 X [2,3] rfl ⟨⟩ ?_
 refine W.s0 X [2] rfl (by and_intros<;>exact⟨⟩) ?_
 refine W.ret ?_
 exact Fin.ret rfl (by(repeat' (first|exact True.intro|apply And.intro))<;>rfl)
end
section
set_option maxRecDepth 100000
theorem Ez(l:(List UInt8)):Sound ty Tryz.prog 88 [.a (.sl .u8 l), .a (.sl .u8 l)] [.a (.lit (.bool true))]:=by
 refine Sound.o X Tryz.call88 Tryz.func88 Tryz.ntmps88 rfl rfl ?_
 intro zb
 refine W.bound 0 rfl fun hl=> ?_
 refine W.s0 X [0,1] rfl ⟨⟩ ?_
 refine W.seq ?_
 refine W.s0 X [0,1,10] rfl ⟨⟩ ?_
 refine W.cond rfl (fun hb0=> ?_) (fun hb0=> ?_)
 ·exact absurd hb0 (by simp)
 ·clear hb0
  refine W.skip ?_
  refine W.seq ?_
  refine W.s0 X [0,1,5] rfl ⟨⟩ ?_
  refine W.block ?_
  refine W.aI (fun k=>k≤l.length) (fun k:Nat=> [(5, .one (.a (.lit (.int .i64 k))))]) (fun k=> []) (fun k=>l.length-k) 0 (fun k=>rfl) (Nat.zero_le _) rfl ?_
  intro k hk
  refine W.seq ?_
  refine W.s0 X [0,1,5,14] rfl ⟨⟩ ?_
  refine W.cond rfl (fun aD=> ?_) (fun aD=> ?_)
  ·try simp only[nb]at aD
   refine W.skip ?_
   refine W.seq ?_
   refine W.block ?_
   refine W.sd X [] [] [0,1,5,25] [] 9 MO (by kernel_rfl) rfl (by and_intros<;>first|exact⟨⟩| (intros;omega)) ?_
   refine W.cond rfl (fun aR=> ?_) (fun aR=> ?_)
   ·exact absurd aR (by simp)
   ·clear aR
    refine W.skip ?_
    refine W.r0 X [0,1,5] rfl ⟨⟩ ?_
    refine⟨k+1,by omega,by omega,?_⟩
    rw[aV _ k rfl (by omega)]
    try rfl
  ·try simp only[nb]at aD
   refine W.exit ?_
   refine W.s0 X [4] rfl ⟨⟩ ?_
   refine W.ret ?_
   exact Fin.ret rfl ⟨rfl,⟨⟩⟩
theorem vn(l:(List (List UInt8))):Sound ty Tryz.prog 299 [.a (.sl (.sl .u8) l), .a (.sl (.sl .u8) l)] [.a (.lit (.bool true))]:=by
 refine Sound.o X Tryz.call299 Tryz.func299 Tryz.ntmps299 rfl rfl ?_
 intro zb
 refine W.bound 0 rfl fun hl=> ?_
 refine W.s0 X [0,1] rfl ⟨⟩ ?_
 refine W.seq ?_
 refine W.s0 X [0,1,10] rfl ⟨⟩ ?_
 refine W.cond rfl (fun hb0=> ?_) (fun hb0=> ?_)
 ·exact absurd hb0 (by simp)
 ·clear hb0
  refine W.skip ?_
  refine W.seq ?_
  refine W.s0 X [0,1,5] rfl ⟨⟩ ?_
  refine W.block ?_
  refine W.aI (fun k=>k≤l.length) (fun k:Nat=> [(5, .one (.a (.lit (.int .i64 k))))]) (fun k=> []) (fun k=>l.length-k) 0 (fun k=>rfl) (Nat.zero_le _) rfl ?_
  intro k hk
  refine W.seq ?_
  refine W.s0 X [0,1,5,14] rfl ⟨⟩ ?_
  refine W.cond rfl (fun aD=> ?_) (fun aD=> ?_)
  ·try simp only[nb]at aD
   refine W.skip ?_
   refine W.seq ?_
   refine W.block ?_
   refine W.sd X [] [(25,⟨false,[.a (.lit (.bool true))]⟩)] [0,1,5,26] [] 10 MO (by kernel_rfl) rfl ⟨Ez (l.getD k (av (.sl .u8))),by omega,by omega,⟨⟩⟩ ?_
   refine W.cond rfl (fun aR=> ?_) (fun aR=> ?_)
   ·exact absurd aR (by simp)
   ·clear aR
    refine W.skip ?_
    refine W.r0 X [0,1,5] rfl ⟨⟩ ?_
    refine⟨k+1,by omega,by omega,?_⟩
    rw[aV _ k rfl (by omega)]
    try rfl
  ·try simp only[nb]at aD
   refine W.exit ?_
   refine W.s0 X [4] rfl ⟨⟩ ?_
   refine W.ret ?_
   exact Fin.ret rfl ⟨rfl,⟨⟩⟩
theorem xe(x:DB):Sound ty Tryz.prog 300 [.agg (aH x), .agg (aH x)] [.a (.lit (.bool true))]:=by
 refine Sound.o X Tryz.call300 Tryz.func300 Tryz.ntmps300 rfl rfl ?_
 intro zb
 refine W.s0 X [2,3] rfl ⟨⟩ ?_
 refine W.seq ?_
 refine W.sr X [] [(9,⟨false,[.a (.lit (.bool true))]⟩)] [10] [] rfl ⟨vn x.rows,⟨⟩⟩ ?_
 refine W.cond rfl (fun hb0=> ?_) (fun hb0=> ?_)
 ·exact absurd hb0 (by simp)
 ·clear hb0
  refine W.skip ?_
  refine W.s0 X [4] rfl ⟨⟩ ?_
  refine W.ret ?_
  exact Fin.ret rfl ⟨rfl,⟨⟩⟩
theorem xg(x:aA):Sound ty Tryz.prog 230 [.agg (fN x), .agg (fN x)] [.a (.lit (.bool true))]:=by
 refine Sound.o X Tryz.call230 Tryz.func230 Tryz.ntmps230 rfl rfl ?_
 intro zb
 refine W.s0 X [2,3] rfl ⟨⟩ ?_
 refine W.seq ?_
 refine W.s0 X [2,3,9] rfl ⟨⟩ ?_
 refine W.cond rfl (fun hb0=> ?_) (fun hb0=> ?_)
 ·exact absurd hb0 (by simp)
 ·clear hb0
  refine W.skip ?_
  refine W.seq ?_
  refine W.sr X [] [(14,⟨false,[.a (.lit (.bool true))]⟩)] [15] [] rfl ⟨xe x.db,⟨⟩⟩ ?_
  refine W.cond rfl (fun aD=> ?_) (fun aD=> ?_)
  ·exact absurd aD (by simp)
  ·clear aD
   refine W.skip ?_
   refine W.s0 X [4] rfl ⟨⟩ ?_
   refine W.ret ?_
   exact Fin.ret rfl ⟨rfl,⟨⟩⟩
theorem vo(l:(List aA)):Sound ty Tryz.prog 142 [.a (.sl .aA l), .a (.sl .aA l)] [.a (.lit (.bool true))]:=by
 refine Sound.o X Tryz.call142 Tryz.func142 Tryz.ntmps142 rfl rfl ?_
 intro zb
 refine W.bound 0 rfl fun hl=> ?_
 refine W.s0 X [0,1] rfl ⟨⟩ ?_
 refine W.seq ?_
 refine W.s0 X [0,1,10] rfl ⟨⟩ ?_
 refine W.cond rfl (fun hb0=> ?_) (fun hb0=> ?_)
 ·exact absurd hb0 (by simp)
 ·clear hb0
  refine W.skip ?_
  refine W.seq ?_
  refine W.s0 X [0,1,5] rfl ⟨⟩ ?_
  refine W.block ?_
  refine W.aI (fun k=>k≤l.length) (fun k:Nat=> [(5, .one (.a (.lit (.int .i64 k))))]) (fun k=> []) (fun k=>l.length-k) 0 (fun k=>rfl) (Nat.zero_le _) rfl ?_
  intro k hk
  refine W.seq ?_
  refine W.s0 X [0,1,5,14] rfl ⟨⟩ ?_
  refine W.cond rfl (fun aD=> ?_) (fun aD=> ?_)
  ·try simp only[nb]at aD
   refine W.skip ?_
   refine W.seq ?_
   refine W.block ?_
   refine W.sd X [] [(25,⟨false,[.a (.lit (.bool true))]⟩)] [0,1,5,26] [] 10 MO (by kernel_rfl) rfl ⟨xg (l.getD k (av .aA)),by omega,by omega,⟨⟩⟩ ?_
   refine W.cond rfl (fun aR=> ?_) (fun aR=> ?_)
   ·exact absurd aR (by simp)
   ·clear aR
    refine W.skip ?_
    refine W.r0 X [0,1,5] rfl ⟨⟩ ?_
    refine⟨k+1,by omega,by omega,?_⟩
    rw[aV _ k rfl (by omega)]
    try rfl
  ·try simp only[nb]at aD
   refine W.exit ?_
   refine W.s0 X [4] rfl ⟨⟩ ?_
   refine W.ret ?_
   exact Fin.ret rfl ⟨rfl,⟨⟩⟩
theorem HK(x:iS):Sound ty Tryz.prog 59 [.agg (cj x), .agg (cj x)] [.a (.lit (.bool true))]:=by
 refine Sound.o X Tryz.call59 Tryz.func59 Tryz.ntmps59 rfl rfl ?_
 intro zb
 refine W.s0 X [2,3] rfl ⟨⟩ ?_
 refine W.seq ?_
 refine W.s0 X [2,3,9] rfl ⟨⟩ ?_
 refine W.cond rfl (fun hb0=> ?_) (fun hb0=> ?_)
 ·exact absurd hb0 (by simp)
 ·clear hb0
  refine W.skip ?_
  refine W.seq ?_
  refine W.sr X [] [(14,⟨false,[.a (.lit (.bool true))]⟩)] [15] [] rfl ⟨vo x.rounds,⟨⟩⟩ ?_
  refine W.cond rfl (fun aD=> ?_) (fun aD=> ?_)
  ·exact absurd aD (by simp)
  ·clear aD
   refine W.skip ?_
   refine W.s0 X [4] rfl ⟨⟩ ?_
   refine W.ret ?_
   exact Fin.ret rfl ⟨rfl,⟨⟩⟩
theorem Cz(x:dV):Sound ty Tryz.prog 229 [.agg (aX x), .agg (aX x)] [.a (.lit (.bool true))]:=by
 refine Sound.o X Tryz.call229 Tryz.func229 Tryz.ntmps229 rfl rfl ?_
 intro zb
 refine W.s0 X [2,3] rfl ⟨⟩ ?_
 refine W.seq ?_
 refine W.s0 X [2,3,9] rfl ⟨⟩ ?_
 refine W.cond rfl (fun hb0=> ?_) (fun hb0=> ?_)
 ·exact absurd hb0 (by simp)
 ·clear hb0
  refine W.skip ?_
  refine W.seq ?_
  refine W.s0 X [2,3,14] rfl ⟨⟩ ?_
  refine W.cond rfl (fun aD=> ?_) (fun aD=> ?_)
  ·exact absurd aD (by simp)
  ·clear aD
   refine W.skip ?_
   refine W.seq ?_
   refine W.s0 X [2,3,19] rfl ⟨⟩ ?_
   refine W.cond rfl (fun aR=> ?_) (fun aR=> ?_)
   ·exact absurd aR (by simp)
   ·clear aR
    refine W.skip ?_
    refine W.seq ?_
    refine W.s0 X [2,3,24] rfl ⟨⟩ ?_
    refine W.cond rfl (fun dS=> ?_) (fun dS=> ?_)
    ·exact absurd dS (by simp)
    ·clear dS
     refine W.skip ?_
     refine W.seq ?_
     refine W.sr X [] [(29,⟨false,[.a (.lit (.bool true))]⟩)] [2,3,30] [] rfl ⟨vn x.aq,⟨⟩⟩ ?_
     refine W.cond rfl (fun hY=> ?_) (fun hY=> ?_)
     ·exact absurd hY (by simp)
     ·clear hY
      refine W.skip ?_
      refine W.seq ?_
      refine W.s0 X [2,3,35] rfl ⟨⟩ ?_
      refine W.cond rfl (fun mO=> ?_) (fun mO=> ?_)
      ·exact absurd mO (by simp)
      ·clear mO
       refine W.skip ?_
       refine W.seq ?_
       refine W.sr X [] [(40,⟨false,[.a (.lit (.bool true))]⟩)] [2,3,41] [] rfl ⟨vn x.inbox,⟨⟩⟩ ?_
       refine W.cond rfl (fun oK=> ?_) (fun oK=> ?_)
       ·exact absurd oK (by simp)
       ·clear oK
        refine W.skip ?_
        refine W.seq ?_
        refine W.s0 X [46] rfl ⟨⟩ ?_
        refine W.cond rfl (fun vp=> ?_) (fun vp=> ?_)
        ·exact absurd vp (by simp)
        ·clear vp
         refine W.skip ?_
         refine W.s0 X [4] rfl ⟨⟩ ?_
         refine W.ret ?_
         exact Fin.ret rfl ⟨rfl,⟨⟩⟩
theorem J3(x:aL):Sound ty Tryz.prog 141 [.agg (bg x), .agg (bg x)] [.a (.lit (.bool true))]:=by
 refine Sound.o X Tryz.call141 Tryz.func141 Tryz.ntmps141 rfl rfl ?_
 intro zb
 refine W.s0 X [2,3] rfl ⟨⟩ ?_
 refine W.seq ?_
 refine W.sr X [] [(9,⟨false,[.a (.lit (.bool true))]⟩)] [2,3,10] [] rfl ⟨Cz x.live,⟨⟩⟩ ?_
 refine W.cond rfl (fun hb0=> ?_) (fun hb0=> ?_)
 ·exact absurd hb0 (by simp)
 ·clear hb0
  refine W.skip ?_
  refine W.seq ?_
  refine W.sr X [] [(15,⟨false,[.a (.lit (.bool true))]⟩)] [16] [] rfl ⟨Cz x.saved,⟨⟩⟩ ?_
  refine W.cond rfl (fun aD=> ?_) (fun aD=> ?_)
  ·exact absurd aD (by simp)
  ·clear aD
   refine W.skip ?_
   refine W.s0 X [4] rfl ⟨⟩ ?_
   refine W.ret ?_
   exact Fin.ret rfl ⟨rfl,⟨⟩⟩
theorem HL(l:(List aL)):Sound ty Tryz.prog 58 [.a (.sl .aL l), .a (.sl .aL l)] [.a (.lit (.bool true))]:=by
 refine Sound.o X Tryz.call58 Tryz.func58 Tryz.ntmps58 rfl rfl ?_
 intro zb
 refine W.bound 0 rfl fun hl=> ?_
 refine W.s0 X [0,1] rfl ⟨⟩ ?_
 refine W.seq ?_
 refine W.s0 X [0,1,10] rfl ⟨⟩ ?_
 refine W.cond rfl (fun hb0=> ?_) (fun hb0=> ?_)
 ·exact absurd hb0 (by simp)
 ·clear hb0
  refine W.skip ?_
  refine W.seq ?_
  refine W.s0 X [0,1,5] rfl ⟨⟩ ?_
  refine W.block ?_
  refine W.aI (fun k=>k≤l.length) (fun k:Nat=> [(5, .one (.a (.lit (.int .i64 k))))]) (fun k=> []) (fun k=>l.length-k) 0 (fun k=>rfl) (Nat.zero_le _) rfl ?_
  intro k hk
  refine W.seq ?_
  refine W.s0 X [0,1,5,14] rfl ⟨⟩ ?_
  refine W.cond rfl (fun aD=> ?_) (fun aD=> ?_)
  ·try simp only[nb]at aD
   refine W.skip ?_
   refine W.seq ?_
   refine W.block ?_
   refine W.sd X [] [(25,⟨false,[.a (.lit (.bool true))]⟩)] [0,1,5,26] [] 10 MO (by kernel_rfl) rfl ⟨J3 (l.getD k (av .aL)),by omega,by omega,⟨⟩⟩ ?_
   refine W.cond rfl (fun aR=> ?_) (fun aR=> ?_)
   ·exact absurd aR (by simp)
   ·clear aR
    refine W.skip ?_
    refine W.r0 X [0,1,5] rfl ⟨⟩ ?_
    refine⟨k+1,by omega,by omega,?_⟩
    rw[aV _ k rfl (by omega)]
    try rfl
  ·try simp only[nb]at aD
   refine W.exit ?_
   refine W.s0 X [4] rfl ⟨⟩ ?_
   refine W.ret ?_
   exact Fin.ret rfl ⟨rfl,⟨⟩⟩
theorem PO(l:(List Int)):Sound ty Tryz.prog 60 [.a (.sl .int l), .a (.sl .int l)] [.a (.lit (.bool true))]:=by
 refine Sound.o X Tryz.call60 Tryz.func60 Tryz.ntmps60 rfl rfl ?_
 intro zb
 refine W.bound 0 rfl fun hl=> ?_
 refine W.s0 X [0,1] rfl ⟨⟩ ?_
 refine W.seq ?_
 refine W.s0 X [0,1,10] rfl ⟨⟩ ?_
 refine W.cond rfl (fun hb0=> ?_) (fun hb0=> ?_)
 ·exact absurd hb0 (by simp)
 ·clear hb0
  refine W.skip ?_
  refine W.seq ?_
  refine W.s0 X [0,1,5] rfl ⟨⟩ ?_
  refine W.block ?_
  refine W.aI (fun k=>k≤l.length) (fun k:Nat=> [(5, .one (.a (.lit (.int .i64 k))))]) (fun k=> []) (fun k=>l.length-k) 0 (fun k=>rfl) (Nat.zero_le _) rfl ?_
  intro k hk
  refine W.seq ?_
  refine W.s0 X [0,1,5,14] rfl ⟨⟩ ?_
  refine W.cond rfl (fun aD=> ?_) (fun aD=> ?_)
  ·try simp only[nb]at aD
   refine W.skip ?_
   refine W.seq ?_
   refine W.block ?_
   refine W.sd X [] [] [0,1,5,25] [] 9 MO (by kernel_rfl) rfl (by and_intros<;>first|exact⟨⟩| (intros;omega)) ?_
   refine W.cond rfl (fun aR=> ?_) (fun aR=> ?_)
   ·exact absurd aR (by simp)
   ·clear aR
    refine W.skip ?_
    refine W.r0 X [0,1,5] rfl ⟨⟩ ?_
    refine⟨k+1,by omega,by omega,?_⟩
    rw[aV _ k rfl (by omega)]
    try rfl
  ·try simp only[nb]at aD
   refine W.exit ?_
   refine W.s0 X [4] rfl ⟨⟩ ?_
   refine W.ret ?_
   exact Fin.ret rfl ⟨rfl,⟨⟩⟩
theorem xh(x:aB):Sound ty Tryz.prog 298 [.agg (ff x), .agg (ff x)] [.a (.lit (.bool true))]:=by
 refine Sound.o X Tryz.call298 Tryz.func298 Tryz.ntmps298 rfl rfl ?_
 intro zb
 refine W.s0 X [2,3] rfl ⟨⟩ ?_
 refine W.seq ?_
 refine W.s0 X [2,3,9] rfl ⟨⟩ ?_
 refine W.cond rfl (fun hb0=> ?_) (fun hb0=> ?_)
 ·exact absurd hb0 (by simp)
 ·clear hb0
  refine W.skip ?_
  refine W.seq ?_
  refine W.sr X [] [(14,⟨false,[.a (.lit (.bool true))]⟩)] [15] [] rfl ⟨xe x.share,⟨⟩⟩ ?_
  refine W.cond rfl (fun aD=> ?_) (fun aD=> ?_)
  ·exact absurd aD (by simp)
  ·clear aD
   refine W.skip ?_
   refine W.s0 X [4] rfl ⟨⟩ ?_
   refine W.ret ?_
   exact Fin.ret rfl ⟨rfl,⟨⟩⟩
theorem vr(l:(List aB)):Sound ty Tryz.prog 228 [.a (.sl .aB l), .a (.sl .aB l)] [.a (.lit (.bool true))]:=by
 refine Sound.o X Tryz.call228 Tryz.func228 Tryz.ntmps228 rfl rfl ?_
 intro zb
 refine W.bound 0 rfl fun hl=> ?_
 refine W.s0 X [0,1] rfl ⟨⟩ ?_
 refine W.seq ?_
 refine W.s0 X [0,1,10] rfl ⟨⟩ ?_
 refine W.cond rfl (fun hb0=> ?_) (fun hb0=> ?_)
 ·exact absurd hb0 (by simp)
 ·clear hb0
  refine W.skip ?_
  refine W.seq ?_
  refine W.s0 X [0,1,5] rfl ⟨⟩ ?_
  refine W.block ?_
  refine W.aI (fun k=>k≤l.length) (fun k:Nat=> [(5, .one (.a (.lit (.int .i64 k))))]) (fun k=> []) (fun k=>l.length-k) 0 (fun k=>rfl) (Nat.zero_le _) rfl ?_
  intro k hk
  refine W.seq ?_
  refine W.s0 X [0,1,5,14] rfl ⟨⟩ ?_
  refine W.cond rfl (fun aD=> ?_) (fun aD=> ?_)
  ·try simp only[nb]at aD
   refine W.skip ?_
   refine W.seq ?_
   refine W.block ?_
   refine W.sd X [] [(25,⟨false,[.a (.lit (.bool true))]⟩)] [0,1,5,26] [] 10 MO (by kernel_rfl) rfl ⟨xh (l.getD k (av .aB)),by omega,by omega,⟨⟩⟩ ?_
   refine W.cond rfl (fun aR=> ?_) (fun aR=> ?_)
   ·exact absurd aR (by simp)
   ·clear aR
    refine W.skip ?_
    refine W.r0 X [0,1,5] rfl ⟨⟩ ?_
    refine⟨k+1,by omega,by omega,?_⟩
    rw[aV _ k rfl (by omega)]
    try rfl
  ·try simp only[nb]at aD
   refine W.exit ?_
   refine W.s0 X [4] rfl ⟨⟩ ?_
   refine W.ret ?_
   exact Fin.ret rfl ⟨rfl,⟨⟩⟩
theorem J4(x:aU):Sound ty Tryz.prog 140 [.agg (bw x), .agg (bw x)] [.a (.lit (.bool true))]:=by
 refine Sound.o X Tryz.call140 Tryz.func140 Tryz.ntmps140 rfl rfl ?_
 intro zb
 refine W.s0 X [2,3] rfl ⟨⟩ ?_
 refine W.seq ?_
 refine W.s0 X [2,3,9] rfl ⟨⟩ ?_
 refine W.cond rfl (fun hb0=> ?_) (fun hb0=> ?_)
 ·exact absurd hb0 (by simp)
 ·clear hb0
  refine W.skip ?_
  refine W.seq ?_
  refine W.s0 X [2,3,14] rfl ⟨⟩ ?_
  refine W.cond rfl (fun aD=> ?_) (fun aD=> ?_)
  ·exact absurd aD (by simp)
  ·clear aD
   refine W.skip ?_
   refine W.seq ?_
   refine W.s0 X [2,3,19] rfl ⟨⟩ ?_
   refine W.cond rfl (fun aR=> ?_) (fun aR=> ?_)
   ·exact absurd aR (by simp)
   ·clear aR
    refine W.skip ?_
    refine W.seq ?_
    refine W.sr X [] [(24,⟨false,[.a (.lit (.bool true))]⟩)] [2,3,25] [] rfl ⟨vr x.received,⟨⟩⟩ ?_
    refine W.cond rfl (fun dS=> ?_) (fun dS=> ?_)
    ·exact absurd dS (by simp)
    ·clear dS
     refine W.skip ?_
     refine W.seq ?_
     refine W.s0 X [30] rfl ⟨⟩ ?_
     refine W.cond rfl (fun hY=> ?_) (fun hY=> ?_)
     ·exact absurd hY (by simp)
     ·clear hY
      refine W.skip ?_
      refine W.s0 X [4] rfl ⟨⟩ ?_
      refine W.ret ?_
      exact Fin.ret rfl ⟨rfl,⟨⟩⟩
theorem HM(l:(List aU)):Sound ty Tryz.prog 57 [.a (.sl .aU l), .a (.sl .aU l)] [.a (.lit (.bool true))]:=by
 refine Sound.o X Tryz.call57 Tryz.func57 Tryz.ntmps57 rfl rfl ?_
 intro zb
 refine W.bound 0 rfl fun hl=> ?_
 refine W.s0 X [0,1] rfl ⟨⟩ ?_
 refine W.seq ?_
 refine W.s0 X [0,1,10] rfl ⟨⟩ ?_
 refine W.cond rfl (fun hb0=> ?_) (fun hb0=> ?_)
 ·exact absurd hb0 (by simp)
 ·clear hb0
  refine W.skip ?_
  refine W.seq ?_
  refine W.s0 X [0,1,5] rfl ⟨⟩ ?_
  refine W.block ?_
  refine W.aI (fun k=>k≤l.length) (fun k:Nat=> [(5, .one (.a (.lit (.int .i64 k))))]) (fun k=> []) (fun k=>l.length-k) 0 (fun k=>rfl) (Nat.zero_le _) rfl ?_
  intro k hk
  refine W.seq ?_
  refine W.s0 X [0,1,5,14] rfl ⟨⟩ ?_
  refine W.cond rfl (fun aD=> ?_) (fun aD=> ?_)
  ·try simp only[nb]at aD
   refine W.skip ?_
   refine W.seq ?_
   refine W.block ?_
   refine W.sd X [] [(25,⟨false,[.a (.lit (.bool true))]⟩)] [0,1,5,26] [] 10 MO (by kernel_rfl) rfl ⟨J4 (l.getD k (av .aU)),by omega,by omega,⟨⟩⟩ ?_
   refine W.cond rfl (fun aR=> ?_) (fun aR=> ?_)
   ·exact absurd aR (by simp)
   ·clear aR
    refine W.skip ?_
    refine W.r0 X [0,1,5] rfl ⟨⟩ ?_
    refine⟨k+1,by omega,by omega,?_⟩
    rw[aV _ k rfl (by omega)]
    try rfl
  ·try simp only[nb]at aD
   refine W.exit ?_
   refine W.s0 X [4] rfl ⟨⟩ ?_
   refine W.ret ?_
   exact Fin.ret rfl ⟨rfl,⟨⟩⟩
theorem cu(x:aN):Sound ty Tryz.prog 14 [.agg (ay x), .agg (ay x)] [.a (.lit (.bool true))]:=by
 refine Sound.o X Tryz.call14 Tryz.func14 Tryz.ntmps14 rfl rfl ?_
 intro zb
 refine W.s0 X [2,3] rfl ⟨⟩ ?_
 refine W.seq ?_
 refine W.s0 X [2,3,9] rfl ⟨⟩ ?_
 refine W.cond rfl (fun hb0=> ?_) (fun hb0=> ?_)
 ·exact absurd hb0 (by simp)
 ·clear hb0
  refine W.skip ?_
  refine W.seq ?_
  refine W.sr X [] [(14,⟨false,[.a (.lit (.bool true))]⟩)] [2,3,15] [] rfl ⟨HM x.aj,⟨⟩⟩ ?_
  refine W.cond rfl (fun aD=> ?_) (fun aD=> ?_)
  ·exact absurd aD (by simp)
  ·clear aD
   refine W.skip ?_
   refine W.seq ?_
   refine W.sr X [] [(20,⟨false,[.a (.lit (.bool true))]⟩)] [2,3,21] [] rfl ⟨HL x.aa,⟨⟩⟩ ?_
   refine W.cond rfl (fun aR=> ?_) (fun aR=> ?_)
   ·exact absurd aR (by simp)
   ·clear aR
    refine W.skip ?_
    refine W.seq ?_
    refine W.sr X [] [(26,⟨false,[.a (.lit (.bool true))]⟩)] [2,3,27] [] rfl ⟨HK x.ak,⟨⟩⟩ ?_
    refine W.cond rfl (fun dS=> ?_) (fun dS=> ?_)
    ·exact absurd dS (by simp)
    ·clear dS
     refine W.skip ?_
     refine W.seq ?_
     refine W.s0 X [2,3,32] rfl ⟨⟩ ?_
     refine W.cond rfl (fun hY=> ?_) (fun hY=> ?_)
     ·exact absurd hY (by simp)
     ·clear hY
      refine W.skip ?_
      refine W.seq ?_
      refine W.s0 X [2,3,37] rfl ⟨⟩ ?_
      refine W.cond rfl (fun mO=> ?_) (fun mO=> ?_)
      ·exact absurd mO (by simp)
      ·clear mO
       refine W.skip ?_
       refine W.seq ?_
       refine W.s0 X [2,3,42] rfl ⟨⟩ ?_
       refine W.cond rfl (fun oK=> ?_) (fun oK=> ?_)
       ·exact absurd oK (by simp)
       ·clear oK
        refine W.skip ?_
        refine W.seq ?_
        refine W.sr X [] [(47,⟨false,[.a (.lit (.bool true))]⟩)] [2,3,48] [] rfl ⟨PO x.replaced,⟨⟩⟩ ?_
        refine W.cond rfl (fun vp=> ?_) (fun vp=> ?_)
        ·exact absurd vp (by simp)
        ·clear vp
         refine W.skip ?_
         refine W.seq ?_
         refine W.s0 X [53] rfl ⟨⟩ ?_
         refine W.cond rfl (fun yP=> ?_) (fun yP=> ?_)
         ·exact absurd yP (by simp)
         ·clear yP
          refine W.skip ?_
          refine W.s0 X [4] rfl ⟨⟩ ?_
          refine W.ret ?_
          exact Fin.ret rfl ⟨rfl,⟨⟩⟩
end
section
theorem cC{a:Int}(h: -9223372036854775808≤a∧a≤9223372036854775807):IntKind.i64.wrap a=a:=IntWalk.i64_in _ (by omega)
theorem F0(n:Int):IntKind.u8.wrap n=n % 256:=by
 unfold IntKind.wrap
 simp only[IntKind.signed,IntKind.bits]
 simp
def b8(n:Int):UInt8:=UInt8.ofNat (IntKind.u8.wrap n).toNat
theorem xj(n:Int):((b8 n).toNat:Int)=n % 256:=by unfold b8;rw[dN,F0]
theorem J7{x y:UInt8}(h:(x.toNat:Int)=y.toNat):x=y:=PI h
theorem ofNat_toNat(n:Int)(h0:0≤n)(h1:n<256):((UInt8.ofNat n.toNat).toNat:Int)=n:=by
 simp;omega
theorem ofNat_eq{n:Int}{x:UInt8}(h0:0≤n)(h1:n<256)(h:n=x.toNat):UInt8.ofNat n.toNat=x:=by
 apply J7;rw[ofNat_toNat n h0 h1,h]
theorem xk{a b:Int}(h:a % 256=b % 256):b8 a=b8 b:=by
 apply J7;rw[xj,xj,h]
theorem dX{a b:Int}(h:0≤a):a.tmod b=a % b:=Int.tmod_eq_emod_of_nonneg h
theorem PS{a b:Int}(h:0≤a):a.tdiv b=a/b:=Int.tdiv_eq_ediv_of_nonneg h
theorem md_eq(p q:Int)(h1:1≤q)(h2:q≤1000000000000):(IntKind.i64.wrap (p.tmod q+q)).tmod q=p % q:=by
 have hb: -q<p.tmod q∧p.tmod q<q:=⟨Int.lt_tmod_of_pos p (by omega),Int.tmod_lt_of_pos p (by omega)⟩
 rw[cC (by omega),dX (by omega),Int.add_emod_right]
 rcases Int.le_total 0 p with h|h
 ·rw[dX h,Int.emod_emod_of_dvd _ (Int.dvd_refl q)]
 ·have e:p.tmod q=p-q*p.tdiv q:=by have:=Int.tmod_add_mul_tdiv p q;omega
  rw[e,Int.sub_mul_emod_self_left]
def hs1(h v:Int):Int:=(h*1000003+v % 2147483647+13)% 2147483647
def hsh(l:List Int):Int:=l.foldl hs1 11
def kh(k:Int)(l:List Int):Int:=hsh (k::(l++ [k]))
theorem M7(h v:Int):0≤hs1 h v∧hs1 h v<2147483647:=⟨Int.emod_nonneg _ (by decide),Int.emod_lt_of_pos _ (by decide)⟩
theorem vu{α β:Type}(f:β→α→β)(b:β)(l:List α)(k:Nat)(d:α)(h:k<l.length):(l.take (k+1)).foldl f b=f ((l.take k).foldl f b) (l.getD k d):=by
 rw[bf l k d h,List.foldl_append];rfl
theorem yQ: ∀l:List Int,0≤hsh l∧hsh l<2147483647:=by
 have g: ∀(l:List Int) (a:Int),(0≤a∧a<2147483647)→0≤l.foldl hs1 a∧l.foldl hs1 a<2147483647:=by
  intro l
  induction l with
  |nil=>intro a h;exact h
  |cons x r ih=>intro a _;exact ih _ (M7 a x)
 exact fun l=>g l 11 (by decide)
theorem eI(k:Int)(l:List Int):0≤kh k l∧kh k l<2147483647:=yQ _
theorem UY{h v:Int}(h0:0≤h)(h1:h<2147483647):(IntKind.i64.wrap (IntKind.i64.wrap (IntKind.i64.wrap (h*1000003)+v % 2147483647)+13)).tmod 2147483647=hs1 h v:=by
 have hv:0≤v % 2147483647∧v % 2147483647<2147483647:=⟨Int.emod_nonneg _ (by decide),Int.emod_lt_of_pos _ (by decide)⟩
 rw[cC (a:=h*1000003) (by omega),cC (a:=h*1000003+v % 2147483647) (by omega),cC (by omega),dX (by omega)]
 rfl
def M8(n:Int):Int:=if n=0 then 1 else n
theorem Lo{n:Int}(h:0≤n):(if n>1 then n else 1)=M8 n:=by
 unfold M8;split<;>split<;>omega
theorem M9{n:Int}(h:0≤n∧n<2147483647):1≤M8 n∧M8 n<2147483647:=by unfold M8;split<;>omega
theorem WO{h:Int}(h0:0≤h)(h1:h<2147483647):0≤h*h∧h*h≤4611686009837453316:=by
 have:=Int.mul_le_mul (show h≤2147483646 by omega) (show h≤2147483646 by omega) h0 (by decide)
 exact⟨Int.mul_nonneg h0 h0,by omega⟩
def cs(s k:Int):Int:=(kh s [47,k]*kh s [47,k]+5)% 2147483647
theorem rY(s k:Int):0≤cs s k∧cs s k<2147483647:=⟨Int.emod_nonneg _ (by decide),Int.emod_lt_of_pos _ (by decide)⟩
theorem cs_eq{h:Int}(h0:0≤h)(h1:h<2147483647):(IntKind.i64.wrap (IntKind.i64.wrap (h*h)+5)).tmod 2147483647=(h*h+5)% 2147483647:=by
 have:=WO h0 h1
 rw[cC (a:=h*h) (by omega),cC (by omega),dX (by omega)]
theorem YP{x:Int}(h:0≤x):IntKind.i64.wrap (BitVec.ofInt IntKind.i64.bits x&&&BitVec.ofInt IntKind.i64.bits 1).toNat=x % 2:=by
 obtain⟨n,rfl⟩:=Int.eq_ofNat_of_zero_le h
 have e:(BitVec.ofInt IntKind.i64.bits (n:Int)&&&BitVec.ofInt IntKind.i64.bits 1).toNat=n % 2:=by
  rw[BitVec.toNat_and]
  have h1:(BitVec.ofInt IntKind.i64.bits 1).toNat=1:=by decide
  have h2:(BitVec.ofInt IntKind.i64.bits (n:Int)).toNat=n % 2^64:=by
   rw[BitVec.ofInt_natCast,BitVec.toNat_ofNat];rfl
  rw[h1,h2,Nat.and_one_is_mod]
  omega
 rw[e,cC (by omega)]
 omega
def WQ(h:Int):Int:=h*h % 2147483647/512 % 2
theorem UZ{h:Int}(h0:0≤h)(h1:h<2147483647):IntKind.i64.wrap (BitVec.ofInt IntKind.i64.bits (((IntKind.i64.wrap (h*h)).tmod 2147483647).fdiv (2^(min (Int.toNat 9) IntKind.i64.bits)))&&&BitVec.ofInt IntKind.i64.bits 1).toNat=WQ h:=by
 have:=WO h0 h1
 have e:(2:Int)^(min (Int.toNat 9) IntKind.i64.bits)=512:=by decide
 rw[cC (a:=h*h) (by omega),dX (by omega),e,Int.fdiv_eq_ediv_of_nonneg _ (by decide)]
 have hm:0≤h*h % 2147483647:=Int.emod_nonneg _ (by decide)
 rw[YP (by omega)]
 rfl
theorem Na(h:Int):WQ h=0∨WQ h=1:=by unfold WQ;omega
def dz:List UInt8→List UInt8→List UInt8
 | [],b=>b
 |a,[]=>a
 |x::a,y::b=>(x^^^y)::dz a b
theorem jJ(a:List UInt8):dz a []=a:=by cases a<;>rfl
theorem ot(a:List UInt8):dz [] a=a:=by cases a<;>rfl
theorem cV: ∀a b:List UInt8,(dz a b).length=max a.length b.length
 | [],b=>by simp[dz]
 |x::a,[]=>by simp[dz]
 |x::a,y::b=>by simp[dz,cV a b]
theorem EB: ∀a b:List UInt8,dz a b=dz b a
 | [],b=>by rw[ot,jJ]
 |x::a,[]=>by rw[ot,jJ]
 |x::a,y::b=>by rw[dz,dz,EB a b,UInt8.xor_comm]
theorem PT(x y:UInt8):UInt8.ofNat (IntKind.u8.wrap ((BitVec.ofInt IntKind.u8.bits (x.toNat:Int)^^^BitVec.ofInt IntKind.u8.bits (y.toNat:Int)).toNat:Int)).toNat=x^^^y:=by
 have h:(BitVec.ofInt IntKind.u8.bits (x.toNat:Int)^^^BitVec.ofInt IntKind.u8.bits (y.toNat:Int)).toNat=(x^^^y).toNat:=by
  rw[BitVec.ofInt_natCast,BitVec.ofInt_natCast,BitVec.toNat_xor,BitVec.toNat_ofNat,BitVec.toNat_ofNat,UInt8.toNat_xor]
  have hx:=x.toNat_lt
  have hy:=y.toNat_lt
  show x.toNat % 2^8^^^y.toNat % 2^8=_
  rw[Nat.mod_eq_of_lt (by omega),Nat.mod_eq_of_lt (by omega)]
 rw[h,F0]
 apply ofNat_eq<;>have:=(x^^^y).toNat_lt<;>omega
def Tx(l:List UInt8)(i:Nat):UInt8:=l.getD i 0
theorem oL: ∀(a b:List UInt8) (k:Nat),k<max a.length b.length→(dz a b).take (k+1)=(dz a b).take k++ [Tx a k^^^Tx b k]
 | [],b,k,h=>by
   rw[ot,bf b k 0 (by simpa using h)]
   simp[Tx]
 |x::a,[],k,h=>by
  rw[jJ,bf (x::a) k 0 (by simpa using h)]
  simp[Tx]
 |x::a,y::b,0,h=>by simp[dz,Tx]
 |x::a,y::b,k+1,h=>by
  rw[dz,List.take_succ_cons,List.take_succ_cons,oL a b k (by simp at h;omega)]
  simp[Tx]
theorem mD{α:Type}(l:List α)(k:Nat)(d:α)(h:k<l.length):l.drop k=l.getD k d::l.drop (k+1):=by
 rw[List.drop_eq_getElem_cons h,List.getD_eq_getElem?_getD,List.getElem?_eq_getElem h];rfl
theorem rZ{α:Type}(f l:List α)(k:Nat)(d y:α)(h:k<l.length)(hf:k<f.length)(hy:f.getD k d=y):(f.take k++l.drop k).set k y=f.take (k+1)++l.drop (k+1):=by
 have hk:(f.take k).length=k:=by rw[List.length_take];omega
 rw[List.set_append_right _ _ (by omega),hk,Nat.sub_self,mD l k d h,List.set_cons_zero,bf f k d hf,List.append_assoc,hy]
 rfl
theorem jK{α:Type}(f l:List α)(k:Nat)(d:α)(hf:k≤f.length):(f.take k++l.drop k).getD k d=l.getD k d:=by
 have hk:(f.take k).length=k:=by rw[List.length_take];omega
 rw[List.getD_eq_getElem?_getD,List.getElem?_append_right (by omega),hk,Nat.sub_self,List.getElem?_drop,List.getD_eq_getElem?_getD,Nat.add_zero]
theorem jL{α:Type}(f l:List α)(k:Nat)(hf:f.length=l.length)(h:k≤l.length):(f.take k++l.drop k).length=l.length:=by
 rw[List.length_append,List.length_take,List.length_drop];omega
theorem lG{α β:Type}(f:α→β)(l:List α)(k:Nat)(d:α)(h:k<l.length):(l.take (k+1)).map f=(l.take k).map f++ [f (l.getD k d)]:=by
 rw[bf l k d h,List.map_append];rfl
theorem J8{β:Type}(f:Nat→β)(k:Nat):(List.range (k+1)).map f=(List.range k).map f++ [f k]:=by
 rw[List.range_succ,List.map_append];rfl
theorem CC{α:Type}(p:α→Bool)(l:List α)(k:Nat)(d:α)(h:k<l.length):(l.take (k+1)).all p=((l.take k).all p&&p (l.getD k d)):=by
 rw[bf l k d h,List.all_append];simp
theorem PU{α:Type}(p:α→Bool)(l:List α)(k:Nat)(d:α)(h:k<l.length):(l.take (k+1)).any p=((l.take k).any p||p (l.getD k d)):=by
 rw[bf l k d h,List.any_append];simp
theorem Be{α:Type}(l:List α)(p:α→Bool)(d:α)(k:Nat)(h:k<l.length)(h2:p (l.getD k d)=true):l.any p=true:=by
 rw[List.any_eq_true]
 refine⟨l.getD k d,?_,h2⟩
 rw[List.getD_eq_getElem?_getD,List.getElem?_eq_getElem h];simp
theorem J9{α:Type}(l:List α)(p:α→Bool)(d:α)(k:Nat)(h:k<l.length)(h2:p (l.getD k d)=false):l.all p=false:=by
 rw[List.all_eq_false]
 refine⟨l.getD k d,?_,by rw[h2];decide⟩
 rw[List.getD_eq_getElem?_getD,List.getElem?_eq_getElem h];simp
theorem Ka{α:Type}(l:List α)(k:Nat)(d:α)(h:k<l.length):l[k]? =some (l.getD k d):=by
 rw[List.getD_eq_getElem?_getD,List.getElem?_eq_getElem h];rfl
theorem aZ{α:Type}(l:List α)(k:Nat):(l.take k).length≤k:=by rw[List.length_take];omega
def inr(x lo hi:Int):Bool:=if decide (x≥lo)then decide (x≤hi)else false
theorem an{x lo hi:Int}:(inr x lo hi=true)=(lo≤x∧x≤hi):=by simp[inr]
theorem au{x lo hi:Int}:(inr x lo hi=false)= ¬(lo≤x∧x≤hi):=by rw[←an];simp
theorem af{α:Type}{l:List α}:(l.isEmpty=true)=(l= []):=by simp
theorem HO(l:List Int)(k:Nat)(h:k<l.length):hsh (l.take (k+1))=(IntKind.i64.wrap (IntKind.i64.wrap (IntKind.i64.wrap (hsh (l.take k)*1000003)+(l.getD k (av .int))% 2147483647)+13)).tmod 2147483647:=by
 rw[UY (yQ _).1 (yQ _).2]
 exact vu hs1 11 l k _ h
def yR(l:List UInt8):List Int:=(l.length:Int)::l.map fun c=>(c.toNat:Int)
theorem HP(l:List UInt8)(k:Nat)(h:k<l.length):(l.length:Int)::(l.take (k+1)).map (fun c=>(c.toNat:Int))=((l.length:Int)::(l.take k).map (fun c=>(c.toNat:Int)))++ [IntKind.i64.wrap ((l.getD k (av .u8)).toNat:Int)]:=by
 have:=(l.getD k (av .u8)).toNat_lt
 rw[cC (by omega),lG (fun c:UInt8=>(c.toNat:Int)) l k (av .u8) h]
 rfl
def stream(s:Int)(n:Nat):List UInt8:=(List.range n).map fun i:Nat=>b8 (cs s (100+(i:Int))/256)
theorem eJ(s:Int)(n:Nat):(stream s n).length=n:=by simp[stream]
theorem Ah(s:Int)(k:Nat)(h:k≤1000):stream s (k+1)=stream s k++ [UInt8.ofNat (IntKind.u8.wrap (IntKind.i64.wrap ((cs s (IntKind.i64.wrap (100+(k:Int)))).tdiv 256))).toNat]:=by
 have h1:=rY s (100+(k:Int))
 rw[cC (a:=100+(k:Int)) (by omega),PS h1.1,cC (by omega)]
 exact J8 (fun i:Nat=>b8 (cs s (100+(i:Int))/256)) k
theorem HQ{α:Type}(l:List (List α))(d:List α)(k:Nat)(h:k<l.length):((l.take (k+1)).map List.length).sum=((l.take k).map List.length).sum+(l.getD k d).length:=lz List.length l d k h
theorem F1{α:Type}(l:List (List α))(d:List α)(k:Nat)(h:k<l.length):(l.take (k+1)).flatten=(l.take k).flatten++l.getD k d:=by
 rw[bf l k d h,List.flatten_append];simp
theorem Ai{α:Type}(l:List (List α))(k:Nat):(l.take k).flatten.length≤(l.map List.length).sum:=by
 rw[List.length_flatten];exact dn l List.length k
end
section
theorem qg{α:Type}(f l:List α)(k:Nat)(d y:α)(h:k<l.length)(hf:f.length=l.length)(hy:f.getD k d=y):f.take (k+1)++l.drop (k+1)=(f.take k++l.drop k).set k y:=(rZ f l k d y h (by omega) hy).symm
theorem Aj{α:Type}(f:List α)(k:Nat)(d y:α)(h:k<f.length)(hy:f.getD k d=y):f.take (k+1)=f.take k++ [y]:=by rw[bf f k d h,hy]
theorem mu{α:Type}(f l:List α)(k:Nat)(hf:f.length=l.length)(h:l.length≤k):f.take k++l.drop k=f:=by
 rw[List.take_of_length_le (by omega),List.drop_eq_nil_of_le h,List.append_nil]
theorem gR{β:Type}(n:Nat)(g:Nat→β)(k:Nat)(d:β)(h:k<n):((List.range n).map g).getD k d=g k:=by
 rw[List.getD_eq_getElem?_getD,List.getElem?_map,List.getElem?_range h];rfl
def kK(s:Int)(l:List UInt8):List UInt8:=(List.range l.length).map fun i:Nat=>b8 ((l.getD i (av .u8)).toNat+kh s [(i:Int)]% 256)
theorem iF(s:Int)(l:List UInt8):(kK s l).length=l.length:=by simp[kK]
theorem HT(s:Int)(l:List UInt8)(k:Nat)(h:k<l.length):(kK s l).getD k (av .u8)=b8 ((l.getD k (av .u8)).toNat+kh s [(k:Int)]% 256):=gR _ _ k _ h
theorem Nb(s:Int)(l:List UInt8)(k:Nat)(h:k<l.length):(kK s l).take (k+1)++l.drop (k+1)=((kK s l).take k++l.drop k).set k (UInt8.ofNat (IntKind.u8.wrap ((((kK s l).take k++l.drop k).getD k (av .u8)).toNat+IntKind.u8.wrap ((kh s [(k:Int)]).tmod 256))).toNat):=by
 refine qg _ _ k (av .u8) _ h (iF s l) ?_
 rw[HT s l k h,jK _ _ _ _ (by rw[iF];omega)]
 refine xk ?_
 have:=eI s [(k:Int)]
 rw[F0 ((kh s [(k:Int)]).tmod 256),dX this.1]
 omega
theorem Nc(s:Int)(l:List UInt8)(k:Nat)(h:k<l.length):(kK s l).take (k+1)=(kK s l).take k++ [UInt8.ofNat (IntKind.u8.wrap ((IntKind.i64.wrap (IntKind.i64.wrap ((l.getD k (av .u8)).toNat:Int)+(kh s [(k:Int)]).tmod 256)).tmod 256)).toNat]:=by
 refine Aj _ k (av .u8) _ (by rw[iF];exact h) ?_
 rw[HT s l k h]
 refine xk ?_
 have:=eI s [(k:Int)]
 have hx:=(l.getD k (av .u8)).toNat_lt
 rw[dX this.1,cC (a:=((l.getD k (av .u8)).toNat:Int)) (by omega),cC (by omega),dX (by omega)]
 omega
def decr(s:Int)(l:List UInt8):List UInt8:=(List.range l.length).map fun i:Nat=>b8 ((l.getD i (av .u8)).toNat-kh s [(i:Int)]% 256)
theorem mR(s:Int)(l:List UInt8):(decr s l).length=l.length:=by simp[decr]
theorem HU(s:Int)(l:List UInt8)(k:Nat)(h:k<l.length):(decr s l).getD k (av .u8)=b8 ((l.getD k (av .u8)).toNat-kh s [(k:Int)]% 256):=gR _ _ k _ h
theorem Nd(s:Int)(l:List UInt8)(k:Nat)(h:k<l.length):(decr s l).take (k+1)++l.drop (k+1)=((decr s l).take k++l.drop k).set k (UInt8.ofNat (IntKind.u8.wrap ((((decr s l).take k++l.drop k).getD k (av .u8)).toNat-IntKind.u8.wrap ((kh s [(k:Int)]).tmod 256))).toNat):=by
 refine qg _ _ k (av .u8) _ h (mR s l) ?_
 rw[HU s l k h,jK _ _ _ _ (by rw[mR];omega)]
 refine xk ?_
 have:=eI s [(k:Int)]
 rw[F0 ((kh s [(k:Int)]).tmod 256),dX this.1]
 omega
theorem Nf(s:Int)(l:List UInt8)(k:Nat)(h:k<l.length):(decr s l).take (k+1)=(decr s l).take k++ [UInt8.ofNat (IntKind.u8.wrap ((IntKind.i64.wrap (IntKind.i64.wrap ((l.getD k (av .u8)).toNat:Int)-(kh s [(k:Int)]).tmod 256))% 256)).toNat]:=by
 refine Aj _ k (av .u8) _ (by rw[mR];exact h) ?_
 rw[HU s l k h]
 refine xk ?_
 have:=eI s [(k:Int)]
 have hx:=(l.getD k (av .u8)).toNat_lt
 rw[dX this.1,cC (a:=((l.getD k (av .u8)).toNat:Int)) (by omega),cC (by omega)]
 omega
theorem PY(a b:List UInt8)(k:Nat)(h:k<max a.length b.length):(dz a b).getD k (av .u8)=a.getD k 0^^^b.getD k 0:=by
 have h1:=oL a b k h
 have h2:=bf (dz a b) k (av .u8) (by rw[cV];exact h)
 rw[h1]at h2
 have:=List.append_inj_right h2 rfl
 simp only[List.cons.injEq,and_true]at this
 rw[←this];rfl
theorem HV(p q:List UInt8)(k:Nat)(h:k<q.length)(hl:q.length≤p.length):(dz p q).take (k+1)++p.drop (k+1)=((dz p q).take k++p.drop k).set k (UInt8.ofNat (IntKind.u8.wrap ((BitVec.ofInt IntKind.u8.bits ((((dz p q).take k++p.drop k).getD k (av .u8)).toNat:Int)^^^BitVec.ofInt IntKind.u8.bits ((q.getD k (av .u8)).toNat:Int)).toNat:Int)).toNat):=by
 refine qg _ _ k (av .u8) _ (by omega) (by rw[cV];omega) ?_
 rw[PY p q k (by omega),jK _ _ _ _ (by rw[cV];omega),PT]
 rfl
theorem HW(p q:List UInt8)(k:Nat)(h:q.length≤k)(hl:q.length≤p.length)(hk:k≤q.length):(dz p q).take k++p.drop k=dz p q:=by
 have hk:k=q.length:=by omega
 subst hk
 have key: ∀p q:List UInt8,q.length≤p.length→(dz p q).take q.length++p.drop q.length=dz p q:=by
  intro p
  induction p with
  |nil=>intro q h;cases q with|nil=>rfl|cons _ _=>simp at h
  |cons x p ih=>intro q h;cases q with
   |nil=>rw[jJ];rfl
   |cons y q=>simp only[dz,List.length_cons,List.take_succ_cons,List.drop_succ_cons,List.cons_append];rw[ih q (by simpa using h)]
 exact key p q hl
theorem U3(a b:List UInt8)(k:Nat)(ha:k<a.length)(hb:k<b.length):(dz a b).take (k+1)=(dz a b).take k++ [UInt8.ofNat (IntKind.u8.wrap ((BitVec.ofInt IntKind.u8.bits ((a.getD k (av .u8)).toNat:Int)^^^BitVec.ofInt IntKind.u8.bits ((b.getD k (av .u8)).toNat:Int)).toNat:Int)).toNat]:=by
 rw[oL a b k (by omega),PT];rfl
theorem HX{α:Type}(l:List α)(k:Nat)(d:α)(h:l.length≤k):l.getD k d=d:=by
 rw[List.getD_eq_getElem?_getD,List.getElem?_eq_none h];rfl
theorem WR(a b:List UInt8)(k:Nat)(ha:k<a.length)(hb:b.length≤k):(dz a b).take (k+1)=(dz a b).take k++ [UInt8.ofNat (((a.getD k (av .u8)).toNat:Int)).toNat]:=by
 rw[oL a b k (by omega),Lm]
 have:Tx b k=0:=HX b k 0 hb
 rw[this];simp;rfl
theorem WS(a b:List UInt8)(k:Nat)(ha:a.length≤k)(hb:k<b.length):(dz a b).take (k+1)=(dz a b).take k++ [UInt8.ofNat (IntKind.u8.wrap ((BitVec.ofInt IntKind.u8.bits (0:Int)^^^BitVec.ofInt IntKind.u8.bits ((b.getD k (av .u8)).toNat:Int)).toNat:Int)).toNat]:=by
 rw[oL a b k (by omega)]
 have:Tx a k=0:=HX a k 0 ha
 rw[this]
 have:=PT 0 (b.getD k (av .u8))
 rw[show((0:UInt8).toNat:Int)=0 from rfl]at this
 rw[this];rfl
theorem PZ{l:List (List UInt8)}(h:bL List.length l≤1048576)(k:Nat)(hk:k<l.length):(l.getD k (av (.sl .u8))).length≤1048576:=eL h (Ka l k _ hk)
def dY(key round dir rows:Int):Int:=if(1≤rows∧rows≤64)∧0≤round∧round≤1000000000000 then cs (kh key [79,round,dir]) 0 % rows else-1
def AE(seed round rows:Int):Int:=if 1≤rows∧rows≤64 then cs (kh seed [157,round]) 0 % rows else-1
def ia(key counter:Int)(data:List UInt8):Int:=kh key ([71,counter]++data.map fun c=>(c.toNat:Int))
theorem Lt(l:List UInt8)(counter:Int)(k:Nat)(h:k<l.length): [71,counter]++(l.take (k+1)).map (fun c=>(c.toNat:Int))=([71,counter]++(l.take k).map (fun c=>(c.toNat:Int)))++ [IntKind.i64.wrap ((l.getD k (av .u8)).toNat:Int)]:=by
 have:=(l.getD k (av .u8)).toNat_lt
 rw[cC (by omega),lG (fun c:UInt8=>(c.toNat:Int)) l k (av .u8) h,List.append_assoc]
def four(n:Int):List UInt8:= [b8 n,b8 (n/256),b8 (n/65536),b8 (n/16777216)]
theorem Lu(n:Int): [UInt8.ofNat (IntKind.u8.wrap n).toNat,UInt8.ofNat (IntKind.u8.wrap (n.fdiv (2^(min (Int.toNat 8) IntKind.i64.bits)))).toNat,UInt8.ofNat (IntKind.u8.wrap (n.fdiv (2^(min (Int.toNat 16) IntKind.i64.bits)))).toNat,UInt8.ofNat (IntKind.u8.wrap (n.fdiv (2^(min (Int.toNat 24) IntKind.i64.bits)))).toNat]=four n:=by
 have e1:(2:Int)^(min (Int.toNat 8) IntKind.i64.bits)=256:=by decide
 have e2:(2:Int)^(min (Int.toNat 16) IntKind.i64.bits)=65536:=by decide
 have e3:(2:Int)^(min (Int.toNat 24) IntKind.i64.bits)=16777216:=by decide
 rw[e1,e2,e3,Int.fdiv_eq_ediv_of_nonneg _ (by decide),Int.fdiv_eq_ediv_of_nonneg _ (by decide),Int.fdiv_eq_ediv_of_nonneg _ (by decide)]
 rfl
def iN(p:Plain):Bool:=(inr p.kind 0 3)&&decide ((p.body.length:Int)≤14)
def iG(k:Int):Bool:=inr k 1 2147483646
def gF(key counter:Int)(p:Plain):Bool:=iG key&&(inr counter 0 1000000000000)&&iN p
def eO(key counter:Int)(p:Plain):List UInt8:= [b8 p.kind,b8 p.body.length]++p.body++(stream (kh key [61,counter]) 18).drop p.body.length
def kL(key counter:Int):Int:=M8 (kh key [67,counter])
def oM(key counter:Int)(p:Plain):List UInt8:=if gF key counter p then kK (kL key counter) (eO key counter p)++four (ia key counter (kK (kL key counter) (eO key counter p)))else []
def jg(key dir:Int):Int:=M8 (kh key [83,dir])
def cover(seed:Int):List UInt8:=stream (kh seed [73]) 24
end
section
theorem U4(b c:Bool):(if b=true then true else c)=(b||c):=by cases b<;>rfl
theorem P1(b c:Bool):(if b=true then c else false)=(b&&c):=by cases b<;>rfl
theorem SH(a b:Int):(!decide (a<b))=decide (b≤a):=by rw[←decide_not];congr 1;exact propext Int.not_lt
theorem SI(a b:Int):(!decide (a≤b))=decide (b<a):=by rw[←decide_not];congr 1;exact propext Int.not_le
theorem bne_not(a b:Int):(a !=b)= !(a==b):=rfl
theorem deq(a b:Int):decide (a=b)=(a==b):=rfl
theorem aF:(∀b c:Bool,(if b=true then true else c)=(b||c))∧(∀b c:Bool,(if b=true then c else false)=(b&&c))∧(∀a b:Int,a>b↔b<a)∧(∀a b:Nat,a>b↔b<a)∧(∀a b:Int,a≥b↔b≤a)∧(∀a b:Nat,a≥b↔b≤a)∧(∀a b:Int,(!decide (a<b))=decide (b≤a))∧(∀a b:Int,(!decide (a≤b))=decide (b<a))∧(∀a b:Int,(a !=b)= !(a==b))∧(∀a b:Int,decide (a=b)=(a==b))∧(∀(p:Prop) [Decidable p] [Decidable (¬p)],decide (¬p)= !decide p)∧(∀(α:Type) (a b:α),(a≠b)= ¬a=b)∧(∀a b:Bool,(!(a&&b))=(!a|| !b))∧(∀a b:Bool,(!(a||b))=(!a&& !b))∧(∀b:Bool,(!!b)=b)∧(∀b:Bool,(b&&true)=b)∧(∀b:Bool,(true&&b)=b)∧(∀b:Bool,(b||false)=b)∧(∀b:Bool,(false||b)=b)∧(∀n:Nat,(n:Int).toNat=n):=⟨U4,P1,fun _ _=>Iff.rfl,fun _ _=>Iff.rfl,fun _ _=>Iff.rfl,fun _ _=>Iff.rfl,SH,SI,bne_not,deq,fun _=>decide_not,fun _ _ _=>rfl,Bool.not_and,Bool.not_or,Bool.not_not,Bool.and_true,Bool.true_and,Bool.or_false,Bool.false_or,Int.toNat_natCast⟩
theorem WT{E R S:Bool}(h:E=true)(he:E= !R):(R&&S)=false:=by
 rw[h]at he
 cases R with
 |false=>rfl
 |true=>exact absurd he (by decide)
theorem bD{E R:Bool}(h:E=true)(he:E= !R):R=false:=by
 rw[h]at he
 cases R with
 |false=>rfl
 |true=>exact absurd he (by decide)
theorem bA{E R:Bool}(h:E=false)(he:E= !R):R=true:=by
 rw[h]at he
 cases R with
 |true=>rfl
 |false=>exact absurd he (by decide)
def cG(d:DB):Bool:=decide ((d.rows.length:Int)≤64)&&d.rows.all fun r=>decide ((r.length:Int)=24)
def nJ(rows:Int)(l:List aB)(i:Nat):Bool:=inr (l.getD i (av .aB)).client 0 7&& !(decide ((0:Int)<i)&&decide ((l.getD i (av .aB)).client≤(l.getD (i-1) (av .aB)).client))&&cG (l.getD i (av .aB)).share&&(((l.getD i (av .aB)).share.rows.length:Int)==rows)
def CI(s:aU):Bool:=inr s.id 0 3&&inr s.rows 1 64&&inr s.behavior 0 3&&inr s.round 0 100000&&decide ((s.received.length:Int)≤8)
def bW(s:aU):Bool:=CI s&&(List.range s.received.length).all (nJ s.rows s.received)
def ue(rows:Int)(l:List aA)(i:Nat):Bool:=inr (l.getD i (av .aA)).round 0 100000&& !(decide ((0:Int)<i)&&decide ((l.getD i (av .aA)).round≤(l.getD (i-1) (av .aA)).round))&&cG (l.getD i (av .aA)).db&&(((l.getD i (av .aA)).db.rows.length:Int)==rows)
def EC(a:iS):Bool:=inr a.rows 1 64&&decide ((a.rounds.length:Int)≤8)
def gG(a:iS):Bool:=EC a&&(List.range a.rounds.length).all (ue a.rows a.rounds)
def cS(a:iS):Int:=if a.rounds.length=0 then-1 else(a.rounds.getD (a.rounds.length-1) (av .aA)).round
def yW(b:List UInt8):Bool:=decide ((14:Int)<b.length)
def dH(c:dV):Bool:=inr c.id 0 7&&inr c.e9 0 7&& !(c.id==c.e9)&&iG c.key&&decide ((c.aq.length:Int)≤16)&&decide ((c.inbox.length:Int)≤16)&& !c.aq.any yW&& !c.inbox.any yW&&inr c.sent 0 c.aq.length&&inr c.next 0 100000
def nK(a b:dV):Bool:=(a.id==b.id)&&(a.e9==b.e9)&&(a.key==b.key)&&(a.seed==b.seed)&&(a.aq==b.aq)
def P2(a b:List (List UInt8)):Bool:=decide ((a.length:Int)≤b.length)&&(a==b.take a.length)
def dB(d:aL):Bool:=dH d.live&&dH d.saved&&nK d.live d.saved&&decide (d.saved.sent≤d.live.sent)&&decide (d.saved.next≤d.live.next)&&P2 d.saved.inbox d.live.inbox
def cE(n:Int):Bool:=inr n 2 4
def HY(x:aN)(i:Nat):Bool:=bW (x.aj.getD i (av .aU))&&((x.aj.getD i (av .aU)).id==(i:Int))&&((x.aj.getD i (av .aU)).rows==x.rows)&&((x.aj.getD i (av .aU)).round==x.round)&&decide (((x.aj.getD i (av .aU)).received.length:Int)≤0)
def okD(x:aN)(i:Nat):Bool:=dB (x.aa.getD i (av .aL))&&((x.aa.getD i (av .aL)).live.id==(i:Int))&&((x.aa.getD i (av .aL)).live.e9==((i^^^1:Nat):Int))&&((x.aa.getD i (av .aL)).live.key==(x.aa.getD (i^^^1) (av .aL)).live.key)&&decide ((x.aa.getD i (av .aL)).live.next≤x.round)
def Lv(x:aN):Bool:=inr x.rows 1 64&&cE x.aj.length&&inr x.aa.length 2 8&&((x.aa.length:Int).tmod 2==0)&&gG x.ak&&(x.ak.rows==x.rows)&&decide (cS x.ak<x.round)&&iG x.az&&inr x.round 0 100000&&decide (0≤x.cancelled)
def okW(x:aN):Bool:=Lv x&&(List.range x.aj.length).all (HY x)&&(List.range x.aa.length).all (okD x)
theorem jx{p:Nat→Bool}{k:Nat}(h:(List.range k).all p=true)(hk:p k=true):(List.range (k+1)).all p=true:=by
 rw[List.range_succ,List.all_append,h];simp[hk]
theorem lH{p:Nat→Bool}{k n:Nat}(h:k<n)(hk:p k=false):(List.range n).all p=false:=by
 rw[List.all_eq_false]
 exact⟨k,List.mem_range.2 h,by rw[hk];decide⟩
def fidx{α:Type}(p:α→Bool)(l:List α):Int:=if l.any p then(l.findIdx p:Int)else-1
theorem xl{α:Type}{p:α→Bool}{l:List α}{k:Nat}(d:α)(h:k<l.length)(h1:(l.take k).any p=false)(h2:p (l.getD k d)=true):fidx p l=k:=by
 have ha:l.any p=true:=Be l p d k h h2
 have e:l=l.take k++l.getD k d::l.drop (k+1):=by rw[←mD l k d h,List.take_append_drop]
 unfold fidx
 rw[if_pos ha]
 have hf:l.findIdx p=k:=by
  rw[List.findIdx_eq h]
  refine⟨?_,fun j hj=> ?_⟩
  ·rw[List.getD_eq_getElem?_getD,List.getElem?_eq_getElem h]at h2;exact h2
  ·rw[List.any_eq_false]at h1
   have:=h1 l[j] (by rw[List.mem_take_iff_getElem];exact⟨j,by omega,rfl⟩)
   simpa using this
 rw[hf]
theorem ED{α:Type}{p:α→Bool}{l:List α}(h:l.any p=false):fidx p l= -1:=by unfold fidx;rw[if_neg (by rw[h];decide)]
theorem Lw{α:Type}(p:α→Bool)(l:List α):decide (fidx p l≥0)=l.any p:=by
 unfold fidx
 cases h:l.any p
 ·rw[if_neg (by decide)];rfl
 ·rw[if_pos rfl];simp
theorem vv{α:Type}{p:α→Bool}{l:List α}{k:Nat}(d:α)(h:k<l.length)(h1:(l.take k).any p=false)(h2:p (l.getD k d)=false):(l.take (k+1)).any p=false:=by
 rw[PU p l k d h,h1,h2];rfl
theorem so{α:Type}(l:List α)(p:α→Bool):l.all p= !(l.any fun b=> !p b):=by
 induction l with
 |nil=>rfl
 |cons a r ih=>simp[ih]
end
section
theorem P3(k n:Nat)(h:k<n)(he:n % 2=0):k^^^1<n:=by
 have h1:(k^^^1)/2=k/2:=by
  have:=Nat.xor_div_two (a:=k) (b:=1)
  simpa using this
 have h2:k^^^1<2*(k/2)+2:=by
  have:=Nat.div_add_mod (k^^^1) 2
  have:=Nat.mod_lt (k^^^1) (show 0<2 by decide)
  omega
 omega
theorem Ng(k:Nat)(h:k<2^62):IntKind.i64.wrap (BitVec.ofInt IntKind.i64.bits (k:Int)^^^BitVec.ofInt IntKind.i64.bits 1).toNat=((k^^^1:Nat):Int):=by
 have h2:(BitVec.ofInt IntKind.i64.bits (k:Int)^^^BitVec.ofInt IntKind.i64.bits 1).toNat=k^^^1:=by
  rw[BitVec.toNat_xor]
  have h1:(BitVec.ofInt IntKind.i64.bits 1).toNat=1:=by decide
  have h2:(BitVec.ofInt IntKind.i64.bits (k:Int)).toNat=k % 2^64:=by rw[BitVec.ofInt_natCast,BitVec.toNat_ofNat];rfl
  rw[h1,h2,Nat.mod_eq_of_lt (by omega)]
 have hx:=Nat.xor_lt_two_pow (n:=62) h (show 1<2^62 by decide)
 rw[h2,cC (by omega)]
theorem qi{x:aN}(h:Lv x=true):x.aa.length % 2=0∧x.aa.length≤8∧2≤x.aa.length:=by
 simp only[Lv,an,Bool.and_eq_true,beq_iff_eq]at h
 have h1:=h.1.1.1.1.1.1.2
 have h2:=h.1.1.1.1.1.1.1.2
 rw[dX (by omega)]at h1
 omega
theorem mT{x:aN}(h:okW x=true):Lv x=true:=by simp only[okW,Bool.and_eq_true]at h;exact h.1.1
theorem eu{x:aN}(h:okW x=true):x.aj.length≤4∧2≤x.aj.length:=by
 have:=mT h
 simp only[Lv,cE,an,Bool.and_eq_true,beq_iff_eq]at this
 have h1:=this.1.1.1.1.1.1.1.1.2
 omega
def VW(x:aN):Bool:=(List.range x.aj.length).all (HY x)&&cE x.aj.length
def Ty(x:aN):Bool:=((x.aa.length:Int).tmod 2==0)&&inr x.aa.length 2 8&&(List.range x.aa.length).all (okD x)
def jh(x:aN)(c:Int):Bool:=inr c 0 (x.aa.length-1)
def bK(c:dV):Int:=if c.id<c.e9 then 0 else 1
def oR(c:dV)(ZS:Int):List UInt8:=oM (jg c.key (bK c)) ZS ⟨1,c.aq.getD ZS.toNat (av (.sl .u8))⟩
def mw(c:dV)(r n:Int):Bool:=dH c&&inr r 0 100000&&inr n 1 64
def jS(c:dV)(r n:Int):Int:=if mw c r n=true then(if c.sent<c.aq.length then dY c.key r (bK c) n else AE c.seed r n)else 0
def eP(c:dV)(r n:Int):List UInt8:=if mw c r n=true then(if c.sent<c.aq.length then oR c c.sent else cover (kh c.seed [r]))else []
theorem yY{c:dV}{r n:Int}(h:mw c r n=true):0≤c.sent∧c.sent≤c.aq.length:=by
 simp only[mw,dH,an,Bool.and_eq_true]at h
 exact h.1.1.1.2
theorem nL{k c:Int}{p:Plain}(h:gF k c p=true):p.body.length≤14:=by
 simp only[gF,iN,Bool.and_eq_true,decide_eq_true_eq]at h
 omega
end
section
def U5(s:Int)(i:Nat):Int:=WQ (kh s [(i:Int),41])
def bC(s rows:Int):List Int:=if 0≤rows∧rows≤64 then(List.range rows.toNat).map (U5 s)else []
theorem gJ(s rows:Int):(bC s rows).length≤64:=by
 unfold bC
 split
 ·simp;omega
 ·simp
theorem CK(s rows:Int)(k:Nat)(h0:(k:Int)<rows)(h1:rows≤64):k<(bC s rows).length:=by
 rw[bC,if_pos (by omega)];simp;omega
theorem xq(s rows:Int)(k:Nat)(h0:(k:Int)<rows)(h1:rows≤64):(bC s rows).take (k+1)=(bC s rows).take k++ [IntKind.i64.wrap (BitVec.ofInt IntKind.i64.bits (((IntKind.i64.wrap (kh s [(k:Int),41]*kh s [(k:Int),41])).tmod 2147483647).fdiv (2^(min (Int.toNat 9) IntKind.i64.bits)))&&&BitVec.ofInt IntKind.i64.bits 1).toNat]:=by
 rw[UZ (eI _ _).1 (eI _ _).2,bf _ _ 0 (CK s rows k h0 h1)]
 congr 2
 rw[bC,if_pos (by omega),gR _ _ _ _ (by omega)]
 rfl
theorem Al(s rows:Int)(k:Nat)(h:rows≤64→rows≤k):(bC s rows).take k=bC s rows:=by
 refine List.take_of_length_le ?_
 unfold bC
 split
 ·simp;omega
 ·simp
def fM(v:List Int)(rows:Int):Bool:=(decide ((v.length:Int)=rows)&&decide (rows≤64))&&v.all fun x=>inr x 0 1
theorem Kc(v:List Int)(rows:Int):fM v rows=((inr rows 0 64&&decide ((v.length:Int)=rows))&& !(v.any fun x=> !inr x 0 1)):=by
 have e:(v.all fun x=>inr x 0 1)= !(v.any fun x=> !inr x 0 1):=by rw[List.not_any_eq_all_not];simp
 rw[fM,e]
 by_cases h:(v.length:Int)=rows
 ·subst h;simp[inr]
 ·simp[h]
theorem EE{v:List Int}{r:Int}(h:fM v r=true):(v.length:Int)=r∧r≤64:=by
 simp only[fM,Bool.and_eq_true,decide_eq_true_eq]at h
 exact h.1
theorem EF{v:List Int}{r:Int}(h:fM v r=true)(k:Nat)(hk:k<v.length):v.getD k (av .int)=0∨v.getD k (av .int)=1:=by
 simp only[fM,Bool.and_eq_true,List.all_eq_true,an]at h
 have:=h.2 (v.getD k (av .int)) (by rw[List.getD_eq_getElem?_getD,List.getElem?_eq_getElem hk];exact List.getElem_mem _)
 omega
def xb(x y:Int):Int:=if x=y then 0 else 1
theorem WU{x y:Int}(hx:x=0∨x=1)(hy:y=0∨y=1):IntKind.i64.wrap (BitVec.ofInt IntKind.i64.bits x^^^BitVec.ofInt IntKind.i64.bits y).toNat=xb x y:=by
 rcases hx with rfl|rfl<;>rcases hy with rfl|rfl<;>decide
def kr(a b:List Int):Bool:=fM a a.length&&fM b a.length
def lX(a b:List Int):List Int:=if kr a b then List.zipWith xb a b else []
theorem mE{a b:List Int}(h:kr a b=true):b.length=a.length∧a.length≤64:=by
 simp only[kr,Bool.and_eq_true]at h
 have h1:=EE h.1
 have h2:=EE h.2
 omega
theorem vD{a b:List Int}(h:kr a b=true):lX a b=List.zipWith xb a b:=by rw[lX,if_pos h]
theorem xu{a b:List Int}(h:kr a b=true):(List.zipWith xb a b).length=a.length:=by
 have:=mE h
 rw[List.length_zipWith];omega
theorem Ke(a b:List Int):(lX a b).length≤64:=by
 cases h:kr a b with
 |true=>rw[vD h,xu h];exact(mE h).2
 |false=>rw[lX,if_neg (by rw[h];decide)];simp
theorem Lx{a b:List Int}(h:kr a b=true)(k:Nat)(hk:k<a.length):(List.zipWith xb a b).getD k (av .int)=IntKind.i64.wrap (BitVec.ofInt IntKind.i64.bits (a.getD k (av .int))^^^BitVec.ofInt IntKind.i64.bits (b.getD k (av .int))).toNat:=by
 have hl:=mE h
 have h':=h
 simp only[kr,Bool.and_eq_true]at h'
 rw[WU (EF h'.1 k hk) (EF h'.2 k (by omega))]
 rw[List.getD_eq_getElem?_getD,List.getD_eq_getElem?_getD,List.getD_eq_getElem?_getD,List.getElem?_zipWith,List.getElem?_eq_getElem hk,List.getElem?_eq_getElem (show k<b.length by omega)]
 rfl
theorem HZ{a b:List Int}(h:kr a b=true)(k:Nat)(hk:k<b.length):(List.zipWith xb a b).take (k+1)++a.drop (k+1)=((List.zipWith xb a b).take k++a.drop k).set k (IntKind.i64.wrap (BitVec.ofInt IntKind.i64.bits (((List.zipWith xb a b).take k++a.drop k).getD k (av .int))^^^BitVec.ofInt IntKind.i64.bits (b.getD k (av .int))).toNat):=by
 have hl:=mE h
 have hz:=xu h
 rw[rZ _ _ k (av .int) _ (by omega) (by omega)]
 rw[jK _ _ _ _ (by omega),Lx h k (by omega)]
theorem H6{a b:List Int}(h:kr a b=true)(k:Nat)(hk:k<a.length):(List.zipWith xb a b).take (k+1)=(List.zipWith xb a b).take k++ [IntKind.i64.wrap (BitVec.ofInt IntKind.i64.bits (a.getD k (av .int))^^^BitVec.ofInt IntKind.i64.bits (b.getD k (av .int))).toNat]:=by
 rw[bf _ k (av .int) (by rw[xu h];exact hk),Lx h k hk]
def jT(rows i:Int):Bool:=inr rows 1 64&&inr i 0 (IntKind.i64.wrap (rows-1))
def xw(rows i:Int):List Int:=if jT rows i then(List.replicate rows.toNat (av .int)).set i.toNat 1 else []
theorem CL{rows i:Int}(h:jT rows i=true):1≤rows∧rows≤64∧0≤i∧i<rows:=by
 simp only[jT,Bool.and_eq_true,an]at h
 rw[cC (by omega)]at h
 omega
theorem yZ{rows i:Int}(h:jT rows i=true):xw rows i=(List.replicate rows.toNat (av .int)).set i.toNat 1:=by rw[xw,if_pos h]
theorem za{rows i:Int}(h:jT rows i=false):xw rows i= []:=by rw[xw,if_neg (by rw[h];decide)]
theorem zc(rows i:Int):(xw rows i).length≤64:=by
 cases h:jT rows i with
 |true=>rw[yZ h];have:=CL h;simp;omega
 |false=>rw[za h];simp
def CM(rows i:Int)(sd:List Int):Bool:= !decide (((xw rows i).length:Int)=0)&&cE (IntKind.i64.wrap ((sd.length:Int)+1))
def su(rows i:Int)(sd:List Int):List Int:=sd.foldl (fun l s=>lX l (bC s rows)) (xw rows i)
def mV(rows i:Int)(sd:List Int):List (List Int):=if CM rows i sd then sd.map (fun s=>bC s rows)++ [su rows i sd]else []
theorem CN(rows i:Int)(sd:List Int)(k:Nat)(h:k<sd.length):su rows i (sd.take (k+1))=lX (su rows i (sd.take k)) (bC (sd.getD k (av .int)) rows):=vu _ _ sd k _ h
theorem ze(rows i:Int)(sd:List Int):(su rows i sd).length≤64:=by
 rcases List.eq_nil_or_concat sd with rfl| ⟨l,x,rfl⟩
 ·exact zc _ _
 ·rw[List.concat_eq_append,su,List.foldl_append];exact Ke _ _
theorem H7{rows i:Int}{sd:List Int}(h:CM rows i sd=true)(hl:sd.length≤1048576):sd.length≤3:=by
 simp only[CM,cE,Bool.and_eq_true,an]at h
 rw[cC (by omega)]at h
 omega
def fB(n:Nat)(r row s:Int):List Int:=(List.range (n-1)).map fun i:Nat=>kh s [229,r,row,(i:Int)]
theorem mW(n:Nat)(r row s:Int):(fB n r row s).length=n-1:=by simp[fB]
theorem Am(n:Nat)(r row s:Int)(k:Nat)(h:k<n-1):(fB n r row s).take (k+1)=(fB n r row s).take k++ [kh s [229,r,row,(k:Int)]]:=by
 rw[bf _ k (av .int) (by rw[mW];exact h),fB,gR _ _ _ _ h]
theorem Ly(n:Nat)(h:n≤1048576):Fo 0 (IntKind.i64.wrap ((n:Int)-1))=((n-1:Nat):Int):=by
 rw[cC (by omega)];unfold Fo;split<;>omega
end
section
theorem vE{x:aN}(h:bB x≤1048576):x.aa.length≤1048576:=by
 have h2:bL aJ x.aa≤1048576:=by unfold bB at h;omega
 exact cg h2
theorem vF{x:aN}(h:bB x≤1048576):x.aj.length≤1048576:=by
 have h2:bL bl x.aj≤1048576:=by unfold bB at h;omega
 exact cg h2
end
section
def Rm:List UInt8:=List.replicate 24 (av .u8)
def cT(rows:Int):DB:=⟨if 0≤rows∧rows≤64 then List.replicate rows.toNat Rm else []⟩
theorem P8{α:Type}(n k:Nat)(x:α)(h:k<n):(List.replicate n x).take (k+1)=(List.replicate n x).take k++ [x]:=by
 rw[List.take_replicate,List.take_replicate,Nat.min_eq_left (by omega),Nat.min_eq_left (by omega),List.replicate_succ']
theorem oS(rows:Int):(cT rows).rows.length≤64:=by
 unfold cT;dsimp only;split
 ·simp;omega
 ·simp
theorem oT{rows:Int}(h:0≤rows∧rows≤64):(cT rows).rows=List.replicate rows.toNat Rm:=by unfold cT;dsimp only;rw[if_pos h]
theorem CS(rows:Int)(k:Nat)(h0:(k:Int)<rows)(h1:rows≤64):(cT rows).rows.take (k+1)=(cT rows).rows.take k++ [Rm]:=by
 rw[oT (by omega)];exact P8 _ _ _ (by omega)
theorem P9(rows:Int)(k:Nat)(h0:(k:Int)<rows)(h1:rows≤64):k<(cT rows).rows.length:=by
 rw[oT (by omega)];simp;omega
theorem EH(rows:Int)(k:Nat)(h:rows≤64→rows≤k):(cT rows).rows.take k=(cT rows).rows:=by
 refine List.take_of_length_le ?_
 unfold cT;dsimp only;split
 ·simp;omega
 ·simp
def jy(d:DB)(i:Int)(c:List UInt8):Bool:=inr i 0 (IntKind.i64.wrap ((d.rows.length:Int)-1))&&decide ((c.length:Int)=24)
def uN(d:DB)(i:Int)(c:List UInt8):DB:=if jy d i c then⟨d.rows.set i.toNat c⟩else d
theorem F5{d:DB}{i:Int}{c:List UInt8}(hl:d.rows.length≤1048576)(h:jy d i c=true):0≤i∧i<d.rows.length∧c.length=24:=by
 simp only[jy,Bool.and_eq_true,an,decide_eq_true_eq]at h
 rw[cC (by omega)]at h
 omega
theorem zk{d:DB}{i:Int}{c:List UInt8}(h:jy d i c=true):uN d i c=⟨d.rows.set i.toNat c⟩:=by rw[uN,if_pos h]
theorem EI{d:DB}{i:Int}{c:List UInt8}(h:jy d i c=false):uN d i c=d:=by rw[uN,if_neg (by rw[h];decide)]
def gw(a b:DB):Bool:=(cG a&&cG b)&&decide ((a.rows.length:Int)=b.rows.length)
def fj(a b:DB):List (List UInt8):=List.zipWith dz a.rows b.rows
def fC(a b:DB):DB:=if gw a b then⟨fj a b⟩else a
theorem CT{d:DB}(h:cG d=true):d.rows.length≤64:=by
 simp only[cG,Bool.and_eq_true,decide_eq_true_eq]at h;omega
theorem nM{d:DB}(h:cG d=true)(k:Nat)(hk:k<d.rows.length):(d.rows.getD k (av (.sl .u8))).length=24:=by
 simp only[cG,Bool.and_eq_true,List.all_eq_true,decide_eq_true_eq]at h
 have:=h.2 (d.rows.getD k (av (.sl .u8))) (by rw[List.getD_eq_getElem?_getD,List.getElem?_eq_getElem hk];exact List.getElem_mem _)
 omega
theorem sD{a b:DB}(h:gw a b=true):cG a=true∧cG b=true∧a.rows.length=b.rows.length∧a.rows.length≤64:=by
 simp only[gw,Bool.and_eq_true,decide_eq_true_eq]at h
 have:=CT h.1.1
 exact⟨h.1.1,h.1.2,by omega,this⟩
theorem jk{a b:DB}(h:gw a b=true):(fj a b).length=a.rows.length:=by
 have:=sD h
 rw[fj,List.length_zipWith];omega
theorem vG{a b:DB}(h:gw a b=true)(k:Nat)(hk:k<a.rows.length):(fj a b).getD k (av (.sl .u8))=dz (a.rows.getD k (av (.sl .u8))) (b.rows.getD k (av (.sl .u8))):=by
 have hb:=sD h
 rw[fj,List.getD_eq_getElem?_getD,List.getD_eq_getElem?_getD,List.getD_eq_getElem?_getD,List.getElem?_zipWith,List.getElem?_eq_getElem hk,List.getElem?_eq_getElem (show k<b.rows.length by omega)]
 rfl
theorem H9{a b:DB}(h:gw a b=true)(k:Nat)(hk:k<a.rows.length):(fj a b).take (k+1)=(fj a b).take k++ [dz (a.rows.getD k (av (.sl .u8))) (b.rows.getD k (av (.sl .u8)))]:=by
 rw[bf _ k (av (.sl .u8)) (by rw[jk h];exact hk),vG h k hk]
theorem Ia{a b:DB}(h:gw a b=true)(k:Nat)(hk:k<b.rows.length):(fj a b).take (k+1)++a.rows.drop (k+1)=((fj a b).take k++a.rows.drop k).set k (dz (((fj a b).take k++a.rows.drop k).getD k (av (.sl .u8))) (b.rows.getD k (av (.sl .u8)))):=by
 have hb:=sD h
 have hl:=jk h
 rw[rZ _ _ k (av (.sl .u8)) _ (by omega) (by omega)]
 rw[jK _ _ _ _ (by omega),vG h k (by omega)]
theorem SL{a b:DB}(h:gw a b=true)(k:Nat)(hk:k<b.rows.length):((fj a b).take k++a.rows.drop k).getD k (av (.sl .u8))=a.rows.getD k (av (.sl .u8)):=by
 have hb:=sD h
 have hl:=jk h
 rw[jK _ _ _ _ (by omega)]
theorem tP{a b:DB}(h:gw a b=true):fC a b=⟨fj a b⟩:=by rw[fC,if_pos h]
theorem oU{a b:DB}(h:gw a b=false):fC a b=a:=by rw[fC,if_neg (by rw[h];decide)]
def fW(x:aN)(c:Int):List Int:=(List.range (x.aj.length-1)).map fun i:Nat=>kh x.seed [223,x.round,c,(i:Int)]
theorem jl(x:aN)(c:Int):(fW x c).length=x.aj.length-1:=by simp[fW]
theorem An(x:aN)(c:Int)(k:Nat)(h:k<x.aj.length-1):(fW x c).take (k+1)=(fW x c).take k++ [kh x.seed [223,x.round,c,(k:Int)]]:=by
 rw[bf _ k (av .int) (by rw[jl];exact h),fW,gR _ _ _ _ h]
def uf(rows i:Int)(c:List UInt8):Bool:=inr rows 1 64&&jy (cT rows) i c
def SM(rows i:Int)(c:List UInt8):DB:=if inr rows 1 64 then uN (cT rows) i c else⟨[]⟩
theorem ql:Rm.length=24:=by simp[Rm]
theorem EJ(rows:Int):bL List.length (cT rows).rows≤1048576:=by
 have h:=oS rows
 have h2:((cT rows).rows.map List.length).sum≤24*(cT rows).rows.length:=by
  unfold cT;dsimp only;split
  ·simp[ql];omega
  ·simp
 unfold bL;omega
end
section
theorem jX{d:DB}:cG d=true↔d.rows.length≤64∧ ∀r,r∈d.rows→r.length=24:=by
 simp only[cG,Bool.and_eq_true,decide_eq_true_eq,List.all_eq_true]
 constructor
 ·rintro⟨h1,h2⟩;exact⟨by omega,fun r hr=>by have:=h2 r hr;omega⟩
 ·rintro⟨h1,h2⟩;exact⟨by omega,fun r hr=>by have:=h2 r hr;omega⟩
theorem dj{d:DB}(h:cG d=true):bL List.length d.rows≤1048576:=by
 obtain⟨h1,h2⟩:=jX.1 h
 have h3: ∀l:List (List UInt8),(∀r,r∈l→r.length=24)→(l.map List.length).sum=24*l.length:=by
  intro l
  induction l with
  |nil=>intro _;rfl
  |cons x r ih=>intro hl;rw[List.map_cons,List.sum_cons,ih fun y hy=>hl y (by simp[hy]),hl x (by simp),List.length_cons];omega
 have:=h3 _ h2
 unfold bL;omega
theorem Ij{a b:DB}(ha:cG a=true)(hb:cG b=true):cG (fC a b)=true:=by
 cases h:gw a b with
 |false=>rw[oU h];exact ha
 |true=>
  rw[tP h,jX]
  have hl:=jk h
  refine⟨by have:=CT ha;show(fj a b).length≤64;omega,fun r hr=> ?_⟩
  obtain⟨k,hk⟩:=List.getElem?_of_mem hr
  have hk2:k<(fj a b).length:=(List.getElem?_eq_some_iff.1 hk).1
  have hg:=vG h k (by omega)
  rw[List.getD_eq_getElem?_getD,hk]at hg
  have hx:=sD h
  rw[show r=_ from hg,cV,nM ha k (by omega),nM hb k (by omega)];rfl
def gk(s rows:Int):List (List UInt8):=(List.range rows.toNat).map fun r:Nat=>stream (IntKind.i64.wrap (s+IntKind.i64.wrap (1000*(r:Int)))) (24:Int).toNat
def Kk(s rows:Int):DB:=⟨gk s rows⟩
theorem nP(s rows:Int):(gk s rows).length=rows.toNat:=by simp[gk]
theorem xE(s rows:Int)(k:Nat)(h:k<rows.toNat):(gk s rows).take (k+1)=(gk s rows).take k++ [stream (IntKind.i64.wrap (s+IntKind.i64.wrap (1000*(k:Int)))) (24:Int).toNat]:=by
 rw[bf _ k (av (.sl .u8)) (by rw[nP];exact h),gk,gR _ _ _ _ h]
theorem F9(s rows:Int)(h:rows≤64):cG (Kk s rows)=true:=by
 rw[jX]
 refine⟨by show(gk s rows).length≤64;rw[nP];omega,fun r hr=> ?_⟩
 obtain⟨k,_,rfl⟩:=List.mem_map.1 (show r∈gk s rows from hr)
 exact eJ _ _
def sH(rows i:Int)(c:List UInt8)(sd:List Int):Bool:=uf rows i c&&cE (IntKind.i64.wrap ((sd.length:Int)+1))
def qB(rows i:Int)(c:List UInt8)(sd:List Int):DB:=sd.foldl (fun d s=>fC d (Kk s rows)) (SM rows i c)
def oX(rows i:Int)(c:List UInt8)(sd:List Int):List DB:=if sH rows i c sd then sd.map (fun s=>Kk s rows)++ [qB rows i c sd]else []
theorem Kl{rows i:Int}{c:List UInt8}(h:uf rows i c=true):cG (SM rows i c)=true∧1≤rows∧rows≤64:=by
 simp only[uf,Bool.and_eq_true]at h
 obtain⟨h1,h2⟩:=h
 have hr:1≤rows∧rows≤64:=by rw[an]at h1;exact h1
 have hb:=F5 (Nat.le_trans (oS rows) (by decide)) h2
 refine⟨?_,hr⟩
 rw[SM,if_pos h1,zk h2,jX,oT (by omega)]
 refine⟨by simp;omega,fun r hr=> ?_⟩
 rcases List.mem_or_eq_of_mem_set hr with h|rfl
 ·rw[(List.mem_replicate.1 h).2,ql]
 ·exact hb.2.2
theorem CY(rows i:Int)(c:List UInt8)(sd:List Int)(k:Nat)(h:k<sd.length):qB rows i c (sd.take (k+1))=fC (qB rows i c (sd.take k)) (Kk (sd.getD k (av .int)) rows):=vu _ _ sd k _ h
theorem CZ{rows i:Int}{c:List UInt8}(h:uf rows i c=true)(sd:List Int):cG (qB rows i c sd)=true:=by
 have hu:=Kl h
 have g: ∀(l:List Int) (d:DB),cG d=true→cG (l.foldl (fun d s=>fC d (Kk s rows)) d)=true:=by
  intro l
  induction l with
  |nil=>intro d hd;exact hd
  |cons x r ih=>intro d hd;exact ih _ (Ij hd (F9 x rows hu.2.2))
 exact g sd _ hu.1
theorem Ik{rows i:Int}{c:List UInt8}{sd:List Int}(h:sH rows i c sd=true)(hl:sd.length≤1048576):uf rows i c=true∧sd.length≤3:=by
 simp only[sH,cE,Bool.and_eq_true,an]at h
 rw[cC (by omega)]at h
 exact⟨h.1,by omega⟩
theorem Il(rows i:Int)(c:List UInt8):uf rows i c=(inr rows 1 64&&inr i 0 (IntKind.i64.wrap (rows-1))&&decide ((c.length:Int)=24)):=by
 unfold uf
 cases h:inr rows 1 64 with
 |false=>rfl
 |true=>
  rw[an]at h
  have:((cT rows).rows.length:Int)=rows:=by rw[oT (by omega)];simp;omega
  rw[jy,this]
  simp
theorem SP{rows i:Int}{c:List UInt8}{sd:List Int}(h:sH rows i c sd=true):uN (cT rows) i c=SM rows i c:=by
 simp only[sH,uf,Bool.and_eq_true]at h
 rw[SM,if_pos h.1.1]
end
section
theorem Nk(k c:Int)(p:Plain):(oM k c p).length≤100:=by
 unfold oM
 split
 ·rename_i h
  have hb:=nL h
  have hp:(eO k c p).length≤40:=by
   unfold eO
   simp only[List.length_append,List.length_drop,List.length_cons,List.length_nil,eJ];omega
  rw[List.length_append,iF]
  simp only[four,List.length_cons,List.length_nil];omega
 ·exact Nat.zero_le _
theorem C0(c:dV)(r n:Int):(eP c r n).length≤1048576:=by
 unfold eP
 split
 ·split
  ·exact Nat.le_trans (Nk _ _ _) (by decide)
  ·unfold cover;rw[eJ];decide
 ·exact Nat.zero_le _
def zv(x:aN)(c:Int):dV:=(x.aa.getD c.toNat (av .aL)).live
def cM(x:aN)(c:Int):List DB:=oX x.rows (jS (zv x c) x.round x.rows) (eP (zv x c) x.round x.rows) (fW x c)
theorem Im{x:aN}{c:Int}(h:mw (zv x c) x.round x.rows=false):cM x c= []:=by
 have hc:eP (zv x c) x.round x.rows= []:=by rw[eP,if_neg (by rw[h];decide)]
 unfold cM oX
 rw[hc]
 rw[if_neg]
 simp[sH,uf,jy]
def Io(x:aN)(c:Int):Bool:=okW x&&jh x c
def gm(x:aN)(c:Int):List DB:=if Io x c then cM x c else []
theorem Vf{x:aN}{c:Int}(h:Io x c=true):0≤c∧c<x.aa.length:=by
 simp only[Io,jh,an,Bool.and_eq_true]at h
 omega
end
section
theorem gS{E R:Bool}(h:E=true)(he:E=R):R=true:=by rw[←he];exact h
theorem kP{E R:Bool}(h:E=false)(he:E=R):R=false:=by rw[←he];exact h
theorem LD{x:aN}(h:okW x=true){i:Nat}(hi:i<x.aa.length):okD x i=true:=by
 simp only[okW,Bool.and_eq_true,List.all_eq_true]at h
 exact h.2 i (List.mem_range.2 hi)
theorem Qc{x:aN}(h:okW x=true){i:Nat}(hi:i<x.aj.length):HY x i=true:=by
 simp only[okW,Bool.and_eq_true,List.all_eq_true]at h
 exact h.1.2 i (List.mem_range.2 hi)
theorem Qd{x:aN}{i:Nat}(h:okD x i=true):dH (x.aa.getD i (av .aL)).live=true:=by
 simp only[okD,dB,Bool.and_eq_true]at h
 exact h.1.1.1.1.1.1.1.1.1
theorem sI{x:aN}(h:okW x=true):(1≤x.rows∧x.rows≤64)∧0≤x.round∧x.round≤100000:=by
 have h:=mT h
 simp only[Lv,Bool.and_eq_true,an]at h
 omega
theorem Vg{x:aN}{c:Int}(h:okW x=true)(hc:0≤c∧c<x.aa.length):dH (zv x c)=true:=Qd (LD h (by omega))
theorem Vh{x:aN}{c:Int}(h:okW x=true)(hc:0≤c∧c<x.aa.length):mw (zv x c) x.round x.rows=true:=by
 have:=sI h
 simp only[mw,Vg h hc,Bool.and_eq_true,an]
 exact⟨⟨trivial,this.2⟩,this.1⟩
theorem Km{key r d n:Int}(h:(1≤n∧n≤64)∧0≤r∧r≤1000000000000):0≤dY key r d n∧dY key r d n<n:=by
 unfold dY
 rw[if_pos h]
 exact⟨Int.emod_nonneg _ (by omega),Int.emod_lt_of_pos _ (by omega)⟩
theorem Kn{s r n:Int}(h:1≤n∧n≤64):0≤AE s r n∧AE s r n<n:=by
 unfold AE
 rw[if_pos h]
 exact⟨Int.emod_nonneg _ (by omega),Int.emod_lt_of_pos _ (by omega)⟩
theorem Ip{c:dV}{r n:Int}(h:mw c r n=true):0≤jS c r n∧jS c r n<n:=by
 have hb:(0≤r∧r≤100000)∧1≤n∧n≤64:=by
  simp only[mw,Bool.and_eq_true,an]at h;exact⟨h.1.2,h.2⟩
 rw[jS,if_pos h]
 split
 ·exact Km (by omega)
 ·exact Kn (by omega)
theorem SQ(k d:Int):iG (jg k d)=true:=by
 have:=M9 (eI k [83,d])
 simp only[iG,an];unfold jg;omega
theorem oY{c:dV}(h:dH c=true):c.aq.length≤16∧c.inbox.length≤16∧(∀b,b∈c.aq→b.length≤14)∧(∀b,b∈c.inbox→b.length≤14)∧0≤c.sent∧c.sent≤c.aq.length∧0≤c.next∧c.next≤100000:=by
 simp only[dH,Bool.and_eq_true,Bool.not_eq_true',List.any_eq_false,an,decide_eq_true_eq]at h
 obtain⟨⟨⟨⟨⟨⟨_,h1⟩,h2⟩,h3⟩,h4⟩,h5⟩,h6⟩:=h
 refine⟨by omega,by omega,fun b hb=> ?_,fun b hb=> ?_,h5.1,h5.2,h6.1,h6.2⟩
 ·have:=h3 b hb;simp only[yW,decide_eq_true_eq]at this;omega
 ·have:=h4 b hb;simp only[yW,decide_eq_true_eq]at this;omega
theorem getD_in{α:Type}{l:List α}{k:Nat}(d:α)(h:k<l.length):l.getD k d∈l:=by
 rw[List.getD_eq_getElem?_getD,List.getElem?_eq_getElem h];exact List.getElem_mem h
theorem Iq{k c:Int}{p:Plain}(h:gF k c p=true):(oM k c p).length=24:=by
 have hb:=nL h
 rw[oM,if_pos h,List.length_append,iF]
 simp only[eO,four,List.length_append,List.length_drop,List.length_cons,List.length_nil,eJ];omega
theorem Nl{c:dV}(h:dH c=true){a:Int}(h0:0≤a)(h1:a<c.aq.length):(oR c a).length=24:=by
 obtain⟨q1,_,q2,_⟩:=oY h
 apply Iq
 simp only[gF,SQ,iN,Bool.and_eq_true,an,decide_eq_true_eq]
 have:=q2 _ (getD_in (av (.sl .u8)) (show a.toNat<c.aq.length by omega))
 refine⟨⟨trivial,by omega⟩,by omega,by omega⟩
theorem Ga{c:dV}{r n:Int}(h:mw c r n=true):(eP c r n).length=24:=by
 rw[eP,if_pos h]
 split
 ·rename_i hs
  have hc:dH c=true:=by simp only[mw,Bool.and_eq_true]at h;exact h.1.1
  exact Nl hc (yY h).1 hs
 ·rw[cover,eJ]
theorem Nm{x:aN}{c:Int}(h:okW x=true)(hc:0≤c∧c<x.aa.length):sH x.rows (jS (zv x c) x.round x.rows) (eP (zv x c) x.round x.rows) (fW x c)=true:=by
 have hw:=Vh h hc
 have hr:=sI h
 have hs:=eu h
 have hrow:=Ip hw
 have hcell:=Ga hw
 simp only[sH,Il,cE,Bool.and_eq_true,an,decide_eq_true_eq,jl]
 rw[cC (by omega),cC (by omega)]
 omega
theorem lJ{x:aN}{c:Int}(h:okW x=true)(hc:0≤c∧c<x.aa.length):(cM x c).length=x.aj.length:=by
 have hs:=eu h
 rw[cM,oX,if_pos (Nm h hc),List.length_append,List.length_map,jl]
 simp;omega
theorem C1{x:aN}{c:Int}(h:okW x=true)(hc:0≤c∧c<x.aa.length):gm x c=cM x c:=by
 rw[gm,if_pos]
 simp only[Io,h,jh,Bool.true_and,an]
 omega
end
section
theorem Qe{rows i:Int}{c:List UInt8}{sd:List Int}(hr:rows≤64): ∀d,d∈oX rows i c sd→cG d=true:=by
 intro d hd
 unfold oX at hd
 split at hd
 ·rename_i hm
  have hu:uf rows i c=true:=by simp only[sH,Bool.and_eq_true]at hm;exact hm.1
  rcases List.mem_append.1 hd with h|h
  ·obtain⟨s,_,rfl⟩:=List.mem_map.1 h
   exact F9 s rows hr
  ·rw[List.mem_singleton.1 h];exact CZ hu _
 ·cases hd
def Vi(d:DB):Nat:=(d.rows.map List.length).sum
theorem SR{d:DB}(h:cG d=true):Vi d≤1536:=by
 obtain⟨h1,h2⟩:=jX.1 h
 have h3: ∀l:List (List UInt8),(∀r,r∈l→r.length=24)→(l.map List.length).sum=24*l.length:=by
  intro l
  induction l with
  |nil=>intro _;rfl
  |cons x r ih=>intro hl;rw[List.map_cons,List.sum_cons,ih fun y hy=>hl y (by simp[hy]),hl x (by simp),List.length_cons];omega
 have:=h3 _ h2
 unfold Vi;omega
theorem TB{α:Type}(f:α→Nat)(C:Nat): ∀(l:List α),(∀x,x∈l→f x≤C)→(l.map f).sum≤C*l.length
 | [],_=>by simp
 |x::r,h=>by
  have:=TB f C r fun y hy=>h y (by simp[hy])
  have:=h x (by simp)
  rw[List.map_cons,List.sum_cons,List.length_cons,Nat.mul_add]
  omega
end
section
def m3(s:aU):Prop:=s.received.length≤1048576∧ ∀r,r∈s.received→bL List.length r.share.rows≤1048576
theorem EN{l:List aU}(h:bL bl l≤1048576){i:Nat}{s:aU}(hs:l[i]? =some s):m3 s:=by
 have h1:bL bF s.received≤1048576:=eL h hs
 refine⟨cg h1,fun r hr=> ?_⟩
 obtain⟨j,hj⟩:=List.mem_iff_getElem?.1 hr
 exact eL h1 hj
def wB(x:aN):Prop:=bL bl x.aj≤1048576∧bL aJ x.aa≤1048576∧b7 x.ak≤1048576∧x.replaced.length≤4194304
theorem qC{x:aN}(h:wB x):x.aj.length≤1048576:=cg h.1
def lY(s:aU)(c:Int)(d:DB):aU:=⟨s.id,s.rows,s.round,s.received++ [⟨c,d⟩],s.behavior⟩
def jz(s:aU)(c:Int)(d:DB):Bool:=bW s&&bW (lY s c d)
def Jj(s:aU)(c:Int)(d:DB):aU:=if jz s c d then lY s c d else s
def below(s:aU)(c:Int):Prop:= ∀r,r∈s.received→r.client<c
theorem Nn{s:aU}{c e:Int}{d:DB}(h:below s c)(hc:c<e):below (Jj s c d) e:=by
 intro r hr
 unfold Jj at hr
 split at hr
 ·rcases List.mem_append.1 hr with h1|h1
  ·have:=h r h1;omega
  ·rw[List.mem_singleton.1 h1];exact hc
 ·have:=h r hr;omega
theorem No{s:aU}{c:Int}{d:DB}(h:m3 s)(hd:cG d=true):m3 (Jj s c d):=by
 unfold Jj
 split
 ·rename_i hk
  have h1:(lY s c d).received.length≤8:=by
   simp only[jz,bW,CI,Bool.and_eq_true,decide_eq_true_eq]at hk;omega
  refine⟨by omega,fun r hr=> ?_⟩
  rcases List.mem_append.1 hr with h2|h2
  ·exact h.2 r h2
  ·rw[List.mem_singleton.1 h2];exact dj hd
 ·exact h
def Ro(c:Int)(r:aB):Bool:=r.client==c
def jA(l:List aB)(c:Int):Bool:=l.any (Ro c)
def qK(l:List aB)(c:Int):DB:=if jA l c then(l.getD (fidx (Ro c) l).toNat (av .aB)).share else⟨[]⟩
theorem Qf{l:List aB}{c:Int}{k:Nat}(h:k<l.length)(h1:(l.take k).any (Ro c)=false)(h2:Ro c (l.getD k (av .aB))=true):jA l c=true∧qK l c=(l.getD k (av .aB)).share:=by
 have ha:jA l c=true:=Be l (Ro c) (av .aB) k h h2
 exact⟨ha,by rw[qK,if_pos ha,xl (av .aB) h h1 h2];rfl⟩
theorem Bg{l:List aB}{c:Int}(h:l.any (Ro c)=false):jA l c=false∧qK l c=⟨[]⟩:=⟨h,by rw[qK,jA,h];rfl⟩
theorem Qg{s:aU}{c:Int}(h:below s c):jA s.received c=false:=by
 unfold jA
 rw[List.any_eq_false]
 intro r hr
 have:=h r hr
 simp only[Ro,beq_iff_eq];omega
theorem C2{l:List aB}{c:Int}(h: ∀r,r∈l→bL List.length r.share.rows≤1048576):bL List.length (qK l c).rows≤1048576:=by
 unfold qK
 split
 ·rw[List.getD_eq_getElem?_getD]
  cases hq:l[(fidx (Ro c) l).toNat]? with
  |none=>exact by decide
  |some r=>exact h r (List.mem_of_getElem? hq)
 ·exact by decide
theorem Ko{s:aU}{c:Int}{d:DB}(h:jz s c d=false):Jj s c d=s:=by rw[Jj,h];rfl
theorem LF{s:aU}{c:Int}{d:DB}(h:jz s c d=true):Jj s c d=lY s c d:=by rw[Jj,h];rfl
theorem SS{s:aU}{c:Int}{k:Nat}(hb: ∀r,r∈s.received→r.client<c)(hk:k≤s.received.length)(h:(if decide ((k:Int)<(s.received.length:Int))=true then decide ((s.received.getD k (av .aB)).client<c)else false)=false):k=s.received.length:=by
 by_cases h1:k<s.received.length
 ·rw[if_pos (by simpa using h1)]at h
  have:=hb _ (getD_in (av .aB) h1)
  simp only[decide_eq_false_iff_not]at h
  omega
 ·omega
theorem ins_eq(l:List aB)(y:aB): []++List.drop (Int.toNat 0) (List.take ((l.length:Int)).toNat l)++ [y]++ []=l++ [y]:=by simp
theorem W8{s:aU}{c:Int}{d:DB}(h:(if !bW s then true else !bW (lY s c d))=true):jz s c d=false:=by
 unfold jz
 cases h1:bW s<;>cases h2:bW (lY s c d)<;>simp_all
theorem W9{s:aU}{c:Int}{d:DB}(h:(if !bW s then true else !bW (lY s c d))=false):jz s c d=true:=by
 unfold jz
 cases h1:bW s<;>cases h2:bW (lY s c d)<;>simp_all
def Gb(d:DB):Int:=hsh ((d.rows.length:Int)::d.rows.flatMap yR)
theorem qm(l:List UInt8):(yR l).length=l.length+1:=by simp[yR]
theorem Qh(l:List (List UInt8)): ∀k,((l.take k).flatMap yR).length≤bL List.length l:=by
 have key: ∀m:List (List UInt8),(m.flatMap yR).length=bL List.length m:=by
  intro m
  induction m with
  |nil=>rfl
  |cons x r ih=>rw[List.flatMap_cons,List.length_append,ih,qm];unfold bL;simp only[List.length_cons,List.map_cons,List.sum_cons];omega
 intro k
 rw[key]
 have h1:=dn l List.length k
 unfold bL
 have:(l.take k).length≤l.length:=List.length_take_le' _ _
 omega
theorem LG(l:List (List UInt8))(k:Nat)(h:k<l.length):(l.take (k+1)).flatMap yR=(l.take k).flatMap yR++yR (l.getD k (av (.sl .u8))):=by
 rw[bf l k (av (.sl .u8)) h,List.flatMap_append];simp
def fI(m s:Int):Int:=M8 (kh m [173,s])
theorem Qi{m s:Int}:(if kh m [173,s]>1 then kh m [173,s]else 1)=fI m s:=by
 have:=eI m [173,s]
 unfold fI M8
 split<;>split<;>omega
def qn(c r:Int)(d:DB):Int:=hsh [179,c,r,Gb d]
def Ir(key s c r g:Int):Int:=kh key [181,s,c,r,g]
def VY(key s c r:Int)(d:DB):cU:=⟨s,c,r,qn c r d,Ir key s c r (qn c r d)⟩
def LH(l:List aU)(c:Int)(ds:List DB):List aU:=List.zipWith (fun s d=>Jj s c d) l ds
def vJ(x:aN):Nat→List aU
 |0=>x.aj
 |k+1=>LH (vJ x k) (k:Int) (cM x (k:Int))
def Xa(x:aN)(c:Nat)(i:Nat):List cU:= [VY (fI x.az (i:Int)) (i:Int) (c:Int) x.round ((cM x (c:Int)).getD i (av .DB))]
def DP(x:aN)(c:Nat)(n:Nat):List cU:=(List.range n).flatMap (Xa x c)
def DQ(x:aN)(n:Nat):List cU:=(List.range n).flatMap fun c=>DP x c x.aj.length
theorem zx(x:aN)(c n:Nat):DP x c (n+1)=DP x c n++ [VY (fI x.az (n:Int)) (n:Int) (c:Int) x.round ((cM x (c:Int)).getD n (av .DB))]:=by
 unfold DP
 rw[List.range_succ,List.flatMap_append];simp[Xa]
theorem zy(x:aN)(n:Nat):DQ x (n+1)=DQ x n++DP x n x.aj.length:=by
 unfold DQ
 rw[List.range_succ,List.flatMap_append];simp
theorem xF(x:aN)(c:Nat): ∀n,(DP x c n).length=n
 |0=>rfl
 |n+1=>by rw[zx,List.length_append,xF x c n];rfl
theorem C3(x:aN): ∀n,(DQ x n).length=n*x.aj.length
 |0=>by simp[DQ]
 |n+1=>by rw[zy,List.length_append,C3 x n,xF,Nat.add_mul];omega
structure Col(x:aN)(k:Nat):Prop where
 len:(vJ x k).length=x.aj.length
 Ap: ∀s,s∈vJ x k→below s (k:Int)
 Xb: ∀s,s∈vJ x k→m3 s
theorem oZ{x:aN}(h:okW x=true): ∀s,s∈x.aj→s.received= []:=by
 intro s hs
 obtain⟨i,hi,rfl⟩:=List.mem_iff_getElem.1 hs
 have h1:=Qc h hi
 have e:x.aj.getD i (av .aU)=x.aj[i]:=by rw[List.getD_eq_getElem?_getD,List.getElem?_eq_getElem hi];rfl
 simp only[HY,e,Bool.and_eq_true,decide_eq_true_eq]at h1
 have h2:x.aj[i].received.length=0:=by omega
 exact List.length_eq_zero_iff.1 h2
theorem C4{x:aN}{c:Int}(h:okW x=true): ∀d,d∈cM x c→cG d=true:=by
 have:=sI h
 exact Qe (by omega)
theorem Is{l:List aU}{c:Int}{ds:List DB}{s:aU}(h:s∈LH l c ds): ∃t d,t∈l∧d∈ds∧s=Jj t c d:=by
 induction l generalizing ds with
 |nil=>cases h
 |cons t l ih=>
  cases ds with
  |nil=>cases h
  |cons d ds=>
   rcases List.mem_cons.1 h with h1|h1
   ·exact⟨t,d,List.mem_cons_self ..,List.mem_cons_self ..,h1⟩
   ·obtain⟨t',d',q1,q2,q3⟩:=ih h1
    exact⟨t',d',List.mem_cons_of_mem _ q1,List.mem_cons_of_mem _ q2,q3⟩
theorem col{x:aN}(h:okW x=true): ∀k,k≤x.aa.length→Col x k
 |0,_=>by
  have he:=oZ h
  refine⟨rfl,fun s hs=> ?_,fun s hs=> ?_⟩
  ·intro r hr;rw[he s hs]at hr;cases hr
  ·refine⟨by rw[he s hs];decide,fun r hr=> ?_⟩
   rw[he s hs]at hr;cases hr
 |k+1,hk=>by
  have ih:=col h k (by omega)
  have hl:(cM x (k:Int)).length=x.aj.length:=lJ h (by omega)
  refine⟨?_,fun s hs=> ?_,fun s hs=> ?_⟩
  ·show(List.zipWith _ _ _).length=_
   rw[List.length_zipWith,ih.len,hl];omega
  ·obtain⟨t,d,h1,h2,rfl⟩:=Is hs
   exact Nn (ih.Ap t h1) (by omega)
  ·obtain⟨t,d,h1,h2,rfl⟩:=Is hs
   exact No (ih.Xb t h1) (C4 h d h2)
theorem jY{x:aN}(h:okW x=true){k:Nat}(hk:k≤x.aa.length):(vJ x k).length=x.aj.length:=(col h k hk).len
theorem Qj{x:aN}(h:okW x=true){k i:Nat}(hk:k<x.aa.length)(hi:i<x.aj.length):(vJ x (k+1)).getD i (av .aU)=Jj ((vJ x k).getD i (av .aU)) (k:Int) ((cM x (k:Int)).getD i (av .DB)):=by
 have hl:(cM x (k:Int)).length=x.aj.length:=lJ h (by omega)
 have h2:=jY h (k:=k) (by omega)
 show(List.zipWith _ _ _).getD i _=_
 rw[List.getD_eq_getElem?_getD,List.getD_eq_getElem?_getD,List.getD_eq_getElem?_getD,List.getElem?_zipWith,List.getElem?_eq_getElem (show i<(vJ x k).length by omega),List.getElem?_eq_getElem (show i<(cM x (k:Int)).length by omega)]
 rfl
def o7(x:aN)(k i:Nat):List aU:=(vJ x (k+1)).take i++(vJ x k).drop i
theorem It{x:aN}(h:okW x=true){k i:Nat}(hk:k<x.aa.length)(hi:i≤x.aj.length):(o7 x k i).length=x.aj.length:=by
 have h1:=jY h (k:=k) (by omega)
 have h2:=jY h (k:=k+1) (by omega)
 unfold o7
 rw[jL _ _ _ (by omega) (by omega),h1]
theorem Iu{x:aN}(h:okW x=true){k i:Nat}(hk:k<x.aa.length)(hi:i<x.aj.length):(o7 x k i).getD i (av .aU)=(vJ x k).getD i (av .aU):=by
 have h2:=jY h (k:=k+1) (by omega)
 exact jK _ _ _ _ (by omega)
theorem EO{x:aN}(h:okW x=true){k i:Nat}(hk:k<x.aa.length)(hi:i<x.aj.length):(o7 x k i).set i (Jj ((o7 x k i).getD i (av .aU)) (k:Int) ((cM x (k:Int)).getD i (av .DB)))=o7 x k (i+1):=by
 have h1:=jY h (k:=k) (by omega)
 have h2:=jY h (k:=k+1) (by omega)
 rw[Iu h hk hi]
 exact rZ _ _ _ (av .aU) _ (by omega) (by omega) (Qj h hk hi)
theorem Iv{x:aN}(h:okW x=true){k i:Nat}(hk:k<x.aa.length)(hi:x.aj.length≤i):o7 x k i=vJ x (k+1):=by
 have h1:=jY h (k:=k) (by omega)
 have h2:=jY h (k:=k+1) (by omega)
 unfold o7
 rw[List.take_of_length_le (by omega),List.drop_of_length_le (by omega),List.append_nil]
theorem Iw{x:aN}(h:okW x=true){k i:Nat}(hk:k<x.aa.length)(hi:i<x.aj.length):below ((o7 x k i).getD i (av .aU)) (k:Int)∧m3 ((o7 x k i).getD i (av .aU))∧bL List.length ((cM x (k:Int)).getD i (av .DB)).rows≤1048576:=by
 rw[Iu h hk hi]
 have c:=col h k (by omega)
 have hl:(cM x (k:Int)).length=x.aj.length:=lJ h (by omega)
 exact⟨c.Ap _ (getD_in _ (by rw[c.len];exact hi)),c.Xb _ (getD_in _ (by rw[c.len];exact hi)),dj (C4 h _ (getD_in _ (by omega)))⟩
def aM(x:aN):List aU:=if okW x then vJ x x.aa.length else []
def dF(x:aN):List cU:=if okW x then DQ x x.aa.length else []
end
section
def gd(l:List aA)(f:Int):List Int:=(l.filter fun r=>decide (f≤r.round)).map aA.round
theorem C8(l:List aA)(f:Int)(k:Nat)(h:k<l.length)(h2:f≤(l.getD k (av .aA)).round):gd (l.take (k+1)) f=gd (l.take k) f++ [(l.getD k (av .aA)).round]:=by
 unfold gd
 rw[bf l k (av .aA) h,List.filter_append,List.map_append]
 generalize l.getD k (av .aA)=r at h2 ⊢
 simp[List.filter_cons,h2]
theorem Aq(l:List aA)(f:Int)(k:Nat)(h:k<l.length)(h2: ¬f≤(l.getD k (av .aA)).round):gd (l.take (k+1)) f=gd (l.take k) f:=by
 unfold gd
 rw[bf l k (av .aA) h,List.filter_append,List.map_append]
 generalize l.getD k (av .aA)=r at h2 ⊢
 simp[List.filter_cons,h2]
theorem vM(l:List aA)(f:Int):(gd l f).length≤l.length:=by
 unfold gd
 rw[List.length_map];exact List.length_filter_le _ _
theorem Ar(l:List aA)(f:Int)(k:Nat):(gd (l.take k) f).length≤k:=by
 have h1:=vM (l.take k) f
 rw[List.length_take]at h1
 omega
end
section
def Dx(key c:Int)(cell:List UInt8):List UInt8:=decr (kL key c) (cell.take 20)
def Jk(key c:Int)(cell:List UInt8):Bool:=iG key&&inr c 0 1000000000000&&decide ((cell.length:Int)=24)&&(cell.drop 20==four (ia key c (cell.take 20)))
def TC(key c:Int)(cell:List UInt8):Bool:=inr ((Dx key c cell).getD 0 (av .u8)).toNat 0 3&&decide ((((Dx key c cell).getD 1 (av .u8)).toNat:Int)≤14)
def lK(key c:Int)(cell:List UInt8):Bool:=Jk key c cell&&TC key c cell
def Jl(key c:Int)(cell:List UInt8):Plain:=if lK key c cell then⟨((Dx key c cell).getD 0 (av .u8)).toNat,((Dx key c cell).take (2+((Dx key c cell).getD 1 (av .u8)).toNat)).drop 2⟩else⟨0,[]⟩
theorem Ge{key c:Int}{cell:List UInt8}(h:Jk key c cell=true):(Dx key c cell).length=20∧cell.length=24:=by
 simp only[Jk,Bool.and_eq_true,decide_eq_true_eq]at h
 have:cell.length=24:=by omega
 refine⟨?_,this⟩
 unfold Dx
 rw[mR,List.length_take];omega
theorem lZ{key c:Int}{cell:List UInt8}(h:lK key c cell=false):Jl key c cell=⟨0,[]⟩:=by rw[Jl,h];rfl
theorem Qm(key c:Int)(cell:List UInt8):(Jl key c cell).body.length≤14:=by
 unfold Jl
 split
 ·rename_i h
  simp only[lK,TC,Bool.and_eq_true,decide_eq_true_eq]at h
  simp only[List.length_drop,List.length_take];omega
 ·exact Nat.zero_le _
theorem Qn(a b c d:UInt8)(n:Int)(h0:0≤n)(h1:n<4294967296):([a,b,c,d]==four n)=decide ((a.toNat:Int)+256*b.toNat+65536*c.toNat+16777216*d.toNat=n):=by
 have ha:=a.toNat_lt;have hb:=b.toNat_lt;have hc:=c.toNat_lt;have hd:=d.toNat_lt
 rw[Bool.eq_iff_iff,beq_iff_eq,decide_eq_true_eq]
 have key: ∀(x:UInt8) (m:Int),x=b8 m↔(x.toNat:Int)=m % 256:=by
  intro x m
  constructor
  ·rintro rfl;exact xj m
  ·intro h;apply J7;rw[xj];exact h
 unfold four
 simp only[List.cons.injEq,and_true,key]
 constructor
 ·rintro⟨q1,q2,q3,q4⟩;omega
 ·intro h;omega
def Qo(r:Int)(a:aA):Bool:=a.round==r
def gX(l:List aA)(r:Int):Bool:=l.any (Qo r)
def dJ(l:List aA)(r:Int):DB:=if gX l r then(l.getD (fidx (Qo r) l).toNat (av .aA)).db else⟨[]⟩
theorem Qp{l:List aA}{r:Int}{k:Nat}(h:k<l.length)(h1:(l.take k).any (Qo r)=false)(h2:Qo r (l.getD k (av .aA))=true):gX l r=true∧dJ l r=(l.getD k (av .aA)).db:=by
 have ha:gX l r=true:=Be l (Qo r) (av .aA) k h h2
 exact⟨ha,by rw[dJ,if_pos ha,xl (av .aA) h h1 h2];rfl⟩
theorem Bh{l:List aA}{r:Int}(h:l.any (Qo r)=false):gX l r=false∧dJ l r=⟨[]⟩:=⟨h,by rw[dJ,gX,h];rfl⟩
def SU(rows:List (List UInt8))(v:List Int)(o:List UInt8)(k:Nat):List UInt8:=if decide ((k:Int)<v.length)&&(v.getD k (av .int)==1)then dz o (rows.getD k (av (.sl .u8)))else o
def qo(rows:List (List UInt8))(v:List Int)(k:Nat):List UInt8:=(List.range k).foldl (SU rows v) []
def xG(rows:List (List UInt8))(v:List Int):List UInt8:=qo rows v rows.length
theorem ES(rows:List (List UInt8))(v:List Int)(k:Nat):qo rows v (k+1)=SU rows v (qo rows v k) k:=by
 unfold qo
 rw[List.range_succ,List.foldl_append];rfl
theorem xH{rows:List (List UInt8)}{v:List Int}{k:Nat}(h:k<v.length)(h1:v.getD k (av .int)=1):qo rows v (k+1)=dz (qo rows v k) (rows.getD k (av (.sl .u8))):=by
 rw[ES,SU,if_pos]
 simp only[Bool.and_eq_true,decide_eq_true_eq,beq_iff_eq]
 exact⟨by omega,h1⟩
theorem o8{rows:List (List UInt8)}{v:List Int}{k:Nat}(h: ¬(k<v.length∧v.getD k (av .int)=1)):qo rows v (k+1)=qo rows v k:=by
 rw[ES,SU,if_neg]
 simp only[Bool.and_eq_true,decide_eq_true_eq,beq_iff_eq]
 intro h2
 exact h ⟨by omega,h2.2⟩
theorem ET(rows:List (List UInt8))(v:List Int)(k:Nat)(h:v.length≤k): ∀n,qo rows v (k+n)=qo rows v k
 |0=>rfl
 |n+1=>by rw[←Nat.add_assoc,o8 (by omega)];exact ET rows v k h n
theorem Ix{rows:List (List UInt8)}{v:List Int}{k:Nat}(hk:k≤rows.length)(h:rows.length≤k∨v.length≤k):qo rows v k=xG rows v:=by
 unfold xG
 rcases h with h|h
 ·rw[show k=rows.length by omega]
 ·have:=ET rows v k h (rows.length-k)
  rw[show k+(rows.length-k)=rows.length by omega]at this
  exact this.symm
theorem sN{rows:List (List UInt8)}(v:List Int)(h: ∀r,r∈rows→r.length≤1048576): ∀k,k≤rows.length→(qo rows v k).length≤1048576
 |0,_=>Nat.zero_le _
 |k+1,hk=>by
  have ih:=sN v h k (by omega)
  by_cases hh:k<v.length∧v.getD k (av .int)=1
  ·rw[xH hh.1 hh.2,cV]
   have:=h _ (getD_in (av (.sl .u8)) (show k<rows.length by omega))
   omega
  ·rw[o8 hh];exact ih
def eG(d:DB)(v:List Int):List UInt8:=if cG d&&fM v d.rows.length then dz Rm (xG d.rows v)else []
theorem sO(d:DB)(v:List Int):(eG d v).length=24∨eG d v= []:=by
 unfold eG
 split
 ·left
  rename_i h
  simp only[Bool.and_eq_true]at h
  have key: ∀k,k≤d.rows.length→(qo d.rows v k).length≤24:=by
   intro k
   induction k with
   |zero=>intro _;exact Nat.zero_le _
   |succ k ih=>
    intro hk
    by_cases hh:k<v.length∧v.getD k (av .int)=1
    ·rw[xH hh.1 hh.2,cV,nM h.1 k (by omega)]
     have:=ih (by omega);omega
    ·rw[o8 hh];exact ih (by omega)
  have:=key d.rows.length (Nat.le_refl _)
  unfold xG
  rw[cV,ql];omega
 ·right;rfl
def zB(key sv r:Int)(v:List Int)(b:List UInt8):Int:=kh key ([191,sv,r,(v.length:Int)]++v++yR b)
def Xc(key sv r:Int)(v:List Int)(b:List UInt8):bJ:=⟨sv,r,v,b,zB key sv r v b⟩
def iw(d:DB)(v:List Int):Bool:= !((eG d v).length==0)
def Y4:bJ:=⟨0,0,[],[],0⟩
def fk(key sv r:Int)(d:DB)(v:List Int):bJ:=if iw d v then Xc key sv r v (eG d v)else Y4
def Bi(b:List UInt8):List UInt8:=b.set 0 (b.getD 0 (av .u8)^^^128)
def Gf(s:aU)(key r:Int)(d:DB)(v:List Int):bJ:=if iw d v then(if s.behavior=3 then Xc key s.id r v (Bi (eG d v))else Xc key s.id r v (eG d v))else Y4
theorem Qq(s:aU)(key r:Int)(d:DB)(v:List Int):(Gf s key r d v).data.length=24∨(iw d v=false∧(Gf s key r d v).data= []):=by
 unfold Gf
 cases h:iw d v with
 |false=>right;exact⟨rfl,rfl⟩
 |true=>
  left
  have h1:=sO d v
  have h2:(eG d v).length=24:=by
   rcases h1 with h1|h1
   ·exact h1
   ·rw[iw,h1]at h;cases h
  simp only[if_true]
  split
  ·show(Bi (eG d v)).length=24
   unfold Bi;rw[List.length_set];exact h2
  ·exact h2
def fE(l:List (List UInt8)):Bool:=cE l.length&&l.all fun a=>decide ((a.length:Int)=24)
def ug(l:List (List UInt8)):List UInt8:=l.foldl dz []
def LJ(l:List (List UInt8)):List UInt8:=if fE l then ug l else []
theorem zC(l:List (List UInt8))(k:Nat)(h:k<l.length):ug (l.take (k+1))=dz (ug (l.take k)) (l.getD k (av (.sl .u8))):=by
 unfold ug
 rw[bf l k (av (.sl .u8)) h,List.foldl_append];rfl
theorem Iy{l:List (List UInt8)}(h: ∀a,a∈l→a.length≤1048576): ∀k,(ug (l.take k)).length≤1048576:=by
 intro k
 induction k with
 |zero=>exact Nat.zero_le _
 |succ k ih=>
  by_cases hk:k<l.length
  ·rw[zC l k hk,cV]
   have:=h _ (getD_in (av (.sl .u8)) hk)
   omega
  ·rw[List.take_of_length_le (by omega)]at ih ⊢
   exact ih
def Qr(x:aN)(r:Int)(d:DB)(q:List (List Int))(i:Nat):bJ:=Gf (x.aj.getD i (av .aU)) (fI x.az (i:Int)) r d (q.getD i (av (.sl .int)))
def m8(x:aN)(r:Int)(d:DB)(q:List (List Int))(n:Nat):List bJ:=(List.range n).map (Qr x r d q)
theorem C9(x:aN)(r:Int)(d:DB)(q:List (List Int))(n:Nat):m8 x r d q (n+1)=m8 x r d q n++ [Qr x r d q n]:=by
 unfold m8
 rw[List.range_succ,List.map_append];rfl
theorem EU(x:aN)(r:Int)(d:DB)(q:List (List Int))(n:Nat):(m8 x r d q n).length=n:=by simp[m8]
def query'(x:aN)(r row s:Int):List (List Int):=mV x.rows row (fB x.aj.length r row s)
def As(x:aN)(r row s:Int):List (List UInt8):=(m8 x r (dJ x.ak.rounds r) (query' x r row s) (query' x r row s).length).map bJ.data
def uO(x:aN)(r row s:Int):Bool:=gX x.ak.rounds r&&fE (As x r row s)
def Bj(x:aN)(r row s:Int):List UInt8:=if gX x.ak.rounds r then LJ (As x r row s)else []
theorem Qs{x:aN}{r row s:Int}{k:Nat}(hk:k<(query' x r row s).length)(h:iw (dJ x.ak.rounds r) ((query' x r row s).getD k (av (.sl .int)))=false):fE (As x r row s)=false:=by
 unfold fE
 have h1:(Qr x r (dJ x.ak.rounds r) (query' x r row s) k).data∈As x r row s:=by
  unfold As m8
  rw[List.map_map]
  exact List.mem_map.2 ⟨k,List.mem_range.2 hk,rfl⟩
 have h2:(Qr x r (dJ x.ak.rounds r) (query' x r row s) k).data= []:=by
  rcases Qq (x.aj.getD k (av .aU)) (fI x.az (k:Int)) r (dJ x.ak.rounds r) ((query' x r row s).getD k (av (.sl .int)))with h3|h3
  ·unfold Qr;unfold Gf;rw[h];rfl
  ·exact h3.2
 have h3:((As x r row s).all fun a=>decide ((a.length:Int)=24))=false:=by
  rw[List.all_eq_false]
  exact⟨_,h1,by rw[h2];decide⟩
 rw[h3,Bool.and_false]
def sP(c:dV)(r:Int):Bool:=dH c&&inr r c.next 99999
def sQ(c:dV)(own:List UInt8):Bool:=decide (c.sent<(c.aq.length:Int))&&(own==oR c c.sent)
def Da(c:dV):Int:=jg c.key (1-bK c)
def jB(c:dV)(other:List UInt8):Bool:=(lK (Da c) (c.inbox.length:Int) other&&((Jl (Da c) (c.inbox.length:Int) other).kind==1))&&decide ((c.inbox.length:Int)<16)
def lM(c:dV)(r:Int)(own other:List UInt8):dV:=if sP c r then⟨c.id,c.e9,c.key,c.seed,c.aq,if sQ c own then c.sent+1 else c.sent,if jB c other then c.inbox++ [(Jl (Da c) (c.inbox.length:Int) other).body]else c.inbox,r+1⟩else c
def uP(d:aL):Bool:=dB d&&decide (4≤IntKind.i64.wrap (d.live.next-d.saved.next))
def qN(d:aL)(r:Int):Bool:=sP d.live r&&dB d
def lN(d:aL)(r:Int)(own other:List UInt8):aL:=⟨lM d.live r own other,d.saved⟩
def rdev(d:aL)(r:Int)(own other:List UInt8):aL:=if qN d r then(if uP (lN d r own other)then⟨lM d.live r own other,lM d.live r own other⟩else lN d r own other)else d
def EV(a b:dV):Prop:=a.id=b.id∧a.e9=b.e9∧a.key=b.key∧a.seed=b.seed
theorem Db(c:dV)(r:Int)(own other:List UInt8):EV (lM c r own other) c:=by
 unfold lM
 split
 ·exact⟨rfl,rfl,rfl,rfl⟩
 ·exact⟨rfl,rfl,rfl,rfl⟩
theorem Nq(d:aL)(r:Int)(own other:List UInt8):EV (rdev d r own other).live d.live:=by
 unfold rdev
 split
 ·split
  ·exact Db _ _ _ _
  ·exact Db _ _ _ _
 ·exact⟨rfl,rfl,rfl,rfl⟩
theorem Kp{a b:dV}(h:EV a b):bK a=bK b:=by unfold bK;rw[h.1,h.2.1]
def Qt(x:aN)(d0 d:aL)(r:Int):aL:=rdev d r (Bj x r (dY d0.live.key r (bK d0.live) x.rows) d0.live.seed) (Bj x r (dY d0.live.key r (1-bK d0.live) x.rows) d0.live.seed)
def Iz(x:aN)(d0:aL)(l:List Int):aL:=l.foldl (Qt x d0) d0
theorem Nr(x:aN)(d0:aL)(l:List Int)(k:Nat)(h:k<l.length):Iz x d0 (l.take (k+1))=Qt x d0 (Iz x d0 (l.take k)) (l.getD k (av .int)):=by
 unfold Iz
 rw[bf l k (av .int) h,List.foldl_append];rfl
theorem EW(x:aN)(d0:aL): ∀(l:List Int) (d:aL),EV d.live d0.live→EV (l.foldl (Qt x d0) d).live d0.live
 | [],_,h=>h
 |r::l,d,h=>by
  refine EW x d0 l _ ?_
  have:=Nq d r (Bj x r (dY d0.live.key r (bK d0.live) x.rows) d0.live.seed) (Bj x r (dY d0.live.key r (1-bK d0.live) x.rows) d0.live.seed)
  exact⟨this.1.trans h.1,this.2.1.trans h.2.1,this.2.2.1.trans h.2.2.1,this.2.2.2.trans h.2.2.2⟩
def gy(x:aN)(d:aL):List Int:=gd x.ak.rounds d.live.next
def uQ(x:aN)(d:aL):aL:=Iz x d (gy x d)
def iy(x:aN)(k i:Nat):List aL:=(x.aa.map (uQ x)).take k++(Iz x (x.aa.getD k (av .aL)) ((gy x (x.aa.getD k (av .aL))).take i)::x.aa.drop (k+1))
def Ns(x:aN)(k:Nat):List aL:=(x.aa.map (uQ x)).take k++x.aa.drop k
theorem Qu(x:aN)(k:Nat)(h:k<x.aa.length):iy x k 0=Ns x k:=by
 unfold iy Ns
 rw[List.take_zero,List.drop_eq_getElem_cons h,show x.aa[k]=x.aa.getD k (av .aL)by rw[List.getD_eq_getElem?_getD,List.getElem?_eq_getElem h];rfl];rfl
theorem xI(x:aN)(k:Nat)(h:k<x.aa.length):((x.aa.map (uQ x)).take k).length=k:=by
 rw[List.length_take,List.length_map];omega
theorem LK(x:aN)(k i:Nat)(h:k<x.aa.length):(iy x k i).length=x.aa.length:=by
 unfold iy
 rw[List.length_append,xI x k h,List.length_cons,List.length_drop];omega
theorem Bk(x:aN)(k i:Nat)(h:k<x.aa.length):(iy x k i).getD k (av .aL)=Iz x (x.aa.getD k (av .aL)) ((gy x (x.aa.getD k (av .aL))).take i):=by
 unfold iy
 rw[List.getD_eq_getElem?_getD,List.getElem?_append_right (by rw[xI x k h];omega),xI x k h,Nat.sub_self];rfl
theorem IA(x:aN)(k i:Nat)(h:k<x.aa.length)(hi:i<(gy x (x.aa.getD k (av .aL))).length):(iy x k i).set k (Qt x (x.aa.getD k (av .aL)) ((iy x k i).getD k (av .aL)) ((gy x (x.aa.getD k (av .aL))).getD i (av .int)))=iy x k (i+1):=by
 rw[Bk x k i h, ←Nr x _ _ i hi]
 unfold iy
 rw[List.set_append_right _ _ (by rw[xI x k h];omega),xI x k h,Nat.sub_self];rfl
theorem LL(x:aN)(k i:Nat)(h:k<x.aa.length)(hi:(gy x (x.aa.getD k (av .aL))).length≤i):iy x k i=Ns x (k+1):=by
 unfold iy Ns
 rw[List.take_of_length_le hi,bf (x.aa.map (uQ x)) k (av .aL) (by rw[List.length_map];exact h),List.append_assoc]
 congr 1
 rw[show(x.aa.map (uQ x)).getD k (av .aL)=uQ x (x.aa.getD k (av .aL))by
  rw[List.getD_eq_getElem?_getD,List.getD_eq_getElem?_getD,List.getElem?_map,List.getElem?_eq_getElem h];rfl]
 rfl
theorem LM(x:aN)(k:Nat)(h:k<x.aa.length):(Ns x k).getD k (av .aL)=x.aa.getD k (av .aL):=by rw[←Qu x k h,Bk x k 0 h];rfl
theorem LN(x:aN)(k:Nat)(h:k≤x.aa.length):(Ns x k).length=x.aa.length:=by
 unfold Ns
 rw[jL _ _ _ (by rw[List.length_map]) h]
def LO(x:aN):aN:=if okW x then⟨x.rows,x.aj,x.aa.map (uQ x),x.ak,x.az,x.seed,x.round,x.replaced,x.cancelled⟩else x
theorem LP(x:aN)(k:Nat)(hk:k≤x.aa.length)(h:x.aa.length≤k):Ns x k=x.aa.map (uQ x):=by
 unfold Ns
 rw[List.take_of_length_le (by rw[List.length_map];exact h),List.drop_of_length_le h,List.append_nil]
end
section
theorem Nt(x:UInt8):IntKind.i64.wrap (x.toNat:Int)=x.toNat:=cC (by have:=x.toNat_lt;omega)
def Rp(key c:Int)(cell:List UInt8):Int:=((Dx key c cell).getD 0 (av .u8)).toNat
def Dy(key c:Int)(cell:List UInt8):Nat:=((Dx key c cell).getD 1 (av .u8)).toNat
def TD(key c:Int)(cell:List UInt8):List UInt8:=((Dx key c cell).take (2+Dy key c cell)).drop 2
theorem Vl(key c:Int)(cell:List UInt8):Dy key c cell<256:=((Dx key c cell).getD 1 (av .u8)).toNat_lt
theorem Qv(key c:Int)(cell:List UInt8):decr (kL key c) ((cell.take (20:Int).toNat).drop (0:Int).toNat)=Dx key c cell:=by unfold Dx;simp
theorem Kq(key c:Int)(cell:List UInt8):((Dx key c cell).take (IntKind.i64.wrap (2+IntKind.i64.wrap (((Dx key c cell).getD (Int.toNat 1) (av .u8)).toNat:Int))).toNat).drop (Int.toNat 2)=TD key c cell:=by
 have h:=Vl key c cell
 rw[Nt,cC (by show _∧2+(Dy key c cell:Int)≤_;show _≤2+(Dy key c cell:Int)∧_;omega)]
 show((Dx key c cell).take (2+(Dy key c cell:Int)).toNat).drop 2=_
 rw[show(2+(Dy key c cell:Int)).toNat=2+Dy key c cell by omega];rfl
theorem TF{key c:Int}{cell:List UInt8}(h:14<Dy key c cell):lK key c cell=false:=by
 have:TC key c cell=false:=by
  simp only[TC,Bool.and_eq_false_iff,decide_eq_false_iff_not]
  right
  show¬((Dy key c cell:Int)≤14)
  omega
 rw[lK,this,Bool.and_false]
theorem Kr{key c:Int}{cell:List UInt8}(h:Jk key c cell=false):lK key c cell=false:=by rw[lK,h];rfl
theorem Gg{key c:Int}{cell:List UInt8}(hA:Jk key c cell=true)(h:Dy key c cell≤14):(TD key c cell).length=Dy key c cell:=by
 have:=(Ge hA).1
 unfold TD
 rw[List.length_drop,List.length_take];omega
theorem Xd{key c:Int}{cell:List UInt8}(hA:Jk key c cell=true)(h:Dy key c cell≤14):iN ⟨Rp key c cell,TD key c cell⟩=lK key c cell:=by
 have hl:=Gg hA h
 rw[lK,hA,Bool.true_and,iN,TC]
 show(inr (Rp key c cell) 0 3&&decide (((TD key c cell).length:Int)≤14))=(inr (Rp key c cell) 0 3&&decide ((Dy key c cell:Int)≤14))
 rw[hl]
theorem Bl{key c:Int}{cell:List UInt8}(h:lK key c cell=true):Jl key c cell=⟨Rp key c cell,TD key c cell⟩:=by rw[Jl,if_pos h];rfl
theorem Xe{key c:Int}{cell:List UInt8}(hA:Jk key c cell=true)(h:Dy key c cell≤14)(hk:Rp key c cell≤3):lK key c cell=true:=by
 rw[lK,hA,Bool.true_and,TC]
 simp only[Bool.and_eq_true,an,decide_eq_true_eq]
 exact⟨⟨by omega,hk⟩,by show(Dy key c cell:Int)≤14;omega⟩
theorem Vm{key c:Int}{cell:List UInt8}(h:3<Rp key c cell):lK key c cell=false:=by
 have:TC key c cell=false:=by
  simp only[TC,Bool.and_eq_false_iff]
  left
  rw[au]
  show¬(0≤Rp key c cell∧Rp key c cell≤3)
  omega
 rw[lK,this,Bool.and_false]
theorem Vn(a b k:Nat)(h:a<2^k):a||| (b*2^k)=a+b*2^k:=by
 have:=Nat.two_pow_add_eq_or_of_lt h b
 rw[Nat.mul_comm b,Nat.or_comm, ←this,Nat.add_comm]
theorem Vo{a:Nat}{b k:Nat}(ha:a<2^k)(hb:b<256)(hk:k=8∨k=16∨k=24):IntKind.i64.wrap (BitVec.ofInt IntKind.i64.bits (a:Int)|||BitVec.ofInt IntKind.i64.bits (IntKind.i64.wrap ((b:Int)*2^k))).toNat=((a+b*2^k:Nat):Int):=by
 have hp:b*2^k<2^32:=by
  rcases hk with rfl|rfl|rfl<;>omega
 have ha2:a<2^24:=by
  rcases hk with rfl|rfl|rfl<;>omega
 have e:((b:Int)*2^k)=((b*2^k:Nat):Int):=by push_cast;rfl
 rw[e,cC (a:=((b*2^k:Nat):Int)) (by omega),BitVec.ofInt_natCast,BitVec.ofInt_natCast,BitVec.toNat_or,BitVec.toNat_ofNat,BitVec.toNat_ofNat]
 show IntKind.i64.wrap (((a % 2^64|||b*2^k % 2^64:Nat)):Int)=_
 rw[Nat.mod_eq_of_lt (by omega),Nat.mod_eq_of_lt (by omega),Vn a b k ha,cC (by omega)]
def Vp(cell:List UInt8):Int:=((cell.getD 20 (av .u8)).toNat:Int)+256*(cell.getD 21 (av .u8)).toNat+65536*(cell.getD 22 (av .u8)).toNat+16777216*(cell.getD 23 (av .u8)).toNat
theorem SW(cell:List UInt8):IntKind.i64.wrap (BitVec.ofInt IntKind.i64.bits (IntKind.i64.wrap (BitVec.ofInt IntKind.i64.bits (IntKind.i64.wrap (BitVec.ofInt IntKind.i64.bits (IntKind.i64.wrap ((cell.getD (Int.toNat 20) (av .u8)).toNat:Int))|||BitVec.ofInt IntKind.i64.bits (IntKind.i64.wrap (IntKind.i64.wrap ((cell.getD (Int.toNat 21) (av .u8)).toNat:Int)*2^(min (Int.toNat 8) IntKind.i64.bits)))).toNat)|||BitVec.ofInt IntKind.i64.bits (IntKind.i64.wrap (IntKind.i64.wrap ((cell.getD (Int.toNat 22) (av .u8)).toNat:Int)*2^(min (Int.toNat 16) IntKind.i64.bits)))).toNat)|||BitVec.ofInt IntKind.i64.bits (IntKind.i64.wrap (IntKind.i64.wrap ((cell.getD (Int.toNat 23) (av .u8)).toNat:Int)*2^(min (Int.toNat 24) IntKind.i64.bits)))).toNat=Vp cell:=by
 have h0:=(cell.getD 20 (av .u8)).toNat_lt
 have h1:=(cell.getD 21 (av .u8)).toNat_lt
 have h2:=(cell.getD 22 (av .u8)).toNat_lt
 have h3:=(cell.getD 23 (av .u8)).toNat_lt
 rw[Nt,Nt,Nt,Nt]
 show IntKind.i64.wrap (BitVec.ofInt IntKind.i64.bits (IntKind.i64.wrap (BitVec.ofInt IntKind.i64.bits (IntKind.i64.wrap (BitVec.ofInt IntKind.i64.bits (((cell.getD 20 (av .u8)).toNat:Nat):Int)|||BitVec.ofInt IntKind.i64.bits (IntKind.i64.wrap ((((cell.getD 21 (av .u8)).toNat:Nat):Int)*2^8))).toNat)|||BitVec.ofInt IntKind.i64.bits (IntKind.i64.wrap ((((cell.getD 22 (av .u8)).toNat:Nat):Int)*2^16))).toNat)|||BitVec.ofInt IntKind.i64.bits (IntKind.i64.wrap ((((cell.getD 23 (av .u8)).toNat:Nat):Int)*2^24))).toNat=_
 rw[Vo (k:=8) h0 h1 (by omega),Vo (k:=16) (by omega) h2 (by omega),Vo (k:=24) (by omega) h3 (by omega)]
 unfold Vp
 omega
theorem Vq{cell:List UInt8}(h:cell.length=24):cell.drop 20= [cell.getD 20 (av .u8),cell.getD 21 (av .u8),cell.getD 22 (av .u8),cell.getD 23 (av .u8)]:=by
 rw[mD cell 20 (av .u8) (by omega),mD cell 21 (av .u8) (by omega),mD cell 22 (av .u8) (by omega),mD cell 23 (av .u8) (by omega),List.drop_of_length_le (by omega)]
theorem SX{key c:Int}{cell:List UInt8}(h1:iG key=true)(h2:inr c 0 1000000000000=true)(h3:cell.length=24):Jk key c cell=decide (Vp cell=ia key c (cell.take 20)):=by
 have hr:=eI key (71::c::(cell.take 20).map (fun x=>(x.toNat:Int)))
 have KE:0≤ia key c (cell.take 20)∧ia key c (cell.take 20)<2147483647:=hr
 rw[Jk,h1,h2,show decide ((cell.length:Int)=24)=true by rw[decide_eq_true_eq];omega,Bool.true_and,Bool.true_and,Bool.true_and,Vq h3,Qn _ _ _ _ _ KE.1 (by omega)]
 rfl
def TG(key c:Int)(cell:List UInt8):Bool:=iG key&&inr c 0 1000000000000&&decide ((cell.length:Int)=24)
theorem Vr{key c:Int}{cell:List UInt8}(h:TG key c cell=false):lK key c cell=false:=by
 apply Kr
 unfold TG at h
 rw[Jk,h];rfl
theorem Xf{key c:Int}{cell:List UInt8}(h:TG key c cell=true):iG key=true∧inr c 0 1000000000000=true∧cell.length=24:=by
 simp only[TG,Bool.and_eq_true,decide_eq_true_eq]at h
 exact⟨h.1.1,h.1.2,by omega⟩
theorem Qw(l:List UInt8):l.set (Int.toNat 0) (UInt8.ofNat (IntKind.u8.wrap ((BitVec.ofInt IntKind.u8.bits (((l.getD (Int.toNat 0) (av .u8)).toNat:Nat):Int)^^^BitVec.ofInt IntKind.u8.bits 128).toNat:Int)).toNat)=Bi l:=by
 have:=PT (l.getD (Int.toNat 0) (av .u8)) 128
 rw[show(((128:UInt8).toNat:Nat):Int)=128 from rfl]at this
 rw[this];rfl
theorem LQ{d:DB}{v:List Int}(h:(eG d v).length=0):iw d v=false:=by rw[iw,h];rfl
theorem Dc{d:DB}{v:List Int}(h: ¬(eG d v).length=0):iw d v=true:=by
 rw[iw,Bool.not_eq_true']
 exact beq_eq_false_iff_ne.2 h
theorem Qx{key sv r:Int}{d:DB}{v:List Int}(h:iw d v=false):fk key sv r d v=Y4:=by rw[fk,h];rfl
theorem Bm{key sv r:Int}{d:DB}{v:List Int}(h:iw d v=true):fk key sv r d v=Xc key sv r v (eG d v):=by rw[fk,if_pos h]
theorem Bn{d:DB}{v:List Int}(h:iw d v=true):(eG d v).length=24:=by
 rcases sO d v with h1|h1
 ·exact h1
 ·rw[iw,h1]at h;cases h
theorem Qy{s:aU}{key r:Int}{d:DB}{v:List Int}(h:(iw d v&&(s.behavior==3))=false):Gf s key r d v=fk key s.id r d v:=by
 unfold Gf fk
 cases hk:iw d v with
 |false=>rfl
 |true=>
  rw[hk,Bool.true_and,beq_eq_false_iff_ne]at h
  rw[if_pos rfl,if_pos rfl,if_neg h]
theorem LR{s:aU}{key r:Int}{d:DB}{v:List Int}(h:(iw d v&&(s.behavior==3))=true):iw d v=true∧Gf s key r d v=Xc key s.id r v (Bi (eG d v)):=by
 rw[Bool.and_eq_true,beq_iff_eq]at h
 exact⟨h.1,by rw[Gf,if_pos h.1,if_pos h.2]⟩
theorem Gh(b:List UInt8):(Bi b).length=b.length:=by unfold Bi;rw[List.length_set]
theorem TH(s:aU)(key r:Int)(d:DB){v:List Int}(hv:v.length≤262144):(Gf s key r d v).selection.length≤262144∧(Gf s key r d v).data.length≤262144:=by
 have h:=sO d v
 have h2:(eG d v).length≤262144:=by
  rcases h with h|h
  ·omega
  ·rw[h];exact Nat.zero_le _
 unfold Gf
 split
 ·split
  ·exact⟨hv,by show(Bi (eG d v)).length≤_;rw[Gh];exact h2⟩
  ·exact⟨hv,h2⟩
 ·exact⟨Nat.zero_le _,Nat.zero_le _⟩
theorem LS{l:List (List UInt8)}(h:fE l=true):LJ l=ug l:=by rw[LJ,if_pos h]
theorem Bo{l:List (List UInt8)}(h:fE l=false):LJ l= []:=by rw[LJ,h];rfl
theorem IB{l:List (List UInt8)}(h:fE l=true): ∀a,a∈l→a.length≤1048576:=by
 intro a ha
 simp only[fE,Bool.and_eq_true,List.all_eq_true,decide_eq_true_eq]at h
 have:=h.2 a ha
 omega
theorem SY{l:List (List UInt8)}{k:Nat}(hk:k<l.length)(h: ¬(l.getD k (av (.sl .u8))).length=24):fE l=false:=by
 have h2:(l.all fun a=>decide ((a.length:Int)=24))=false:=J9 _ _ (av (.sl .u8)) k hk (by rw[decide_eq_false_iff_not];omega)
 rw[fE,h2,Bool.and_false]
theorem Qz(rows i:Int)(sd:List Int): ∀v,v∈mV rows i sd→v.length≤64:=by
 intro v hv
 unfold mV at hv
 split at hv
 ·rcases List.mem_append.1 hv with h|h
  ·obtain⟨s,_,rfl⟩:=List.mem_map.1 h
   exact gJ _ _
  ·rw[List.mem_singleton.1 h]
   exact ze rows i sd
 ·cases hv
theorem QA(rows i:Int)(sd:List Int):(mV rows i sd).length≤sd.length+1:=by
 unfold mV
 split
 ·rw[List.length_append,List.length_map];simp
 ·exact Nat.zero_le _
theorem LU{x:aN}(r row s:Int)(h:okW x=true):(query' x r row s).length≤x.aj.length:=by
 have h1:=QA x.rows row (fB x.aj.length r row s)
 have h2:=mW x.aj.length r row s
 have h3:=(eu h).2
 unfold query'
 omega
theorem QB(x:aN)(r row s:Int)(k:Nat):((query' x r row s).getD k (av (.sl .int))).length≤64:=by
 rw[List.getD_eq_getElem?_getD]
 cases hq:(query' x r row s)[k]? with
 |none=>exact Nat.zero_le _
 |some v=>exact Qz _ _ _ v (List.mem_of_getElem? hq)
theorem Gi{x:aN}{r row s:Int}(h:gX x.ak.rounds r=false):Bj x r row s= []∧uO x r row s=false:=⟨by rw[Bj,h];rfl,by rw[uO,h];rfl⟩
theorem LV{x:aN}{r row s:Int}(h:gX x.ak.rounds r=true):Bj x r row s=LJ (As x r row s)∧uO x r row s=fE (As x r row s):=⟨by rw[Bj,if_pos h],by rw[uO,h,Bool.true_and]⟩
theorem Gj{x:aN}(h:okW x=true):x.ak.rounds.length≤8∧ ∀y,y∈x.ak.rounds→bL List.length y.db.rows≤1048576:=by
 have ha:=mT h
 simp only[Lv,Bool.and_eq_true]at ha
 have ha:gG x.ak=true:=ha.1.1.1.1.1.2
 simp only[gG,EC,Bool.and_eq_true,List.all_eq_true,List.mem_range,decide_eq_true_eq]at ha
 refine⟨by omega,fun y hy=> ?_⟩
 obtain⟨i,hi,rfl⟩:=List.mem_iff_getElem.1 hy
 have h2:=ha.2 i hi
 have e:x.ak.rounds.getD i (av .aA)=x.ak.rounds[i]:=by rw[List.getD_eq_getElem?_getD,List.getElem?_eq_getElem hi];rfl
 simp only[ue,e,Bool.and_eq_true]at h2
 exact dj h2.1.2
end
section
def fY(rows:Int)(l:List aB):DB:=l.foldl (fun d r=>fC d r.share) (cT rows)
theorem EX(rows:Int)(l:List aB)(k:Nat)(h:k<l.length):fY rows (l.take (k+1))=fC (fY rows (l.take k)) (l.getD k (av .aB)).share:=by
 unfold fY
 rw[bf l k (av .aB) h,List.foldl_append];rfl
theorem QG(rows:Int):cG (cT rows)=true:=by
 rw[jX]
 refine⟨oS rows,fun r hr=> ?_⟩
 unfold cT at hr
 dsimp only at hr
 split at hr
 ·rw[(List.mem_replicate.1 hr).2];exact ql
 ·cases hr
theorem Kt(a b:DB):(fC a b).rows.length=a.rows.length:=by
 cases h:gw a b with
 |true=>rw[tP h];exact jk h
 |false=>rw[oU h]
theorem zF{a b:DB}(ha:cG a=true):cG (fC a b)=true:=by
 cases h:gw a b with
 |true=>exact Ij ha (sD h).2.1
 |false=>rw[oU h];exact ha
theorem LX(rows:Int): ∀(l:List aB) (d:DB),cG d=true→cG (l.foldl (fun d r=>fC d r.share) d)=true∧(l.foldl (fun d r=>fC d r.share) d).rows.length=d.rows.length
 | [],d,h=>⟨h,rfl⟩
 |r::l,d,h=>by
  have ih:=LX rows l (fC d r.share) (zF h)
  rw[Kt]at ih
  exact ih
theorem zG(rows:Int)(l:List aB):cG (fY rows l)=true∧(fY rows l).rows.length=(cT rows).rows.length:=LX rows l _ (QG rows)
theorem LY(rows:Int)(l:List aB):bL List.length (fY rows l).rows≤1048576:=dj (zG rows l).1
theorem LZ{s:aU}(h:bW s=true):(1≤s.rows∧s.rows≤64)∧s.received.length≤8:=by
 simp only[bW,CI,Bool.and_eq_true,an,decide_eq_true_eq]at h
 omega
theorem xL{s:aU}(h:bW s=true): ∀r,r∈s.received→bL List.length r.share.rows≤1048576:=by
 intro r hr
 obtain⟨i,hi,rfl⟩:=List.mem_iff_getElem.1 hr
 simp only[bW,Bool.and_eq_true,List.all_eq_true,List.mem_range]at h
 have h2:=h.2 i hi
 have e:s.received.getD i (av .aB)=s.received[i]:=by rw[List.getD_eq_getElem?_getD,List.getElem?_eq_getElem hi];rfl
 simp only[nJ,e,Bool.and_eq_true]at h2
 exact dj h2.1.2
theorem Nw(rows:Int)(l:List aB)(f k:Nat)(h:k<l.length)(hf:f≤k):fY rows ((l.drop f).take (k+1-f))=fC (fY rows ((l.drop f).take (k-f))) (l.getD k (av .aB)).share:=by
 rw[show k+1-f=(k-f)+1 by omega,EX _ _ _ (by rw[List.length_drop];omega)]
 congr 2
 rw[List.getD_eq_getElem?_getD,List.getElem?_drop,show f+(k-f)=k by omega];rfl
theorem QH(rows:Int)(l:List aB)(f k:Nat)(h:l.length≤k):fY rows ((l.drop f).take (k-f))=fY rows (l.drop f):=by
 rw[List.take_of_length_le (by rw[List.length_drop];omega)]
def qQ(s:aU):DB:=if bW s then fY s.rows s.received else⟨[]⟩
def alt(d:DB):DB:=⟨d.rows.set 0 ((d.rows.getD 0 (av (.sl .u8))).set 0 ((d.rows.getD 0 (av (.sl .u8))).getD 0 (av .u8)^^^1))⟩
def rcvd(s:aU):List aB:=if s.behavior=1 then s.received.drop 1 else s.received
def qR(s:aU):DB:=if bW s then(if s.behavior=2 then alt (fY s.rows (rcvd s))else fY s.rows (rcvd s))else⟨[]⟩
theorem alt_eq(d:DB):d.rows.set (Int.toNat 0) ((d.rows.getD (Int.toNat 0) (av (.sl .u8))).set (Int.toNat 0) (UInt8.ofNat (IntKind.u8.wrap ((BitVec.ofInt IntKind.u8.bits ((((d.rows.getD (Int.toNat 0) (av (.sl .u8))).getD (Int.toNat 0) (av .u8)).toNat:Nat):Int)^^^BitVec.ofInt IntKind.u8.bits 1).toNat:Int)).toNat))=(alt d).rows:=by
 have:=PT ((d.rows.getD (Int.toNat 0) (av (.sl .u8))).getD (Int.toNat 0) (av .u8)) 1
 rw[show(((1:UInt8).toNat:Nat):Int)=1 from rfl]at this
 rw[this];rfl
theorem Gk(a b:Int):k9 a b≤a∧k9 a b≤b∧(k9 a b=a∨k9 a b=b):=by unfold k9;split<;>omega
theorem QI(l:List aB):l.drop (k9 1 (l.length:Int)).toNat=l.drop 1:=by
 have:=Gk 1 (l.length:Int)
 cases l with
 |nil=>simp
 |cons x r=>
  have h1:k9 1 (((x::r).length:Nat):Int)=1:=by rw[List.length_cons]at this ⊢;omega
  rw[h1];rfl
theorem QJ{s:aU}(h:bW s=true):0<(fY s.rows (rcvd s)).rows.length∧0<((fY s.rows (rcvd s)).rows.getD 0 (av (.sl .u8))).length:=by
 have h1:=LZ h
 have h2:=zG s.rows (rcvd s)
 have h3:(cT s.rows).rows.length=s.rows.toNat:=by rw[oT (by omega)];simp
 have h4:0<(fY s.rows (rcvd s)).rows.length:=by omega
 exact⟨h4,by rw[nM h2.1 0 h4];decide⟩
theorem EY(s:aU):s.behavior=1→rcvd s=s.received.drop 1:=fun h=>if_pos h
theorem IC(s:aU): ¬s.behavior=1→rcvd s=s.received:=fun h=>if_neg h
theorem QK{d:DB}(h:cG d=true):cG (alt d)=true:=by
 rw[jX]at h ⊢
 refine⟨by unfold alt;dsimp only;rw[List.length_set];exact h.1,fun r hr=> ?_⟩
 unfold alt at hr
 dsimp only at hr
 rcases List.mem_or_eq_of_mem_set hr with h1|h1
 ·exact h.2 r h1
 ·subst h1
  rw[List.length_set]
  cases hd:d.rows with
  |nil=>rw[hd]at hr;cases hr
  |cons b l=>exact h.2 b (by rw[hd];exact List.mem_cons_self ..)
theorem S4(s:aU):bL List.length (qR s).rows≤1048576:=by
 unfold qR
 split
 ·split
  ·exact dj (QK (zG _ _).1)
  ·exact dj (zG _ _).1
 ·exact by decide
theorem QL(s:aU): ∀r,r∈rcvd s→r∈s.received:=by
 intro r hr
 unfold rcvd at hr
 split at hr
 ·exact List.mem_of_mem_drop hr
 ·exact hr
def Ku(key:Int)(r:cU):Bool:=r.AW==Ir key r.server r.client r.round r.iU
def pq(key:Int)(s:aU)(r:cU):Bool:=(r.server !=s.id||r.round !=s.round)|| !Ku key r
def Gl(r:cU)(d:DB):Bool:=r.iU==qn r.client r.round d
def gY(key:Int)(s:aU)(r:cU):Int:=if pq key s r then 0 else if jA s.received r.client then(if Gl r (qK s.received r.client)then 0 else 2)else 1
def AK(key:Int)(s:aU)(p:DB):List cU→Int
 | []=>if bW s&&(p.rows==(qQ s).rows)then 0 else 3
 |r::l=>if gY key s r=0 then AK key s p l else gY key s r
theorem zH(key:Int)(s:aU)(p:DB): ∀(l:List cU) (k:Nat),(∀j,j<k→gY key s (l.getD j (av .cU))=0)→AK key s p (l.drop k)=AK key s p l
 |l,0,_=>by rw[List.drop_zero]
 | [],k+1,_=>by simp
 |r::l,k+1,h=>by
  have h0:=h 0 (by omega)
  rw[List.drop_succ_cons,zH key s p l k fun j hj=>by simpa using h (j+1) (by omega)]
  show AK key s p l=if gY key s r=0 then AK key s p l else gY key s r
  rw[if_pos (by simpa using h0)]
theorem xM{key:Int}{s:aU}{p:DB}{l:List cU}{k:Nat}(h: ∀j,j<k→gY key s (l.getD j (av .cU))=0)(hk:k<l.length)(hn:gY key s (l.getD k (av .cU))≠0):AK key s p l=gY key s (l.getD k (av .cU)):=by
 rw[←zH key s p l k h,List.drop_eq_getElem_cons hk,show l[k]=l.getD k (av .cU)by rw[List.getD_eq_getElem?_getD,List.getElem?_eq_getElem hk];rfl]
 exact if_neg hn
theorem xN{key:Int}{s:aU}{p:DB}{l:List cU}{k:Nat}(h: ∀j,j<k→gY key s (l.getD j (av .cU))=0)(hk:l.length≤k):AK key s p l=if bW s&&(p.rows==(qQ s).rows)then 0 else 3:=by
 rw[←zH key s p l k h,List.drop_of_length_le hk];rfl
theorem qp{key:Int}{s:aU}{l:List cU}{k:Nat}(h: ∀j,j<k→gY key s (l.getD j (av .cU))=0)(hk:gY key s (l.getD k (av .cU))=0): ∀j,j<k+1→gY key s (l.getD j (av .cU))=0:=by
 intro j hj
 by_cases hjk:j=k
 ·subst hjk;exact hk
 ·exact h j (by omega)
def AL(m:Int)(sv:List aU)(pb:List DB)(rc:List cU)(i:Nat):Bool:=decide ((pb.length:Int)≤(i:Int))|| !(AK (fI m (sv.getD i (av .aU)).id) (sv.getD i (av .aU)) (pb.getD i (av .DB)) rc==0)
def Vu(m:Int)(sv:List aU)(pb:List DB)(rc:List cU)(i:Nat):List Int:=if AL m sv pb rc i then [(sv.getD i (av .aU)).id]else []
def dU(m:Int)(sv:List aU)(pb:List DB)(rc:List cU)(n:Nat):List Int:=(List.range n).flatMap (Vu m sv pb rc)
theorem Dd{m:Int}{sv:List aU}{pb:List DB}{rc:List cU}{n:Nat}(h:AL m sv pb rc n=true):dU m sv pb rc (n+1)=dU m sv pb rc n++ [(sv.getD n (av .aU)).id]:=by
 unfold dU
 rw[List.range_succ,List.flatMap_append];simp[Vu,h]
theorem zI{m:Int}{sv:List aU}{pb:List DB}{rc:List cU}{n:Nat}(h:AL m sv pb rc n=false):dU m sv pb rc (n+1)=dU m sv pb rc n:=by
 unfold dU
 rw[List.range_succ,List.flatMap_append];simp[Vu,h]
theorem nj(m:Int)(sv:List aU)(pb:List DB)(rc:List cU): ∀n,(dU m sv pb rc n).length≤n
 |0=>Nat.le_refl _
 |n+1=>by
  have ih:=nj m sv pb rc n
  cases h:AL m sv pb rc n with
  |true=>rw[Dd h,List.length_append];simp;omega
  |false=>rw[zI h];omega
def bI(sv:List aU):List DB:=sv.map qR
theorem EZ(sv:List aU)(k:Nat)(h:k<sv.length):(bI sv).take (k+1)=(bI sv).take k++ [qR (sv.getD k (av .aU))]:=by
 rw[bf (bI sv) k (av .DB) (by unfold bI;rw[List.length_map];exact h)]
 congr 2
 unfold bI
 rw[List.getD_eq_getElem?_getD,List.getD_eq_getElem?_getD,List.getElem?_map,List.getElem?_eq_getElem h];rfl
theorem L0(sv:List aU): ∀d,d∈bI sv→bL List.length d.rows≤1048576:=by
 intro d hd
 obtain⟨s,_,rfl⟩:=List.mem_map.1 hd
 exact S4 s
theorem ID{pb:List DB}(h: ∀d,d∈pb→bL List.length d.rows≤1048576)(k:Nat):bL List.length (pb.getD k (av .DB)).rows≤1048576:=by
 rw[List.getD_eq_getElem?_getD]
 cases hq:pb[k]? with
 |none=>exact by decide
 |some d=>exact h d (List.mem_of_getElem? hq)
theorem De{x:aN}(h:okW x=true): ∀s,s∈aM x→m3 s:=by
 rw[aM,if_pos h];exact(col h _ (Nat.le_refl _)).Xb
theorem pz{x:aN}(h:okW x=true):(aM x).length=x.aj.length:=by
 rw[aM,if_pos h];exact jY h (Nat.le_refl _)
theorem Xh{key:Int}{s:aU}{r:cU}(h:pq key s r=false)(h1:jA s.received r.client=false):gY key s r=1:=by rw[gY,h,h1];rfl
theorem Xi{key:Int}{s:aU}{r:cU}(h:pq key s r=false)(h1:jA s.received r.client=true)(h2:Gl r (qK s.received r.client)=false):gY key s r=2:=by rw[gY,h,h1,h2];rfl
theorem Xj{key:Int}{s:aU}{r:cU}(h:pq key s r=false)(h1:jA s.received r.client=true)(h2:Gl r (qK s.received r.client)=true):gY key s r=0:=by rw[gY,h,h1,h2];rfl
theorem Xk{key:Int}{s:aU}{r:cU}(h:pq key s r=true):gY key s r=0:=by rw[gY,h];rfl
end
section
def L1:DB→List DB→Option DB
 |a,[]=>some a
 |a,s::r=>if gw a s then L1 (fC a s) r else none
def NR(l:List DB):Option DB:=if cE l.length then L1 (l.getD 0 (av .DB)) (l.drop 1)else none
def AM(l:List DB):Bool:=(NR l).isSome
def jw(l:List DB):DB:=(NR l).getD ⟨[]⟩
def xO(l:List DB)(k:Nat):DB:=((l.drop 1).take k).foldl fC (l.getD 0 (av .DB))
theorem xP(l:List DB)(k:Nat)(h:k<(l.drop 1).length):xO l (k+1)=fC (xO l k) ((l.drop 1).getD k (av .DB)):=by
 unfold xO
 rw[bf (l.drop 1) k (av .DB) h,List.foldl_append];rfl
theorem IE{α:Type}(l:List α)(k:Nat)(d:α)(h:k<l.length):l.drop k=l.getD k d::l.drop (k+1):=by
 rw[List.drop_eq_getElem_cons h,show l[k]=l.getD k d by rw[List.getD_eq_getElem?_getD,List.getElem?_eq_getElem h];rfl]
theorem IF(l:List DB)(k:Nat)(h:k<(l.drop 1).length)(hx:gw (xO l k) ((l.drop 1).getD k (av .DB))=true):L1 (xO l k) ((l.drop 1).drop k)=L1 (xO l (k+1)) ((l.drop 1).drop (k+1)):=by
 rw[IE _ k (av .DB) h,L1,if_pos hx,xP l k h]
theorem QM(l:List DB)(k:Nat)(h:k<(l.drop 1).length)(hx:gw (xO l k) ((l.drop 1).getD k (av .DB))=false):L1 (xO l k) ((l.drop 1).drop k)=none:=by
 rw[IE _ k (av .DB) h,L1,hx];rfl
theorem L2(l:List DB)(k:Nat)(h:(l.drop 1).length≤k):L1 (xO l k) ((l.drop 1).drop k)=some (xO l k):=by
 rw[List.drop_of_length_le h];rfl
def sV(l:List DB):Prop:= ∀d,d∈l→cG d=true
theorem kS{l:List DB}(h:sV l)(k:Nat):cG (l.getD k (av .DB))=true:=by
 rw[List.getD_eq_getElem?_getD]
 cases hq:l[k]? with
 |none=>exact by decide
 |some d=>exact h d (List.mem_of_getElem? hq)
theorem QN{l:List DB}(h:sV l): ∀k,cG (xO l k)=true:=by
 intro k
 induction k with
 |zero=>exact kS h 0
 |succ k ih=>
  by_cases hk:k<(l.drop 1).length
  ·rw[xP l k hk];exact zF ih
  ·have e:xO l (k+1)=xO l k:=by unfold xO;rw[List.take_of_length_le (by omega),List.take_of_length_le (by omega)]
   rw[e];exact ih
theorem Kv{l:List DB}(h:sV l):sV (l.drop 1):=fun d hd=>h d (List.mem_of_mem_drop hd)
theorem Df{l:List DB}(h:NR l=none):jw l=⟨[]⟩∧AM l=false:=by unfold jw AM;rw[h];exact⟨rfl,rfl⟩
theorem Gm{l:List DB}{d:DB}(h:NR l=some d):jw l=d∧AM l=true:=by unfold jw AM;rw[h];exact⟨rfl,rfl⟩
theorem L3{l:List DB}(h:cE l.length=false):NR l=none:=by rw[NR,h];rfl
theorem L4{l:List DB}(h:cE l.length=true):NR l=L1 (xO l 0) ((l.drop 1).drop 0):=by rw[NR,if_pos h];rfl
theorem Dg{l:List DB}(h:cE l.length=true):2≤l.length∧l.length≤4:=by simp only[cE,an]at h;omega
theorem S5(s:aU):cG (qR s)=true:=by
 unfold qR
 split
 ·split
  ·exact QK (zG _ _).1
  ·exact(zG _ _).1
 ·exact by decide
theorem Bp(sv:List aU):sV (bI sv):=by
 intro d hd
 obtain⟨s,_,rfl⟩:=List.mem_map.1 hd
 exact S5 s
theorem L5(l:List DB)(h:sV l):cG (jw l)=true:=by
 cases hq:NR l with
 |none=>rw[(Df hq).1];decide
 |some d=>
  rw[(Gm hq).1]
  have key: ∀(r:List DB) (a:DB),cG a=true→L1 a r=some d→cG d=true:=by
   intro r
   induction r with
   |nil=>intro a ha hj;simp only[L1,Option.some.injEq]at hj;exact hj▸ha
   |cons s r ih=>
    intro a ha hj
    simp only[L1]at hj
    split at hj
    ·exact ih _ (zF ha) hj
    ·cases hj
  unfold NR at hq
  split at hq
  ·exact key _ _ (kS h 0) hq
  ·cases hq
def sW(a:iS)(r:Int)(d:DB):Bool:=(((gG a&&inr r 0 100000)&& !decide (r≤cS a))&&cG d)&&decide ((d.rows.length:Int)=a.rows)
def Gn(a:iS)(r:Int)(d:DB):List aA:=a.rounds++ [⟨r,d⟩]
def Nx(a:iS)(r:Int)(d:DB):List aA:=if sW a r d then(if(8:Int)<(Gn a r d).length then(Gn a r d).drop 1 else Gn a r d)else a.rounds
def Dh(id rows b:Int):Bool:=inr id 0 3&&inr rows 1 64&&inr b 0 3
def newS(id rows b:Int):aU:=if Dh id rows b then⟨id,rows,0,[],b⟩else⟨0,0,0,[],0⟩
def Gp(s:aU):Bool:=bW s&& !(s.round==100000)
def lO(s:aU):aU:=if Gp s then⟨s.id,s.rows,IntKind.i64.wrap (s.round+1),[],s.behavior⟩else s
def zJ(l:List aU)(id:Int):Bool:=inr id 0 (IntKind.i64.wrap ((l.length:Int)-1))
def uT(rows rd:Int)(p:List aU×List Int)(id:Int):List aU×List Int:=if zJ p.1 id then(p.1.set id.toNat ⟨id,rows,rd,[],0⟩,p.2++ [id])else p
def IG(rows rd:Int)(p:List aU×List Int)(g:List Int):List aU×List Int:=g.foldl (uT rows rd) p
theorem Di(rows rd:Int)(p:List aU×List Int)(g:List Int)(k:Nat)(h:k<g.length):IG rows rd p (g.take (k+1))=uT rows rd (IG rows rd p (g.take k)) (g.getD k (av .int)):=by
 unfold IG
 rw[bf g k (av .int) h,List.foldl_append];rfl
theorem L6(rows rd:Int)(p:List aU×List Int)(id:Int):(uT rows rd p id).1.length=p.1.length∧(uT rows rd p id).2.length≤p.2.length+1:=by
 unfold uT
 split
 ·simp
 ·exact⟨rfl,Nat.le_succ _⟩
theorem Gq(rows rd:Int)(p:List aU×List Int)(g:List Int): ∀k,k≤g.length→(IG rows rd p (g.take k)).1.length=p.1.length∧(IG rows rd p (g.take k)).2.length≤p.2.length+k
 |0,_=>⟨rfl,Nat.le_refl _⟩
 |k+1,hk=>by
  have ih:=Gq rows rd p g k (by omega)
  rw[Di _ _ _ _ k (by omega)]
  have:=L6 rows rd (IG rows rd p (g.take k)) (g.getD k (av .int))
  omega
def Dj(rd:Int)(l:List aU):Prop:= ∀s,s∈l→s.round=rd∧m3 s
theorem Xl{rows rd:Int}{p:List aU×List Int}{id:Int}(h:Dj rd p.1):Dj rd (uT rows rd p id).1:=by
 unfold uT
 split
 ·intro s hs
  rcases List.mem_or_eq_of_mem_set hs with h1|h1
  ·exact h s h1
  ·subst h1
   exact⟨rfl,Nat.zero_le _,fun r hr=>by cases hr⟩
 ·exact h
theorem QO{rows rd:Int}{p:List aU×List Int}(g:List Int)(h:Dj rd p.1): ∀k,k≤g.length→Dj rd (IG rows rd p (g.take k)).1
 |0,_=>h
 |k+1,hk=>by
  rw[Di _ _ _ _ k (by omega)]
  exact Xl (QO g h k (by omega))
theorem QS(l:List aU)(k:Nat)(h:k<l.length):((l.map lO).take k++l.drop k).set k (lO (((l.map lO).take k++l.drop k).getD k (av .aU)))=(l.map lO).take (k+1)++l.drop (k+1):=by
 rw[jK _ _ _ _ (by rw[List.length_map];omega)]
 refine rZ _ _ _ (av .aU) _ h (by rw[List.length_map];exact h) ?_
 rw[List.getD_eq_getElem?_getD,List.getD_eq_getElem?_getD,List.getElem?_map,List.getElem?_eq_getElem h];rfl
def jF(x:aN):Bool:=okW x&& !decide (x.round≥99999)
def sX(x:aN)(g:List Int):List aU×List Int:=IG x.rows x.round (x.aj,x.replaced) g
def bz(x:aN)(g:List Int)(d:DB):aN:=if jF x then⟨x.rows,(sX x g).1.map lO,x.aa,⟨x.ak.rows,if g.length=0 then Nx x.ak x.round d else x.ak.rounds⟩,x.az,x.seed,IntKind.i64.wrap (x.round+1),(sX x g).2,if g.length=0 then x.cancelled else IntKind.i64.wrap (x.cancelled+1)⟩else x
theorem TI{x:aN}(h:okW x=true):Dj x.round x.aj:=by
 intro s hs
 obtain⟨i,hi,rfl⟩:=List.mem_iff_getElem.1 hs
 have h1:=Qc h hi
 have e:x.aj.getD i (av .aU)=x.aj[i]:=by rw[List.getD_eq_getElem?_getD,List.getElem?_eq_getElem hi];rfl
 have he:=oZ h _ hs
 simp only[HY,e,Bool.and_eq_true,beq_iff_eq]at h1
 exact⟨h1.1.2,by rw[he];decide,fun r hr=>by rw[he]at hr;cases hr⟩
def QT(key:Int)(a:bJ):Bool:=a.AW==zB key a.server a.round a.selection a.data
def Vv(key:Int)(d:DB)(a:bJ):Bool:=QT key a&& !(a.data==eG d a.selection)
def ZZ(x:aN)(i:Nat):Int:=fI x.az (i:Int)
def Xm(x:aN)(i:Nat):bJ:=Gf (x.aj.getD i (av .aU)) (ZZ x i) (cS x.ak) (dJ x.ak.rounds (cS x.ak)) (bC (kh x.seed [227,x.round,(i:Int)]) x.rows)
def TJ(x:aN)(i:Nat):Bool:=Vv (ZZ x i) (dJ x.ak.rounds (cS x.ak)) (Xm x i)
def Kw(x:aN)(n:Nat):List Int:=(List.range n).flatMap fun i=>if TJ x i then [(i:Int)]else []
theorem L7{x:aN}{n:Nat}(h:TJ x n=true):Kw x (n+1)=Kw x n++ [(n:Int)]:=by
 unfold Kw
 rw[List.range_succ,List.flatMap_append];simp[h]
theorem II{x:aN}{n:Nat}(h:TJ x n=false):Kw x (n+1)=Kw x n:=by
 unfold Kw
 rw[List.range_succ,List.flatMap_append];simp[h]
def fJ(x:aN)(n:Nat):List aU×List Int:=IG x.rows x.round (x.aj,x.replaced) (Kw x n)
theorem L8{x:aN}{n:Nat}(h:TJ x n=true):fJ x (n+1)=uT x.rows x.round (fJ x n) (n:Int):=by
 unfold fJ IG
 rw[L7 h,List.foldl_append];rfl
theorem IJ{x:aN}{n:Nat}(h:TJ x n=false):fJ x (n+1)=fJ x n:=by unfold fJ;rw[II h]
def xQ(x:aN):Bool:=okW x&&gX x.ak.rounds (cS x.ak)
def testW(x:aN):aN:=if xQ x then⟨x.rows,(fJ x x.aj.length).1,x.aa,x.ak,x.az,x.seed,x.round,(fJ x x.aj.length).2,x.cancelled⟩else x
def cP(x:aN):aN:=if jF x then LO (testW (bz x (dU x.az (aM x) (bI (aM x)) (dF x) (aM x).length) (jw (bI (aM x)))))else x
end
section
theorem IK{α:Type}(f:α→Nat)(C n:Nat)(l:List α)(h: ∀y,y∈l→f y≤C)(hl:l.length≤n):bL f l≤(C+1)*n:=by
 have h1:=TB f C l h
 have h2:(C+1)*l.length≤(C+1)*n:=Nat.mul_le_mul_left _ hl
 unfold bL
 rw[Nat.add_mul,Nat.one_mul]at h2
 omega
theorem QU{d:DB}(h:cG d=true):bL List.length d.rows≤1600:=by
 have h1:=SR h
 have h2:=CT h
 unfold Vi at h1;unfold bL;omega
def IL(c:dV):Prop:=c.aq.length≤16∧c.inbox.length≤16∧(∀b,b∈c.aq→b.length≤14)∧ ∀b,b∈c.inbox→b.length≤14
theorem xR{c:dV}(h:dH c=true):IL c:=by
 obtain⟨h1,h2,h3,h4,_⟩:=oY h
 exact⟨h1,h2,h3,h4⟩
theorem E0{c:dV}(h:IL c):bh c≤480:=by
 have h1:=IK List.length 14 16 c.aq h.2.2.1 h.1
 have h2:=IK List.length 14 16 c.inbox h.2.2.2 h.2.1
 unfold bh;omega
theorem Bq{c:dV}(h:IL c)(r:Int)(own other:List UInt8):IL (lM c r own other):=by
 unfold lM
 split
 ·refine⟨h.1,?_,h.2.2.1,?_⟩
  ·dsimp only
   split
   ·rename_i hg
    simp only[jB,Bool.and_eq_true,decide_eq_true_eq]at hg
    rw[List.length_append,List.length_singleton];omega
   ·exact h.2.1
  ·dsimp only
   split
   ·intro b hb
    rcases List.mem_append.1 hb with h1|h1
    ·exact h.2.2.2 b h1
    ·rw[List.mem_singleton.1 h1];exact Qm _ _ _
   ·exact h.2.2.2
 ·exact h
def uh(d:aL):Prop:=IL d.live∧IL d.saved
theorem Vw{d:aL}(h:uh d)(r:Int)(own other:List UInt8):uh (rdev d r own other):=by
 unfold rdev
 split
 ·split
  ·exact⟨Bq h.1 _ _ _,Bq h.1 _ _ _⟩
  ·exact⟨Bq h.1 _ _ _,h.2⟩
 ·exact h
theorem Kx(x:aN)(d0:aL): ∀(l:List Int) (d:aL),uh d→uh (l.foldl (Qt x d0) d)
 | [],_,h=>h
 |r::l,_,h=>Kx x d0 l _ (Vw h _ _ _)
theorem mF{d:aL}(h:uh d):aJ d≤960:=by
 have h1:=E0 h.1
 have h2:=E0 h.2
 unfold aJ;omega
theorem Xn{x:aN}{i:Nat}(h:okD x i=true):uh (x.aa.getD i (av .aL)):=by
 simp only[okD,dB,Bool.and_eq_true]at h
 exact⟨xR h.1.1.1.1.1.1.1.1.1,xR h.1.1.1.1.1.1.1.1.2⟩
theorem L9{x:aN}(h:okW x=true): ∀d,d∈x.aa→uh d:=by
 intro d hd
 obtain⟨i,hi,rfl⟩:=List.mem_iff_getElem.1 hd
 have h1:=Xn (LD h hi)
 rwa [List.getD_eq_getElem?_getD,List.getElem?_eq_getElem hi]at h1
def wC(x:aN)(n:Nat):Prop:=bL bl x.aj≤1048576∧bL aJ x.aa≤1048576∧b7 x.ak≤1048576∧x.replaced.length≤n
theorem AN{x:aN}{n:Nat}(h:wC x n)(hn:n≤4194304):wB x:=⟨h.1,h.2.1,h.2.2.1,Nat.le_trans h.2.2.2 hn⟩
theorem gr{x:aN}(h:bB x≤1048576):wC x 1048576:=by unfold bB at h;unfold wC;omega
theorem dO{x:aN}{n m:Nat}(h:wC x n)(hn:n≤m):wC x m:=⟨h.1,h.2.1,h.2.2.1,Nat.le_trans h.2.2.2 hn⟩
theorem Xo{x:aN}{n:Nat}(h:wC x n):wC (LO x) n:=by
 unfold LO
 split
 ·rename_i hk
  refine⟨h.1,?_,h.2.2.1,h.2.2.2⟩
  have h1:bL aJ (x.aa.map (uQ x))≤(960+1)*8:=by
   refine IK aJ 960 8 _ (fun d hd=> ?_) (by rw[List.length_map];exact(qi (mT hk)).2.1)
   obtain⟨e,he,rfl⟩:=List.mem_map.1 hd
   exact mF (Kx x e _ _ (L9 hk e he))
  exact Nat.le_trans h1 (by decide)
 ·exact h
theorem Y6{s:aU}(h:s.received= []):bl s=0:=by unfold bl;rw[h];rfl
def At(l:List aU):Prop:=l.length≤4∧ ∀s,s∈l→s.received= []
theorem vQ{l:List aU}(h:At l):bL bl l≤1048576:=
 Nat.le_trans (IK bl 0 4 l (fun s hs=>by rw[Y6 (h.2 s hs)];exact Nat.le_refl 0) h.1) (by decide)
theorem Xp{rows rd:Int}{p:List aU×List Int}{id:Int}(h:At p.1):At (uT rows rd p id).1:=by
 unfold uT
 split
 ·refine⟨by rw[List.length_set];exact h.1,fun s hs=> ?_⟩
  rcases List.mem_or_eq_of_mem_set hs with h1|h1
  ·exact h.2 s h1
  ·subst h1;rfl
 ·exact h
theorem QV{rows rd:Int}: ∀(g:List Int) {p:List aU×List Int},At p.1→At (IG rows rd p g).1∧(IG rows rd p g).2.length≤p.2.length+g.length
 | [],_,h=>⟨h,Nat.le_refl _⟩
 |i::g,p,h=>by
  have h1:=QV (rows:=rows) (rd:=rd) g (Xp (rows:=rows) (rd:=rd) (id:=i) h)
  have h2:=(L6 rows rd p i).2
  refine⟨h1.1,?_⟩
  have h3:(IG rows rd p (i::g)).2.length≤(uT rows rd p i).2.length+g.length:=h1.2
  rw[List.length_cons];omega
theorem TL{x:aN}(h:okW x=true):At x.aj:=⟨(eu h).1,oZ h⟩
theorem Vx{l:List aU}(h:At l):At (l.map lO):=by
 refine⟨by rw[List.length_map];exact h.1,fun s hs=> ?_⟩
 obtain⟨t,ht,rfl⟩:=List.mem_map.1 hs
 unfold lO
 split
 ·rfl
 ·exact h.2 t ht
theorem Xq{a:iS}{r:Int}{d:DB}(ha:gG a=true)(hd:cG d=true):bL aY (Nx a r d)≤1048576:=by
 have h8:a.rounds.length≤8:=by simp only[gG,EC,Bool.and_eq_true,decide_eq_true_eq]at ha;omega
 have hm: ∀y,y∈a.rounds→aY y≤1600:=by
  intro y hy
  obtain⟨i,hi,rfl⟩:=List.mem_iff_getElem.1 hy
  simp only[gG,Bool.and_eq_true,List.all_eq_true,List.mem_range]at ha
  have h2:=ha.2 i hi
  have e:a.rounds.getD i (av .aA)=a.rounds[i]:=by rw[List.getD_eq_getElem?_getD,List.getElem?_eq_getElem hi];rfl
  simp only[ue,e,Bool.and_eq_true]at h2
  exact QU h2.1.2
 have hL: ∀y,y∈Gn a r d→aY y≤1600:=by
  intro y hy
  rcases List.mem_append.1 hy with h1|h1
  ·exact hm y h1
  ·rw[List.mem_singleton.1 h1];exact QU hd
 have hl:(Gn a r d).length≤9:=by unfold Gn;rw[List.length_append,List.length_singleton];omega
 have key:bL aY (Nx a r d)≤(1600+1)*9:=by
  unfold Nx
  split
  ·split
   ·exact IK _ _ _ _ (fun y hy=>hL y (List.mem_of_mem_drop hy)) (by rw[List.length_drop];omega)
   ·exact IK _ _ _ _ hL hl
  ·exact IK _ _ _ _ hm (by omega)
 exact Nat.le_trans key (by decide)
theorem S6{x:aN}(h:okW x=true):gG x.ak=true:=by
 have h:=mT h
 simp only[Lv,Bool.and_eq_true]at h
 exact h.1.1.1.1.1.2
theorem IM{x:aN}{g:List Int}{d:DB}{n:Nat}(h:wC x n)(hd:cG d=true):wC (bz x g d) (n+g.length):=by
 unfold bz
 split
 ·rename_i hk
  simp only[jF,Bool.and_eq_true]at hk
  have h0:=QV (rows:=x.rows) (rd:=x.round) g (p:=(x.aj,x.replaced)) (TL hk.1)
  refine⟨vQ (Vx h0.1),h.2.1,?_,?_⟩
  ·show bL aY _≤_
   dsimp only
   split
   ·exact Xq (S6 hk.1) hd
   ·exact h.2.2.1
  ·have h1:=h0.2
   have h2:=h.2.2.2
   show(IG x.rows x.round (x.aj,x.replaced) g).2.length≤_
   dsimp only at h1
   omega
 ·exact dO h (Nat.le_add_right _ _)
theorem Gr(x:aN): ∀n,(Kw x n).length≤n
 |0=>Nat.le_refl _
 |n+1=>by
  have ih:=Gr x n
  cases h:TJ x n with
  |true=>rw[L7 h,List.length_append];simp;omega
  |false=>rw[II h];omega
theorem Ma{x:aN}{n:Nat}(h:wC x n):wC (testW x) (n+4):=by
 unfold testW
 split
 ·rename_i hk
  simp only[xQ,Bool.and_eq_true]at hk
  have h0:=QV (rows:=x.rows) (rd:=x.round) (Kw x x.aj.length) (p:=(x.aj,x.replaced)) (TL hk.1)
  have h4:=(eu hk.1).1
  have h5:=Gr x x.aj.length
  refine⟨vQ h0.1,h.2.1,h.2.2.1,?_⟩
  have h1:=h0.2
  have h2:=h.2.2.2
  show(IG x.rows x.round (x.aj,x.replaced) (Kw x x.aj.length)).2.length≤_
  dsimp only at h1
  omega
 ·exact dO h (Nat.le_add_right _ _)
theorem Dk{x:aN}{n:Nat}(h:wC x n):wC (cP x) (n+8):=by
 unfold cP
 split
 ·rename_i hk
  simp only[jF,Bool.and_eq_true]at hk
  have h1:=nj x.az (aM x) (bI (aM x)) (dF x) (aM x).length
  rw[pz hk.1]at h1
  have h4:=(eu hk.1).1
  have h2:=Ma (IM (g:=dU x.az (aM x) (bI (aM x)) (dF x) (aM x).length) (d:=jw (bI (aM x))) h (L5 _ (Bp _)))
  rw[pz hk.1]at h2 ⊢
  exact dO (Xo h2) (by omega)
 ·exact dO h (Nat.le_add_right _ _)
end
section
def E1(d:aL):aL:=if dB d then⟨d.live,d.live⟩else d
end
section
theorem xT(c:dV):jg c.key (IntKind.i64.wrap (1-bK c))=Da c:=by
 unfold Da
 rw[cC (by unfold bK;split<;>omega)]
theorem IQ{c:dV}{r:Int}{own other:List UInt8}(h:sP c r=false):lM c r own other=c:=by rw[lM,h];rfl
theorem QX{c:dV}{r:Int}(h:sP c r=true):dH c=true∧c.next≤r∧r≤99999∧0≤c.next:=by
 simp only[sP,Bool.and_eq_true,an]at h
 have:=(oY h.1).2.2.2.2.2.2.1
 exact⟨h.1,h.2.1,h.2.2,this⟩
theorem Mc{d:aL}{r:Int}{own other:List UInt8}(h:qN d r=false):rdev d r own other=d:=by rw[rdev,h];rfl
theorem Md{d:aL}{r:Int}{own other:List UInt8}(h:qN d r=true)(hn:uP (lN d r own other)=true):rdev d r own other=E1 (lN d r own other):=by
 have hk:dB (lN d r own other)=true:=by
  simp only[uP,Bool.and_eq_true]at hn;exact hn.1
 rw[rdev,if_pos h,if_pos hn,E1,if_pos hk];rfl
theorem Me{d:aL}{r:Int}{own other:List UInt8}(h:qN d r=true)(hn:uP (lN d r own other)=false):rdev d r own other=lN d r own other:=by
 rw[rdev,if_pos h,hn];rfl
theorem IS{d:aL}{r:Int}{own other:List UInt8}(h:qN d r=true):aJ (lN d r own other)≤1048576:=by
 simp only[qN,Bool.and_eq_true]at h
 have hd:=h.2
 simp only[dB,Bool.and_eq_true]at hd
 have hb:uh (lN d r own other):=⟨Bq (xR hd.1.1.1.1.1) _ _ _,xR hd.1.1.1.1.2⟩
 have:=mF hb
 omega
theorem VA{x:aN}(h:okW x=true){k:Nat}(hk:k<x.aa.length)(l:List Int):aJ (Iz x (x.aa.getD k (av .aL)) l)≤1048576:=by
 have:=mF (Kx x (x.aa.getD k (av .aL)) l _ (L9 h _ (getD_in (av .aL) hk)))
 unfold Iz;omega
theorem QY{x:aN}(h:okW x=true){k:Nat}(hk:k<x.aa.length)(i:Nat):aJ ((iy x k i).getD k (av .aL))≤1048576:=by
 rw[Bk x k i hk];exact VA h hk _
theorem QZ(x:aN)(k i:Nat)(hk:k<x.aa.length):EV ((iy x k i).getD k (av .aL)).live (x.aa.getD k (av .aL)).live:=by
 rw[Bk x k i hk]
 exact EW x _ _ _ ⟨rfl,rfl,rfl,rfl⟩
theorem Q0(x:aN)(k i:Nat)(h:k<x.aa.length)(hi:i<(gy x (x.aa.getD k (av .aL))).length):
  (iy x k i).set k (rdev ((iy x k i).getD k (av .aL)) ((gy x (x.aa.getD k (av .aL))).getD i (av .int))
   (Bj x ((gy x (x.aa.getD k (av .aL))).getD i (av .int)) (dY ((iy x k i).getD k (av .aL)).live.key ((gy x (x.aa.getD k (av .aL))).getD i (av .int)) (bK ((iy x k i).getD k (av .aL)).live) x.rows) ((iy x k i).getD k (av .aL)).live.seed)
   (Bj x ((gy x (x.aa.getD k (av .aL))).getD i (av .int)) (dY ((iy x k i).getD k (av .aL)).live.key ((gy x (x.aa.getD k (av .aL))).getD i (av .int)) (1-bK ((iy x k i).getD k (av .aL)).live) x.rows) ((iy x k i).getD k (av .aL)).live.seed))=iy x k (i+1):=by
 have hs:=QZ x k i h
 rw[Kp hs,hs.2.2.1,hs.2.2.2]
 exact IA x k i h hi
theorem Q1{x:aN}(h:okW x=false):LO x=x:=by rw[LO,h];rfl
theorem Mf{x:aN}(h:okW x=true):LO x=⟨x.rows,x.aj,x.aa.map (uQ x),x.ak,x.az,x.seed,x.round,x.replaced,x.cancelled⟩:=by rw[LO,if_pos h]
theorem Q2(c:dV):IntKind.i64.wrap (1-bK c)=1-bK c:=cC (by unfold bK;split<;>omega)
end
section
theorem Xy(l:List DB):(l.take ((l.length:Int)).toNat).drop (Int.toNat 1)=l.drop 1:=by simp
theorem IV{α:Type}(l:List α)(k:Nat)(d:α):(l.drop 1).getD k d=l.getD (k+1) d:=by
 rw[List.getD_eq_getElem?_getD,List.getD_eq_getElem?_getD,List.getElem?_drop,Nat.add_comm]
theorem Zd{l:List DB}(ha:sV l)(h:(if(!cE l.length)=true then true else !cG (l.getD (Int.toNat 0) (av .DB)))=true):cE l.length=false:=by
 cases hs:cE l.length with
 |false=>rfl
 |true=>
  rw[hs]at h
  have:=kS ha 0
  have h2:cG (l.getD (Int.toNat 0) (av .DB))=true:=this
  rw[h2]at h
  cases h
theorem Xz{l:List DB}(h:(if(!cE l.length)=true then true else !cG (l.getD (Int.toNat 0) (av .DB)))=false):cE l.length=true:=by
 cases hs:cE l.length with
 |true=>rfl
 |false=>rw[hs]at h;cases h
theorem Ze{l:List DB}(h:(!cE (l.length:Int))=false):(0:Int)≤0∧(0:Int)<(l.length:Int):=by
 have h2:cE (l.length:Int)=true:=by simpa using h
 have:=Dg h2
 omega
theorem Mg{rows rd:Int}{p:List aU×List Int}{id:Int}(h:zJ p.1 id=true):uT rows rd p id=(p.1.set id.toNat ⟨id,rows,rd,[],0⟩,p.2++ [id]):=by rw[uT,if_pos h]
theorem Mh{rows rd:Int}{p:List aU×List Int}{id:Int}(h:zJ p.1 id=false):uT rows rd p id=p:=by rw[uT,h];rfl
theorem Q4{l:List aU}{id:Int}(hl:l.length≤4)(h:zJ l id=true):0≤id∧id<l.length:=by
 simp only[zJ,an]at h
 rw[cC (by omega)]at h
 omega
theorem IW{id rows:Int}(h:0≤id∧id≤3)(hr:1≤rows∧rows≤64):newS id rows 0=⟨id,rows,0,[],0⟩:=by
 have:Dh id rows 0=true:=by simp only[Dh,Bool.and_eq_true,an];omega
 rw[newS,if_pos this]
def fX(x:aN)(g:List Int)(k:Nat):List aU×List Int:=IG x.rows x.round (x.aj,x.replaced) (g.take k)
theorem IX{x:aN}{g:List Int}{k:Nat}(h:k<g.length):uT x.rows x.round (fX x g k) (g.getD k (av .int))=fX x g (k+1):=(Di _ _ _ _ k h).symm
theorem tV{x:aN}{g:List Int}{k:Nat}(h:g.length≤k):fX x g k=sX x g:=by unfold fX sX;rw[List.take_of_length_le h]
theorem yd{x:aN}{g:List Int}{k:Nat}(h:k≤g.length):(fX x g k).1.length=x.aj.length∧(fX x g k).2.length≤x.replaced.length+k:=Gq _ _ _ g k h
theorem IY{x:aN}{g:List Int}{k:Nat}(hk:okW x=true)(h:k≤g.length):Dj x.round (fX x g k).1:=QO g (TI hk) k h
theorem TN{x:aN}(g:List Int)(hk:okW x=true):Dj x.round (sX x g).1:=by
 have:=IY (g:=g) hk (Nat.le_refl _)
 rwa [tV (Nat.le_refl _)]at this
theorem Mi(x:aN)(g:List Int):(sX x g).1.length=x.aj.length∧(sX x g).2.length≤x.replaced.length+g.length:=by
 have:=yd (x:=x) (g:=g) (Nat.le_refl _)
 rwa [tV (Nat.le_refl _)]at this
theorem pH{rd:Int}{l:List aU}(h:Dj rd l){k:Nat}(hk:k<l.length):(l.getD k (av .aU)).round=rd∧m3 (l.getD k (av .aU)):=h _ (getD_in (av .aU) hk)
def AR(l:List aU)(k:Nat):List aU:=(l.map lO).take k++l.drop k
theorem Mj(l:List aU):AR l 0=l:=by unfold AR;simp
theorem yf{l:List aU}{k:Nat}(h:k<l.length):(AR l k).set k (lO ((AR l k).getD k (av .aU)))=AR l (k+1):=QS l k h
theorem Br{l:List aU}{k:Nat}(h:k<l.length):(AR l k).getD k (av .aU)=l.getD k (av .aU):=jK _ _ _ _ (by rw[List.length_map];omega)
theorem Bs{l:List aU}{k:Nat}(h:k≤l.length):(AR l k).length=l.length:=jL _ _ _ (by rw[List.length_map]) h
theorem Bt{l:List aU}{k:Nat}(h:l.length≤k):AR l k=l.map lO:=by
 unfold AR
 rw[List.take_of_length_le (by rw[List.length_map];exact h),List.drop_of_length_le h,List.append_nil]
theorem E3{x:aN}{g:List Int}{d:DB}(h:jF x=false):bz x g d=x:=by rw[bz,h];rfl
theorem IZ{x:aN}{g:List Int}{d:DB}(h:jF x=true)(hg:g.length=0):bz x g d=⟨x.rows,(sX x g).1.map lO,x.aa,⟨x.ak.rows,Nx x.ak x.round d⟩,x.az,x.seed,IntKind.i64.wrap (x.round+1),(sX x g).2,x.cancelled⟩:=by
 rw[bz,if_pos h,if_pos hg,if_pos hg]
theorem I0{x:aN}{g:List Int}{d:DB}(h:jF x=true)(hg: ¬g.length=0):bz x g d=⟨x.rows,(sX x g).1.map lO,x.aa,x.ak,x.az,x.seed,IntKind.i64.wrap (x.round+1),(sX x g).2,IntKind.i64.wrap (x.cancelled+1)⟩:=by
 rw[bz,if_pos h,if_neg hg,if_neg hg]
theorem Gw{x:aN}(h:jF x=true):okW x=true∧x.round<99999:=by
 simp only[jF,Bool.and_eq_true,Bool.not_eq_true',decide_eq_false_iff_not]at h
 exact⟨h.1,by omega⟩
theorem Q5{a:iS}{r:Int}{d:DB}(h:sW a r d=false):Nx a r d=a.rounds:=by rw[Nx,h];rfl
theorem Mk{a:iS}{r:Int}{d:DB}(h:sW a r d=true):Nx a r d=if(8:Int)<(Gn a r d).length then(Gn a r d).drop 1 else Gn a r d:=by rw[Nx,if_pos h]
theorem Q6{a:iS}{r:Int}{d:DB}(h:sW a r d=true):a.rounds.length≤8∧cG d=true:=by
 simp only[sW,gG,EC,Bool.and_eq_true,decide_eq_true_eq]at h
 exact⟨by omega,h.1.2⟩
theorem I1{s rows:Int}(h:1≤rows∧rows≤64):fM (bC s rows) rows=true:=by
 have e:bC s rows=(List.range rows.toNat).map (U5 s):=by rw[bC,if_pos (by omega)]
 simp only[fM,Bool.and_eq_true,decide_eq_true_eq,List.all_eq_true,an]
 refine⟨⟨by rw[e];simp;omega,h.2⟩,fun v hv=> ?_⟩
 rw[e]at hv
 obtain⟨i,_,rfl⟩:=List.mem_map.1 hv
 have:=Na (kh s [(i:Int),41])
 unfold U5
 omega
theorem Q7{x:aN}(h:okW x=true){r:Int}(hh:gX x.ak.rounds r=true):cG (dJ x.ak.rounds r)=true∧((dJ x.ak.rounds r).rows.length:Int)=x.rows:=by
 have ha:=mT h
 simp only[Lv,Bool.and_eq_true,beq_iff_eq]at ha
 have har:x.ak.rows=x.rows:=ha.1.1.1.1.2
 have hok:gG x.ak=true:=ha.1.1.1.1.1.2
 simp only[gG,Bool.and_eq_true,List.all_eq_true,List.mem_range]at hok
 have hi:(x.ak.rounds.findIdx (Qo r))<x.ak.rounds.length:=by
  rw[List.findIdx_lt_length]
  obtain⟨y,h1,h2⟩:=List.any_eq_true.1 hh
  exact⟨y,h1,h2⟩
 have hd:=hok.2 _ hi
 simp only[ue,Bool.and_eq_true,beq_iff_eq]at hd
 have e:dJ x.ak.rounds r=(x.ak.rounds.getD (x.ak.rounds.findIdx (Qo r)) (av .aA)).db:=by
  rw[dJ,if_pos hh]
  have hh2:x.ak.rounds.any (Qo r)=true:=hh
  rw[fidx,if_pos hh2];rfl
 rw[e]
 exact⟨hd.1.2,by rw[←har];exact hd.2⟩
theorem TO{x:aN}(h:okW x=true){r:Int}(hh:gX x.ak.rounds r=true)(s:Int):iw (dJ x.ak.rounds r) (bC s x.rows)=true:=by
 obtain⟨h1,h2⟩:=Q7 h hh
 apply Dc
 have hs:fM (bC s x.rows) ((dJ x.ak.rounds r).rows.length:Int)=true:=by rw[h2];exact I1 (sI h).1
 rw[eG,h1,hs]
 simp only[Bool.and_self,if_true]
 rw[cV,ql]
 omega
theorem TP{x:aN}(h:okW x=true)(k:Nat)(hk:k≤x.aj.length):Dj x.round (fJ x k).1∧(fJ x k).1.length=x.aj.length∧(fJ x k).2.length≤x.replaced.length+k:=by
 have h1:=QO (rows:=x.rows) (rd:=x.round) (p:=(x.aj,x.replaced)) (Kw x k) (TI h) (Kw x k).length (Nat.le_refl _)
 have h2:=Gq x.rows x.round (x.aj,x.replaced) (Kw x k) (Kw x k).length (Nat.le_refl _)
 rw[List.take_length]at h1 h2
 have h3:=Gr x k
 exact⟨h1,h2.1,by have h4:=h2.2;show(IG x.rows x.round (x.aj,x.replaced) (Kw x k)).2.length≤_;dsimp only at h4;omega⟩
theorem I2{x:aN}(h:xQ x=false):testW x=x:=by rw[testW,h];rfl
theorem E4{x:aN}(h:xQ x=true):testW x=⟨x.rows,(fJ x x.aj.length).1,x.aa,x.ak,x.az,x.seed,x.round,(fJ x x.aj.length).2,x.cancelled⟩:=by rw[testW,if_pos h]
theorem E5{x:aN}(h:jF x=false):cP x=x:=by rw[cP,h];rfl
theorem Dm{x:aN}(h:jF x=true):cP x=LO (testW (bz x (dU x.az (aM x) (bI (aM x)) (dF x) (aM x).length) (jw (bI (aM x))))):=by rw[cP,if_pos h]
theorem TQ{x:aN}(h:wB x):x.ak.rounds.length≤1048576∧ ∀y,y∈x.ak.rounds→bL List.length y.db.rows≤1048576:=by
 have h2:bL aY x.ak.rounds≤1048576:=h.2.2.1
 refine⟨cg h2,fun y hy=> ?_⟩
 obtain⟨i,hi⟩:=List.mem_iff_getElem?.1 hy
 exact eL h2 hi
end
section
theorem Ml{x:aN}(h:wB x)(hok:okW x=true)(hr:x.replaced.length≤4194000):wB (bz x (dU x.az (aM x) (bI (aM x)) (dF x) (aM x).length) (jw (bI (aM x))))∧wB (testW (bz x (dU x.az (aM x) (bI (aM x)) (dF x) (aM x).length) (jw (bI (aM x))))):=by
 have h1:=nj x.az (aM x) (bI (aM x)) (dF x) (aM x).length
 have h4:=(eu hok).1
 rw[pz hok]at h1
 have hc:wC x 4194000:=⟨h.1,h.2.1,h.2.2.1,hr⟩
 have h2:=IM (g:=dU x.az (aM x) (bI (aM x)) (dF x) (aM x).length) (d:=jw (bI (aM x))) hc (L5 _ (Bp _))
 rw[pz hok]at h2 ⊢
 exact⟨AN h2 (by omega),AN (Ma h2) (by omega)⟩
def wR(x:aN):Prop:=wB x∧x.replaced.length≤4194000
theorem Au{x:aN}{n:Nat}(h:wC x n)(hn:n≤4194000):wR x:=⟨AN h (by omega),Nat.le_trans h.2.2.2 hn⟩
end
end Go.Proofs.YtmcgjpdljafkeaaGreat.G
