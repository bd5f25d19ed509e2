/-
  What the laws on phases, reads, rounds and events ask. No program in sight.
-/
import Derived.KernelRfl
import Derived.Test.YteodajeiagmekaaGreatProg
import Derived.Test.YteodajeiagmekaaGreatM10
namespace Go.Proofs.YteodajeiagmekaaGreat.G
set_option linter.all false
open Go.RowKit L D
section
theorem XU:(Tryz.prog.info? 3).map (fun i=>(i.zero,i.size,i.bytes))=some (some (.int .i64 0),1,8):=by kernel_rfl
theorem XV:(Tryz.prog.info? 5).map (fun i=>(i.zero,i.size,i.bytes))=some (some (.int .u8 0),1,1):=by kernel_rfl
theorem XW:(Tryz.prog.info? 9).map (fun i=>(i.zero,i.size,i.bytes))=some (some (.string ⟨#[]⟩),1,16):=by kernel_rfl
theorem Se:(Tryz.prog.info? 22).map (fun i=>(i.zero,i.size,i.bytes))=some (some (.slice none 0 0),1,24):=by kernel_rfl
theorem Sf:(Tryz.prog.info? 29).map (fun i=>(i.zero,i.size,i.bytes))=some (some (.slice none 0 0),1,24):=by kernel_rfl
theorem Zl:(Tryz.prog.info? 38).map (fun i=>(i.zero,i.size,i.bytes))=some (some (.slice none 0 0),1,24):=by kernel_rfl
theorem Mb:(Tryz.prog.info? 40).map (fun i=>(i.zero,i.size,i.bytes))=some (some (.agg #[.slice none 0 0]),1,24):=by kernel_rfl
theorem VS:(Tryz.prog.info? 308).map (fun i=>(i.zero,i.size,i.bytes))=some (some (.agg #[.slice none 0 0]),1,24):=by kernel_rfl
theorem HH:(Tryz.prog.info? 134).map (fun i=>(i.zero,i.size,i.bytes))=some (some (.agg #[.int .i64 0, .slice none 0 0]),2,32):=by kernel_rfl
theorem NN:(Tryz.prog.info? 328).map (fun i=>(i.zero,i.size,i.bytes))=some (some (.agg #[.int .i64 0, .slice none 0 0]),2,32):=by kernel_rfl
theorem Mc:(Tryz.prog.info? 45).map (fun i=>(i.zero,i.size,i.bytes))=some (some (.agg #[.int .i64 0, .int .i64 0, .int .i64 0, .slice none 0 0, .int .i64 0]),5,56):=by kernel_rfl
theorem NO:(Tryz.prog.info? 269).map (fun i=>(i.zero,i.size,i.bytes))=some (some (.agg #[.int .i64 0, .int .i64 0, .int .i64 0, .slice none 0 0, .int .i64 0]),5,56):=by kernel_rfl
theorem Md:(Tryz.prog.info? 59).map (fun i=>(i.zero,i.size,i.bytes))=some (some (.agg #[.int .i64 0, .slice none 0 0]),2,32):=by kernel_rfl
theorem NP:(Tryz.prog.info? 310).map (fun i=>(i.zero,i.size,i.bytes))=some (some (.agg #[.int .i64 0, .slice none 0 0]),2,32):=by kernel_rfl
theorem Sg:(Tryz.prog.info? 28).map (fun i=>(i.zero,i.size,i.bytes))=some (some (.agg #[.int .i64 0, .slice none 0 0]),2,32):=by kernel_rfl
theorem VT:(Tryz.prog.info? 109).map (fun i=>(i.zero,i.size,i.bytes))=some (some (.agg #[.int .i64 0, .slice none 0 0]),2,32):=by kernel_rfl
theorem Sh:(Tryz.prog.info? 65).map (fun i=>(i.zero,i.size,i.bytes))=some (some (.agg #[.int .i64 0, .int .i64 0, .int .i64 0, .int .i64 0, .slice none 0 0, .int .i64 0, .slice none 0 0, .int .i64 0]),8,96):=by kernel_rfl
theorem VU:(Tryz.prog.info? 271).map (fun i=>(i.zero,i.size,i.bytes))=some (some (.agg #[.int .i64 0, .int .i64 0, .int .i64 0, .int .i64 0, .slice none 0 0, .int .i64 0, .slice none 0 0, .int .i64 0]),8,96):=by kernel_rfl
theorem Me:(Tryz.prog.info? 67).map (fun i=>(i.zero,i.size,i.bytes))=some (some (.agg #[.int .i64 0, .int .i64 0, .int .i64 0, .int .i64 0, .slice none 0 0, .int .i64 0, .slice none 0 0, .int .i64 0, .int .i64 0, .int .i64 0, .int .i64 0, .int .i64 0, .slice none 0 0, .int .i64 0, .slice none 0 0, .int .i64 0]),16,192):=by kernel_rfl
theorem NQ:(Tryz.prog.info? 273).map (fun i=>(i.zero,i.size,i.bytes))=some (some (.agg #[.int .i64 0, .int .i64 0, .int .i64 0, .int .i64 0, .slice none 0 0, .int .i64 0, .slice none 0 0, .int .i64 0, .int .i64 0, .int .i64 0, .int .i64 0, .int .i64 0, .slice none 0 0, .int .i64 0, .slice none 0 0, .int .i64 0]),16,192):=by kernel_rfl
theorem Si:(Tryz.prog.info? 31).map (fun i=>(i.zero,i.size,i.bytes))=some (some (.agg #[.int .i64 0, .slice none 0 0, .slice none 0 0, .int .i64 0, .slice none 0 0, .int .i64 0, .int .i64 0, .int .i64 0, .slice none 0 0, .int .i64 0]),10,144):=by kernel_rfl
theorem VV:(Tryz.prog.info? 111).map (fun i=>(i.zero,i.size,i.bytes))=some (some (.agg #[.int .i64 0, .slice none 0 0, .slice none 0 0, .int .i64 0, .slice none 0 0, .int .i64 0, .int .i64 0, .int .i64 0, .slice none 0 0, .int .i64 0]),10,144):=by kernel_rfl
theorem Mf:(Tryz.prog.info? 81).map (fun i=>(i.zero,i.size,i.bytes))=some (some (.agg #[.int .i64 0, .int .i64 0, .int .i64 0, .slice none 0 0]),4,48):=by kernel_rfl
theorem HI:(Tryz.prog.info? 179).map (fun i=>(i.zero,i.size,i.bytes))=some (some (.agg #[.int .i64 0, .int .i64 0, .int .i64 0]),3,24):=by kernel_rfl
theorem Mg:(Tryz.prog.info? 50).map (fun i=>(i.zero,i.size,i.bytes))=some (some (.agg #[.int .i64 0, .int .i64 0, .int .i64 0, .int .i64 0, .int .i64 0]),5,40):=by kernel_rfl
theorem NR:(Tryz.prog.info? 249).map (fun i=>(i.zero,i.size,i.bytes))=some (some (.agg #[.int .i64 0, .slice none 0 0]),2,32):=by kernel_rfl
theorem HJ:(Tryz.prog.info? 150).map (fun i=>(i.zero,i.size,i.bytes))=some (some (.agg #[.int .i64 0, .int .i64 0, .slice none 0 0, .slice none 0 0, .int .i64 0]),5,72):=by kernel_rfl
theorem Sj:(Tryz.prog.info? 76).map (fun i=>(i.zero,i.size,i.bytes))=some (some (.slice none 0 0),1,24):=by kernel_rfl
theorem kf{P:Program}{i:Nat}{z:Option Value}{k b:Nat}(h:(P.info? i).map (fun i=>(i.zero,i.size,i.bytes))=some (z,k,b)):(P.info? i).map (·.size)=some k:=by
 cases hq:P.info? i with
 |none=>simp[hq]at h
 |some x=>simp[hq]at h;simp[h]
theorem VW{P:Program}{i:Nat}{z:Option Value}{k b:Nat}(h:(P.info? i).map (fun i=>(i.zero,i.size,i.bytes))=some (z,k,b)):(P.info? i).map (fun i=>(i.size,i.zero))=some (k,z):=by
 cases hq:P.info? i with
 |none=>simp[hq]at h
 |some x=>simp[hq]at h;simp[h]
theorem iY{P:Program}{t:Nat}{z:List Value}{tg:List (Option Tag)}{fo:List Nat}{fs:Array Field}{b:Nat}(hu:P.underlying t=some (.struct fs))(hi:(P.info? t).map (fun i=>(i.zero,i.size,i.bytes))=some (some (.agg z.toArray),z.length,b))(hz:z.all (·.oneCell')=true)(hf:yu P z.length fs.toList fo=true):cA P t (.st z tg fo):=
 ⟨fs,hu,VW hi,fun v hv=>List.all_eq_true.1 hz v hv,fun f k h=>by obtain⟨fd,h1,h2⟩:=(tO hf).1 f k h;exact⟨fd,by simpa using h1,h2⟩,(tO hf).2⟩
theorem dR{P:Program}{i:Nat}(h:(P.info? i).map (fun i=>Nat.beq i.size 1)=some true):(P.info? i).map (·.size)=some 1:=by
 cases hq:P.info? i with
 |none=>simp[hq]at h
 |some x=>simp[hq]at h;simp[h]
def tys:List (Nat×TK):= [(3, .int .i64),
 (2, .int .i64),
 (21, .int .i32),
 (5, .int .u8),
 (341, .int .u32),
 (234, .int .u64),
 (12, .int .u64),
 (4, .bool),
 (9, .str),
 (40, .st [.slice none 0 0] [some (.sl .u8)] [0]),
 (308, .st [.slice none 0 0] [some (.sl .u8)] [0]),
 (134, .st [.int .i64 0, .slice none 0 0] [none,some (.sl .u8)] [0,1]),
 (328, .st [.int .i64 0, .slice none 0 0] [none,some (.sl .u8)] [0,1]),
 (45, .st [.int .i64 0, .int .i64 0, .int .i64 0, .slice none 0 0, .int .i64 0] [none,none,none,some .aA,none] [0,1,2,3,4]),
 (269, .st [.int .i64 0, .int .i64 0, .int .i64 0, .slice none 0 0, .int .i64 0] [none,none,none,some .aA,none] [0,1,2,3,4]),
 (59, .st [.int .i64 0, .slice none 0 0] [none,some (.sl .u8)] [0,1]),
 (310, .st [.int .i64 0, .slice none 0 0] [none,some (.sl .u8)] [0,1]),
 (28, .st [.int .i64 0, .slice none 0 0] [none,some .ay] [0,1]),
 (109, .st [.int .i64 0, .slice none 0 0] [none,some .ay] [0,1]),
 (65, .st [.int .i64 0, .int .i64 0, .int .i64 0, .int .i64 0, .slice none 0 0, .int .i64 0, .slice none 0 0, .int .i64 0] [none,none,none,none,some (.sl .u8),none,some (.sl .u8),none] [0,1,2,3,4,5,6,7]),
 (271, .st [.int .i64 0, .int .i64 0, .int .i64 0, .int .i64 0, .slice none 0 0, .int .i64 0, .slice none 0 0, .int .i64 0] [none,none,none,none,some (.sl .u8),none,some (.sl .u8),none] [0,1,2,3,4,5,6,7]),
 (67, .st [.int .i64 0, .int .i64 0, .int .i64 0, .int .i64 0, .slice none 0 0, .int .i64 0, .slice none 0 0, .int .i64 0, .int .i64 0, .int .i64 0, .int .i64 0, .int .i64 0, .slice none 0 0, .int .i64 0, .slice none 0 0, .int .i64 0] [none,none,none,none,some (.sl .u8),none,some (.sl .u8),none,none,none,none,none,some (.sl .u8),none,some (.sl .u8),none] [0,8]),
 (273, .st [.int .i64 0, .int .i64 0, .int .i64 0, .int .i64 0, .slice none 0 0, .int .i64 0, .slice none 0 0, .int .i64 0, .int .i64 0, .int .i64 0, .int .i64 0, .int .i64 0, .slice none 0 0, .int .i64 0, .slice none 0 0, .int .i64 0] [none,none,none,none,some (.sl .u8),none,some (.sl .u8),none,none,none,none,none,some (.sl .u8),none,some (.sl .u8),none] [0,8]),
 (31, .st [.int .i64 0, .slice none 0 0, .slice none 0 0, .int .i64 0, .slice none 0 0, .int .i64 0, .int .i64 0, .int .i64 0, .slice none 0 0, .int .i64 0] [none,some .aO,some .aL,none,some .ay,none,none,none,some .int,none] [0,1,2,3,5,6,7,8,9]),
 (111, .st [.int .i64 0, .slice none 0 0, .slice none 0 0, .int .i64 0, .slice none 0 0, .int .i64 0, .int .i64 0, .int .i64 0, .slice none 0 0, .int .i64 0] [none,some .aO,some .aL,none,some .ay,none,none,none,some .int,none] [0,1,2,3,5,6,7,8,9]),
 (81, .st [.int .i64 0, .int .i64 0, .int .i64 0, .slice none 0 0] [none,none,none,some .u8] [0,1,2,3]),
 (179, .st [.int .i64 0, .int .i64 0, .int .i64 0] [none,none,none] [0,1,2]),
 (50, .st [.int .i64 0, .int .i64 0, .int .i64 0, .int .i64 0, .int .i64 0] [none,none,none,none,none] [0,1,2,3,4]),
 (249, .st [.int .i64 0, .slice none 0 0] [none,some .u8] [0,1]),
 (150, .st [.int .i64 0, .int .i64 0, .slice none 0 0, .slice none 0 0, .int .i64 0] [none,none,some .int,some .u8,none] [0,1,2,3,4]),
 (29, .sl .int 3),
 (22, .sl .u8 5),
 (174, .sl .str 9),
 (38, .sl (.sl .u8) 22),
 (91, .sl (.sl .int) 29),
 (36, .sl .DB 40),
 (43, .sl .aA 134),
 (267, .sl .aA 328),
 (24, .sl .aO 45),
 (105, .sl .aO 269),
 (26, .sl .ay 59),
 (107, .sl .ay 310),
 (25, .sl .aL 67),
 (106, .sl .aL 273),
 (85, .sl .Ev 81),
 (76, .sl .vi 179),
 (33, .sl .dP 50),
 (159, .sl .bQ 150),
 (260, .sl (.sl .vi) 76)]
def Γ(t:Nat):TK:=match look tys t with|some k=>k|none=> .other
def ty:Tag→Nat
 | .int=>3
 | .u8=>5
 | .str=>9
 | (.sl .u8)=>22
 | (.sl .int)=>29
 | (.sl (.sl .u8))=>38
 | .DB=>40
 | .aA=>134
 | .aO=>45
 | .ay=>59
 | .gW=>28
 | .ep=>65
 | .aL=>67
 | .aJ=>31
 | .Ev=>81
 | .vi=>179
 | .dP=>50
 | .Plain=>249
 | .bQ=>150
 | (.sl .vi)=>76
 |_=>1000000000
theorem Zm:cA Tryz.prog 3 (.int .i64):=Tryz.underlying3
theorem Zn:cA Tryz.prog 2 (.int .i64):=Tryz.underlying2
theorem VX:cA Tryz.prog 21 (.int .i32):=Tryz.underlying21
theorem Zo:cA Tryz.prog 5 (.int .u8):=Tryz.underlying5
theorem Sk:cA Tryz.prog 341 (.int .u32):=Tryz.underlying341
theorem Sm:cA Tryz.prog 234 (.int .u64):=Tryz.underlying234
theorem VY:cA Tryz.prog 12 (.int .u64):=Tryz.underlying12
theorem Zp:cA Tryz.prog 4 (.bool):=Tryz.underlying4
theorem Zq:cA Tryz.prog 9 (.str):=Tryz.underlying9
theorem VZ:cA Tryz.prog 40 (.st [.slice none 0 0] [some (.sl .u8)] [0]):=iY Tryz.underlying40 Mb rfl (by kernel_rfl)
theorem Sn:cA Tryz.prog 308 (.st [.slice none 0 0] [some (.sl .u8)] [0]):=iY Tryz.underlying308 VS rfl (by kernel_rfl)
theorem So:cA Tryz.prog 134 (.st [.int .i64 0, .slice none 0 0] [none,some (.sl .u8)] [0,1]):=iY Tryz.underlying134 HH rfl (by kernel_rfl)
theorem Sp:cA Tryz.prog 328 (.st [.int .i64 0, .slice none 0 0] [none,some (.sl .u8)] [0,1]):=iY Tryz.underlying328 NN rfl (by kernel_rfl)
theorem V0:cA Tryz.prog 45 (.st [.int .i64 0, .int .i64 0, .int .i64 0, .slice none 0 0, .int .i64 0] [none,none,none,some .aA,none] [0,1,2,3,4]):=iY Tryz.underlying45 Mc rfl (by kernel_rfl)
theorem Sq:cA Tryz.prog 269 (.st [.int .i64 0, .int .i64 0, .int .i64 0, .slice none 0 0, .int .i64 0] [none,none,none,some .aA,none] [0,1,2,3,4]):=iY Tryz.underlying269 NO rfl (by kernel_rfl)
theorem V1:cA Tryz.prog 59 (.st [.int .i64 0, .slice none 0 0] [none,some (.sl .u8)] [0,1]):=iY Tryz.underlying59 Md rfl (by kernel_rfl)
theorem Sr:cA Tryz.prog 310 (.st [.int .i64 0, .slice none 0 0] [none,some (.sl .u8)] [0,1]):=iY Tryz.underlying310 NP rfl (by kernel_rfl)
theorem V2:cA Tryz.prog 28 (.st [.int .i64 0, .slice none 0 0] [none,some .ay] [0,1]):=iY Tryz.underlying28 Sg rfl (by kernel_rfl)
theorem Ss:cA Tryz.prog 109 (.st [.int .i64 0, .slice none 0 0] [none,some .ay] [0,1]):=iY Tryz.underlying109 VT rfl (by kernel_rfl)
theorem V3:cA Tryz.prog 65 (.st [.int .i64 0, .int .i64 0, .int .i64 0, .int .i64 0, .slice none 0 0, .int .i64 0, .slice none 0 0, .int .i64 0] [none,none,none,none,some (.sl .u8),none,some (.sl .u8),none] [0,1,2,3,4,5,6,7]):=iY Tryz.underlying65 Sh rfl (by kernel_rfl)
theorem Su:cA Tryz.prog 271 (.st [.int .i64 0, .int .i64 0, .int .i64 0, .int .i64 0, .slice none 0 0, .int .i64 0, .slice none 0 0, .int .i64 0] [none,none,none,none,some (.sl .u8),none,some (.sl .u8),none] [0,1,2,3,4,5,6,7]):=iY Tryz.underlying271 VU rfl (by kernel_rfl)
theorem V4:cA Tryz.prog 67 (.st [.int .i64 0, .int .i64 0, .int .i64 0, .int .i64 0, .slice none 0 0, .int .i64 0, .slice none 0 0, .int .i64 0, .int .i64 0, .int .i64 0, .int .i64 0, .int .i64 0, .slice none 0 0, .int .i64 0, .slice none 0 0, .int .i64 0] [none,none,none,none,some (.sl .u8),none,some (.sl .u8),none,none,none,none,none,some (.sl .u8),none,some (.sl .u8),none] [0,8]):=iY Tryz.underlying67 Me rfl (by kernel_rfl)
theorem Sv:cA Tryz.prog 273 (.st [.int .i64 0, .int .i64 0, .int .i64 0, .int .i64 0, .slice none 0 0, .int .i64 0, .slice none 0 0, .int .i64 0, .int .i64 0, .int .i64 0, .int .i64 0, .int .i64 0, .slice none 0 0, .int .i64 0, .slice none 0 0, .int .i64 0] [none,none,none,none,some (.sl .u8),none,some (.sl .u8),none,none,none,none,none,some (.sl .u8),none,some (.sl .u8),none] [0,8]):=iY Tryz.underlying273 NQ rfl (by kernel_rfl)
theorem V5:cA Tryz.prog 31 (.st [.int .i64 0, .slice none 0 0, .slice none 0 0, .int .i64 0, .slice none 0 0, .int .i64 0, .int .i64 0, .int .i64 0, .slice none 0 0, .int .i64 0] [none,some .aO,some .aL,none,some .ay,none,none,none,some .int,none] [0,1,2,3,5,6,7,8,9]):=iY Tryz.underlying31 Si rfl (by kernel_rfl)
theorem Sw:cA Tryz.prog 111 (.st [.int .i64 0, .slice none 0 0, .slice none 0 0, .int .i64 0, .slice none 0 0, .int .i64 0, .int .i64 0, .int .i64 0, .slice none 0 0, .int .i64 0] [none,some .aO,some .aL,none,some .ay,none,none,none,some .int,none] [0,1,2,3,5,6,7,8,9]):=iY Tryz.underlying111 VV rfl (by kernel_rfl)
theorem V6:cA Tryz.prog 81 (.st [.int .i64 0, .int .i64 0, .int .i64 0, .slice none 0 0] [none,none,none,some .u8] [0,1,2,3]):=iY Tryz.underlying81 Mf rfl (by kernel_rfl)
theorem Sx:cA Tryz.prog 179 (.st [.int .i64 0, .int .i64 0, .int .i64 0] [none,none,none] [0,1,2]):=iY Tryz.underlying179 HI rfl (by kernel_rfl)
theorem V7:cA Tryz.prog 50 (.st [.int .i64 0, .int .i64 0, .int .i64 0, .int .i64 0, .int .i64 0] [none,none,none,none,none] [0,1,2,3,4]):=iY Tryz.underlying50 Mg rfl (by kernel_rfl)
theorem Sy:cA Tryz.prog 249 (.st [.int .i64 0, .slice none 0 0] [none,some .u8] [0,1]):=iY Tryz.underlying249 NR rfl (by kernel_rfl)
theorem Sz:cA Tryz.prog 150 (.st [.int .i64 0, .int .i64 0, .slice none 0 0, .slice none 0 0, .int .i64 0] [none,none,some .int,some .u8,none] [0,1,2,3,4]):=iY Tryz.underlying150 HJ rfl (by kernel_rfl)
theorem V8:cA Tryz.prog 29 (.sl .int 3):=⟨Tryz.underlying29,kf XU⟩
theorem V9:cA Tryz.prog 22 (.sl .u8 5):=⟨Tryz.underlying22,kf XV⟩
theorem SA:cA Tryz.prog 174 (.sl .str 9):=⟨Tryz.underlying174,kf XW⟩
theorem Wa:cA Tryz.prog 38 (.sl (.sl .u8) 22):=⟨Tryz.underlying38,kf Se⟩
theorem Wb:cA Tryz.prog 91 (.sl (.sl .int) 29):=⟨Tryz.underlying91,kf Sf⟩
theorem Wc:cA Tryz.prog 36 (.sl .DB 40):=⟨Tryz.underlying36,kf Mb⟩
theorem Wd:cA Tryz.prog 43 (.sl .aA 134):=⟨Tryz.underlying43,kf HH⟩
theorem SB:cA Tryz.prog 267 (.sl .aA 328):=⟨Tryz.underlying267,kf NN⟩
theorem We:cA Tryz.prog 24 (.sl .aO 45):=⟨Tryz.underlying24,kf Mc⟩
theorem SC:cA Tryz.prog 105 (.sl .aO 269):=⟨Tryz.underlying105,kf NO⟩
theorem Wf:cA Tryz.prog 26 (.sl .ay 59):=⟨Tryz.underlying26,kf Md⟩
theorem SD:cA Tryz.prog 107 (.sl .ay 310):=⟨Tryz.underlying107,kf NP⟩
theorem Wg:cA Tryz.prog 25 (.sl .aL 67):=⟨Tryz.underlying25,kf Me⟩
theorem SE:cA Tryz.prog 106 (.sl .aL 273):=⟨Tryz.underlying106,kf NQ⟩
theorem Wh:cA Tryz.prog 85 (.sl .Ev 81):=⟨Tryz.underlying85,kf Mf⟩
theorem Wi:cA Tryz.prog 76 (.sl .vi 179):=⟨Tryz.underlying76,kf HI⟩
theorem Wj:cA Tryz.prog 33 (.sl .dP 50):=⟨Tryz.underlying33,kf Mg⟩
theorem SF:cA Tryz.prog 159 (.sl .bQ 150):=⟨Tryz.underlying159,kf HJ⟩
theorem SG:cA Tryz.prog 260 (.sl (.sl .vi) 76):=⟨Tryz.underlying260,kf Sj⟩
set_option maxRecDepth 100000 in
theorem kinds: ∀e,e∈tys→cA Tryz.prog e.1 e.2:=by
 simp only[tys,List.forall_mem_cons]
 exact⟨Zm,Zn,VX,Zo,Sk,Sm,VY,Zp,Zq,VZ,Sn,So,Sp,V0,Sq,V1,Sr,V2,Ss,V3,Su,V4,Sv,V5,Sw,V6,Sx,V7,Sy,Sz,V8,V9,SA,Wa,Wb,Wc,Wd,SB,We,SC,Wf,SD,Wg,SE,Wh,Wi,Wj,SF,SG,by simp⟩
set_option maxRecDepth 100000 in
theorem abJ: ∀e,e∈tys→(∀z tg fo,e.2≠ .st z tg fo)→(Tryz.prog.info? e.1).map (·.size)=some 1:=by
 simp only[tys,List.forall_mem_cons]
 refine⟨fun _=>dR (by kernel_rfl),fun _=>dR (by kernel_rfl),fun _=>dR (by kernel_rfl),fun _=>dR (by kernel_rfl),fun _=>dR (by kernel_rfl),fun _=>dR (by kernel_rfl),fun _=>dR (by kernel_rfl),fun _=>dR (by kernel_rfl),fun _=>dR (by kernel_rfl),fun h=>absurd rfl (h _ _ _),fun h=>absurd rfl (h _ _ _),fun h=>absurd rfl (h _ _ _),fun h=>absurd rfl (h _ _ _),fun h=>absurd rfl (h _ _ _),fun h=>absurd rfl (h _ _ _),fun h=>absurd rfl (h _ _ _),fun h=>absurd rfl (h _ _ _),fun h=>absurd rfl (h _ _ _),fun h=>absurd rfl (h _ _ _),fun h=>absurd rfl (h _ _ _),fun h=>absurd rfl (h _ _ _),fun h=>absurd rfl (h _ _ _),fun h=>absurd rfl (h _ _ _),fun h=>absurd rfl (h _ _ _),fun h=>absurd rfl (h _ _ _),fun h=>absurd rfl (h _ _ _),fun h=>absurd rfl (h _ _ _),fun h=>absurd rfl (h _ _ _),fun h=>absurd rfl (h _ _ _),fun h=>absurd rfl (h _ _ _),fun _=>dR (by kernel_rfl),fun _=>dR (by kernel_rfl),fun _=>dR (by kernel_rfl),fun _=>dR (by kernel_rfl),fun _=>dR (by kernel_rfl),fun _=>dR (by kernel_rfl),fun _=>dR (by kernel_rfl),fun _=>dR (by kernel_rfl),fun _=>dR (by kernel_rfl),fun _=>dR (by kernel_rfl),fun _=>dR (by kernel_rfl),fun _=>dR (by kernel_rfl),fun _=>dR (by kernel_rfl),fun _=>dR (by kernel_rfl),fun _=>dR (by kernel_rfl),fun _=>dR (by kernel_rfl),fun _=>dR (by kernel_rfl),fun _=>dR (by kernel_rfl),fun _=>dR (by kernel_rfl),by simp⟩
theorem X:Ctx Tryz.prog ty Γ where
 kind:=fun t=>by
  unfold Γ
  split
  ·rename_i k hk;exact kinds (t,k) (ew hk)
  ·trivial
 one:=fun t h1 h2=>by
  unfold Γ at h1 h2
  split at h1
  ·rename_i k hk;exact abJ (t,k) (ew hk) h1
  ·rename_i hk;rw[hk]at h2;exact absurd rfl h2
theorem bA(t:Tag)(h:ty t<1000000000):El Tryz.prog ty t:=by
 unfold ty at h
 split at h
 ·exact XU
 ·exact XV
 ·exact XW
 ·exact Se
 ·exact Sf
 ·exact Zl
 ·exact Mb
 ·exact HH
 ·exact Mc
 ·exact Md
 ·exact Sg
 ·exact Sh
 ·exact Me
 ·exact Si
 ·exact Mf
 ·exact HI
 ·exact Mg
 ·exact NR
 ·exact HJ
 ·exact Sj
 ·exact absurd h (by decide)
end
section
theorem MO:Tryz.prog.follows .mixedOrders=true:=by kernel_rfl
theorem nb:(∀(p:Prop) [Decidable p],(decide p=true)=p)∧(∀(p:Prop) [Decidable p],(decide p=false)= ¬p)∧(∀b:Bool,((!b)=true)=(b=false))∧(∀b:Bool,((!b)=false)=(b=true))∧
  (∀(α:Type) [BEq α] [LawfulBEq α] (a b:α),((a==b)=true)=(a=b))∧(∀(α:Type) [BEq α] [LawfulBEq α] (a b:α),((a !=b)=true)=(¬a=b))∧(∀(α:Type) [BEq α] [LawfulBEq α] (a b:α),((a==b)=false)=(¬a=b))∧(∀(α:Type) [BEq α] [LawfulBEq α] (a b:α),((a !=b)=false)=(a=b))∧
  (∀(α:Type) (a b:α),(a≠b)= ¬a=b)∧(∀a b:Int,(a>b)=(b<a))∧(∀a b:Int,(a≥b)=(b≤a))∧(∀a b:Nat,(a>b)=(b<a))∧(∀a b:Nat,(a≥b)=(b≤a))∧(∀a b:Int,(¬a<b)=(b≤a))∧(∀a b:Int,(¬a≤b)=(b<a))∧
  (∀(p:Prop) [Decidable p],(¬ ¬p)=p)∧(∀n:Nat,(n:Int).toNat=n)∧(∀m n:Nat,((m:Int)<n)=(m<n))∧(∀m n:Nat,((m:Int)≤n)=(m≤n))∧(∀a b:Nat,(¬a<b)=(b≤a))∧(∀a b:Nat,(¬a≤b)=(b<a))∧
  (∀(p:Prop) [Decidable p] (b:Bool),(if p then b else false)=(decide p&&b))∧(∀(p:Prop) [Decidable p] (b:Bool),(if p then true else b)=(decide p||b))∧(∀(p:Prop) [Decidable p] (b:Bool),(if p then false else b)=(!decide p&&b))∧(∀(p:Prop) [Decidable p] (b:Bool),(if p then b else true)=(!decide p||b))∧
  (∀a b:Bool,((a&&b)=true)=(a=true∧b=true))∧(∀a b:Bool,((a||b)=true)=(a=true∨b=true))∧(∀a b:Bool,((a&&b)=false)=(a=false∨b=false))∧(∀a b:Bool,((a||b)=false)=(a=false∧b=false))∧(∀(b:Bool),decide (b=true)=b):=by
 refine⟨by simp,by simp,by simp,by simp,fun _ _ _ a b=>propext beq_iff_eq,fun _ _ _ a b=>propext bne_iff_ne,fun _ _ _ a b=>propext beq_eq_false_iff_ne,fun _ _ _ a b=>propext bne_eq_false_iff_eq,by simp,by simp,by simp,by simp,by simp,by simp,by simp,by simp,by simp,by simp,by simp,by simp,by simp,by simp,by simp,by simp,by simp,by simp,by simp,by simp,by simp,by simp⟩
theorem lens:(∀n:Nat,(n:Int).toNat=n)∧(∀(α:Type) (a b:List α),(a++b).length=a.length+b.length)∧(∀(α:Type) (a:α),[a].length=1)∧(∀(α:Type) (a:α) (l:List α),(a::l).length=l.length+1)∧(∀(α:Type),([]:List α).length=0)∧(∀(α:Type) (n:Nat) (a:α),(List.replicate n a).length=n)∧
  (∀(α:Type) (l:List α) (n:Nat) (a:α),(l.set n a).length=l.length)∧(∀(α β:Type) (f:α→β) (l:List α),(l.map f).length=l.length)∧(∀(α:Type) (l:List α) (n:Nat),(l.take n).length=min n l.length)∧(∀(α:Type) (l:List α) (n:Nat),(l.drop n).length=l.length-n)∧(∀n:Nat,(List.range n).length=n):=by
 refine⟨by simp,by simp,by simp,by simp,by simp,by simp,by simp,by simp,by simp,by simp,by simp⟩
theorem aj.mk{p:Prop}{l:List Prop}(h:p)(k:aj l):aj (p::l):=⟨h,k⟩
theorem aj.nil:aj []:=True.intro
theorem aV{α:Type}(l:List α)(k:Nat)(d:α)(h:k<l.length):l.take (k+1)=l.take k++ [l.getD k d]:=by
 rw[List.take_add_one,List.getD_eq_getElem?_getD,List.getElem?_eq_getElem h];rfl
theorem aR(a:Int)(n:Nat)(h:a=n)(h2:n<9223372036854775807):IntKind.i64.wrap (a+1)=((n+1:Nat):Int):=by
 subst h;rw[IntWalk.i64_in _ (by omega)];omega
theorem qh{P:Program}{ty:Tag→Nat}{f:FuncId}{xs:List S1}{v:Value}(h:Sound ty P f xs [.a (.lit v)]){w:World}{us:List Value}(ha:bt (Dw w) xs us)(hA:FX w:=by first|assumption|exact trivial):Calls P f us.toArray w (Dn w v):=by
 refine(h.2 w us hA ha).mono ?_
 rintro e w' ⟨u,fp,rfl,hb,_,f1,f2,⟨rfl,_⟩,_⟩
 exact⟨rfl,hb⟩
theorem W.bound{P:Program}{ty:Tag→Nat}{w0:bY}{c:Code}{Q:Post}{st:St}(d:Nat){t:Tag}{l:List (T t)}(h:look st.sl d=some (.one (.a (.sl t l))))(k:l.length≤9223372036854775807→W P ty w0 c Q st):W P ty w0 c Q st:=by
 intro a w iv
 obtain⟨env,g⟩:=iv.good
 obtain⟨fp,⟨oa,cap,_,h1,h2,_⟩,_⟩:=g.slot d _ h
 have e:maxLen=9223372036854775807:=by decide
 exact k (by omega) a w iv
theorem W.b7{P:Program}{ty:Tag→Nat}{w0:bY}{c:Code}{Q:Post}{st:St}(d i:Nat){cs:List V}{t:Tag}{l:List (T t)}(h:look st.sl d=some (.one (.agg cs)))(hc:cs[i]? =some (.sl t l))(k:l.length≤9223372036854775807→W P ty w0 c Q st):W P ty w0 c Q st:=by
 intro a w iv
 obtain⟨env,g⟩:=iv.good
 obtain⟨us,_,hr⟩:=g.slot d _ h
 obtain⟨u,_,fp,⟨oa,cap,_,h1,h2,_⟩,_⟩:=hr.at hc
 have e:maxLen=9223372036854775807:=by decide
 exact k (by omega) a w iv
theorem kg{α:Type} [DecidableEq α](a b:List α)(d:α)(k:Nat)(ha:k<a.length)(hb:k<b.length)(h:a.take k=b.take k)(he:a.getD k d=b.getD k d):a.take (k+1)=b.take (k+1):=by
 rw[aV a k d ha,aV b k d hb,h,he]
theorem wZ{α:Type} [BEq α] [LawfulBEq α](a b:List α)(d:α)(k:Nat)(he:a.getD k d≠b.getD k d):(a==b)=false:=by
 rw[beq_eq_false_iff_ne];rintro rfl;exact he rfl
theorem nP{α:Type} [BEq α] [LawfulBEq α](a b:List α)(k:Nat)(hk:k=a.length)(hl:a.length=b.length)(h:a.take k=b.take k):(a==b)=true:=by
 rw[List.take_of_length_le (by omega),List.take_of_length_le (by omega)]at h
 rw[h];simp
theorem AD{α:Type} [BEq α] [LawfulBEq α](a b:List α)(hl:(a.length:Int)≠b.length):(a==b)=false:=by
 rw[beq_eq_false_iff_ne];rintro rfl;exact hl rfl
theorem SH{x y:UInt8}(h:(x.toNat:Int)=y.toNat):x=y:=by
 have:x.toNat=y.toNat:=by omega
 exact UInt8.toNat_inj.1 this
end
section
theorem nQ{α:Type}(f:α→Nat)(l:List α)(d:α)(k:Nat)(h:k<l.length):((l.take (k+1)).map f).sum=((l.take k).map f).sum+f (l.getD k d):=
 IV l f k _ (by rw[List.getD_eq_getElem?_getD,List.getElem?_eq_getElem h];rfl)
theorem NT(x:UInt8):UInt8.ofNat (Int.toNat ((x.toNat:Nat):Int))=x:=by simp
theorem pR(n:Int):0≤IntKind.u8.wrap n∧IntKind.u8.wrap n<256:=by
 unfold IntKind.wrap
 simp only[IntKind.signed,IntKind.bits]
 simp
 omega
theorem u8n(x:UInt8):0≤((x.toNat:Nat):Int)∧((x.toNat:Nat):Int)<256:=by
 have:=x.toNat_lt
 omega
theorem Gi(n:Int):(((UInt8.ofNat (IntKind.u8.wrap n).toNat).toNat:Nat):Int)=IntKind.u8.wrap n:=by
 have h:=pR n
 generalize IntKind.u8.wrap n=m at h
 simp
 omega
section
variable{α:Type}{mk:Int→α→α}{mn:α→Nat}
end
theorem W.conv{P:Program}{ty:Tag→Nat}{zb:bY}{c:Code}{Q:Post}{st:St}(st':St)(h:st=st')(k:W P ty zb c Q st'):W P ty zb c Q st:=h▸k
end
section
theorem bl{a:Int}(h: -9223372036854775808≤a∧a≤9223372036854775807):IntKind.i64.wrap a=a:=IntWalk.i64_in _ (by omega)
def b8(n:Int):UInt8:=UInt8.ofNat (IntKind.u8.wrap n).toNat
theorem dj{a b:Int}(h:0≤a):a.tmod b=a % b:=Int.tmod_eq_emod_of_nonneg h
theorem md_eq(p q:Int)(h1:1≤q)(h2:q≤1000000000000):(IntKind.i64.wrap (p.tmod q+q)).tmod q=p % q:=by
 have hb: -q<p.tmod q∧p.tmod q<q:=⟨Int.lt_tmod_of_pos p (by omega),Int.tmod_lt_of_pos p (by omega)⟩
 rw[bl (by omega),dj (by omega),Int.add_emod_right]
 rcases Int.le_total 0 p with h|h
 ·rw[dj h,Int.emod_emod_of_dvd _ (Int.dvd_refl q)]
 ·have e:p.tmod q=p-q*p.tdiv q:=by have:=Int.tmod_add_mul_tdiv p q;omega
  rw[e,Int.sub_mul_emod_self_left]
def hs1(h v:Int):Int:=(h*1000003+v % 2147483647+13)% 2147483647
def hsh(l:List Int):Int:=l.foldl hs1 11
def kh(k:Int)(l:List Int):Int:=hsh (k::(l++ [k]))
theorem PK(h v:Int):0≤hs1 h v∧hs1 h v<2147483647:=⟨Int.emod_nonneg _ (by decide),Int.emod_lt_of_pos _ (by decide)⟩
theorem jK{α β:Type}(f:β→α→β)(b:β)(l:List α)(k:Nat)(d:α)(h:k<l.length):(l.take (k+1)).foldl f b=f ((l.take k).foldl f b) (l.getD k d):=by
 rw[aV l k d h,List.foldl_append];rfl
theorem AE: ∀l:List Int,0≤hsh l∧hsh l<2147483647:=by
 have g: ∀(l:List Int) (a:Int),(0≤a∧a<2147483647)→0≤l.foldl hs1 a∧l.foldl hs1 a<2147483647:=by
  intro l
  induction l with
  |nil=>intro a h;exact h
  |cons x r ih=>intro a _;exact ih _ (PK a x)
 exact fun l=>g l 11 (by decide)
theorem dy(k:Int)(l:List Int):0≤kh k l∧kh k l<2147483647:=AE _
theorem Zr{h v:Int}(h0:0≤h)(h1:h<2147483647):(IntKind.i64.wrap (IntKind.i64.wrap (IntKind.i64.wrap (h*1000003)+v % 2147483647)+13)).tmod 2147483647=hs1 h v:=by
 have hv:0≤v % 2147483647∧v % 2147483647<2147483647:=⟨Int.emod_nonneg _ (by decide),Int.emod_lt_of_pos _ (by decide)⟩
 rw[bl (a:=h*1000003) (by omega),bl (a:=h*1000003+v % 2147483647) (by omega),bl (by omega),dj (by omega)]
 rfl
def CK(n:Int):Int:=if n=0 then 1 else n
theorem vE{n:Int}(h:0≤n∧n<2147483647):1≤CK n∧CK n<2147483647:=by unfold CK;split<;>omega
theorem abK{h:Int}(h0:0≤h)(h1:h<2147483647):0≤h*h∧h*h≤4611686009837453316:=by
 have:=Int.mul_le_mul (show h≤2147483646 by omega) (show h≤2147483646 by omega) h0 (by decide)
 exact⟨Int.mul_nonneg h0 h0,by omega⟩
def cs(s k:Int):Int:=(kh s [47,k]*kh s [47,k]+5)% 2147483647
def rsb(h:Int):Int:=h*h % 2147483647/512 % 2
theorem PL(h:Int):rsb h=0∨rsb h=1:=by unfold rsb;omega
def cJ:List UInt8→List UInt8→List UInt8
 | [],b=>b
 |a,[]=>a
 |x::a,y::b=>(x^^^y)::cJ a b
theorem cP: ∀a b:List UInt8,(cJ a b).length=max a.length b.length
 | [],b=>by simp[cJ]
 |x::a,[]=>by simp[cJ]
 |x::a,y::b=>by simp[cJ,cP a b]
def wH(l:List UInt8)(i:Nat):UInt8:=l.getD i 0
theorem nE{α:Type}(l:List α)(k:Nat)(d:α)(h:k<l.length):l.drop k=l.getD k d::l.drop (k+1):=by
 rw[List.drop_eq_getElem_cons h,List.getD_eq_getElem?_getD,List.getElem?_eq_getElem h];rfl
theorem ud{α:Type}(f l:List α)(k:Nat)(d y:α)(h:k<l.length)(hf:k<f.length)(hy:f.getD k d=y):(f.take k++l.drop k).set k y=f.take (k+1)++l.drop (k+1):=by
 have hk:(f.take k).length=k:=by rw[List.length_take];omega
 rw[List.set_append_right _ _ (by omega),hk,Nat.sub_self,nE l k d h,List.set_cons_zero,aV f k d hf,List.append_assoc,hy]
 rfl
theorem kq{α:Type}(f l:List α)(k:Nat)(d:α)(hf:k≤f.length):(f.take k++l.drop k).getD k d=l.getD k d:=by
 have hk:(f.take k).length=k:=by rw[List.length_take];omega
 rw[List.getD_eq_getElem?_getD,List.getElem?_append_right (by omega),hk,Nat.sub_self,List.getElem?_drop,List.getD_eq_getElem?_getD,Nat.add_zero]
theorem kr{α:Type}(f l:List α)(k:Nat)(hf:f.length=l.length)(h:k≤l.length):(f.take k++l.drop k).length=l.length:=by
 rw[List.length_append,List.length_take,List.length_drop];omega
theorem l9{α β:Type}(f:α→β)(l:List α)(k:Nat)(d:α)(h:k<l.length):(l.take (k+1)).map f=(l.take k).map f++ [f (l.getD k d)]:=by
 rw[aV l k d h,List.map_append];rfl
theorem qi{α:Type}(p:α→Bool)(l:List α)(k:Nat)(d:α)(h:k<l.length):(l.take (k+1)).all p=((l.take k).all p&&p (l.getD k d)):=by
 rw[aV l k d h,List.all_append];simp
theorem SI{α:Type}(p:α→Bool)(l:List α)(k:Nat)(d:α)(h:k<l.length):(l.take (k+1)).any p=((l.take k).any p||p (l.getD k d)):=by
 rw[aV l k d h,List.any_append];simp
theorem yR{α:Type}(l:List α)(p:α→Bool)(d:α)(k:Nat)(h:k<l.length)(h2:p (l.getD k d)=true):l.any p=true:=by
 rw[List.any_eq_true]
 refine⟨l.getD k d,?_,h2⟩
 rw[List.getD_eq_getElem?_getD,List.getElem?_eq_getElem h];simp
theorem Ef{α:Type}(l:List α)(p:α→Bool)(d:α)(k:Nat)(h:k<l.length)(h2:p (l.getD k d)=false):l.all p=false:=by
 rw[List.all_eq_false]
 refine⟨l.getD k d,?_,by rw[h2];decide⟩
 rw[List.getD_eq_getElem?_getD,List.getElem?_eq_getElem h];simp
theorem aY{α:Type}(l:List α)(k:Nat):(l.take k).length≤k:=by rw[List.length_take];omega
def inr(x lo hi:Int):Bool:=if decide (x≥lo)then decide (x≤hi)else false
theorem an{x lo hi:Int}:(inr x lo hi=true)=(lo≤x∧x≤hi):=by simp[inr]
theorem aq{x lo hi:Int}:(inr x lo hi=false)= ¬(lo≤x∧x≤hi):=by rw[←an];simp
theorem aa{α:Type}{l:List α}:(l.isEmpty=true)=(l= []):=by simp
theorem JC(l:List Int)(k:Nat)(h:k<l.length):hsh (l.take (k+1))=(IntKind.i64.wrap (IntKind.i64.wrap (IntKind.i64.wrap (hsh (l.take k)*1000003)+(l.getD k (au .int))% 2147483647)+13)).tmod 2147483647:=by
 rw[Zr (AE _).1 (AE _).2]
 exact jK hs1 11 l k _ h
def AF(l:List UInt8):List Int:=(l.length:Int)::l.map fun c=>(c.toNat:Int)
def stream(s:Int)(n:Nat):List UInt8:=(List.range n).map fun i:Nat=>b8 (cs s (100+(i:Int))/256)
theorem eI(s:Int)(n:Nat):(stream s n).length=n:=by simp[stream]
theorem BC{α:Type}(l:List (List α))(d:List α)(k:Nat)(h:k<l.length):((l.take (k+1)).map List.length).sum=((l.take k).map List.length).sum+(l.getD k d).length:=nQ List.length l d k h
theorem yS{α:Type}(l:List (List α))(d:List α)(k:Nat)(h:k<l.length):(l.take (k+1)).flatten=(l.take k).flatten++l.getD k d:=by
 rw[aV l k d h,List.flatten_append];simp
theorem oQ{α:Type}(l:List (List α))(k:Nat):(l.take k).flatten.length≤(l.map List.length).sum:=by
 rw[List.length_flatten];exact dx l List.length k
end
section
theorem nr{α:Type}(f l:List α)(k:Nat)(hf:f.length=l.length)(h:l.length≤k):f.take k++l.drop k=f:=by
 rw[List.take_of_length_le (by omega),List.drop_eq_nil_of_le h,List.append_nil]
theorem eg{β:Type}(n:Nat)(g:Nat→β)(k:Nat)(d:β)(h:k<n):((List.range n).map g).getD k d=g k:=by
 rw[List.getD_eq_getElem?_getD,List.getElem?_map,List.getElem?_range h];rfl
def lz(s:Int)(l:List UInt8):List UInt8:=(List.range l.length).map fun i:Nat=>b8 ((l.getD i (au .u8)).toNat+kh s [(i:Int)]% 256)
theorem jq(s:Int)(l:List UInt8):(lz s l).length=l.length:=by simp[lz]
def decr(s:Int)(l:List UInt8):List UInt8:=(List.range l.length).map fun i:Nat=>b8 ((l.getD i (au .u8)).toNat-kh s [(i:Int)]% 256)
def dN(key round dir rows:Int):Int:=if(1≤rows∧rows≤64)∧0≤round∧round≤1000000000000 then cs (kh key [79,round,dir]) 0 % rows else-1
def B9(seed round rows:Int):Int:=if 1≤rows∧rows≤64 then cs (kh seed [157,round]) 0 % rows else-1
def jd(key counter:Int)(data:List UInt8):Int:=kh key ([71,counter]++data.map fun c=>(c.toNat:Int))
def four(n:Int):List UInt8:= [b8 n,b8 (n/256),b8 (n/65536),b8 (n/16777216)]
def jA(p:Plain):Bool:=(inr p.kind 0 3)&&decide ((p.body.length:Int)≤14)
def fA(k:Int):Bool:=inr k 1 2147483646
def iw(key counter:Int)(p:Plain):Bool:=fA key&&(inr counter 0 1000000000000)&&jA p
def fD(key counter:Int)(p:Plain):List UInt8:= [b8 p.kind,b8 p.body.length]++p.body++(stream (kh key [61,counter]) 18).drop p.body.length
def lB(key counter:Int):Int:=CK (kh key [67,counter])
def qo(key counter:Int)(p:Plain):List UInt8:=if iw key counter p then lz (lB key counter) (fD key counter p)++four (jd key counter (lz (lB key counter) (fD key counter p)))else []
def jN(key dir:Int):Int:=CK (kh key [83,dir])
def cover(seed:Int):List UInt8:=stream (kh seed [73]) 24
end
section
theorem Zv(b c:Bool):(if b=true then true else c)=(b||c):=by cases b<;>rfl
theorem Zw(b c:Bool):(if b=true then c else false)=(b&&c):=by cases b<;>rfl
theorem Wk(a b:Int):(!decide (a<b))=decide (b≤a):=by rw[←decide_not];congr 1;exact propext Int.not_lt
theorem Wl(a b:Int):(!decide (a≤b))=decide (b<a):=by rw[←decide_not];congr 1;exact propext Int.not_le
theorem bne_not(a b:Int):(a !=b)= !(a==b):=rfl
theorem deq(a b:Int):decide (a=b)=(a==b):=rfl
theorem aH:(∀b c:Bool,(if b=true then true else c)=(b||c))∧(∀b c:Bool,(if b=true then c else false)=(b&&c))∧(∀a b:Int,a>b↔b<a)∧(∀a b:Nat,a>b↔b<a)∧(∀a b:Int,a≥b↔b≤a)∧(∀a b:Nat,a≥b↔b≤a)∧(∀a b:Int,(!decide (a<b))=decide (b≤a))∧(∀a b:Int,(!decide (a≤b))=decide (b<a))∧(∀a b:Int,(a !=b)= !(a==b))∧(∀a b:Int,decide (a=b)=(a==b))∧(∀(p:Prop) [Decidable p] [Decidable (¬p)],decide (¬p)= !decide p)∧(∀(α:Type) (a b:α),(a≠b)= ¬a=b)∧(∀a b:Bool,(!(a&&b))=(!a|| !b))∧(∀a b:Bool,(!(a||b))=(!a&& !b))∧(∀b:Bool,(!!b)=b)∧(∀b:Bool,(b&&true)=b)∧(∀b:Bool,(true&&b)=b)∧(∀b:Bool,(b||false)=b)∧(∀b:Bool,(false||b)=b)∧(∀n:Nat,(n:Int).toNat=n):=⟨Zv,Zw,fun _ _=>Iff.rfl,fun _ _=>Iff.rfl,fun _ _=>Iff.rfl,fun _ _=>Iff.rfl,Wk,Wl,bne_not,deq,fun _=>decide_not,fun _ _ _=>rfl,Bool.not_and,Bool.not_or,Bool.not_not,Bool.and_true,Bool.true_and,Bool.or_false,Bool.false_or,Int.toNat_natCast⟩
theorem abO{E R S:Bool}(h:E=true)(he:E= !R):(R&&S)=false:=by
 rw[h]at he
 cases R with
 |false=>rfl
 |true=>exact absurd he (by decide)
theorem bK{E R:Bool}(h:E=true)(he:E= !R):R=false:=by
 rw[h]at he
 cases R with
 |false=>rfl
 |true=>exact absurd he (by decide)
theorem bG{E R:Bool}(h:E=false)(he:E= !R):R=true:=by
 rw[h]at he
 cases R with
 |true=>rfl
 |false=>exact absurd he (by decide)
def bV(d:DB):Bool:=decide ((d.rows.length:Int)≤64)&&d.rows.all fun r=>decide ((r.length:Int)=24)
def nW(rows:Int)(l:List aA)(i:Nat):Bool:=inr (l.getD i (au .aA)).client 0 7&& !(decide ((0:Int)<i)&&decide ((l.getD i (au .aA)).client≤(l.getD (i-1) (au .aA)).client))&&bV (l.getD i (au .aA)).share&&(((l.getD i (au .aA)).share.rows.length:Int)==rows)
def wI(s:aO):Bool:=inr s.id 0 3&&inr s.rows 1 64&&inr s.behavior 0 3&&inr s.round 0 100000&&decide ((s.received.length:Int)≤8)
def cj(s:aO):Bool:=wI s&&(List.range s.received.length).all (nW s.rows s.received)
def rY(rows:Int)(l:List ay)(i:Nat):Bool:=inr (l.getD i (au .ay)).round 0 100000&& !(decide ((0:Int)<i)&&decide ((l.getD i (au .ay)).round≤(l.getD (i-1) (au .ay)).round))&&bV (l.getD i (au .ay)).db&&(((l.getD i (au .ay)).db.rows.length:Int)==rows)
def Em(a:gW):Bool:=inr a.rows 1 64&&decide ((a.rounds.length:Int)≤8)
def e9(a:gW):Bool:=Em a&&(List.range a.rounds.length).all (rY a.rows a.rounds)
def bR(a:gW):Int:=if a.rounds.length=0 then-1 else(a.rounds.getD (a.rounds.length-1) (au .ay)).round
def w9(b:List UInt8):Bool:=decide ((14:Int)<b.length)
def dh(c:ep):Bool:=inr c.id 0 7&&inr c.eu 0 7&& !(c.id==c.eu)&&fA c.key&&decide ((c.av.length:Int)≤16)&&decide ((c.inbox.length:Int)≤16)&& !c.av.any w9&& !c.inbox.any w9&&inr c.sent 0 c.av.length&&inr c.next 0 100000
def iR(a b:ep):Bool:=(a.id==b.id)&&(a.eu==b.eu)&&(a.key==b.key)&&(a.seed==b.seed)&&(a.av==b.av)
def AK(a b:List (List UInt8)):Bool:=decide ((a.length:Int)≤b.length)&&(a==b.take a.length)
def cL(d:aL):Bool:=dh d.live&&dh d.saved&&iR d.live d.saved&&decide (d.saved.sent≤d.live.sent)&&decide (d.saved.next≤d.live.next)&&AK d.saved.inbox d.live.inbox
def cq(n:Int):Bool:=inr n 2 4
def Gj(x:aJ)(i:Nat):Bool:=cj (x.ah.getD i (au .aO))&&((x.ah.getD i (au .aO)).id==(i:Int))&&((x.ah.getD i (au .aO)).rows==x.rows)&&((x.ah.getD i (au .aO)).round==x.round)&&decide (((x.ah.getD i (au .aO)).received.length:Int)≤0)
def okD(x:aJ)(i:Nat):Bool:=cL (x.af.getD i (au .aL))&&((x.af.getD i (au .aL)).live.id==(i:Int))&&((x.af.getD i (au .aL)).live.eu==((i^^^1:Nat):Int))&&((x.af.getD i (au .aL)).live.key==(x.af.getD (i^^^1) (au .aL)).live.key)&&decide ((x.af.getD i (au .aL)).live.next≤x.round)
def IN(x:aJ):Bool:=inr x.rows 1 64&&cq x.ah.length&&inr x.af.length 2 8&&((x.af.length:Int).tmod 2==0)&&e9 x.ak&&(x.ak.rows==x.rows)&&decide (bR x.ak<x.round)&&fA x.az&&inr x.round 0 100000&&decide (0≤x.cancelled)
def okW(x:aJ):Bool:=IN x&&(List.range x.ah.length).all (Gj x)&&(List.range x.af.length).all (okD x)
theorem jV{p:Nat→Bool}{k:Nat}(h:(List.range k).all p=true)(hk:p k=true):(List.range (k+1)).all p=true:=by
 rw[List.range_succ,List.all_append,h];simp[hk]
theorem mg{p:Nat→Bool}{k n:Nat}(h:k<n)(hk:p k=false):(List.range n).all p=false:=by
 rw[List.all_eq_false]
 exact⟨k,List.mem_range.2 h,by rw[hk];decide⟩
def fidx{α:Type}(p:α→Bool)(l:List α):Int:=if l.any p then(l.findIdx p:Int)else-1
theorem yV{α:Type}{p:α→Bool}{l:List α}{k:Nat}(d:α)(h:k<l.length)(h1:(l.take k).any p=false)(h2:p (l.getD k d)=true):fidx p l=k:=by
 have ha:l.any p=true:=yR l p d k h h2
 have e:l=l.take k++l.getD k d::l.drop (k+1):=by rw[←nE l k d h,List.take_append_drop]
 unfold fidx
 rw[if_pos ha]
 have hf:l.findIdx p=k:=by
  rw[List.findIdx_eq h]
  refine⟨?_,fun j hj=> ?_⟩
  ·rw[List.getD_eq_getElem?_getD,List.getElem?_eq_getElem h]at h2;exact h2
  ·rw[List.any_eq_false]at h1
   have:=h1 l[j] (by rw[List.mem_take_iff_getElem];exact⟨j,by omega,rfl⟩)
   simpa using this
 rw[hf]
theorem Gk{α:Type}{p:α→Bool}{l:List α}(h:l.any p=false):fidx p l= -1:=by unfold fidx;rw[if_neg (by rw[h];decide)]
theorem N0{α:Type}(p:α→Bool)(l:List α):decide (fidx p l≥0)=l.any p:=by
 unfold fidx
 cases h:l.any p
 ·rw[if_neg (by decide)];rfl
 ·rw[if_pos rfl];simp
theorem uk{α:Type}{p:α→Bool}{l:List α}{k:Nat}(d:α)(h:k<l.length)(h1:(l.take k).any p=false)(h2:p (l.getD k d)=false):(l.take (k+1)).any p=false:=by
 rw[SI p l k d h,h1,h2];rfl
theorem um{α:Type}(l:List α)(p:α→Bool):l.all p= !(l.any fun b=> !p b):=by
 induction l with
 |nil=>rfl
 |cons a r ih=>simp[ih]
end
section
theorem xd(k n:Nat)(h:k<n)(he:n % 2=0):k^^^1<n:=by
 have h1:(k^^^1)/2=k/2:=by
  have:=Nat.xor_div_two (a:=k) (b:=1)
  simpa using this
 have h2:k^^^1<2*(k/2)+2:=by
  have:=Nat.div_add_mod (k^^^1) 2
  have:=Nat.mod_lt (k^^^1) (show 0<2 by decide)
  omega
 omega
theorem Zx(k:Nat)(h:k<2^62):IntKind.i64.wrap (BitVec.ofInt IntKind.i64.bits (k:Int)^^^BitVec.ofInt IntKind.i64.bits 1).toNat=((k^^^1:Nat):Int):=by
 have h2:(BitVec.ofInt IntKind.i64.bits (k:Int)^^^BitVec.ofInt IntKind.i64.bits 1).toNat=k^^^1:=by
  rw[BitVec.toNat_xor]
  have h1:(BitVec.ofInt IntKind.i64.bits 1).toNat=1:=by decide
  have h2:(BitVec.ofInt IntKind.i64.bits (k:Int)).toNat=k % 2^64:=by rw[BitVec.ofInt_natCast,BitVec.toNat_ofNat];rfl
  rw[h1,h2,Nat.mod_eq_of_lt (by omega)]
 have hx:=Nat.xor_lt_two_pow (n:=62) h (show 1<2^62 by decide)
 rw[h2,bl (by omega)]
theorem oS{x:aJ}(h:IN x=true):x.af.length % 2=0∧x.af.length≤8∧2≤x.af.length:=by
 simp only[IN,an,Bool.and_eq_true,beq_iff_eq]at h
 have h1:=h.1.1.1.1.1.1.2
 have h2:=h.1.1.1.1.1.1.1.2
 rw[dj (by omega)]at h1
 omega
theorem kD{x:aJ}(h:okW x=true):IN x=true:=by simp only[okW,Bool.and_eq_true]at h;exact h.1.1
theorem cN{x:aJ}(h:okW x=true):x.ah.length≤4∧2≤x.ah.length:=by
 have:=kD h
 simp only[IN,cq,an,Bool.and_eq_true,beq_iff_eq]at this
 have h1:=this.1.1.1.1.1.1.1.1.2
 omega
def svW(x:aJ):Bool:=(List.range x.ah.length).all (Gj x)&&cq x.ah.length
def XX(x:aJ):Bool:=((x.af.length:Int).tmod 2==0)&&inr x.af.length 2 8&&(List.range x.af.length).all (okD x)
def qy(x:aJ)(c:Int):Bool:=inr c 0 (x.af.length-1)
def bS(c:ep):Int:=if c.id<c.eu then 0 else 1
def qz(c:ep)(at':Int):List UInt8:=qo (jN c.key (bS c)) at' ⟨1,c.av.getD at'.toNat (au (.sl .u8))⟩
def nu(c:ep)(r n:Int):Bool:=dh c&&inr r 0 100000&&inr n 1 64
def kE(c:ep)(r n:Int):Int:=if nu c r n=true then(if c.sent<c.av.length then dN c.key r (bS c) n else B9 c.seed r n)else 0
def fE(c:ep)(r n:Int):List UInt8:=if nu c r n=true then(if c.sent<c.av.length then qz c c.sent else cover (kh c.seed [r]))else []
theorem AL{c:ep}{r n:Int}(h:nu c r n=true):0≤c.sent∧c.sent≤c.av.length:=by
 simp only[nu,dh,an,Bool.and_eq_true]at h
 exact h.1.1.1.2
theorem oT{k c:Int}{p:Plain}(h:iw k c p=true):p.body.length≤14:=by
 simp only[iw,jA,Bool.and_eq_true,decide_eq_true_eq]at h
 omega
end
section
def Zy(s:Int)(i:Nat):Int:=rsb (kh s [(i:Int),41])
def bg(s rows:Int):List Int:=if 0≤rows∧rows≤64 then(List.range rows.toNat).map (Zy s)else []
def bN(v:List Int)(rows:Int):Bool:=(decide ((v.length:Int)=rows)&&decide (rows≤64))&&v.all fun x=>inr x 0 1
theorem dZ{v:List Int}{r:Int}(h:bN v r=true):(v.length:Int)=r∧r≤64:=by
 simp only[bN,Bool.and_eq_true,decide_eq_true_eq]at h
 exact h.1
theorem qA{v:List Int}{r:Int}(h:bN v r=true)(k:Nat)(hk:k<v.length):v.getD k (au .int)=0∨v.getD k (au .int)=1:=by
 simp only[bN,Bool.and_eq_true,List.all_eq_true,an]at h
 have:=h.2 (v.getD k (au .int)) (by rw[List.getD_eq_getElem?_getD,List.getElem?_eq_getElem hk];exact List.getElem_mem _)
 omega
def xb(x y:Int):Int:=if x=y then 0 else 1
def kG(a b:List Int):Bool:=bN a a.length&&bN b a.length
def eA(a b:List Int):List Int:=if kG a b then List.zipWith xb a b else []
theorem sj{a b:List Int}(h:kG a b=true):eA a b=List.zipWith xb a b:=by rw[eA,if_pos h]
def cX(rows i:Int):Bool:=inr rows 1 64&&inr i 0 (IntKind.i64.wrap (rows-1))
def gD(rows i:Int):List Int:=if cX rows i then(List.replicate rows.toNat (au .int)).set i.toNat 1 else []
theorem mj{rows i:Int}(h:cX rows i=true):1≤rows∧rows≤64∧0≤i∧i<rows:=by
 simp only[cX,Bool.and_eq_true,an]at h
 rw[bl (by omega)]at h
 omega
theorem iS{rows i:Int}(h:cX rows i=true):gD rows i=(List.replicate rows.toNat (au .int)).set i.toNat 1:=by rw[gD,if_pos h]
def sk(rows i:Int)(sd:List Int):Bool:= !decide (((gD rows i).length:Int)=0)&&cq (IntKind.i64.wrap ((sd.length:Int)+1))
def qB(rows i:Int)(sd:List Int):List Int:=sd.foldl (fun l s=>eA l (bg s rows)) (gD rows i)
def eM(rows i:Int)(sd:List Int):List (List Int):=if sk rows i sd then sd.map (fun s=>bg s rows)++ [qB rows i sd]else []
def cG(n:Nat)(r row s:Int):List Int:=(List.range (n-1)).map fun i:Nat=>kh s [229,r,row,(i:Int)]
theorem dL(n:Nat)(r row s:Int):(cG n r row s).length=n-1:=by simp[cG]
theorem N1(n:Nat)(h:n≤1048576):Vk 0 (IntKind.i64.wrap ((n:Int)-1))=((n-1:Nat):Int):=by
 rw[bl (by omega)];unfold Vk;split<;>omega
end
section
set_option maxRecDepth 100000
theorem getD_some{α:Type}(l:List α)(d:α)(k:Nat)(h:k<l.length):l[k]? =some (l.getD k d):=by
 rw[List.getD_eq_getElem?_getD,List.getElem?_eq_getElem h];rfl
def eF(x:DB):Nat:=(bX List.length) x.rows
def bI(x:aA):Nat:=eF x.share
def bp(x:aO):Nat:=(bX bI) x.received
def aZ(x:ay):Nat:=eF x.db
def cB(x:gW):Nat:=(bX aZ) x.rounds
def bD(x:ep):Nat:=(bX List.length) x.av+(bX List.length) x.inbox
def aP(x:aL):Nat:=bD x.live+bD x.saved
end
section
def Mo:List UInt8:=List.replicate 24 (au .u8)
def cw(rows:Int):DB:=⟨if 0≤rows∧rows≤64 then List.replicate rows.toNat Mo else []⟩
theorem qD(rows:Int):(cw rows).rows.length≤64:=by
 unfold cw;dsimp only;split
 ·simp;omega
 ·simp
theorem iT{rows:Int}(h:0≤rows∧rows≤64):(cw rows).rows=List.replicate rows.toNat Mo:=by unfold cw;dsimp only;rw[if_pos h]
def jt(d:DB)(i:Int)(c:List UInt8):Bool:=inr i 0 (IntKind.i64.wrap ((d.rows.length:Int)-1))&&decide ((c.length:Int)=24)
def qE(d:DB)(i:Int)(c:List UInt8):DB:=if jt d i c then⟨d.rows.set i.toNat c⟩else d
theorem HS{d:DB}{i:Int}{c:List UInt8}(hl:d.rows.length≤1048576)(h:jt d i c=true):0≤i∧i<d.rows.length∧c.length=24:=by
 simp only[jt,Bool.and_eq_true,an,decide_eq_true_eq]at h
 rw[bl (by omega)]at h
 omega
theorem qF{d:DB}{i:Int}{c:List UInt8}(h:jt d i c=true):qE d i c=⟨d.rows.set i.toNat c⟩:=by rw[qE,if_pos h]
def gq(a b:DB):Bool:=(bV a&&bV b)&&decide ((a.rows.length:Int)=b.rows.length)
def fQ(a b:DB):List (List UInt8):=List.zipWith cJ a.rows b.rows
def dD(a b:DB):DB:=if gq a b then⟨fQ a b⟩else a
theorem zc{d:DB}(h:bV d=true):d.rows.length≤64:=by
 simp only[bV,Bool.and_eq_true,decide_eq_true_eq]at h;omega
theorem lV{d:DB}(h:bV d=true)(k:Nat)(hk:k<d.rows.length):(d.rows.getD k (au (.sl .u8))).length=24:=by
 simp only[bV,Bool.and_eq_true,List.all_eq_true,decide_eq_true_eq]at h
 have:=h.2 (d.rows.getD k (au (.sl .u8))) (by rw[List.getD_eq_getElem?_getD,List.getElem?_eq_getElem hk];exact List.getElem_mem _)
 omega
theorem ux{a b:DB}(h:gq a b=true):bV a=true∧bV b=true∧a.rows.length=b.rows.length∧a.rows.length≤64:=by
 simp only[gq,Bool.and_eq_true,decide_eq_true_eq]at h
 have:=zc h.1.1
 exact⟨h.1.1,h.1.2,by omega,this⟩
theorem jO{a b:DB}(h:gq a b=true):(fQ a b).length=a.rows.length:=by
 have:=ux h
 rw[fQ,List.length_zipWith];omega
theorem xj{a b:DB}(h:gq a b=true)(k:Nat)(hk:k<a.rows.length):(fQ a b).getD k (au (.sl .u8))=cJ (a.rows.getD k (au (.sl .u8))) (b.rows.getD k (au (.sl .u8))):=by
 have hb:=ux h
 rw[fQ,List.getD_eq_getElem?_getD,List.getD_eq_getElem?_getD,List.getD_eq_getElem?_getD,List.getElem?_zipWith,List.getElem?_eq_getElem hk,List.getElem?_eq_getElem (show k<b.rows.length by omega)]
 rfl
theorem qG{a b:DB}(h:gq a b=true):dD a b=⟨fQ a b⟩:=by rw[dD,if_pos h]
theorem qH{a b:DB}(h:gq a b=false):dD a b=a:=by rw[dD,if_neg (by rw[h];decide)]
def gr(x:aJ)(c:Int):List Int:=(List.range (x.ah.length-1)).map fun i:Nat=>kh x.seed [223,x.round,c,(i:Int)]
theorem iE(x:aJ)(c:Int):(gr x c).length=x.ah.length-1:=by simp[gr]
def fT(rows i:Int)(c:List UInt8):Bool:=inr rows 1 64&&jt (cw rows) i c
def Ah(rows i:Int)(c:List UInt8):DB:=if inr rows 1 64 then qE (cw rows) i c else⟨[]⟩
theorem oX:Mo.length=24:=by simp[Mo]
end
section
theorem iF{d:DB}:bV d=true↔d.rows.length≤64∧ ∀r,r∈d.rows→r.length=24:=by
 simp only[bV,Bool.and_eq_true,decide_eq_true_eq,List.all_eq_true]
 constructor
 ·rintro⟨h1,h2⟩;exact⟨by omega,fun r hr=>by have:=h2 r hr;omega⟩
 ·rintro⟨h1,h2⟩;exact⟨by omega,fun r hr=>by have:=h2 r hr;omega⟩
theorem cZ{d:DB}(h:bV d=true):bX List.length d.rows≤1048576:=by
 obtain⟨h1,h2⟩:=iF.1 h
 have h3: ∀l:List (List UInt8),(∀r,r∈l→r.length=24)→(l.map List.length).sum=24*l.length:=by
  intro l
  induction l with
  |nil=>intro _;rfl
  |cons x r ih=>intro hl;rw[List.map_cons,List.sum_cons,ih fun y hy=>hl y (by simp[hy]),hl x (by simp),List.length_cons];omega
 have:=h3 _ h2
 unfold bX;omega
theorem J1{a b:DB}(ha:bV a=true)(hb:bV b=true):bV (dD a b)=true:=by
 cases h:gq a b with
 |false=>rw[qH h];exact ha
 |true=>
  rw[qG h,iF]
  have hl:=jO h
  refine⟨by have:=zc ha;show(fQ a b).length≤64;omega,fun r hr=> ?_⟩
  obtain⟨k,hk⟩:=List.getElem?_of_mem hr
  have hk2:k<(fQ a b).length:=(List.getElem?_eq_some_iff.1 hk).1
  have hg:=xj h k (by omega)
  rw[List.getD_eq_getElem?_getD,hk]at hg
  have hx:=ux h
  rw[show r=_ from hg,cP,lV ha k (by omega),lV hb k (by omega)];rfl
def gK(s rows:Int):List (List UInt8):=(List.range rows.toNat).map fun r:Nat=>stream (IntKind.i64.wrap (s+IntKind.i64.wrap (1000*(r:Int)))) (24:Int).toNat
def J2(s rows:Int):DB:=⟨gK s rows⟩
theorem mq(s rows:Int):(gK s rows).length=rows.toNat:=by simp[gK]
theorem HW(s rows:Int)(h:rows≤64):bV (J2 s rows)=true:=by
 rw[iF]
 refine⟨by show(gK s rows).length≤64;rw[mq];omega,fun r hr=> ?_⟩
 obtain⟨k,_,rfl⟩:=List.mem_map.1 (show r∈gK s rows from hr)
 exact eI _ _
def sW(rows i:Int)(c:List UInt8)(sd:List Int):Bool:=fT rows i c&&cq (IntKind.i64.wrap ((sd.length:Int)+1))
def o8(rows i:Int)(c:List UInt8)(sd:List Int):DB:=sd.foldl (fun d s=>dD d (J2 s rows)) (Ah rows i c)
def mY(rows i:Int)(c:List UInt8)(sd:List Int):List DB:=if sW rows i c sd then sd.map (fun s=>J2 s rows)++ [o8 rows i c sd]else []
theorem xl{rows i:Int}{c:List UInt8}(h:fT rows i c=true):bV (Ah rows i c)=true∧1≤rows∧rows≤64:=by
 simp only[fT,Bool.and_eq_true]at h
 obtain⟨h1,h2⟩:=h
 have hr:1≤rows∧rows≤64:=by rw[an]at h1;exact h1
 have hb:=HS (Nat.le_trans (qD rows) (by decide)) h2
 refine⟨?_,hr⟩
 rw[Ah,if_pos h1,qF h2,iF,iT (by omega)]
 refine⟨by simp;omega,fun r hr=> ?_⟩
 rcases List.mem_or_eq_of_mem_set hr with h|rfl
 ·rw[(List.mem_replicate.1 h).2,oX]
 ·exact hb.2.2
theorem Ez{rows i:Int}{c:List UInt8}(h:fT rows i c=true)(sd:List Int):bV (o8 rows i c sd)=true:=by
 have hu:=xl h
 have g: ∀(l:List Int) (d:DB),bV d=true→bV (l.foldl (fun d s=>dD d (J2 s rows)) d)=true:=by
  intro l
  induction l with
  |nil=>intro d hd;exact hd
  |cons x r ih=>intro d hd;exact ih _ (J1 hd (HW x rows hu.2.2))
 exact g sd _ hu.1
theorem zj(rows i:Int)(c:List UInt8):fT rows i c=(inr rows 1 64&&inr i 0 (IntKind.i64.wrap (rows-1))&&decide ((c.length:Int)=24)):=by
 unfold fT
 cases h:inr rows 1 64 with
 |false=>rfl
 |true=>
  rw[an]at h
  have:((cw rows).rows.length:Int)=rows:=by rw[iT (by omega)];simp;omega
  rw[jt,this]
  simp
end
section
def AV(x:aJ)(c:Int):ep:=(x.af.getD c.toNat (au .aL)).live
def bk(x:aJ)(c:Int):List DB:=mY x.rows (kE (AV x c) x.round x.rows) (fE (AV x c) x.round x.rows) (gr x c)
end
section
theorem o9{x:aJ}(h:okW x=true){i:Nat}(hi:i<x.af.length):okD x i=true:=by
 simp only[okW,Bool.and_eq_true,List.all_eq_true]at h
 exact h.2 i (List.mem_range.2 hi)
theorem HX{x:aJ}(h:okW x=true){i:Nat}(hi:i<x.ah.length):Gj x i=true:=by
 simp only[okW,Bool.and_eq_true,List.all_eq_true]at h
 exact h.1.2 i (List.mem_range.2 hi)
theorem S2{x:aJ}{i:Nat}(h:okD x i=true):dh (x.af.getD i (au .aL)).live=true:=by
 simp only[okD,cL,Bool.and_eq_true]at h
 exact h.1.1.1.1.1.1.1.1.1
theorem lK{x:aJ}(h:okW x=true):(1≤x.rows∧x.rows≤64)∧0≤x.round∧x.round≤100000:=by
 have h:=kD h
 simp only[IN,Bool.and_eq_true,an]at h
 omega
theorem ZK{x:aJ}{c:Int}(h:okW x=true)(hc:0≤c∧c<x.af.length):dh (AV x c)=true:=S2 (o9 h (by omega))
theorem ZL{x:aJ}{c:Int}(h:okW x=true)(hc:0≤c∧c<x.af.length):nu (AV x c) x.round x.rows=true:=by
 have:=lK h
 simp only[nu,ZK h hc,Bool.and_eq_true,an]
 exact⟨⟨trivial,this.2⟩,this.1⟩
theorem Mt{key r d n:Int}(h:(1≤n∧n≤64)∧0≤r∧r≤1000000000000):0≤dN key r d n∧dN key r d n<n:=by
 unfold dN
 rw[if_pos h]
 exact⟨Int.emod_nonneg _ (by omega),Int.emod_lt_of_pos _ (by omega)⟩
theorem Mu{s r n:Int}(h:1≤n∧n≤64):0≤B9 s r n∧B9 s r n<n:=by
 unfold B9
 rw[if_pos h]
 exact⟨Int.emod_nonneg _ (by omega),Int.emod_lt_of_pos _ (by omega)⟩
theorem J7{c:ep}{r n:Int}(h:nu c r n=true):0≤kE c r n∧kE c r n<n:=by
 have hb:(0≤r∧r≤100000)∧1≤n∧n≤64:=by
  simp only[nu,Bool.and_eq_true,an]at h;exact⟨h.1.2,h.2⟩
 rw[kE,if_pos h]
 split
 ·exact Mt (by omega)
 ·exact Mu (by omega)
theorem Wu(k d:Int):fA (jN k d)=true:=by
 have:=vE (dy k [83,d])
 simp only[fA,an];unfold jN;omega
theorem qL{c:ep}(h:dh c=true):c.av.length≤16∧c.inbox.length≤16∧(∀b,b∈c.av→b.length≤14)∧(∀b,b∈c.inbox→b.length≤14)∧0≤c.sent∧c.sent≤c.av.length∧0≤c.next∧c.next≤100000:=by
 simp only[dh,Bool.and_eq_true,Bool.not_eq_true',List.any_eq_false,an,decide_eq_true_eq]at h
 obtain⟨⟨⟨⟨⟨⟨_,h1⟩,h2⟩,h3⟩,h4⟩,h5⟩,h6⟩:=h
 refine⟨by omega,by omega,fun b hb=> ?_,fun b hb=> ?_,h5.1,h5.2,h6.1,h6.2⟩
 ·have:=h3 b hb;simp only[w9,decide_eq_true_eq]at this;omega
 ·have:=h4 b hb;simp only[w9,decide_eq_true_eq]at this;omega
theorem getD_in{α:Type}{l:List α}{k:Nat}(d:α)(h:k<l.length):l.getD k d∈l:=by
 rw[List.getD_eq_getElem?_getD,List.getElem?_eq_getElem h];exact List.getElem_mem h
theorem J8{k c:Int}{p:Plain}(h:iw k c p=true):(qo k c p).length=24:=by
 have hb:=oT h
 rw[qo,if_pos h,List.length_append,jq]
 simp only[fD,four,List.length_append,List.length_drop,List.length_cons,List.length_nil,eI];omega
theorem PX{c:ep}(h:dh c=true){a:Int}(h0:0≤a)(h1:a<c.av.length):(qz c a).length=24:=by
 obtain⟨q1,_,q2,_⟩:=qL h
 apply J8
 simp only[iw,Wu,jA,Bool.and_eq_true,an,decide_eq_true_eq]
 have:=q2 _ (getD_in (au (.sl .u8)) (show a.toNat<c.av.length by omega))
 refine⟨⟨trivial,by omega⟩,by omega,by omega⟩
theorem HY{c:ep}{r n:Int}(h:nu c r n=true):(fE c r n).length=24:=by
 rw[fE,if_pos h]
 split
 ·rename_i hs
  have hc:dh c=true:=by simp only[nu,Bool.and_eq_true]at h;exact h.1.1
  exact PX hc (AL h).1 hs
 ·rw[cover,eI]
theorem Gs{x:aJ}{c:Int}(h:okW x=true)(hc:0≤c∧c<x.af.length):sW x.rows (kE (AV x c) x.round x.rows) (fE (AV x c) x.round x.rows) (gr x c)=true:=by
 have hw:=ZL h hc
 have hr:=lK h
 have hs:=cN h
 have hrow:=J7 hw
 have hcell:=HY hw
 simp only[sW,zj,cq,Bool.and_eq_true,an,decide_eq_true_eq,iE]
 rw[bl (by omega),bl (by omega)]
 omega
theorem eV{x:aJ}{c:Int}(h:okW x=true)(hc:0≤c∧c<x.af.length):(bk x c).length=x.ah.length:=by
 have hs:=cN h
 rw[bk,mY,if_pos (Gs h hc),List.length_append,List.length_map,iE]
 simp;omega
end
section
theorem J9{rows i:Int}{c:List UInt8}{sd:List Int}(hr:rows≤64): ∀d,d∈mY rows i c sd→bV d=true:=by
 intro d hd
 unfold mY at hd
 split at hd
 ·rename_i hm
  have hu:fT rows i c=true:=by simp only[sW,Bool.and_eq_true]at hm;exact hm.1
  rcases List.mem_append.1 hd with h|h
  ·obtain⟨s,_,rfl⟩:=List.mem_map.1 h
   exact HW s rows hr
  ·rw[List.mem_singleton.1 h];exact Ez hu _
 ·cases hd
def Cf(d:DB):Nat:=(d.rows.map List.length).sum
theorem HZ{d:DB}(h:bV d=true):Cf d≤1536:=by
 obtain⟨h1,h2⟩:=iF.1 h
 have h3: ∀l:List (List UInt8),(∀r,r∈l→r.length=24)→(l.map List.length).sum=24*l.length:=by
  intro l
  induction l with
  |nil=>intro _;rfl
  |cons x r ih=>intro hl;rw[List.map_cons,List.sum_cons,ih fun y hy=>hl y (by simp[hy]),hl x (by simp),List.length_cons];omega
 have:=h3 _ h2
 unfold Cf;omega
theorem Ka{α:Type}(f:α→Nat)(C:Nat): ∀(l:List α),(∀x,x∈l→f x≤C)→(l.map f).sum≤C*l.length
 | [],_=>by simp
 |x::r,h=>by
  have:=Ka f C r fun y hy=>h y (by simp[hy])
  have:=h x (by simp)
  rw[List.map_cons,List.sum_cons,List.length_cons,Nat.mul_add]
  omega
end
section
def pU(s:aO):Prop:=s.received.length≤1048576∧ ∀r,r∈s.received→bX List.length r.share.rows≤1048576
def wB(x:aJ):Prop:=bX bp x.ah≤1048576∧bX aP x.af≤1048576∧cB x.ak≤1048576∧x.replaced.length≤4194304
def kO(s:aO)(c:Int)(d:DB):aO:=⟨s.id,s.rows,s.round,s.received++ [⟨c,d⟩],s.behavior⟩
def ju(s:aO)(c:Int)(d:DB):Bool:=cj s&&cj (kO s c d)
def Kb(s:aO)(c:Int)(d:DB):aO:=if ju s c d then kO s c d else s
def below(s:aO)(c:Int):Prop:= ∀r,r∈s.received→r.client<c
theorem P2{s:aO}{c e:Int}{d:DB}(h:below s c)(hc:c<e):below (Kb s c d) e:=by
 intro r hr
 unfold Kb at hr
 split at hr
 ·rcases List.mem_append.1 hr with h1|h1
  ·have:=h r h1;omega
  ·rw[List.mem_singleton.1 h1];exact hc
 ·have:=h r hr;omega
theorem P3{s:aO}{c:Int}{d:DB}(h:pU s)(hd:bV d=true):pU (Kb s c d):=by
 unfold Kb
 split
 ·rename_i hk
  have h1:(kO s c d).received.length≤8:=by
   simp only[ju,cj,wI,Bool.and_eq_true,decide_eq_true_eq]at hk;omega
  refine⟨by omega,fun r hr=> ?_⟩
  rcases List.mem_append.1 hr with h2|h2
  ·exact h.2 r h2
  ·rw[List.mem_singleton.1 h2];exact cZ hd
 ·exact h
def QE(c:Int)(r:aA):Bool:=r.client==c
def jv(l:List aA)(c:Int):Bool:=l.any (QE c)
def pV(l:List aA)(c:Int):DB:=if jv l c then(l.getD (fidx (QE c) l).toNat (au .aA)).share else⟨[]⟩
theorem H7{s:aO}{c:Int}{d:DB}(h:ju s c d=true):Kb s c d=kO s c d:=by rw[Kb,h];rfl
def H8(d:DB):Int:=hsh ((d.rows.length:Int)::d.rows.flatMap AF)
def fU(m s:Int):Int:=CK (kh m [173,s])
def sX(c r:Int)(d:DB):Int:=hsh [179,c,r,H8 d]
def Mw(key s c r g:Int):Int:=kh key [181,s,c,r,g]
def ZN(key s c r:Int)(d:DB):dP:=⟨s,c,r,sX c r d,Mw key s c r (sX c r d)⟩
def N8(l:List aO)(c:Int)(ds:List DB):List aO:=List.zipWith (fun s d=>Kb s c d) l ds
def vW(x:aJ):Nat→List aO
 |0=>x.ah
 |k+1=>N8 (vW x k) (k:Int) (bk x (k:Int))
def ab4(x:aJ)(c:Nat)(i:Nat):List dP:= [ZN (fU x.az (i:Int)) (i:Int) (c:Int) x.round ((bk x (c:Int)).getD i (au .DB))]
def EC(x:aJ)(c:Nat)(n:Nat):List dP:=(List.range n).flatMap (ab4 x c)
def Cg(x:aJ)(n:Nat):List dP:=(List.range n).flatMap fun c=>EC x c x.ah.length
structure Col(x:aJ)(k:Nat):Prop where
 len:(vW x k).length=x.ah.length
 FB: ∀s,s∈vW x k→below s (k:Int)
 sml: ∀s,s∈vW x k→pU s
theorem AW{x:aJ}(h:okW x=true): ∀s,s∈x.ah→s.received= []:=by
 intro s hs
 obtain⟨i,hi,rfl⟩:=List.mem_iff_getElem.1 hs
 have h1:=HX h hi
 have e:x.ah.getD i (au .aO)=x.ah[i]:=by rw[List.getD_eq_getElem?_getD,List.getElem?_eq_getElem hi];rfl
 simp only[Gj,e,Bool.and_eq_true,decide_eq_true_eq]at h1
 have h2:x.ah[i].received.length=0:=by omega
 exact List.length_eq_zero_iff.1 h2
theorem n9{x:aJ}{c:Int}(h:okW x=true): ∀d,d∈bk x c→bV d=true:=by
 have:=lK h
 exact J9 (by omega)
theorem Kc{l:List aO}{c:Int}{ds:List DB}{s:aO}(h:s∈N8 l c ds): ∃t d,t∈l∧d∈ds∧s=Kb t c d:=by
 induction l generalizing ds with
 |nil=>cases h
 |cons t l ih=>
  cases ds with
  |nil=>cases h
  |cons d ds=>
   rcases List.mem_cons.1 h with h1|h1
   ·exact⟨t,d,List.mem_cons_self ..,List.mem_cons_self ..,h1⟩
   ·obtain⟨t',d',q1,q2,q3⟩:=ih h1
    exact⟨t',d',List.mem_cons_of_mem _ q1,List.mem_cons_of_mem _ q2,q3⟩
theorem col{x:aJ}(h:okW x=true): ∀k,k≤x.af.length→Col x k
 |0,_=>by
  have he:=AW h
  refine⟨rfl,fun s hs=> ?_,fun s hs=> ?_⟩
  ·intro r hr;rw[he s hs]at hr;cases hr
  ·refine⟨by rw[he s hs];decide,fun r hr=> ?_⟩
   rw[he s hs]at hr;cases hr
 |k+1,hk=>by
  have ih:=col h k (by omega)
  have hl:(bk x (k:Int)).length=x.ah.length:=eV h (by omega)
  refine⟨?_,fun s hs=> ?_,fun s hs=> ?_⟩
  ·show(List.zipWith _ _ _).length=_
   rw[List.length_zipWith,ih.len,hl];omega
  ·obtain⟨t,d,h1,h2,rfl⟩:=Kc hs
   exact P2 (ih.FB t h1) (by omega)
  ·obtain⟨t,d,h1,h2,rfl⟩:=Kc hs
   exact P3 (ih.sml t h1) (n9 h d h2)
theorem kP{x:aJ}(h:okW x=true){k:Nat}(hk:k≤x.af.length):(vW x k).length=x.ah.length:=(col h k hk).len
theorem Ke{x:aJ}(h:okW x=true){k i:Nat}(hk:k<x.af.length)(hi:i<x.ah.length):(vW x (k+1)).getD i (au .aO)=Kb ((vW x k).getD i (au .aO)) (k:Int) ((bk x (k:Int)).getD i (au .DB)):=by
 have hl:(bk x (k:Int)).length=x.ah.length:=eV h (by omega)
 have h2:=kP h (k:=k) (by omega)
 show(List.zipWith _ _ _).getD i _=_
 rw[List.getD_eq_getElem?_getD,List.getD_eq_getElem?_getD,List.getD_eq_getElem?_getD,List.getElem?_zipWith,List.getElem?_eq_getElem (show i<(vW x k).length by omega),List.getElem?_eq_getElem (show i<(bk x (k:Int)).length by omega)]
 rfl
def aN(x:aJ):List aO:=if okW x then vW x x.af.length else []
def dO(x:aJ):List dP:=if okW x then Cg x x.af.length else []
end
section
def fk(l:List ay)(f:Int):List Int:=(l.filter fun r=>decide (f≤r.round)).map ay.round
end
section
def Fm(key c:Int)(cell:List UInt8):List UInt8:=decr (lB key c) (cell.take 20)
def Lv(key c:Int)(cell:List UInt8):Bool:=fA key&&inr c 0 1000000000000&&decide ((cell.length:Int)=24)&&(cell.drop 20==four (jd key c (cell.take 20)))
def X0(key c:Int)(cell:List UInt8):Bool:=inr ((Fm key c cell).getD 0 (au .u8)).toNat 0 3&&decide ((((Fm key c cell).getD 1 (au .u8)).toNat:Int)≤14)
def mu(key c:Int)(cell:List UInt8):Bool:=Lv key c cell&&X0 key c cell
def Lw(key c:Int)(cell:List UInt8):Plain:=if mu key c cell then⟨((Fm key c cell).getD 0 (au .u8)).toNat,((Fm key c cell).take (2+((Fm key c cell).getD 1 (au .u8)).toNat)).drop 2⟩else⟨0,[]⟩
theorem Tb(key c:Int)(cell:List UInt8):(Lw key c cell).body.length≤14:=by
 unfold Lw
 split
 ·rename_i h
  simp only[mu,X0,Bool.and_eq_true,decide_eq_true_eq]at h
  simp only[List.length_drop,List.length_take];omega
 ·exact Nat.zero_le _
def MA(r:Int)(a:ay):Bool:=a.round==r
def gw(l:List ay)(r:Int):Bool:=l.any (MA r)
def dn(l:List ay)(r:Int):DB:=if gw l r then(l.getD (fidx (MA r) l).toNat (au .ay)).db else⟨[]⟩
def Ww(rows:List (List UInt8))(v:List Int)(o:List UInt8)(k:Nat):List UInt8:=if decide ((k:Int)<v.length)&&(v.getD k (au .int)==1)then cJ o (rows.getD k (au (.sl .u8)))else o
def qP(rows:List (List UInt8))(v:List Int)(k:Nat):List UInt8:=(List.range k).foldl (Ww rows v) []
def xB(rows:List (List UInt8))(v:List Int):List UInt8:=qP rows v rows.length
def dM(d:DB)(v:List Int):List UInt8:=if bV d&&bN v d.rows.length then cJ Mo (xB d.rows v)else []
def A0(key sv r:Int)(v:List Int)(b:List UInt8):Int:=kh key ([191,sv,r,(v.length:Int)]++v++AF b)
def ZQ(key sv r:Int)(v:List Int)(b:List UInt8):bQ:=⟨sv,r,v,b,A0 key sv r v b⟩
def iV(d:DB)(v:List Int):Bool:= !((dM d v).length==0)
def noA:bQ:=⟨0,0,[],[],0⟩
def Ai(b:List UInt8):List UInt8:=b.set 0 (b.getD 0 (au .u8)^^^128)
def Fo(s:aO)(key r:Int)(d:DB)(v:List Int):bQ:=if iV d v then(if s.behavior=3 then ZQ key s.id r v (Ai (dM d v))else ZQ key s.id r v (dM d v))else noA
def fL(l:List (List UInt8)):Bool:=cq l.length&&l.all fun a=>decide ((a.length:Int)=24)
def uE(l:List (List UInt8)):List UInt8:=l.foldl cJ []
def Ob(l:List (List UInt8)):List UInt8:=if fL l then uE l else []
def Tc(x:aJ)(r:Int)(d:DB)(q:List (List Int))(i:Nat):bQ:=Fo (x.ah.getD i (au .aO)) (fU x.az (i:Int)) r d (q.getD i (au (.sl .int)))
def mZ(x:aJ)(r:Int)(d:DB)(q:List (List Int))(n:Nat):List bQ:=(List.range n).map (Tc x r d q)
def query'(x:aJ)(r row s:Int):List (List Int):=eM x.rows row (cG x.ah.length r row s)
def sJ(x:aJ)(r row s:Int):List (List UInt8):=(mZ x r (dn x.ak.rounds r) (query' x r row s) (query' x r row s).length).map bQ.data
def xC(x:aJ)(r row s:Int):List UInt8:=if gw x.ak.rounds r then Ob (sJ x r row s)else []
def oF(c:ep)(r:Int):Bool:=dh c&&inr r c.next 99999
def sK(c:ep)(own:List UInt8):Bool:=decide (c.sent<(c.av.length:Int))&&(own==qz c c.sent)
def EH(c:ep):Int:=jN c.key (1-bS c)
def jW(c:ep)(other:List UInt8):Bool:=(mu (EH c) (c.inbox.length:Int) other&&((Lw (EH c) (c.inbox.length:Int) other).kind==1))&&decide ((c.inbox.length:Int)<16)
def eN(c:ep)(r:Int)(own other:List UInt8):ep:=if oF c r then⟨c.id,c.eu,c.key,c.seed,c.av,if sK c own then c.sent+1 else c.sent,if jW c other then c.inbox++ [(Lw (EH c) (c.inbox.length:Int) other).body]else c.inbox,r+1⟩else c
def wM(d:aL):Bool:=cL d&&decide (4≤IntKind.i64.wrap (d.live.next-d.saved.next))
def qQ(d:aL)(r:Int):Bool:=oF d.live r&&cL d
def mw(d:aL)(r:Int)(own other:List UInt8):aL:=⟨eN d.live r own other,d.saved⟩
def rdev(d:aL)(r:Int)(own other:List UInt8):aL:=if qQ d r then(if wM (mw d r own other)then⟨eN d.live r own other,eN d.live r own other⟩else mw d r own other)else d
def sL(a b:ep):Prop:=a.id=b.id∧a.eu=b.eu∧a.key=b.key∧a.seed=b.seed
theorem xD(c:ep)(r:Int)(own other:List UInt8):sL (eN c r own other) c:=by
 unfold eN
 split
 ·exact⟨rfl,rfl,rfl,rfl⟩
 ·exact⟨rfl,rfl,rfl,rfl⟩
theorem P5(d:aL)(r:Int)(own other:List UInt8):sL (rdev d r own other).live d.live:=by
 unfold rdev
 split
 ·split
  ·exact xD _ _ _ _
  ·exact xD _ _ _ _
 ·exact⟨rfl,rfl,rfl,rfl⟩
def zo(x:aJ)(d0 d:aL)(r:Int):aL:=rdev d r (xC x r (dN d0.live.key r (bS d0.live) x.rows) d0.live.seed) (xC x r (dN d0.live.key r (1-bS d0.live) x.rows) d0.live.seed)
def Kj(x:aJ)(d0:aL)(l:List Int):aL:=l.foldl (zo x d0) d0
theorem A1(x:aJ)(d0:aL): ∀(l:List Int) (d:aL),sL d.live d0.live→sL (l.foldl (zo x d0) d).live d0.live
 | [],_,h=>h
 |r::l,d,h=>by
  refine A1 x d0 l _ ?_
  have:=P5 d r (xC x r (dN d0.live.key r (bS d0.live) x.rows) d0.live.seed) (xC x r (dN d0.live.key r (1-bS d0.live) x.rows) d0.live.seed)
  exact⟨this.1.trans h.1,this.2.1.trans h.2.1,this.2.2.1.trans h.2.2.1,this.2.2.2.trans h.2.2.2⟩
def gP(x:aJ)(d:aL):List Int:=fk x.ak.rounds d.live.next
def mz(x:aJ)(d:aL):aL:=Kj x d (gP x d)
def wN(x:aJ):aJ:=if okW x then⟨x.rows,x.ah,x.af.map (mz x),x.ak,x.az,x.seed,x.round,x.replaced,x.cancelled⟩else x
end
section

end
section
def gN(rows:Int)(l:List aA):DB:=l.foldl (fun d r=>dD d r.share) (cw rows)
theorem Ko(rows:Int):bV (cw rows)=true:=by
 rw[iF]
 refine⟨qD rows,fun r hr=> ?_⟩
 unfold cw at hr
 dsimp only at hr
 split at hr
 ·rw[(List.mem_replicate.1 hr).2];exact oX
 ·cases hr
theorem ox(a b:DB):(dD a b).rows.length=a.rows.length:=by
 cases h:gq a b with
 |true=>rw[qG h];exact jO h
 |false=>rw[qH h]
theorem nI{a b:DB}(ha:bV a=true):bV (dD a b)=true:=by
 cases h:gq a b with
 |true=>exact J1 ha (ux h).2.1
 |false=>rw[qH h];exact ha
theorem Om(rows:Int): ∀(l:List aA) (d:DB),bV d=true→bV (l.foldl (fun d r=>dD d r.share) d)=true∧(l.foldl (fun d r=>dD d r.share) d).rows.length=d.rows.length
 | [],d,h=>⟨h,rfl⟩
 |r::l,d,h=>by
  have ih:=Om rows l (dD d r.share) (nI h)
  rw[ox]at ih
  exact ih
theorem A5(rows:Int)(l:List aA):bV (gN rows l)=true∧(gN rows l).rows.length=(cw rows).rows.length:=Om rows l _ (Ko rows)
def FE(s:aO):DB:=if cj s then gN s.rows s.received else⟨[]⟩
def alt(d:DB):DB:=⟨d.rows.set 0 ((d.rows.getD 0 (au (.sl .u8))).set 0 ((d.rows.getD 0 (au (.sl .u8))).getD 0 (au .u8)^^^1))⟩
def rcvd(s:aO):List aA:=if s.behavior=1 then s.received.drop 1 else s.received
def so(s:aO):DB:=if cj s then(if s.behavior=2 then alt (gN s.rows (rcvd s))else gN s.rows (rcvd s))else⟨[]⟩
theorem Tu{d:DB}(h:bV d=true):bV (alt d)=true:=by
 rw[iF]at h ⊢
 refine⟨by unfold alt;dsimp only;rw[List.length_set];exact h.1,fun r hr=> ?_⟩
 unfold alt at hr
 dsimp only at hr
 rcases List.mem_or_eq_of_mem_set hr with h1|h1
 ·exact h.2 r h1
 ·subst h1
  rw[List.length_set]
  cases hd:d.rows with
  |nil=>rw[hd]at hr;cases hr
  |cons b l=>exact h.2 b (by rw[hd];exact List.mem_cons_self ..)
def Kp(key:Int)(r:dP):Bool:=r.Cv==Mw key r.server r.client r.round r.j7
def zx(key:Int)(s:aO)(r:dP):Bool:=(r.server !=s.id||r.round !=s.round)|| !Kp key r
def Qc(r:dP)(d:DB):Bool:=r.j7==sX r.client r.round d
def jx(key:Int)(s:aO)(r:dP):Int:=if zx key s r then 0 else if jv s.received r.client then(if Qc r (pV s.received r.client)then 0 else 2)else 1
def FF(key:Int)(s:aO)(p:DB):List dP→Int
 | []=>if cj s&&(p.rows==(FE s).rows)then 0 else 3
 |r::l=>if jx key s r=0 then FF key s p l else jx key s r
def Kq(m:Int)(sv:List aO)(pb:List DB)(rc:List dP)(i:Nat):Bool:=decide ((pb.length:Int)≤(i:Int))|| !(FF (fU m (sv.getD i (au .aO)).id) (sv.getD i (au .aO)) (pb.getD i (au .DB)) rc==0)
def ZZ(m:Int)(sv:List aO)(pb:List DB)(rc:List dP)(i:Nat):List Int:=if Kq m sv pb rc i then [(sv.getD i (au .aO)).id]else []
def gT(m:Int)(sv:List aO)(pb:List DB)(rc:List dP)(n:Nat):List Int:=(List.range n).flatMap (ZZ m sv pb rc)
theorem Kr{m:Int}{sv:List aO}{pb:List DB}{rc:List dP}{n:Nat}(h:Kq m sv pb rc n=true):gT m sv pb rc (n+1)=gT m sv pb rc n++ [(sv.getD n (au .aO)).id]:=by
 unfold gT
 rw[List.range_succ,List.flatMap_append];simp[ZZ,h]
theorem GA{m:Int}{sv:List aO}{pb:List DB}{rc:List dP}{n:Nat}(h:Kq m sv pb rc n=false):gT m sv pb rc (n+1)=gT m sv pb rc n:=by
 unfold gT
 rw[List.range_succ,List.flatMap_append];simp[ZZ,h]
theorem uM(m:Int)(sv:List aO)(pb:List DB)(rc:List dP): ∀n,(gT m sv pb rc n).length≤n
 |0=>Nat.le_refl _
 |n+1=>by
  have ih:=uM m sv pb rc n
  cases h:Kq m sv pb rc n with
  |true=>rw[Kr h,List.length_append];simp;omega
  |false=>rw[GA h];omega
def bH(sv:List aO):List DB:=sv.map so
theorem mA{x:aJ}(h:okW x=true):(aN x).length=x.ah.length:=by
 rw[aN,if_pos h];exact kP h (Nat.le_refl _)
end
section
def Kv:DB→List DB→Option DB
 |a,[]=>some a
 |a,s::r=>if gq a s then Kv (dD a s) r else none
def MF(l:List DB):Option DB:=if cq l.length then Kv (l.getD 0 (au .DB)) (l.drop 1)else none
def zy(l:List DB):Bool:=(MF l).isSome
def jw(l:List DB):DB:=(MF l).getD ⟨[]⟩
def BN(l:List DB):Prop:= ∀d,d∈l→bV d=true
theorem qU{l:List DB}(h:BN l)(k:Nat):bV (l.getD k (au .DB))=true:=by
 rw[List.getD_eq_getElem?_getD]
 cases hq:l[k]? with
 |none=>exact by decide
 |some d=>exact h d (List.mem_of_getElem? hq)
theorem MG{l:List DB}(h:MF l=none):jw l=⟨[]⟩∧zy l=false:=by unfold jw zy;rw[h];exact⟨rfl,rfl⟩
theorem Ij{l:List DB}{d:DB}(h:MF l=some d):jw l=d∧zy l=true:=by unfold jw zy;rw[h];exact⟨rfl,rfl⟩
theorem WG(s:aO):bV (so s)=true:=by
 unfold so
 split
 ·split
  ·exact Tu (A5 _ _).1
  ·exact(A5 _ _).1
 ·exact by decide
theorem kR(sv:List aO):BN (bH sv):=by
 intro d hd
 obtain⟨s,_,rfl⟩:=List.mem_map.1 hd
 exact WG s
theorem BO(l:List DB)(h:BN l):bV (jw l)=true:=by
 cases hq:MF l with
 |none=>rw[(MG hq).1];decide
 |some d=>
  rw[(Ij hq).1]
  have key: ∀(r:List DB) (a:DB),bV a=true→Kv a r=some d→bV d=true:=by
   intro r
   induction r with
   |nil=>intro a ha hj;simp only[Kv,Option.some.injEq]at hj;exact hj▸ha
   |cons s r ih=>
    intro a ha hj
    simp only[Kv]at hj
    split at hj
    ·exact ih _ (nI ha) hj
    ·cases hj
  unfold MF at hq
  split at hq
  ·exact key _ _ (qU h 0) hq
  ·cases hq
def qV(a:gW)(r:Int)(d:DB):Bool:=(((e9 a&&inr r 0 100000)&& !decide (r≤bR a))&&bV d)&&decide ((d.rows.length:Int)=a.rows)
def uN(a:gW)(r:Int)(d:DB):List ay:=a.rounds++ [⟨r,d⟩]
def EM(a:gW)(r:Int)(d:DB):List ay:=if qV a r d then(if(8:Int)<(uN a r d).length then(uN a r d).drop 1 else uN a r d)else a.rounds
def A7(s:aO):Bool:=cj s&& !(s.round==100000)
def iI(s:aO):aO:=if A7 s then⟨s.id,s.rows,IntKind.i64.wrap (s.round+1),[],s.behavior⟩else s
def s8(l:List aO)(id:Int):Bool:=inr id 0 (IntKind.i64.wrap ((l.length:Int)-1))
def s9(rows rd:Int)(p:List aO×List Int)(id:Int):List aO×List Int:=if s8 p.1 id then(p.1.set id.toNat ⟨id,rows,rd,[],0⟩,p.2++ [id])else p
def Fq(rows rd:Int)(p:List aO×List Int)(g:List Int):List aO×List Int:=g.foldl (s9 rows rd) p
theorem Ik(rows rd:Int)(p:List aO×List Int)(id:Int):(s9 rows rd p id).1.length=p.1.length∧(s9 rows rd p id).2.length≤p.2.length+1:=by
 unfold s9
 split
 ·simp
 ·exact⟨rfl,Nat.le_succ _⟩
def oy(x:aJ):Bool:=okW x&& !decide (x.round≥99999)
def sq(x:aJ)(g:List Int):List aO×List Int:=Fq x.rows x.round (x.ah,x.replaced) g
def aQ(x:aJ)(g:List Int)(d:DB):aJ:=if oy x then⟨x.rows,(sq x g).1.map iI,x.af,⟨x.ak.rows,if g.length=0 then EM x.ak x.round d else x.ak.rounds⟩,x.az,x.seed,IntKind.i64.wrap (x.round+1),(sq x g).2,if g.length=0 then x.cancelled else IntKind.i64.wrap (x.cancelled+1)⟩else x
def Qe(key:Int)(a:bQ):Bool:=a.Cv==A0 key a.server a.round a.selection a.data
def X6(key:Int)(d:DB)(a:bQ):Bool:=Qe key a&& !(a.data==dM d a.selection)
def tsK(x:aJ)(i:Nat):Int:=fU x.az (i:Int)
def Z0(x:aJ)(i:Nat):bQ:=Fo (x.ah.getD i (au .aO)) (tsK x i) (bR x.ak) (dn x.ak.rounds (bR x.ak)) (bg (kh x.seed [227,x.round,(i:Int)]) x.rows)
def TB(x:aJ)(i:Nat):Bool:=X6 (tsK x i) (dn x.ak.rounds (bR x.ak)) (Z0 x i)
def Il(x:aJ)(n:Nat):List Int:=(List.range n).flatMap fun i=>if TB x i then [(i:Int)]else []
theorem Oq{x:aJ}{n:Nat}(h:TB x n=true):Il x (n+1)=Il x n++ [(n:Int)]:=by
 unfold Il
 rw[List.range_succ,List.flatMap_append];simp[h]
theorem Kw{x:aJ}{n:Nat}(h:TB x n=false):Il x (n+1)=Il x n:=by
 unfold Il
 rw[List.range_succ,List.flatMap_append];simp[h]
def fW(x:aJ)(n:Nat):List aO×List Int:=Fq x.rows x.round (x.ah,x.replaced) (Il x n)
def uO(x:aJ):Bool:=okW x&&gw x.ak.rounds (bR x.ak)
def testW(x:aJ):aJ:=if uO x then⟨x.rows,(fW x x.ah.length).1,x.af,x.ak,x.az,x.seed,x.round,(fW x x.ah.length).2,x.cancelled⟩else x
def kS(x:aJ):aJ:=if oy x then wN (testW (aQ x (gT x.az (aN x) (bH (aN x)) (dO x) (aN x).length) (jw (bH (aN x)))))else x
end
section
theorem Ip{α:Type}(f:α→Nat)(C n:Nat)(l:List α)(h: ∀y,y∈l→f y≤C)(hl:l.length≤n):bX f l≤(C+1)*n:=by
 have h1:=Ka f C l h
 have h2:(C+1)*l.length≤(C+1)*n:=Nat.mul_le_mul_left _ hl
 unfold bX
 rw[Nat.add_mul,Nat.one_mul]at h2
 omega
theorem MH{d:DB}(h:bV d=true):bX List.length d.rows≤1600:=by
 have h1:=HZ h
 have h2:=zc h
 unfold Cf at h1;unfold bX;omega
def Iq(c:ep):Prop:=c.av.length≤16∧c.inbox.length≤16∧(∀b,b∈c.av→b.length≤14)∧ ∀b,b∈c.inbox→b.length≤14
theorem zz{c:ep}(h:dh c=true):Iq c:=by
 obtain⟨h1,h2,h3,h4,_⟩:=qL h
 exact⟨h1,h2,h3,h4⟩
theorem GF{c:ep}(h:Iq c):bD c≤480:=by
 have h1:=Ip List.length 14 16 c.av h.2.2.1 h.1
 have h2:=Ip List.length 14 16 c.inbox h.2.2.2 h.2.1
 unfold bD;omega
theorem zA{c:ep}(h:Iq c)(r:Int)(own other:List UInt8):Iq (eN c r own other):=by
 unfold eN
 split
 ·refine⟨h.1,?_,h.2.2.1,?_⟩
  ·dsimp only
   split
   ·rename_i hg
    simp only[jW,Bool.and_eq_true,decide_eq_true_eq]at hg
    rw[List.length_append,List.length_singleton];omega
   ·exact h.2.1
  ·dsimp only
   split
   ·intro b hb
    rcases List.mem_append.1 hb with h1|h1
    ·exact h.2.2.2 b h1
    ·rw[List.mem_singleton.1 h1];exact Tb _ _ _
   ·exact h.2.2.2
 ·exact h
def Ir(d:aL):Prop:=Iq d.live∧Iq d.saved
theorem Z3{d:aL}(h:Ir d)(r:Int)(own other:List UInt8):Ir (rdev d r own other):=by
 unfold rdev
 split
 ·split
  ·exact⟨zA h.1 _ _ _,zA h.1 _ _ _⟩
  ·exact⟨zA h.1 _ _ _,h.2⟩
 ·exact h
theorem MI(x:aJ)(d0:aL): ∀(l:List Int) (d:aL),Ir d→Ir (l.foldl (zo x d0) d)
 | [],_,h=>h
 |r::l,_,h=>MI x d0 l _ (Z3 h _ _ _)
theorem qW{d:aL}(h:Ir d):aP d≤960:=by
 have h1:=GF h.1
 have h2:=GF h.2
 unfold aP;omega
theorem ach{x:aJ}{i:Nat}(h:okD x i=true):Ir (x.af.getD i (au .aL)):=by
 simp only[okD,cL,Bool.and_eq_true]at h
 exact⟨zz h.1.1.1.1.1.1.1.1.1,zz h.1.1.1.1.1.1.1.1.2⟩
theorem Ot{x:aJ}(h:okW x=true): ∀d,d∈x.af→Ir d:=by
 intro d hd
 obtain⟨i,hi,rfl⟩:=List.mem_iff_getElem.1 hd
 have h1:=ach (o9 h hi)
 rwa [List.getD_eq_getElem?_getD,List.getElem?_eq_getElem hi]at h1
def wC(x:aJ)(n:Nat):Prop:=bX bp x.ah≤1048576∧bX aP x.af≤1048576∧cB x.ak≤1048576∧x.replaced.length≤n
theorem WK{x:aJ}{n:Nat}(h:wC x n)(hn:n≤4194304):wB x:=⟨h.1,h.2.1,h.2.2.1,Nat.le_trans h.2.2.2 hn⟩
theorem CW{x:aJ}{n m:Nat}(h:wC x n)(hn:n≤m):wC x m:=⟨h.1,h.2.1,h.2.2.1,Nat.le_trans h.2.2.2 hn⟩
theorem aci{x:aJ}{n:Nat}(h:wC x n):wC (wN x) n:=by
 unfold wN
 split
 ·rename_i hk
  refine⟨h.1,?_,h.2.2.1,h.2.2.2⟩
  have h1:bX aP (x.af.map (mz x))≤(960+1)*8:=by
   refine Ip aP 960 8 _ (fun d hd=> ?_) (by rw[List.length_map];exact(oS (kD hk)).2.1)
   obtain⟨e,he,rfl⟩:=List.mem_map.1 hd
   exact qW (MI x e _ _ (Ot hk e he))
  exact Nat.le_trans h1 (by decide)
 ·exact h
theorem aev{s:aO}(h:s.received= []):bp s=0:=by unfold bp;rw[h];rfl
def BP(l:List aO):Prop:=l.length≤4∧ ∀s,s∈l→s.received= []
theorem xE{l:List aO}(h:BP l):bX bp l≤1048576:=
 Nat.le_trans (Ip bp 0 4 l (fun s hs=>by rw[aev (h.2 s hs)];exact Nat.le_refl 0) h.1) (by decide)
theorem acj{rows rd:Int}{p:List aO×List Int}{id:Int}(h:BP p.1):BP (s9 rows rd p id).1:=by
 unfold s9
 split
 ·refine⟨by rw[List.length_set];exact h.1,fun s hs=> ?_⟩
  rcases List.mem_or_eq_of_mem_set hs with h1|h1
  ·exact h.2 s h1
  ·subst h1;rfl
 ·exact h
theorem TG{rows rd:Int}: ∀(g:List Int) {p:List aO×List Int},BP p.1→BP (Fq rows rd p g).1∧(Fq rows rd p g).2.length≤p.2.length+g.length
 | [],_,h=>⟨h,Nat.le_refl _⟩
 |i::g,p,h=>by
  have h1:=TG (rows:=rows) (rd:=rd) g (acj (rows:=rows) (rd:=rd) (id:=i) h)
  have h2:=(Ik rows rd p i).2
  refine⟨h1.1,?_⟩
  have h3:(Fq rows rd p (i::g)).2.length≤(s9 rows rd p i).2.length+g.length:=h1.2
  rw[List.length_cons];omega
theorem TH{x:aJ}(h:okW x=true):BP x.ah:=⟨(cN h).1,AW h⟩
theorem Z4{l:List aO}(h:BP l):BP (l.map iI):=by
 refine⟨by rw[List.length_map];exact h.1,fun s hs=> ?_⟩
 obtain⟨t,ht,rfl⟩:=List.mem_map.1 hs
 unfold iI
 split
 ·rfl
 ·exact h.2 t ht
theorem ack{a:gW}{r:Int}{d:DB}(ha:e9 a=true)(hd:bV d=true):bX aZ (EM a r d)≤1048576:=by
 have h8:a.rounds.length≤8:=by simp only[e9,Em,Bool.and_eq_true,decide_eq_true_eq]at ha;omega
 have hm: ∀y,y∈a.rounds→aZ y≤1600:=by
  intro y hy
  obtain⟨i,hi,rfl⟩:=List.mem_iff_getElem.1 hy
  simp only[e9,Bool.and_eq_true,List.all_eq_true,List.mem_range]at ha
  have h2:=ha.2 i hi
  have e:a.rounds.getD i (au .ay)=a.rounds[i]:=by rw[List.getD_eq_getElem?_getD,List.getElem?_eq_getElem hi];rfl
  simp only[rY,e,Bool.and_eq_true]at h2
  exact MH h2.1.2
 have hL: ∀y,y∈uN a r d→aZ y≤1600:=by
  intro y hy
  rcases List.mem_append.1 hy with h1|h1
  ·exact hm y h1
  ·rw[List.mem_singleton.1 h1];exact MH hd
 have hl:(uN a r d).length≤9:=by unfold uN;rw[List.length_append,List.length_singleton];omega
 have key:bX aZ (EM a r d)≤(1600+1)*9:=by
  unfold EM
  split
  ·split
   ·exact Ip _ _ _ _ (fun y hy=>hL y (List.mem_of_mem_drop hy)) (by rw[List.length_drop];omega)
   ·exact Ip _ _ _ _ hL hl
  ·exact Ip _ _ _ _ hm (by omega)
 exact Nat.le_trans key (by decide)
theorem WL{x:aJ}(h:okW x=true):e9 x.ak=true:=by
 have h:=kD h
 simp only[IN,Bool.and_eq_true]at h
 exact h.1.1.1.1.1.2
theorem Kz{x:aJ}{g:List Int}{d:DB}{n:Nat}(h:wC x n)(hd:bV d=true):wC (aQ x g d) (n+g.length):=by
 unfold aQ
 split
 ·rename_i hk
  simp only[oy,Bool.and_eq_true]at hk
  have h0:=TG (rows:=x.rows) (rd:=x.round) g (p:=(x.ah,x.replaced)) (TH hk.1)
  refine⟨xE (Z4 h0.1),h.2.1,?_,?_⟩
  ·show bX aZ _≤_
   dsimp only
   split
   ·exact ack (WL hk.1) hd
   ·exact h.2.2.1
  ·have h1:=h0.2
   have h2:=h.2.2.2
   show(Fq x.rows x.round (x.ah,x.replaced) g).2.length≤_
   dsimp only at h1
   omega
 ·exact CW h (Nat.le_add_right _ _)
theorem Is(x:aJ): ∀n,(Il x n).length≤n
 |0=>Nat.le_refl _
 |n+1=>by
  have ih:=Is x n
  cases h:TB x n with
  |true=>rw[Oq h,List.length_append];simp;omega
  |false=>rw[Kw h];omega
theorem Ou{x:aJ}{n:Nat}(h:wC x n):wC (testW x) (n+4):=by
 unfold testW
 split
 ·rename_i hk
  simp only[uO,Bool.and_eq_true]at hk
  have h0:=TG (rows:=x.rows) (rd:=x.round) (Il x x.ah.length) (p:=(x.ah,x.replaced)) (TH hk.1)
  have h4:=(cN hk.1).1
  have h5:=Is x x.ah.length
  refine⟨xE h0.1,h.2.1,h.2.2.1,?_⟩
  have h1:=h0.2
  have h2:=h.2.2.2
  show(Fq x.rows x.round (x.ah,x.replaced) (Il x x.ah.length)).2.length≤_
  dsimp only at h1
  omega
 ·exact CW h (Nat.le_add_right _ _)
theorem TI{x:aJ}{n:Nat}(h:wC x n):wC (kS x) (n+8):=by
 unfold kS
 split
 ·rename_i hk
  simp only[oy,Bool.and_eq_true]at hk
  have h1:=uM x.az (aN x) (bH (aN x)) (dO x) (aN x).length
  rw[mA hk.1]at h1
  have h4:=(cN hk.1).1
  have h2:=Ou (Kz (g:=gT x.az (aN x) (bH (aN x)) (dO x) (aN x).length) (d:=jw (bH (aN x))) h (BO _ (kR _)))
  rw[mA hk.1]at h2 ⊢
  exact CW (aci h2) (by omega)
 ·exact CW h (Nat.le_add_right _ _)
end
section
def WM(d:aL):aL:=if cL d then⟨d.saved,d.saved⟩else d
def Lx(d:aL):aL:=if cL d then⟨d.live,d.live⟩else d
def Qf(x:aJ)(i:Nat)(d:aL):aJ:=⟨x.rows,x.ah,x.af.set i d,x.ak,x.az,x.seed,x.round,x.replaced,x.cancelled⟩
def acm(x:aJ)(i:Nat)(s:aO):aJ:=⟨x.rows,x.ah.set i s,x.af,x.ak,x.az,x.seed,x.round,x.replaced,x.cancelled⟩
def iJ(x:aJ)(c:Int):Bool:=okW x&&qy x c
def Ch(x:aJ)(c:Int):aL:=x.af.getD c.toNat (au .aL)
def TJ(x:aJ)(c:Int):aJ:=if iJ x c then Qf x c.toNat (WM (Ch x c))else x
def WN(x:aJ)(c:Int):aJ:=if iJ x c then Qf x c.toNat (Lx (Ch x c))else x
def beh(s:aO)(b:Int):aO:=⟨s.id,s.rows,s.round,s.received,b⟩
def EU(x:aJ)(i b:Int):Bool:=(okW x&&inr i 0 (IntKind.i64.wrap ((x.ah.length:Int)-1)))&&inr b 0 3
def TL(x:aJ)(i b:Int):aJ:=if EU x i b then acm x i.toNat (beh (x.ah.getD i.toNat (au .aO)) b)else x
theorem CX{x:aJ}{c:Int}(h:iJ x c=true):okW x=true∧0≤c∧c<x.af.length:=by
 simp only[iJ,qy,Bool.and_eq_true,an]at h
 exact⟨h.1,by omega⟩
theorem TM{x:aJ}{i b:Int}(h:EU x i b=true):okW x=true∧(0≤i∧i<x.ah.length)∧0≤b∧b≤3:=by
 simp only[EU,Bool.and_eq_true,an]at h
 have:=cN h.1.1
 rw[bl (a:=(x.ah.length:Int)-1) (by omega)]at h
 exact⟨h.1.1,by omega,h.2⟩
end
section
theorem pG{s rows:Int}(h:1≤rows∧rows≤64):bN (bg s rows) rows=true:=by
 have e:bg s rows=(List.range rows.toNat).map (Zy s):=by rw[bg,if_pos (by omega)]
 simp only[bN,Bool.and_eq_true,decide_eq_true_eq,List.all_eq_true,an]
 refine⟨⟨by rw[e];simp;omega,h.2⟩,fun v hv=> ?_⟩
 rw[e]at hv
 obtain⟨i,_,rfl⟩:=List.mem_map.1 hv
 have:=PL (kh s [(i:Int),41])
 unfold Zy
 omega
end
section
def wR(x:aJ):Prop:=wB x∧x.replaced.length≤4194000
theorem acu{x:aJ}{n:Nat}(h:wC x n)(hn:n≤4194000):wR x:=⟨WK h (by omega),Nat.le_trans h.2.2.2 hn⟩
end
section
def mx(a b:Int):Int:=if b>a then b else a
end
section
theorem Bg{α:Type}{l m:List α}{k:Nat}(d:α)(h:k<l.length):(l++m).getD k d=l.getD k d:=by
 rw[List.getD_eq_getElem?_getD,List.getD_eq_getElem?_getD,List.getElem?_append_left h]
theorem GH{α:Type}{l:List α}{y:α}(d:α):(l++ [y]).getD l.length d=y:=by
 rw[List.getD_eq_getElem?_getD,List.getElem?_append_right (Nat.le_refl _)];simp
theorem xL{α:Type}(l:List α)(k:Nat)(d:α):(l.drop 1).getD k d=l.getD (k+1) d:=by
 rw[List.getD_eq_getElem?_getD,List.getD_eq_getElem?_getD,List.getElem?_drop,Nat.add_comm]
theorem lR{α:Type}{l:List α}{i k:Nat}(d y:α)(h:k<l.length):(l.set i y).getD k d=if i=k then y else l.getD k d:=by
 rw[List.getD_eq_getElem?_getD,List.getD_eq_getElem?_getD,List.getElem?_set]
 split
 ·rename_i e;subst e;simp[h]
 ·rfl
theorem getD_map{α β:Type}(f:α→β){l:List α}{k:Nat}(d:β)(e:α)(h:k<l.length):(l.map f).getD k d=f (l.getD k e):=by
 rw[List.getD_eq_getElem?_getD,List.getD_eq_getElem?_getD,List.getElem?_map,List.getElem?_eq_getElem h];rfl
def WY(rows rd:Int)(i:Nat)(s:aO):Prop:=s.id=(i:Int)∧s.rows=rows∧s.round=rd∧s.received= []∧0≤s.behavior∧s.behavior≤3
def svs(rows rd:Int)(l:List aO):Prop:= ∀i,i<l.length→WY rows rd i (l.getD i (au .aO))
theorem ML{rows rd:Int}{i:Nat}{s:aO}(h:WY rows rd i s)(hr:1≤rows∧rows≤64)(hd:0≤rd∧rd≤100000)(hi:i≤3):cj s=true:=by
 obtain⟨h1,h2,h3,h4,h5⟩:=h
 simp only[cj,wI,Bool.and_eq_true,an,decide_eq_true_eq,h4,List.length_nil]
 refine⟨⟨⟨⟨⟨by omega,by omega⟩,by omega⟩,by omega⟩,by omega⟩,by simp⟩
theorem Iu{x:aJ}{i:Nat}(hr:1≤x.rows∧x.rows≤64)(hd:0≤x.round∧x.round≤100000)(hi:i≤3):Gj x i=true↔WY x.rows x.round i (x.ah.getD i (au .aO)):=by
 constructor
 ·intro h
  simp only[Gj,Bool.and_eq_true,beq_iff_eq,decide_eq_true_eq]at h
  obtain⟨⟨⟨⟨h1,h2⟩,h3⟩,h4⟩,h5⟩:=h
  simp only[cj,wI,Bool.and_eq_true,an]at h1
  exact⟨h2,h3,h4,List.length_eq_zero_iff.1 (by omega),h1.1.1.1.2⟩
 ·intro h
  have h1:=ML h hr hd hi
  obtain⟨h2,h3,h4,h5,_⟩:=h
  simp only[Gj,Bool.and_eq_true,beq_iff_eq,decide_eq_true_eq]
  exact⟨⟨⟨⟨h1,h2⟩,h3⟩,h4⟩,by rw[h5];decide⟩
def inc(rows:Int)(l:List ay):Prop:= ∀i,i<l.length→rY rows l i=true
theorem lS{a:gW}:e9 a=true↔((1≤a.rows∧a.rows≤64)∧a.rounds.length≤8)∧inc a.rows a.rounds:=by
 simp only[e9,Em,Bool.and_eq_true,an,decide_eq_true_eq,List.all_eq_true,List.mem_range]
 constructor
 ·rintro⟨⟨h1,h2⟩,h3⟩;exact⟨⟨h1,by omega⟩,h3⟩
 ·rintro⟨⟨h1,h2⟩,h3⟩;exact⟨⟨h1,by omega⟩,h3⟩
theorem mF{rows:Int}{l:List ay}{i:Nat}:rY rows l i=true↔(0≤(l.getD i (au .ay)).round∧(l.getD i (au .ay)).round≤100000)∧(0<i→(l.getD (i-1) (au .ay)).round<(l.getD i (au .ay)).round)∧bV (l.getD i (au .ay)).db=true∧((l.getD i (au .ay)).db.rows.length:Int)=rows:=by
 simp only[rY,Bool.and_eq_true,an,beq_iff_eq,Bool.not_eq_true',Bool.and_eq_false_iff,decide_eq_false_iff_not]
 constructor
 ·rintro⟨⟨⟨h1,h2⟩,h3⟩,h4⟩
  refine⟨h1,fun hi=> ?_,h3,h4⟩
  rcases h2 with h2|h2
  ·omega
  ·omega
 ·rintro⟨h1,h2,h3,h4⟩
  refine⟨⟨⟨h1,?_⟩,h3⟩,h4⟩
  by_cases hi:0<i
  ·right;have:=h2 hi;omega
  ·left;omega
theorem T2{rows:Int}{l:List ay}(h:inc rows l):inc rows (l.drop 1):=by
 intro i hi
 have hi:i+1<l.length:=by rw[List.length_drop]at hi;omega
 have h1:=mF.1 (h (i+1) hi)
 rw[mF,xL]
 refine⟨h1.1,fun hp=> ?_,h1.2.2⟩
 rw[xL,show i-1+1=i by omega]
 exact h1.2.1 (by omega)
theorem T3{rows:Int}{l:List ay}{r:Int}{d:DB}(h:inc rows l)(h0:0≤r∧r≤100000)(hl:0<l.length→(l.getD (l.length-1) (au .ay)).round<r)(hd:bV d=true)(hr:(d.rows.length:Int)=rows):inc rows (l++ [⟨r,d⟩]):=by
 intro i hi
 rw[List.length_append,List.length_singleton]at hi
 by_cases hil:i<l.length
 ·have h1:=mF.1 (h i hil)
  rw[mF,Bg _ hil]
  refine⟨h1.1,fun hp=> ?_,h1.2.2⟩
  rw[Bg _ (by omega)]
  exact h1.2.1 hp
 ·obtain rfl:i=l.length:=by omega
  rw[mF,GH]
  refine⟨h0,fun hp=> ?_,hd,hr⟩
  rw[Bg _ (by omega)]
  exact hl hp
theorem MM{rows:Int}{l:List ay}(h:inc rows l): ∀(j i:Nat),i<j→j<l.length→(l.getD i (au .ay)).round<(l.getD j (au .ay)).round
 |0,i,h1,_=>by omega
 |j+1,i,h1,h2=>by
  have h3:=(mF.1 (h (j+1) h2)).2.1 (by omega)
  rw[show j+1-1=j by omega]at h3
  by_cases e:i=j
  ·subst e;exact h3
  ·have:=MM h j i (by omega) (by omega);omega
theorem nJ{a:gW}(h:0<a.rounds.length):bR a=(a.rounds.getD (a.rounds.length-1) (au .ay)).round:=by rw[bR,if_neg (by omega)]
theorem T4{a:gW}(h:e9 a=true): ∀y,y∈a.rounds→0≤y.round∧y.round≤bR a:=by
 intro y hy
 have h2:=(lS.1 h).2
 obtain⟨i,hi,rfl⟩:=List.mem_iff_getElem.1 hy
 have e:a.rounds[i]=a.rounds.getD i (au .ay):=by rw[List.getD_eq_getElem?_getD,List.getElem?_eq_getElem hi];rfl
 rw[nJ (by omega),e]
 refine⟨(mF.1 (h2 i hi)).1.1,?_⟩
 by_cases hl:i=a.rounds.length-1
 ·rw[hl];exact Int.le_refl _
 ·exact Int.le_of_lt (MM h2 _ _ (by omega) (by omega))
theorem WZ{a:gW}{r:Int}{d:DB}(h:e9 a=true)(h0:0≤r∧r≤100000)(hl:bR a<r)(hd:bV d=true)(hr:(d.rows.length:Int)=a.rows):qV a r d=true:=by
 simp only[qV,Bool.and_eq_true,h,hd,an,h0,hr,Bool.not_eq_true',decide_eq_false_iff_not,decide_true]
 exact⟨⟨⟨⟨trivial,⟨trivial,trivial⟩⟩,by omega⟩,trivial⟩,trivial⟩
theorem W0{a:gW}{r:Int}{d:DB}(h:qV a r d=true):EM a r d=if(8:Int)<(uN a r d).length then(uN a r d).drop 1 else uN a r d:=by rw[EM,if_pos h]
theorem T5{a:gW}{r:Int}{d:DB}:(uN a r d).length=a.rounds.length+1∧ ∀e,(uN a r d).getD a.rounds.length e=⟨r,d⟩:=by
 unfold uN
 exact⟨by rw[List.length_append];rfl,fun e=>GH e⟩
theorem MN{a:gW}{r:Int}{d:DB}(h:e9 a=true)(h0:0≤r∧r≤100000)(hl:bR a<r)(hd:bV d=true)(hr:(d.rows.length:Int)=a.rows):
  e9 ⟨a.rows,EM a r d⟩=true∧bR ⟨a.rows,EM a r d⟩=r∧0<(EM a r d).length∧(EM a r d).getD ((EM a r d).length-1) (au .ay)=⟨r,d⟩:=by
 have ha:=lS.1 h
 have hi:inc a.rows (uN a r d):=T3 ha.2 h0 (fun hp=>by rw[nJ hp]at hl;exact hl) hd hr
 obtain⟨hL,hG⟩:=T5 (a:=a) (r:=r) (d:=d)
 rw[W0 (WZ h h0 hl hd hr)]
 split
 ·rename_i h8
  have hlen:((uN a r d).drop 1).length=a.rounds.length:=by rw[List.length_drop];omega
  have hg:((uN a r d).drop 1).getD (((uN a r d).drop 1).length-1) (au .ay)=⟨r,d⟩:=by
   rw[hlen,xL,show a.rounds.length-1+1=a.rounds.length by omega];exact hG _
  refine⟨lS.2 ⟨⟨ha.1.1,by show((uN a r d).drop 1).length≤8;omega⟩,T2 hi⟩,?_,by omega,hg⟩
  rw[nJ (by show 0<((uN a r d).drop 1).length;omega)]
  exact congrArg ay.round hg
 ·rename_i h8
  have hg:(uN a r d).getD ((uN a r d).length-1) (au .ay)=⟨r,d⟩:=by
   rw[hL,show a.rounds.length+1-1=a.rounds.length by omega];exact hG _
  refine⟨lS.2 ⟨⟨ha.1.1,by show(uN a r d).length≤8;omega⟩,hi⟩,?_,by omega,hg⟩
  rw[nJ (by show 0<(uN a r d).length;omega)]
  exact congrArg ay.round hg
structure yd(x:aJ):Prop where
 rows:1≤x.rows∧x.rows≤64
 KL:2≤x.ah.length∧x.ah.length≤4
 Qh:2≤x.af.length∧x.af.length≤8
 even:x.af.length % 2=0
 QF:e9 x.ak=true
 BQ:x.ak.rows=x.rows
 last:bR x.ak<x.round
 key:fA x.az=true
 round:0≤x.round∧x.round≤100000
 oA:0≤x.cancelled
 sv:svs x.rows x.round x.ah
 dv: ∀i,i<x.af.length→okD x i=true
theorem yd.of{x:aJ}(h:okW x=true):yd x:=by
 have hh:=kD h
 have he:=oS hh
 have hs:=cN h
 have hh2:=hh
 simp only[IN,Bool.and_eq_true,an,beq_iff_eq,decide_eq_true_eq]at hh
 obtain⟨⟨⟨⟨⟨⟨⟨⟨⟨h1,h2⟩,h3⟩,h4⟩,h5⟩,h6⟩,h7⟩,h8⟩,h9⟩,h10⟩:=hh
 exact⟨h1,⟨hs.2,hs.1⟩,⟨he.2.2,he.2.1⟩,he.1,h5,h6,h7,h8,h9,h10,fun i hi=>(Iu h1 h9 (by omega)).1 (HX h hi),fun i hi=>o9 h hi⟩
theorem yd.ok{x:aJ}(h:yd x):okW x=true:=by
 obtain⟨h1,h2,h3,h4,h5,h6,h7,h8,h9,h10,h11,h12⟩:=h
 have ht:(x.af.length:Int).tmod 2=0:=by rw[dj (by omega)];omega
 simp only[okW,IN,cq,Bool.and_eq_true,an,beq_iff_eq,decide_eq_true_eq,List.all_eq_true,List.mem_range]
 exact⟨⟨⟨⟨⟨⟨⟨⟨⟨⟨⟨h1,by omega⟩,by omega⟩,ht⟩,h5⟩,h6⟩,h7⟩,h8⟩,h9⟩,h10⟩,fun i hi=>(Iu h1 h9 (by omega)).2 (h11 i hi)⟩,h12⟩
theorem W1{rows rd:Int}{p:List aO×List Int}{id:Int}(hl:p.1.length≤4)(h:svs rows rd p.1):svs rows rd (s9 rows rd p id).1:=by
 unfold s9
 split
 ·rename_i hk
  simp only[s8,an]at hk
  rw[bl (by omega)]at hk
  intro i hi
  rw[List.length_set]at hi
  show WY rows rd i ((p.1.set id.toNat ⟨id,rows,rd,[],0⟩).getD i (au .aO))
  rw[lR _ _ hi]
  split
  ·rename_i e
   exact⟨by show id=(i:Int);omega,rfl,rfl,rfl,Int.le_refl _,by show(0:Int)≤3;decide⟩
  ·exact h i hi
 ·exact h
theorem Iv{rows rd:Int}: ∀(g:List Int) {p:List aO×List Int},p.1.length≤4→svs rows rd p.1→svs rows rd (Fq rows rd p g).1∧(Fq rows rd p g).1.length=p.1.length
 | [],_,_,h=>⟨h,rfl⟩
 |i::g,p,hl,h=>by
  have j0:=(Ik rows rd p i).1
  have:=Iv g (p:=s9 rows rd p i) (by omega) (W1 (id:=i) hl h)
  exact⟨this.1,this.2.trans j0⟩
theorem W2{rows rd:Int}{i:Nat}{s:aO}(h:WY rows rd i s)(hr:1≤rows∧rows≤64)(hd:0≤rd∧rd<100000)(hi:i≤3):WY rows (rd+1) i (iI s):=by
 have hk:=ML h hr (by omega) hi
 obtain⟨h1,h2,h3,h4,h5⟩:=h
 have hb:A7 s=true:=by
  simp only[A7,hk,Bool.true_and,Bool.not_eq_true',beq_eq_false_iff_ne];omega
 rw[iI,if_pos hb]
 refine⟨h1,h2,?_,rfl,h5⟩
 show IntKind.i64.wrap (s.round+1)=rd+1
 rw[bl (by omega),h3]
theorem GI{x y:aJ}{i:Nat}(hd:y.af=x.af)(hr:x.round≤y.round)(h:okD x i=true):okD y i=true:=by
 simp only[okD,Bool.and_eq_true,decide_eq_true_eq]at h ⊢
 rw[hd]
 exact⟨h.1,by omega⟩
theorem su{x:aJ}(h:okW x=true)(hr:x.round<99999):oy x=true:=by
 simp only[oy,h,Bool.true_and,Bool.not_eq_true',decide_eq_false_iff_not];omega
theorem Bh{x:aJ}{g:List Int}{d:DB}(h:okW x=true)(hr:x.round<99999)(hc:x.cancelled<9223372036854775807)(hd:g= []→bV d=true∧(d.rows.length:Int)=x.rows):okW (aQ x g d)=true:=by
 have w:=yd.of h
 have hp:=Iv (rows:=x.rows) (rd:=x.round) g (p:=(x.ah,x.replaced)) w.KL.2 w.sv
 have w1:=w.rows;have w2:=w.KL;have w3:=w.round;have w4:=w.oA
 have hrd:IntKind.i64.wrap (x.round+1)=x.round+1:=bl (by omega)
 rw[aQ,if_pos (su h hr)]
 have oK:svs x.rows (x.round+1) ((sq x g).1.map iI):=by
  intro i hi
  rw[List.length_map]at hi
  have hi4:i≤3:=by have:=hp.2;unfold sq at hi;dsimp only at this;omega
  rw[getD_map iI _ (au .aO) hi]
  exact W2 (hp.1 i hi) w1 (by omega) hi4
 have hlen:((sq x g).1.map iI).length=x.ah.length:=by rw[List.length_map];exact hp.2
 have acv:e9 ⟨x.ak.rows,if g.length=0 then EM x.ak x.round d else x.ak.rounds⟩=true∧bR ⟨x.ak.rows,if g.length=0 then EM x.ak x.round d else x.ak.rounds⟩<x.round+1:=by
  by_cases hg:g.length=0
  ·obtain⟨q1,q2⟩:=hd (List.length_eq_zero_iff.1 hg)
   rw[if_pos hg]
   have:=MN w.QF (by omega:0≤x.round∧x.round≤100000) w.last q1 (by rw[w.BQ];exact q2)
   exact⟨this.1,by rw[this.2.1];omega⟩
  ·rw[if_neg hg]
   have:=w.last
   exact⟨w.QF,by show bR x.ak<_;omega⟩
 refine yd.ok ⟨w1,by dsimp only;rw[hlen];exact w2,w.Qh,w.even,acv.1,w.BQ,?_,w.key,?_,?_,?_,fun i hi=> ?_⟩
 ·dsimp only;rw[hrd];exact acv.2
 ·dsimp only;rw[hrd];omega
 ·dsimp only
  split
  ·exact w4
  ·rw[bl (by omega)];omega
 ·dsimp only;rw[hrd];exact oK
 ·exact GI (x:=x) rfl (by dsimp only;rw[hrd];omega) (w.dv i hi)
theorem uV{x:aJ}(h:okW x=true):okW (testW x)=true:=by
 unfold testW
 split
 ·have w:=yd.of h
  have hp:=Iv (rows:=x.rows) (rd:=x.round) (Il x x.ah.length) (p:=(x.ah,x.replaced)) w.KL.2 w.sv
  have w2:=w.KL
  refine yd.ok ⟨w.rows,?_,w.Qh,w.even,w.QF,w.BQ,w.last,w.key,w.round,w.oA,hp.1,fun i hi=>GI (x:=x) rfl (Int.le_refl _) (w.dv i hi)⟩
  have hp2:(Fq x.rows x.round (x.ah,x.replaced) (Il x x.ah.length)).1.length=x.ah.length:=hp.2
  show 2≤(Fq x.rows x.round (x.ah,x.replaced) (Il x x.ah.length)).1.length∧(Fq x.rows x.round (x.ah,x.replaced) (Il x x.ah.length)).1.length≤4
  rw[hp2];exact w2
 ·exact h
theorem EZ{a b:List (List UInt8)}:AK a b=true↔a.length≤b.length∧a=b.take a.length:=by
 simp only[AK,Bool.and_eq_true,decide_eq_true_eq,beq_iff_eq]
 constructor
 ·rintro⟨h1,h2⟩;exact⟨by omega,h2⟩
 ·rintro⟨h1,h2⟩;exact⟨by omega,h2⟩
theorem Bi(a:List (List UInt8)):AK a a=true:=EZ.2 ⟨Nat.le_refl _,(List.take_length).symm⟩
theorem T6{a b c:List (List UInt8)}(h:AK a b=true):AK a (b++c)=true:=by
 obtain⟨h1,h2⟩:=EZ.1 h
 refine EZ.2 ⟨by rw[List.length_append];omega,?_⟩
 rw[List.take_append_of_le_length h1];exact h2
theorem vN{c:ep}:dh c=true↔(((0≤c.id∧c.id≤7)∧(0≤c.eu∧c.eu≤7))∧c.id≠c.eu∧fA c.key=true)∧Iq c∧(0≤c.sent∧c.sent≤c.av.length)∧0≤c.next∧c.next≤100000:=by
 simp only[dh,Iq,Bool.and_eq_true,Bool.not_eq_true',List.any_eq_false,an,decide_eq_true_eq,beq_eq_false_iff_ne]
 have hl: ∀b:List UInt8, ¬w9 b=true↔b.length≤14:=by
  intro b;simp only[w9,decide_eq_true_eq];omega
 constructor
 ·rintro⟨⟨⟨⟨⟨⟨⟨⟨⟨h1,h2⟩,h3⟩,h4⟩,h5⟩,h6⟩,h7⟩,h8⟩,h9⟩,h10⟩
  exact⟨⟨⟨h1,h2⟩,h3,h4⟩,⟨by omega,by omega,fun b hb=>(hl b).1 (h7 b hb),fun b hb=>(hl b).1 (h8 b hb)⟩,h9,h10⟩
 ·rintro⟨⟨⟨h1,h2⟩,h3,h4⟩,⟨h5,h6,h7,h8⟩,h9,h10⟩
  exact⟨⟨⟨⟨⟨⟨⟨⟨⟨h1,h2⟩,h3⟩,h4⟩,by omega⟩,by omega⟩,fun b hb=>(hl b).2 (h7 b hb)⟩,fun b hb=>(hl b).2 (h8 b hb)⟩,h9⟩,h10⟩
theorem T7{c:ep}{r:Int}{own other:List UInt8}(h:dh c=true):dh (eN c r own other)=true:=by
 by_cases hk:oF c r=true
 ·have hB:=zA (zz h) r own other
  rw[eN,if_pos hk]at hB ⊢
  obtain⟨h1,_,h3,h4⟩:=vN.1 h
  simp only[oF,Bool.and_eq_true,an]at hk
  refine vN.2 ⟨h1,hB,?_,?_⟩
  ·dsimp only
   split
   ·rename_i hh
    simp only[sK,Bool.and_eq_true,decide_eq_true_eq]at hh
    omega
   ·exact h3
  ·dsimp only;omega
 ·rw[eN,if_neg hk];exact h
structure Qi(d:aL):Prop where
 live:dh d.live=true
 saved:dh d.saved=true
 same:iR d.live d.saved=true
 sent:d.saved.sent≤d.live.sent
 next:d.saved.next≤d.live.next
 pre:AK d.saved.inbox d.live.inbox=true
theorem Qi.iff{d:aL}:cL d=true↔Qi d:=by
 simp only[cL,Bool.and_eq_true,decide_eq_true_eq]
 constructor
 ·rintro⟨⟨⟨⟨⟨h1,h2⟩,h3⟩,h4⟩,h5⟩,h6⟩;exact⟨h1,h2,h3,h4,h5,h6⟩
 ·rintro⟨h1,h2,h3,h4,h5,h6⟩;exact⟨⟨⟨⟨⟨h1,h2⟩,h3⟩,h4⟩,h5⟩,h6⟩
theorem gE{a b:ep}:iR a b=true↔sL a b∧a.av=b.av:=by
 simp only[iR,sL,Bool.and_eq_true,beq_iff_eq]
 constructor
 ·rintro⟨⟨⟨⟨h1,h2⟩,h3⟩,h4⟩,h5⟩;exact⟨⟨h1,h2,h3,h4⟩,h5⟩
 ·rintro⟨⟨h1,h2,h3,h4⟩,h5⟩;exact⟨⟨⟨⟨h1,h2⟩,h3⟩,h4⟩,h5⟩
theorem Qj(c:ep)(r:Int)(own other:List UInt8):(eN c r own other).av=c.av∧c.sent≤(eN c r own other).sent∧(eN c r own other).sent≤c.sent+1∧c.next≤(eN c r own other).next∧ ∃m,(eN c r own other).inbox=c.inbox++m:=by
 unfold eN
 split
 ·rename_i hk
  simp only[oF,Bool.and_eq_true,an]at hk
  refine⟨rfl,?_,?_,?_,?_⟩
  ·dsimp only;split<;>omega
  ·dsimp only;split<;>omega
  ·dsimp only;omega
  ·dsimp only
   split
   ·exact⟨_,rfl⟩
   ·exact⟨[],(List.append_nil _).symm⟩
 ·exact⟨rfl,Int.le_refl _,by omega,Int.le_refl _,[],(List.append_nil _).symm⟩
theorem OE{d:aL}{r:Int}{own other:List UInt8}(h:cL d=true):cL (rdev d r own other)=true:=by
 have hd:=Qi.iff.1 h
 unfold rdev
 split
 ·have hc:=T7 (r:=r) (own:=own) (other:=other) hd.live
  split
  ·exact Qi.iff.2 ⟨hc,hc,gE.2 ⟨⟨rfl,rfl,rfl,rfl⟩,rfl⟩,Int.le_refl _,Int.le_refl _,Bi _⟩
  ·obtain⟨q1,q2,_,q3,m,q4⟩:=Qj d.live r own other
   obtain⟨p1,p2⟩:=gE.1 hd.same
   have p3:=xD d.live r own other
   refine Qi.iff.2 ⟨hc,hd.saved,gE.2 ⟨⟨p3.1.trans p1.1,p3.2.1.trans p1.2.1,p3.2.2.1.trans p1.2.2.1,p3.2.2.2.trans p1.2.2.2⟩,q1.trans p2⟩,Int.le_trans hd.sent q2,Int.le_trans hd.next q3,?_⟩
   show AK d.saved.inbox (eN d.live r own other).inbox=true
   rw[q4]
   exact T6 hd.pre
 ·exact h
theorem Qk{d:aL}{r:Int}{own other:List UInt8}{R:Int}(h:d.live.next≤R)(hr:r+1≤R):(rdev d r own other).live.next≤R:=by
 have key:(eN d.live r own other).next≤R:=by
  unfold eN
  split
  ·exact hr
  ·exact h
 unfold rdev
 split
 ·split
  ·exact key
  ·exact key
 ·exact h
theorem OF(x:aJ)(d0:aL){R:Int}: ∀(l:List Int) (d:aL),(∀r,r∈l→r+1≤R)→cL d=true→d.live.next≤R→cL (l.foldl (zo x d0) d)=true∧(l.foldl (zo x d0) d).live.next≤R
 | [],_,_,h1,h2=>⟨h1,h2⟩
 |r::l,d,hl,h1,h2=>OF x d0 l _ (fun q hq=>hl q (List.mem_cons_of_mem _ hq)) (OE h1) (Qk h2 (hl r (List.mem_cons_self ..)))
theorem E0{l:List ay}{f r:Int}(h:r∈fk l f):f≤r∧ ∃y,y∈l∧y.round=r:=by
 unfold fk at h
 obtain⟨y,hy,rfl⟩:=List.mem_map.1 h
 rw[List.mem_filter]at hy
 exact⟨by simpa using hy.2,y,hy.1,rfl⟩
theorem KM{x:aJ}{i:Nat}(h:okW x=true)(hi:i<x.af.length):cL (mz x (x.af.getD i (au .aL)))=true∧(mz x (x.af.getD i (au .aL))).live.next≤x.round∧sL (mz x (x.af.getD i (au .aL))).live (x.af.getD i (au .aL)).live:=by
 have w:=yd.of h
 have hd:=o9 h hi
 simp only[okD,Bool.and_eq_true,decide_eq_true_eq]at hd
 have h1:=OF x (x.af.getD i (au .aL)) (R:=x.round) (gP x (x.af.getD i (au .aL))) _ (fun r hr=>by
  obtain⟨_,y,hy,rfl⟩:=E0 hr
  have:=(T4 w.QF y hy).2
  have:=w.last
  omega) hd.1.1.1.1 hd.2
 exact⟨h1.1,h1.2,A1 x _ _ _ ⟨rfl,rfl,rfl,rfl⟩⟩
theorem T8{x:aJ}(h:okW x=true):okW (wN x)=true:=by
 have w:=yd.of h
 rw[wN,if_pos h]
 have hg: ∀i,i<x.af.length→(x.af.map (mz x)).getD i (au .aL)=mz x (x.af.getD i (au .aL)):=fun i hi=>getD_map _ _ _ hi
 refine yd.ok ⟨w.rows,w.KL,by dsimp only;rw[List.length_map];exact w.Qh,by dsimp only;rw[List.length_map];exact w.even,w.QF,w.BQ,w.last,w.key,w.round,w.oA,w.sv,fun i hi=> ?_⟩
 have hi:i<x.af.length:=by dsimp only at hi;rwa [List.length_map]at hi
 obtain⟨q1,q2,q3⟩:=KM h hi
 have hd:=o9 h hi
 have hx:=xd i x.af.length hi w.even
 obtain⟨_,_,p3⟩:=KM h hx
 simp only[okD,Bool.and_eq_true,decide_eq_true_eq,beq_iff_eq]at hd ⊢
 rw[hg i hi,hg _ hx]
 exact⟨⟨⟨⟨q1,q3.1.trans hd.1.1.1.2⟩,q3.2.1.trans hd.1.1.2⟩,by rw[q3.2.2.1,p3.2.2.1];exact hd.1.2⟩,q2⟩
end
section
theorem xM{rows:Int}(h:0≤rows∧rows≤64):((cw rows).rows.length:Int)=rows:=by
 rw[iT h,List.length_replicate];omega
theorem zQ{rows i:Int}{c:List UInt8}(h:fT rows i c=true):((Ah rows i c).rows.length:Int)=rows:=by
 have h':=h
 simp only[fT,Bool.and_eq_true]at h'
 have hr:1≤rows∧rows≤64:=by have:=h'.1;rw[an]at this;exact this
 rw[Ah,if_pos h'.1,qF h'.2]
 show(((cw rows).rows.set i.toNat c).length:Int)=rows
 rw[List.length_set];exact xM (by omega)
theorem GJ{α:Type}(f:α→DB): ∀(l:List α) (d:DB),(l.foldl (fun d s=>dD d (f s)) d).rows.length=d.rows.length:=by
 intro l
 induction l with
 |nil=>intro d;rfl
 |cons x r ih=>intro d;rw[List.foldl_cons,ih,ox]
theorem MP{rows i:Int}{c:List UInt8}(h:fT rows i c=true)(sd:List Int):((o8 rows i c sd).rows.length:Int)=rows:=by
 unfold o8;rw[GJ (fun s=>J2 s rows)];exact zQ h
theorem xN{rows i:Int}{c:List UInt8}{sd:List Int}: ∀d,d∈mY rows i c sd→(d.rows.length:Int)=rows:=by
 intro d hd
 unfold mY at hd
 split at hd
 ·rename_i h
  have hu:fT rows i c=true:=by simp only[sW,Bool.and_eq_true]at h;exact h.1
  rcases List.mem_append.1 hd with h1|h1
  ·obtain⟨s,_,rfl⟩:=List.mem_map.1 h1
   have:=(xl hu).2
   show((gK s rows).length:Int)=rows
   rw[mq];omega
  ·rw[List.mem_singleton.1 h1];exact MP hu sd
 ·cases hd
def Ql(x:aJ)(i:Nat)(c:Nat):DB:=(bk x (c:Int)).getD i (au .DB)
def rcs(x:aJ)(i n:Nat):List aA:=(List.range n).map fun c:Nat=>⟨(c:Int),Ql x i c⟩
theorem T9(x:aJ)(i n:Nat):rcs x i (n+1)=rcs x i n++ [⟨(n:Int),Ql x i n⟩]:=by
 unfold rcs;rw[List.range_succ,List.map_append];rfl
theorem OG(x:aJ)(i n:Nat):(rcs x i n).length=n:=by simp[rcs]
theorem C2(x:aJ)(i n:Nat){k:Nat}(h:k<n):(rcs x i n).getD k (au .aA)=⟨(k:Int),Ql x i k⟩:=eg _ _ _ _ h
def Bj(x:aJ)(k i:Nat):aO:=⟨(x.ah.getD i (au .aO)).id,(x.ah.getD i (au .aO)).rows,(x.ah.getD i (au .aO)).round,rcs x i k,(x.ah.getD i (au .aO)).behavior⟩
theorem Ua{x:aJ}(h:okW x=true):2≤x.af.length∧x.af.length≤8:=by
 have:=kD h
 simp only[IN,Bool.and_eq_true,an]at this
 omega
theorem aac{x:aJ}(h:okW x=true){i c:Nat}(hi:i<x.ah.length)(hc:c<x.af.length):bV (Ql x i c)=true∧((Ql x i c).rows.length:Int)=x.rows:=by
 have hl:(bk x (c:Int)).length=x.ah.length:=eV h (by omega)
 have hm:Ql x i c∈bk x (c:Int):=getD_in _ (by omega)
 exact⟨n9 h _ hm,xN _ hm⟩
theorem Ub{x:aJ}(h:okW x=true){i:Nat}(hi:i<x.ah.length):(x.ah.getD i (au .aO)).id=(i:Int)∧(x.ah.getD i (au .aO)).rows=x.rows∧(x.ah.getD i (au .aO)).round=x.round∧(x.ah.getD i (au .aO)).received= []∧0≤(x.ah.getD i (au .aO)).behavior∧(x.ah.getD i (au .aO)).behavior≤3:=by
 have hs:=cN h
 have hr:=lK h
 exact(Iu hr.1 hr.2 (by omega)).1 (HX h hi)
theorem Iw{x:aJ}(h:okW x=true){k i:Nat}(hi:i<x.ah.length)(hk:k≤x.af.length):cj (Bj x k i)=true:=by
 have hs:=cN h
 have hr:=lK h
 have hn:=Ua h
 obtain⟨h1,h2,h3,h4,h5⟩:=Ub h hi
 have hl:(Bj x k i).received.length=k:=OG x i k
 simp only[cj,wI,Bool.and_eq_true,an,decide_eq_true_eq,List.all_eq_true,hl]
 refine⟨⟨⟨⟨⟨?_,?_⟩,?_⟩,?_⟩,?_⟩,fun j hj=> ?_⟩
 ·show 0≤(x.ah.getD i (au .aO)).id∧(x.ah.getD i (au .aO)).id≤3
  omega
 ·show 1≤(x.ah.getD i (au .aO)).rows∧(x.ah.getD i (au .aO)).rows≤64
  omega
 ·exact h5
 ·show 0≤(x.ah.getD i (au .aO)).round∧(x.ah.getD i (au .aO)).round≤100000
  omega
 ·omega
 ·have hj':j<k:=List.mem_range.1 hj
  have e:(Bj x k i).received.getD j (au .aA)=⟨(j:Int),Ql x i j⟩:=C2 x i k hj'
  have ho:=aac h hi (show j<x.af.length by omega)
  have er:(Bj x k i).rows=x.rows:=h2
  simp only[nW,e,Bool.and_eq_true,an,beq_iff_eq,Bool.not_eq_true',Bool.and_eq_false_iff,decide_eq_false_iff_not,er]
  refine⟨⟨⟨by omega,?_⟩,ho.1⟩,ho.2⟩
  by_cases hz:j=0
  ·left;omega
  ·right
   have e':(Bj x k i).received.getD (j-1) (au .aA)=⟨((j-1:Nat):Int),Ql x i (j-1)⟩:=C2 x i k (by omega)
   rw[e']
   show¬(j:Int)≤((j-1:Nat):Int)
   omega
theorem OH{x:aJ}(h:okW x=true){i:Nat}(hi:i<x.ah.length): ∀k,k≤x.af.length→(vW x k).getD i (au .aO)=Bj x k i
 |0,_=>by
  have h4:=(Ub h hi).2.2.2.1
  show x.ah.getD i (au .aO)=Bj x 0 i
  unfold Bj
  have e:rcs x i 0=(x.ah.getD i (au .aO)).received:=by rw[h4];rfl
  rw[e]
 |k+1,hk=>by
  have ha:kO (Bj x k i) (k:Int) (Ql x i k)=Bj x (k+1) i:=by
   unfold kO
   show(⟨_,_,_,rcs x i k++ [⟨(k:Int),Ql x i k⟩],_⟩:aO)=_
   rw[←T9];rfl
  rw[Ke h (by omega) hi,OH h hi k (by omega)]
  show Kb (Bj x k i) (k:Int) (Ql x i k)=_
  rw[H7 (by unfold ju;rw[ha,Iw h hi (by omega),Iw h hi hk];rfl),ha]
theorem OI{x:aJ}(h:okW x=true){i:Nat}(hi:i<x.ah.length):(aN x).getD i (au .aO)=Bj x x.af.length i:=by
 rw[aN,if_pos h];exact OH h hi _ (Nat.le_refl _)
theorem GK(rows:Int)(l:List aA):(gN rows l).rows.length=(cw rows).rows.length:=GJ (fun r:aA=>r.share) l _
theorem Uc(d:DB):(alt d).rows.length=d.rows.length:=List.length_set ..
theorem Ud{x:aJ}(h:okW x=true){d:DB}(hd:d∈bH (aN x)):(d.rows.length:Int)=x.rows:=by
 obtain⟨s,hs,rfl⟩:=List.mem_map.1 hd
 obtain⟨i,hi⟩:=List.mem_iff_getElem?.1 hs
 have hl:i<x.ah.length:=by
  have:=(List.getElem?_eq_some_iff.1 hi).1
  rw[mA h]at this;exact this
 have e:s=Bj x x.af.length i:=by
  rw[←OI h hl,List.getD_eq_getElem?_getD,hi];rfl
 have hr:s.rows=x.rows:=by rw[e];exact(Ub h hl).2.1
 have hk:cj s=true:=by rw[e];exact Iw h hl (Nat.le_refl _)
 have hw:=lK h
 have hn:((cw s.rows).rows.length:Int)=x.rows:=by rw[hr];exact xM (by omega)
 unfold so
 rw[if_pos hk]
 split
 ·rw[Uc,GK];exact hn
 ·rw[GK];exact hn
theorem KN: ∀(l:List DB) (a:DB),bV a=true→(∀d,d∈l→bV d=true∧d.rows.length=a.rows.length)→ ∃d,Kv a l=some d∧d.rows.length=a.rows.length
 | [],a,_,_=>⟨a,rfl,rfl⟩
 |s::r,a,ha,hl=>by
  have hs:=hl s (List.mem_cons_self ..)
  have hx:gq a s=true:=by
   simp only[gq,Bool.and_eq_true,decide_eq_true_eq]
   exact⟨⟨ha,hs.1⟩,by omega⟩
  have he:=ox a s
  obtain⟨d,h1,h2⟩:=KN r (dD a s) (nI ha) (fun d hd=>by
   have:=hl d (List.mem_cons_of_mem _ hd)
   exact⟨this.1,by omega⟩)
  exact⟨d,by rw[Kv,if_pos hx,h1],by omega⟩
theorem E2{x:aJ}(h:okW x=true):zy (bH (aN x))=true∧((jw (bH (aN x))).rows.length:Int)=x.rows:=by
 have hs:=cN h
 have hl:(bH (aN x)).length=x.ah.length:=by rw[show(bH (aN x)).length=(aN x).length from List.length_map ..,mA h]
 have h0:(bH (aN x)).getD 0 (au .DB)∈bH (aN x):=getD_in _ (by omega)
 have e0:=Ud h h0
 obtain⟨d,h1,h2⟩:=KN ((bH (aN x)).drop 1) ((bH (aN x)).getD 0 (au .DB)) (kR (aN x) _ h0) (fun d hd=>by
  have hm:=List.mem_of_mem_drop hd
  have:=Ud h hm
  exact⟨kR (aN x) _ hm,by omega⟩)
 have e:MF (bH (aN x))=some d:=by
  rw[MF,if_pos (by simp only[cq,an];omega),h1]
 exact⟨by rw[zy,e];rfl,by rw[jw,e];show(d.rows.length:Int)=x.rows;omega⟩
end
section
structure jy where
 b:List UInt8
 i:Nat
 h:Int
def Qm(x:Int):Int:=IntKind.i64.wrap (BitVec.ofInt IntKind.i64.bits x&&&BitVec.ofInt IntKind.i64.bits 255).toNat
def jy.h1(c:jy):Int:=IntKind.i64.wrap (IntKind.i64.wrap (c.h*6364136223846793005)+1442695040888963407)
def jy.x0(c:jy):Int:=Qm (IntKind.i64.wrap (BitVec.ofInt IntKind.i64.bits (c.h1.fdiv (2^(min (Int.toNat 33) IntKind.i64.bits)))^^^BitVec.ofInt IntKind.i64.bits (c.h1.fdiv (2^(min (Int.toNat 47) IntKind.i64.bits)))).toNat)
def jy.x(c:jy):Int:=if c.i<c.b.length then Qm (IntKind.i64.wrap (c.x0+IntKind.i64.wrap ((c.b.getD c.i (au .u8)).toNat:Int)))else c.x0
def jy.n(c:jy):jy:=⟨c.b,if c.i<c.b.length then c.i+1 else c.i,c.h1⟩
theorem acw{x:aJ}{n:Nat}(h:okW x=true)(hr:x.replaced.length≤n):wC x n:=by
 have w:=yd.of h
 refine⟨xE (TH h),?_,?_,hr⟩
 ·exact Nat.le_trans (Ip aP 960 8 _ (fun d hd=>qW (Ot h d hd)) w.Qh.2) (by decide)
 ·have ha:=lS.1 w.QF
  refine Nat.le_trans (Ip aZ 1600 8 _ (fun y hy=> ?_) ha.1.2) (by decide)
  obtain⟨i,hi,rfl⟩:=List.mem_iff_getElem.1 hy
  have h2:=mF.1 (ha.2 i hi)
  have e:x.ak.rounds.getD i (au .ay)=x.ak.rounds[i]:=by rw[List.getD_eq_getElem?_getD,List.getElem?_eq_getElem hi];rfl
  rw[e]at h2
  exact MH h2.2.2.1
theorem Ix{x:aJ}{i:Nat}{d:aL}(h:okW x=true)(hi:i<x.af.length)(hd:cL d=true)(hs:sL d.live (x.af.getD i (au .aL)).live)(hn:d.live.next≤x.round):okW (Qf x i d)=true:=by
 have w:=yd.of h
 have hg: ∀j,j<x.af.length→(x.af.set i d).getD j (au .aL)=if i=j then d else x.af.getD j (au .aL):=fun j hj=>lR _ _ hj
 refine yd.ok ⟨w.rows,w.KL,by show 2≤(x.af.set i d).length∧(x.af.set i d).length≤8;rw[List.length_set];exact w.Qh,by show(x.af.set i d).length % 2=0;rw[List.length_set];exact w.even,w.QF,w.BQ,w.last,w.key,w.round,w.oA,w.sv,fun j hj=> ?_⟩
 have hj:j<x.af.length:=by have:j<(x.af.set i d).length:=hj;rwa [List.length_set]at this
 have hx:=xd j x.af.length hj w.even
 have hq:=o9 h hj
 have key: ∀m,m<x.af.length→((x.af.set i d).getD m (au .aL)).live.key=(x.af.getD m (au .aL)).live.key:=by
  intro m hm
  rw[hg m hm]
  split
  ·rename_i e;subst e;exact hs.2.2.1
  ·rfl
 simp only[okD,Bool.and_eq_true,decide_eq_true_eq,beq_iff_eq]at hq ⊢
 show(((cL ((x.af.set i d).getD j (au .aL))=true∧((x.af.set i d).getD j (au .aL)).live.id=(j:Int))∧((x.af.set i d).getD j (au .aL)).live.eu=((j^^^1:Nat):Int))∧((x.af.set i d).getD j (au .aL)).live.key=((x.af.set i d).getD (j^^^1) (au .aL)).live.key)∧((x.af.set i d).getD j (au .aL)).live.next≤x.round
 rw[key j hj,key _ hx,hg j hj]
 split
 ·rename_i e
  subst e
  exact⟨⟨⟨⟨hd,hs.1.trans hq.1.1.1.2⟩,hs.2.1.trans hq.1.1.2⟩,hq.1.2⟩,hn⟩
 ·exact hq
theorem Uf{x:aJ}{c:Int}(h:iJ x c=true):c.toNat<x.af.length∧cL (Ch x c)=true∧(Ch x c).live.next≤x.round:=by
 obtain⟨h1,h2,h3⟩:=CX h
 have hi:c.toNat<x.af.length:=by omega
 have hq:=o9 h1 hi
 simp only[okD,Bool.and_eq_true,decide_eq_true_eq]at hq
 exact⟨hi,hq.1.1.1.1,hq.2⟩
theorem OJ{c:ep}(h:dh c=true):cL ⟨c,c⟩=true:=Qi.iff.2 ⟨h,h,gE.2 ⟨⟨rfl,rfl,rfl,rfl⟩,rfl⟩,Int.le_refl _,Int.le_refl _,Bi _⟩
theorem aae{x:aJ}{c:Int}(h:okW x=true):okW (TJ x c)=true:=by
 unfold TJ
 split
 ·rename_i hk
  obtain⟨h1,h2,h3⟩:=Uf hk
  have hd:=Qi.iff.1 h2
  obtain⟨p1,p2⟩:=gE.1 hd.same
  have hn:=hd.next
  rw[WM,if_pos h2]
  exact Ix h h1 (OJ hd.saved) ⟨p1.1.symm,p1.2.1.symm,p1.2.2.1.symm,p1.2.2.2.symm⟩ (by show(Ch x c).saved.next≤x.round;omega)
 ·exact h
theorem aaf{x:aJ}{c:Int}(h:okW x=true):okW (WN x c)=true:=by
 unfold WN
 split
 ·rename_i hk
  obtain⟨h1,h2,h3⟩:=Uf hk
  rw[Lx,if_pos h2]
  exact Ix h h1 (OJ (Qi.iff.1 h2).live) ⟨rfl,rfl,rfl,rfl⟩ h3
 ·exact h
theorem aag{x:aJ}{i b:Int}(h:okW x=true):okW (TL x i b)=true:=by
 unfold TL
 split
 ·rename_i hk
  obtain⟨_,h1,h2⟩:=TM hk
  have w:=yd.of h
  refine yd.ok ⟨w.rows,by show 2≤(x.ah.set i.toNat (beh (x.ah.getD i.toNat (au .aO)) b)).length∧(x.ah.set i.toNat (beh (x.ah.getD i.toNat (au .aO)) b)).length≤4;rw[List.length_set];exact w.KL,w.Qh,w.even,w.QF,w.BQ,w.last,w.key,w.round,w.oA,fun j hj=> ?_,w.dv⟩
  have hj:j<x.ah.length:=by have:j<(x.ah.set i.toNat (beh (x.ah.getD i.toNat (au .aO)) b)).length:=hj;rwa [List.length_set]at this
  show WY x.rows x.round j ((x.ah.set i.toNat (beh (x.ah.getD i.toNat (au .aO)) b)).getD j (au .aO))
  rw[lR _ _ hj]
  have hq:=w.sv j hj
  split
  ·rename_i e
   subst e
   obtain⟨q1,q2,q3,q4,_⟩:=hq
   exact⟨q1,q2,q3,q4,h2.1,h2.2⟩
  ·exact hq
 ·exact h
theorem Ya(x:aJ):(wN x).round=x.round∧(wN x).cancelled=x.cancelled∧(wN x).replaced=x.replaced∧(wN x).rows=x.rows∧(wN x).ah=x.ah∧(wN x).ak=x.ak∧(wN x).af.length=x.af.length∧(wN x).az=x.az:=by
 unfold wN
 split
 ·exact⟨rfl,rfl,rfl,rfl,rfl,rfl,List.length_map ..,rfl⟩
 ·exact⟨rfl,rfl,rfl,rfl,rfl,rfl,rfl,rfl⟩
theorem vO(x:aJ):(testW x).round=x.round∧(testW x).cancelled=x.cancelled∧(testW x).rows=x.rows∧(testW x).ak=x.ak∧(testW x).af=x.af∧(testW x).az=x.az:=by
 unfold testW
 split
 ·exact⟨rfl,rfl,rfl,rfl,rfl,rfl⟩
 ·exact⟨rfl,rfl,rfl,rfl,rfl,rfl⟩
theorem Qn{x:aJ}(h:okW x=true)(hc:x.cancelled<9223372036854775807):okW (kS x)=true:=by
 unfold kS
 split
 ·rename_i hk
  have hr:x.round<99999:=by simp only[oy,h,Bool.true_and,Bool.not_eq_true',decide_eq_false_iff_not]at hk;omega
  exact T8 (uV (Bh h hr hc fun _=>⟨BO _ (kR _),(E2 h).2⟩))
 ·exact h
theorem Ug{x:aJ}(h:okW x=true)(hr:x.round<99999)(hc:x.cancelled<9223372036854775807):(kS x).round=x.round+1∧(kS x).cancelled=(if(gT x.az (aN x) (bH (aN x)) (dO x) (aN x).length).length=0 then x.cancelled else x.cancelled+1)∧(kS x).rows=x.rows∧(kS x).af.length=x.af.length∧bR (kS x).ak=(if(gT x.az (aN x) (bH (aN x)) (dO x) (aN x).length).length=0 then x.round else bR x.ak):=by
 have w:=yd.of h
 have w3:=w.round;have w4:=w.oA
 have hk:=su h hr
 rw[kS,if_pos hk]
 obtain⟨a1,a2,_,a4,_,a6,a7,_⟩:=Ya (testW (aQ x (gT x.az (aN x) (bH (aN x)) (dO x) (aN x).length) (jw (bH (aN x)))))
 obtain⟨b1,b2,b3,b4,b5,_⟩:=vO (aQ x (gT x.az (aN x) (bH (aN x)) (dO x) (aN x).length) (jw (bH (aN x))))
 have hj:=E2 h
 rw[a1,a2,a4,a6,a7,b1,b2,b3,b4,b5,aQ,if_pos hk]
 refine⟨bl (by omega),?_,rfl,rfl,?_⟩
 ·dsimp only
  split
  ·rfl
  ·exact bl (by omega)
 ·dsimp only
  split
  ·exact(MN w.QF w3 w.last (BO _ (kR _)) (by rw[w.BQ];exact hj.2)).2.1
  ·rfl
structure sy(x:aJ)(n:Nat):Prop where
 ok:okW x=true
 round:x.round≤n
 oA:x.cancelled≤n
 KO:x.replaced.length≤8*n
theorem sy.mono{x:aJ}{n m:Nat}(h:sy x n)(hn:n≤m):sy x m:=⟨h.ok,by have:=h.round;omega,by have:=h.oA;omega,by have:=h.KO;omega⟩
theorem sy.C{x:aJ}{n:Nat}(h:sy x n):wC x (8*n):=acw h.ok h.KO
theorem sy.B{x:aJ}{n:Nat}(h:sy x n)(hn:n≤100000):wB x:=WK h.C (by omega)
theorem sy.R{x:aJ}{n:Nat}(h:sy x n)(hn:n≤100000):wR x:=acu h.C (by omega)
theorem sy.cc{x:aJ}{n:Nat}{c:Int}(h:sy x n):sy (TJ x c) n:=by
 refine⟨aae h.ok,?_,?_,?_⟩<;>(unfold TJ;split)<;>first|exact h.round|exact h.oA|exact h.KO
theorem sy.sv{x:aJ}{n:Nat}{c:Int}(h:sy x n):sy (WN x c) n:=by
 refine⟨aaf h.ok,?_,?_,?_⟩<;>(unfold WN;split)<;>first|exact h.round|exact h.oA|exact h.KO
theorem sy.co{x:aJ}{n:Nat}{i b:Int}(h:sy x n):sy (TL x i b) n:=by
 refine⟨aag h.ok,?_,?_,?_⟩<;>(unfold TL;split)<;>first|exact h.round|exact h.oA|exact h.KO
theorem sy.rd{x:aJ}{n:Nat}(h:sy x n)(hn:n≤99998):sy (kS x) (n+1):=by
 have h1:=h.round;have h2:=h.oA
 have hf:=Ug h.ok (by omega) (by omega)
 have hC:=TI h.C
 refine⟨Qn h.ok (by omega),by omega,?_,by have:=hC.2.2.2;omega⟩
 rw[hf.2.1];split<;>omega
end
section
def sb(rows:List (List UInt8))(v:List Int)(i k:Nat):UInt8:=if k<v.length∧v.getD k (au .int)=1 then wH (rows.getD k (au (.sl .u8))) i else 0
def sx(rows:List (List UInt8))(v:List Int)(i:Nat):Nat→UInt8
 |0=>0
 |n+1=>sx rows v i n^^^sb rows v i n
end
section

end
end Go.Proofs.YteodajeiagmekaaGreat.G
