/-
  The types of this program, the maps from integers to integers with them.
-/
import Derived.KernelRfl
import Derived.Test.YteodajeiagmekaaGreatProg
import Derived.Test.YteodajeiagmekaaGreatP10
namespace Go.Proofs.YteodajeiagmekaaGreat.G
set_option linter.all false
open Go.RowKit L D
section
theorem D0:(Tryz.prog.info? 3).map (fun i=>(i.zero,i.size,i.bytes))=some (some (.int .i64 0),1,8):=by kernel_rfl
theorem D1:(Tryz.prog.info? 5).map (fun i=>(i.zero,i.size,i.bytes))=some (some (.int .u8 0),1,1):=by kernel_rfl
theorem D2:(Tryz.prog.info? 9).map (fun i=>(i.zero,i.size,i.bytes))=some (some (.string ⟨#[]⟩),1,16):=by kernel_rfl
theorem Bd:(Tryz.prog.info? 22).map (fun i=>(i.zero,i.size,i.bytes))=some (some (.slice none 0 0),1,24):=by kernel_rfl
theorem Be:(Tryz.prog.info? 29).map (fun i=>(i.zero,i.size,i.bytes))=some (some (.slice none 0 0),1,24):=by kernel_rfl
theorem E4:(Tryz.prog.info? 38).map (fun i=>(i.zero,i.size,i.bytes))=some (some (.slice none 0 0),1,24):=by kernel_rfl
theorem wE:(Tryz.prog.info? 40).map (fun i=>(i.zero,i.size,i.bytes))=some (some (.agg #[.slice none 0 0]),1,24):=by kernel_rfl
theorem C2:(Tryz.prog.info? 308).map (fun i=>(i.zero,i.size,i.bytes))=some (some (.agg #[.slice none 0 0]),1,24):=by kernel_rfl
theorem sJ:(Tryz.prog.info? 134).map (fun i=>(i.zero,i.size,i.bytes))=some (some (.agg #[.int .i64 0, .slice none 0 0]),2,32):=by kernel_rfl
theorem xP:(Tryz.prog.info? 328).map (fun i=>(i.zero,i.size,i.bytes))=some (some (.agg #[.int .i64 0, .slice none 0 0]),2,32):=by kernel_rfl
theorem wF:(Tryz.prog.info? 45).map (fun i=>(i.zero,i.size,i.bytes))=some (some (.agg #[.int .i64 0, .int .i64 0, .int .i64 0, .slice none 0 0, .int .i64 0]),5,56):=by kernel_rfl
theorem xQ:(Tryz.prog.info? 269).map (fun i=>(i.zero,i.size,i.bytes))=some (some (.agg #[.int .i64 0, .int .i64 0, .int .i64 0, .slice none 0 0, .int .i64 0]),5,56):=by kernel_rfl
theorem wG:(Tryz.prog.info? 59).map (fun i=>(i.zero,i.size,i.bytes))=some (some (.agg #[.int .i64 0, .slice none 0 0]),2,32):=by kernel_rfl
theorem xR:(Tryz.prog.info? 310).map (fun i=>(i.zero,i.size,i.bytes))=some (some (.agg #[.int .i64 0, .slice none 0 0]),2,32):=by kernel_rfl
theorem Bf:(Tryz.prog.info? 28).map (fun i=>(i.zero,i.size,i.bytes))=some (some (.agg #[.int .i64 0, .slice none 0 0]),2,32):=by kernel_rfl
theorem C3:(Tryz.prog.info? 109).map (fun i=>(i.zero,i.size,i.bytes))=some (some (.agg #[.int .i64 0, .slice none 0 0]),2,32):=by kernel_rfl
theorem Bg:(Tryz.prog.info? 65).map (fun i=>(i.zero,i.size,i.bytes))=some (some (.agg #[.int .i64 0, .int .i64 0, .int .i64 0, .int .i64 0, .slice none 0 0, .int .i64 0, .slice none 0 0, .int .i64 0]),8,96):=by kernel_rfl
theorem C4:(Tryz.prog.info? 271).map (fun i=>(i.zero,i.size,i.bytes))=some (some (.agg #[.int .i64 0, .int .i64 0, .int .i64 0, .int .i64 0, .slice none 0 0, .int .i64 0, .slice none 0 0, .int .i64 0]),8,96):=by kernel_rfl
theorem wH:(Tryz.prog.info? 67).map (fun i=>(i.zero,i.size,i.bytes))=some (some (.agg #[.int .i64 0, .int .i64 0, .int .i64 0, .int .i64 0, .slice none 0 0, .int .i64 0, .slice none 0 0, .int .i64 0, .int .i64 0, .int .i64 0, .int .i64 0, .int .i64 0, .slice none 0 0, .int .i64 0, .slice none 0 0, .int .i64 0]),16,192):=by kernel_rfl
theorem xS:(Tryz.prog.info? 273).map (fun i=>(i.zero,i.size,i.bytes))=some (some (.agg #[.int .i64 0, .int .i64 0, .int .i64 0, .int .i64 0, .slice none 0 0, .int .i64 0, .slice none 0 0, .int .i64 0, .int .i64 0, .int .i64 0, .int .i64 0, .int .i64 0, .slice none 0 0, .int .i64 0, .slice none 0 0, .int .i64 0]),16,192):=by kernel_rfl
theorem Bh:(Tryz.prog.info? 31).map (fun i=>(i.zero,i.size,i.bytes))=some (some (.agg #[.int .i64 0, .slice none 0 0, .slice none 0 0, .int .i64 0, .slice none 0 0, .int .i64 0, .int .i64 0, .int .i64 0, .slice none 0 0, .int .i64 0]),10,144):=by kernel_rfl
theorem C5:(Tryz.prog.info? 111).map (fun i=>(i.zero,i.size,i.bytes))=some (some (.agg #[.int .i64 0, .slice none 0 0, .slice none 0 0, .int .i64 0, .slice none 0 0, .int .i64 0, .int .i64 0, .int .i64 0, .slice none 0 0, .int .i64 0]),10,144):=by kernel_rfl
theorem wI:(Tryz.prog.info? 81).map (fun i=>(i.zero,i.size,i.bytes))=some (some (.agg #[.int .i64 0, .int .i64 0, .int .i64 0, .slice none 0 0]),4,48):=by kernel_rfl
theorem sK:(Tryz.prog.info? 179).map (fun i=>(i.zero,i.size,i.bytes))=some (some (.agg #[.int .i64 0, .int .i64 0, .int .i64 0]),3,24):=by kernel_rfl
theorem wJ:(Tryz.prog.info? 50).map (fun i=>(i.zero,i.size,i.bytes))=some (some (.agg #[.int .i64 0, .int .i64 0, .int .i64 0, .int .i64 0, .int .i64 0]),5,40):=by kernel_rfl
theorem xT:(Tryz.prog.info? 249).map (fun i=>(i.zero,i.size,i.bytes))=some (some (.agg #[.int .i64 0, .slice none 0 0]),2,32):=by kernel_rfl
theorem sL:(Tryz.prog.info? 150).map (fun i=>(i.zero,i.size,i.bytes))=some (some (.agg #[.int .i64 0, .int .i64 0, .slice none 0 0, .slice none 0 0, .int .i64 0]),5,72):=by kernel_rfl
theorem Bi:(Tryz.prog.info? 76).map (fun i=>(i.zero,i.size,i.bytes))=some (some (.slice none 0 0),1,24):=by kernel_rfl
theorem dG{P:Program}{i:Nat}{z:Option Value}{k b:Nat}(h:(P.info? i).map (fun i=>(i.zero,i.size,i.bytes))=some (z,k,b)):(P.info? i).map (·.size)=some k:=by
 cases hq:P.info? i with
 |none=>simp[hq]at h
 |some x=>simp[hq]at h;simp[h]
theorem C6{P:Program}{i:Nat}{z:Option Value}{k b:Nat}(h:(P.info? i).map (fun i=>(i.zero,i.size,i.bytes))=some (z,k,b)):(P.info? i).map (fun i=>(i.size,i.zero))=some (k,z):=by
 cases hq:P.info? i with
 |none=>simp[hq]at h
 |some x=>simp[hq]at h;simp[h]
theorem cZ{P:Program}{t:Nat}{z:List Value}{tg:List (Option Tag)}{fo:List Nat}{fs:Array Field}{b:Nat}(hu:P.underlying t=some (.struct fs))(hi:(P.info? t).map (fun i=>(i.zero,i.size,i.bytes))=some (some (.agg z.toArray),z.length,b))(hz:z.all (·.oneCell')=true)(hf:kV P z.length fs.toList fo=true):aQ P t (.st z tg fo):=
 ⟨fs,hu,C6 hi,fun v hv=>List.all_eq_true.1 hz v hv,fun f k h=>by obtain⟨fd,h1,h2⟩:=(iJ hf).1 f k h;exact⟨fd,by simpa using h1,h2⟩,(iJ hf).2⟩
theorem bp{P:Program}{i:Nat}(h:(P.info? i).map (fun i=>Nat.beq i.size 1)=some true):(P.info? i).map (·.size)=some 1:=by
 cases hq:P.info? i with
 |none=>simp[hq]at h
 |some x=>simp[hq]at h;simp[h]
def tys:List (Nat×TK):= [(3, .int .i64),
 (2, .int .i64),
 (21, .int .i32),
 (5, .int .u8),
 (341, .int .u32),
 (234, .int .u64),
 (12, .int .u64),
 (4, .bool),
 (9, .str),
 (40, .st [.slice none 0 0] [some (.sl .u8)] [0]),
 (308, .st [.slice none 0 0] [some (.sl .u8)] [0]),
 (134, .st [.int .i64 0, .slice none 0 0] [none,some (.sl .u8)] [0,1]),
 (328, .st [.int .i64 0, .slice none 0 0] [none,some (.sl .u8)] [0,1]),
 (45, .st [.int .i64 0, .int .i64 0, .int .i64 0, .slice none 0 0, .int .i64 0] [none,none,none,some .au,none] [0,1,2,3,4]),
 (269, .st [.int .i64 0, .int .i64 0, .int .i64 0, .slice none 0 0, .int .i64 0] [none,none,none,some .au,none] [0,1,2,3,4]),
 (59, .st [.int .i64 0, .slice none 0 0] [none,some (.sl .u8)] [0,1]),
 (310, .st [.int .i64 0, .slice none 0 0] [none,some (.sl .u8)] [0,1]),
 (28, .st [.int .i64 0, .slice none 0 0] [none,some .an] [0,1]),
 (109, .st [.int .i64 0, .slice none 0 0] [none,some .an] [0,1]),
 (65, .st [.int .i64 0, .int .i64 0, .int .i64 0, .int .i64 0, .slice none 0 0, .int .i64 0, .slice none 0 0, .int .i64 0] [none,none,none,none,some (.sl .u8),none,some (.sl .u8),none] [0,1,2,3,4,5,6,7]),
 (271, .st [.int .i64 0, .int .i64 0, .int .i64 0, .int .i64 0, .slice none 0 0, .int .i64 0, .slice none 0 0, .int .i64 0] [none,none,none,none,some (.sl .u8),none,some (.sl .u8),none] [0,1,2,3,4,5,6,7]),
 (67, .st [.int .i64 0, .int .i64 0, .int .i64 0, .int .i64 0, .slice none 0 0, .int .i64 0, .slice none 0 0, .int .i64 0, .int .i64 0, .int .i64 0, .int .i64 0, .int .i64 0, .slice none 0 0, .int .i64 0, .slice none 0 0, .int .i64 0] [none,none,none,none,some (.sl .u8),none,some (.sl .u8),none,none,none,none,none,some (.sl .u8),none,some (.sl .u8),none] [0,8]),
 (273, .st [.int .i64 0, .int .i64 0, .int .i64 0, .int .i64 0, .slice none 0 0, .int .i64 0, .slice none 0 0, .int .i64 0, .int .i64 0, .int .i64 0, .int .i64 0, .int .i64 0, .slice none 0 0, .int .i64 0, .slice none 0 0, .int .i64 0] [none,none,none,none,some (.sl .u8),none,some (.sl .u8),none,none,none,none,none,some (.sl .u8),none,some (.sl .u8),none] [0,8]),
 (31, .st [.int .i64 0, .slice none 0 0, .slice none 0 0, .int .i64 0, .slice none 0 0, .int .i64 0, .int .i64 0, .int .i64 0, .slice none 0 0, .int .i64 0] [none,some .b9,some .bH,none,some .an,none,none,none,some .int,none] [0,1,2,3,5,6,7,8,9]),
 (111, .st [.int .i64 0, .slice none 0 0, .slice none 0 0, .int .i64 0, .slice none 0 0, .int .i64 0, .int .i64 0, .int .i64 0, .slice none 0 0, .int .i64 0] [none,some .b9,some .bH,none,some .an,none,none,none,some .int,none] [0,1,2,3,5,6,7,8,9]),
 (81, .st [.int .i64 0, .int .i64 0, .int .i64 0, .slice none 0 0] [none,none,none,some .u8] [0,1,2,3]),
 (179, .st [.int .i64 0, .int .i64 0, .int .i64 0] [none,none,none] [0,1,2]),
 (50, .st [.int .i64 0, .int .i64 0, .int .i64 0, .int .i64 0, .int .i64 0] [none,none,none,none,none] [0,1,2,3,4]),
 (249, .st [.int .i64 0, .slice none 0 0] [none,some .u8] [0,1]),
 (150, .st [.int .i64 0, .int .i64 0, .slice none 0 0, .slice none 0 0, .int .i64 0] [none,none,some .int,some .u8,none] [0,1,2,3,4]),
 (29, .sl .int 3),
 (22, .sl .u8 5),
 (174, .sl .str 9),
 (38, .sl (.sl .u8) 22),
 (91, .sl (.sl .int) 29),
 (36, .sl .DB 40),
 (43, .sl .au 134),
 (267, .sl .au 328),
 (24, .sl .b9 45),
 (105, .sl .b9 269),
 (26, .sl .an 59),
 (107, .sl .an 310),
 (25, .sl .bH 67),
 (106, .sl .bH 273),
 (85, .sl .Ev 81),
 (76, .sl .jm 179),
 (33, .sl .jV 50),
 (159, .sl .dg 150),
 (260, .sl (.sl .jm) 76)]
def Γ(t:Nat):TK:=match look tys t with|some k=>k|none=> .other
def ty:Tag→Nat
 | .int=>3
 | .u8=>5
 | .str=>9
 | (.sl .u8)=>22
 | (.sl .int)=>29
 | (.sl (.sl .u8))=>38
 | .DB=>40
 | .au=>134
 | .b9=>45
 | .an=>59
 | .fD=>28
 | .dL=>65
 | .bH=>67
 | .cX=>31
 | .Ev=>81
 | .jm=>179
 | .jV=>50
 | .Plain=>249
 | .dg=>150
 | (.sl .jm)=>76
 |_=>1000000000
theorem E5:aQ Tryz.prog 3 (.int .i64):=Tryz.underlying3
theorem E6:aQ Tryz.prog 2 (.int .i64):=Tryz.underlying2
theorem C7:aQ Tryz.prog 21 (.int .i32):=Tryz.underlying21
theorem E7:aQ Tryz.prog 5 (.int .u8):=Tryz.underlying5
theorem Bj:aQ Tryz.prog 341 (.int .u32):=Tryz.underlying341
theorem Bk:aQ Tryz.prog 234 (.int .u64):=Tryz.underlying234
theorem C8:aQ Tryz.prog 12 (.int .u64):=Tryz.underlying12
theorem E8:aQ Tryz.prog 4 (.bool):=Tryz.underlying4
theorem E9:aQ Tryz.prog 9 (.str):=Tryz.underlying9
theorem C9:aQ Tryz.prog 40 (.st [.slice none 0 0] [some (.sl .u8)] [0]):=cZ Tryz.underlying40 wE rfl (by kernel_rfl)
theorem Bl:aQ Tryz.prog 308 (.st [.slice none 0 0] [some (.sl .u8)] [0]):=cZ Tryz.underlying308 C2 rfl (by kernel_rfl)
theorem Bm:aQ Tryz.prog 134 (.st [.int .i64 0, .slice none 0 0] [none,some (.sl .u8)] [0,1]):=cZ Tryz.underlying134 sJ rfl (by kernel_rfl)
theorem Bn:aQ Tryz.prog 328 (.st [.int .i64 0, .slice none 0 0] [none,some (.sl .u8)] [0,1]):=cZ Tryz.underlying328 xP rfl (by kernel_rfl)
theorem Da:aQ Tryz.prog 45 (.st [.int .i64 0, .int .i64 0, .int .i64 0, .slice none 0 0, .int .i64 0] [none,none,none,some .au,none] [0,1,2,3,4]):=cZ Tryz.underlying45 wF rfl (by kernel_rfl)
theorem Bo:aQ Tryz.prog 269 (.st [.int .i64 0, .int .i64 0, .int .i64 0, .slice none 0 0, .int .i64 0] [none,none,none,some .au,none] [0,1,2,3,4]):=cZ Tryz.underlying269 xQ rfl (by kernel_rfl)
theorem Db:aQ Tryz.prog 59 (.st [.int .i64 0, .slice none 0 0] [none,some (.sl .u8)] [0,1]):=cZ Tryz.underlying59 wG rfl (by kernel_rfl)
theorem Bp:aQ Tryz.prog 310 (.st [.int .i64 0, .slice none 0 0] [none,some (.sl .u8)] [0,1]):=cZ Tryz.underlying310 xR rfl (by kernel_rfl)
theorem Dc:aQ Tryz.prog 28 (.st [.int .i64 0, .slice none 0 0] [none,some .an] [0,1]):=cZ Tryz.underlying28 Bf rfl (by kernel_rfl)
theorem Bq:aQ Tryz.prog 109 (.st [.int .i64 0, .slice none 0 0] [none,some .an] [0,1]):=cZ Tryz.underlying109 C3 rfl (by kernel_rfl)
theorem Dd:aQ Tryz.prog 65 (.st [.int .i64 0, .int .i64 0, .int .i64 0, .int .i64 0, .slice none 0 0, .int .i64 0, .slice none 0 0, .int .i64 0] [none,none,none,none,some (.sl .u8),none,some (.sl .u8),none] [0,1,2,3,4,5,6,7]):=cZ Tryz.underlying65 Bg rfl (by kernel_rfl)
theorem Br:aQ Tryz.prog 271 (.st [.int .i64 0, .int .i64 0, .int .i64 0, .int .i64 0, .slice none 0 0, .int .i64 0, .slice none 0 0, .int .i64 0] [none,none,none,none,some (.sl .u8),none,some (.sl .u8),none] [0,1,2,3,4,5,6,7]):=cZ Tryz.underlying271 C4 rfl (by kernel_rfl)
theorem De:aQ Tryz.prog 67 (.st [.int .i64 0, .int .i64 0, .int .i64 0, .int .i64 0, .slice none 0 0, .int .i64 0, .slice none 0 0, .int .i64 0, .int .i64 0, .int .i64 0, .int .i64 0, .int .i64 0, .slice none 0 0, .int .i64 0, .slice none 0 0, .int .i64 0] [none,none,none,none,some (.sl .u8),none,some (.sl .u8),none,none,none,none,none,some (.sl .u8),none,some (.sl .u8),none] [0,8]):=cZ Tryz.underlying67 wH rfl (by kernel_rfl)
theorem Bs:aQ Tryz.prog 273 (.st [.int .i64 0, .int .i64 0, .int .i64 0, .int .i64 0, .slice none 0 0, .int .i64 0, .slice none 0 0, .int .i64 0, .int .i64 0, .int .i64 0, .int .i64 0, .int .i64 0, .slice none 0 0, .int .i64 0, .slice none 0 0, .int .i64 0] [none,none,none,none,some (.sl .u8),none,some (.sl .u8),none,none,none,none,none,some (.sl .u8),none,some (.sl .u8),none] [0,8]):=cZ Tryz.underlying273 xS rfl (by kernel_rfl)
theorem Df:aQ Tryz.prog 31 (.st [.int .i64 0, .slice none 0 0, .slice none 0 0, .int .i64 0, .slice none 0 0, .int .i64 0, .int .i64 0, .int .i64 0, .slice none 0 0, .int .i64 0] [none,some .b9,some .bH,none,some .an,none,none,none,some .int,none] [0,1,2,3,5,6,7,8,9]):=cZ Tryz.underlying31 Bh rfl (by kernel_rfl)
theorem Bt:aQ Tryz.prog 111 (.st [.int .i64 0, .slice none 0 0, .slice none 0 0, .int .i64 0, .slice none 0 0, .int .i64 0, .int .i64 0, .int .i64 0, .slice none 0 0, .int .i64 0] [none,some .b9,some .bH,none,some .an,none,none,none,some .int,none] [0,1,2,3,5,6,7,8,9]):=cZ Tryz.underlying111 C5 rfl (by kernel_rfl)
theorem Dg:aQ Tryz.prog 81 (.st [.int .i64 0, .int .i64 0, .int .i64 0, .slice none 0 0] [none,none,none,some .u8] [0,1,2,3]):=cZ Tryz.underlying81 wI rfl (by kernel_rfl)
theorem Bu:aQ Tryz.prog 179 (.st [.int .i64 0, .int .i64 0, .int .i64 0] [none,none,none] [0,1,2]):=cZ Tryz.underlying179 sK rfl (by kernel_rfl)
theorem Dh:aQ Tryz.prog 50 (.st [.int .i64 0, .int .i64 0, .int .i64 0, .int .i64 0, .int .i64 0] [none,none,none,none,none] [0,1,2,3,4]):=cZ Tryz.underlying50 wJ rfl (by kernel_rfl)
theorem Bv:aQ Tryz.prog 249 (.st [.int .i64 0, .slice none 0 0] [none,some .u8] [0,1]):=cZ Tryz.underlying249 xT rfl (by kernel_rfl)
theorem Bw:aQ Tryz.prog 150 (.st [.int .i64 0, .int .i64 0, .slice none 0 0, .slice none 0 0, .int .i64 0] [none,none,some .int,some .u8,none] [0,1,2,3,4]):=cZ Tryz.underlying150 sL rfl (by kernel_rfl)
theorem Di:aQ Tryz.prog 29 (.sl .int 3):=⟨Tryz.underlying29,dG D0⟩
theorem Dj:aQ Tryz.prog 22 (.sl .u8 5):=⟨Tryz.underlying22,dG D1⟩
theorem Bx:aQ Tryz.prog 174 (.sl .str 9):=⟨Tryz.underlying174,dG D2⟩
theorem Dk:aQ Tryz.prog 38 (.sl (.sl .u8) 22):=⟨Tryz.underlying38,dG Bd⟩
theorem Dl:aQ Tryz.prog 91 (.sl (.sl .int) 29):=⟨Tryz.underlying91,dG Be⟩
theorem Dm:aQ Tryz.prog 36 (.sl .DB 40):=⟨Tryz.underlying36,dG wE⟩
theorem Dn:aQ Tryz.prog 43 (.sl .au 134):=⟨Tryz.underlying43,dG sJ⟩
theorem By:aQ Tryz.prog 267 (.sl .au 328):=⟨Tryz.underlying267,dG xP⟩
theorem Dp:aQ Tryz.prog 24 (.sl .b9 45):=⟨Tryz.underlying24,dG wF⟩
theorem Bz:aQ Tryz.prog 105 (.sl .b9 269):=⟨Tryz.underlying105,dG xQ⟩
theorem Dq:aQ Tryz.prog 26 (.sl .an 59):=⟨Tryz.underlying26,dG wG⟩
theorem BA:aQ Tryz.prog 107 (.sl .an 310):=⟨Tryz.underlying107,dG xR⟩
theorem Dr:aQ Tryz.prog 25 (.sl .bH 67):=⟨Tryz.underlying25,dG wH⟩
theorem BB:aQ Tryz.prog 106 (.sl .bH 273):=⟨Tryz.underlying106,dG xS⟩
theorem Ds:aQ Tryz.prog 85 (.sl .Ev 81):=⟨Tryz.underlying85,dG wI⟩
theorem Dt:aQ Tryz.prog 76 (.sl .jm 179):=⟨Tryz.underlying76,dG sK⟩
theorem Du:aQ Tryz.prog 33 (.sl .jV 50):=⟨Tryz.underlying33,dG wJ⟩
theorem BC:aQ Tryz.prog 159 (.sl .dg 150):=⟨Tryz.underlying159,dG sL⟩
theorem BD:aQ Tryz.prog 260 (.sl (.sl .jm) 76):=⟨Tryz.underlying260,dG Bi⟩
set_option maxRecDepth 100000 in
theorem kinds: ∀e,e∈tys→aQ Tryz.prog e.1 e.2:=by
 simp only[tys,List.forall_mem_cons]
 exact⟨E5,E6,C7,E7,Bj,Bk,C8,E8,E9,C9,Bl,Bm,Bn,Da,Bo,Db,Bp,Dc,Bq,Dd,Br,De,Bs,Df,Bt,Dg,Bu,Dh,Bv,Bw,Di,Dj,Bx,Dk,Dl,Dm,Dn,By,Dp,Bz,Dq,BA,Dr,BB,Ds,Dt,Du,BC,BD,by simp⟩
set_option maxRecDepth 100000 in
theorem GZ: ∀e,e∈tys→(∀z tg fo,e.2≠ .st z tg fo)→(Tryz.prog.info? e.1).map (·.size)=some 1:=by
 simp only[tys,List.forall_mem_cons]
 refine⟨fun _=>bp (by kernel_rfl),fun _=>bp (by kernel_rfl),fun _=>bp (by kernel_rfl),fun _=>bp (by kernel_rfl),fun _=>bp (by kernel_rfl),fun _=>bp (by kernel_rfl),fun _=>bp (by kernel_rfl),fun _=>bp (by kernel_rfl),fun _=>bp (by kernel_rfl),fun h=>absurd rfl (h _ _ _),fun h=>absurd rfl (h _ _ _),fun h=>absurd rfl (h _ _ _),fun h=>absurd rfl (h _ _ _),fun h=>absurd rfl (h _ _ _),fun h=>absurd rfl (h _ _ _),fun h=>absurd rfl (h _ _ _),fun h=>absurd rfl (h _ _ _),fun h=>absurd rfl (h _ _ _),fun h=>absurd rfl (h _ _ _),fun h=>absurd rfl (h _ _ _),fun h=>absurd rfl (h _ _ _),fun h=>absurd rfl (h _ _ _),fun h=>absurd rfl (h _ _ _),fun h=>absurd rfl (h _ _ _),fun h=>absurd rfl (h _ _ _),fun h=>absurd rfl (h _ _ _),fun h=>absurd rfl (h _ _ _),fun h=>absurd rfl (h _ _ _),fun h=>absurd rfl (h _ _ _),fun h=>absurd rfl (h _ _ _),fun _=>bp (by kernel_rfl),fun _=>bp (by kernel_rfl),fun _=>bp (by kernel_rfl),fun _=>bp (by kernel_rfl),fun _=>bp (by kernel_rfl),fun _=>bp (by kernel_rfl),fun _=>bp (by kernel_rfl),fun _=>bp (by kernel_rfl),fun _=>bp (by kernel_rfl),fun _=>bp (by kernel_rfl),fun _=>bp (by kernel_rfl),fun _=>bp (by kernel_rfl),fun _=>bp (by kernel_rfl),fun _=>bp (by kernel_rfl),fun _=>bp (by kernel_rfl),fun _=>bp (by kernel_rfl),fun _=>bp (by kernel_rfl),fun _=>bp (by kernel_rfl),fun _=>bp (by kernel_rfl),by simp⟩
theorem X:Ctx Tryz.prog ty Γ where
 kind:=fun t=>by
  unfold Γ
  split
  ·rename_i k hk;exact kinds (t,k) (bt hk)
  ·trivial
 one:=fun t h1 h2=>by
  unfold Γ at h1 h2
  split at h1
  ·rename_i k hk;exact GZ (t,k) (bt hk) h1
  ·rename_i hk;rw[hk]at h2;exact absurd rfl h2
theorem bL(t:Tag)(h:ty t<1000000000):El Tryz.prog ty t:=by
 unfold ty at h
 split at h
 ·exact D0
 ·exact D1
 ·exact D2
 ·exact Bd
 ·exact Be
 ·exact E4
 ·exact wE
 ·exact sJ
 ·exact wF
 ·exact wG
 ·exact Bf
 ·exact Bg
 ·exact wH
 ·exact Bh
 ·exact wI
 ·exact sK
 ·exact wJ
 ·exact xT
 ·exact sL
 ·exact Bi
 ·exact absurd h (by decide)
end
section
theorem MO:Tryz.prog.follows .mixedOrders=true:=by kernel_rfl
theorem nb:(∀(p:Prop) [Decidable p],(decide p=true)=p)∧(∀(p:Prop) [Decidable p],(decide p=false)= ¬p)∧(∀b:Bool,((!b)=true)=(b=false))∧(∀b:Bool,((!b)=false)=(b=true))∧
  (∀(α:Type) [BEq α] [LawfulBEq α] (a b:α),((a==b)=true)=(a=b))∧(∀(α:Type) [BEq α] [LawfulBEq α] (a b:α),((a !=b)=true)=(¬a=b))∧(∀(α:Type) [BEq α] [LawfulBEq α] (a b:α),((a==b)=false)=(¬a=b))∧(∀(α:Type) [BEq α] [LawfulBEq α] (a b:α),((a !=b)=false)=(a=b))∧
  (∀(α:Type) (a b:α),(a≠b)= ¬a=b)∧(∀a b:Int,(a>b)=(b<a))∧(∀a b:Int,(a≥b)=(b≤a))∧(∀a b:Nat,(a>b)=(b<a))∧(∀a b:Nat,(a≥b)=(b≤a))∧(∀a b:Int,(¬a<b)=(b≤a))∧(∀a b:Int,(¬a≤b)=(b<a))∧
  (∀(p:Prop) [Decidable p],(¬ ¬p)=p)∧(∀n:Nat,(n:Int).toNat=n)∧(∀m n:Nat,((m:Int)<n)=(m<n))∧(∀m n:Nat,((m:Int)≤n)=(m≤n))∧(∀a b:Nat,(¬a<b)=(b≤a))∧(∀a b:Nat,(¬a≤b)=(b<a))∧
  (∀(p:Prop) [Decidable p] (b:Bool),(if p then b else false)=(decide p&&b))∧(∀(p:Prop) [Decidable p] (b:Bool),(if p then true else b)=(decide p||b))∧(∀(p:Prop) [Decidable p] (b:Bool),(if p then false else b)=(!decide p&&b))∧(∀(p:Prop) [Decidable p] (b:Bool),(if p then b else true)=(!decide p||b))∧
  (∀a b:Bool,((a&&b)=true)=(a=true∧b=true))∧(∀a b:Bool,((a||b)=true)=(a=true∨b=true))∧(∀a b:Bool,((a&&b)=false)=(a=false∨b=false))∧(∀a b:Bool,((a||b)=false)=(a=false∧b=false))∧(∀(b:Bool),decide (b=true)=b):=by
 refine⟨by simp,by simp,by simp,by simp,fun _ _ _ a b=>propext beq_iff_eq,fun _ _ _ a b=>propext bne_iff_ne,fun _ _ _ a b=>propext beq_eq_false_iff_ne,fun _ _ _ a b=>propext bne_eq_false_iff_eq,by simp,by simp,by simp,by simp,by simp,by simp,by simp,by simp,by simp,by simp,by simp,by simp,by simp,by simp,by simp,by simp,by simp,by simp,by simp,by simp,by simp,by simp⟩
theorem lens:(∀n:Nat,(n:Int).toNat=n)∧(∀(α:Type) (a b:List α),(a++b).length=a.length+b.length)∧(∀(α:Type) (a:α),[a].length=1)∧(∀(α:Type) (a:α) (l:List α),(a::l).length=l.length+1)∧(∀(α:Type),([]:List α).length=0)∧(∀(α:Type) (n:Nat) (a:α),(List.replicate n a).length=n)∧
  (∀(α:Type) (l:List α) (n:Nat) (a:α),(l.set n a).length=l.length)∧(∀(α β:Type) (f:α→β) (l:List α),(l.map f).length=l.length)∧(∀(α:Type) (l:List α) (n:Nat),(l.take n).length=min n l.length)∧(∀(α:Type) (l:List α) (n:Nat),(l.drop n).length=l.length-n)∧(∀n:Nat,(List.range n).length=n):=by
 refine⟨by simp,by simp,by simp,by simp,by simp,by simp,by simp,by simp,by simp,by simp,by simp⟩
theorem ah.mk{p:Prop}{l:List Prop}(h:p)(k:ah l):ah (p::l):=⟨h,k⟩
theorem ah.nil:ah []:=True.intro
theorem bR{α:Type}(l:List α)(k:Nat)(d:α)(h:k<l.length):l.take (k+1)=l.take k++ [l.getD k d]:=by
 rw[List.take_add_one,List.getD_eq_getElem?_getD,List.getElem?_eq_getElem h];rfl
theorem bw(a:Int)(n:Nat)(h:a=n)(h2:n<9223372036854775807):IntKind.i64.wrap (a+1)=((n+1:Nat):Int):=by
 subst h;rw[IntWalk.i64_in _ (by omega)];omega
theorem BF{P:Program}{ty:Tag→Nat}{f:FuncId}{xs:List S1}{v:Value}(h:Sound ty P f xs [.a (.lit v)]){w:World}{us:List Value}(ha:aD (qt w) xs us)(hA:qJ w:=by first|assumption|exact trivial):Calls P f us.toArray w (DI w v):=by
 refine(h.2 w us hA ha).mono ?_
 rintro e w' ⟨u,fp,rfl,hb,_,f1,f2,⟨rfl,_⟩,_⟩
 exact⟨rfl,hb⟩
theorem Dv{w:World}{l:List V}{cs:List Value}{fp:List Nat}(h:aN w l cs fp):qt w (.agg l) (.agg cs.toArray):=⟨cs,fp,rfl,h⟩
theorem W.bound{P:Program}{ty:Tag→Nat}{w0:aY}{c:Code}{Q:Post}{st:St}(d:Nat){t:Tag}{l:List (T t)}(h:look st.sl d=some (.one (.a (.sl t l))))(k:l.length≤9223372036854775807→W P ty w0 c Q st):W P ty w0 c Q st:=by
 intro a w iv
 obtain⟨env,g⟩:=iv.good
 obtain⟨fp,⟨oa,cap,_,h1,h2,_⟩,_⟩:=g.slot d _ h
 have e:maxLen=9223372036854775807:=by decide
 exact k (by omega) a w iv
theorem W.cH{P:Program}{ty:Tag→Nat}{w0:aY}{c:Code}{Q:Post}{st:St}(d i:Nat){cs:List V}{t:Tag}{l:List (T t)}(h:look st.sl d=some (.one (.agg cs)))(hc:cs[i]? =some (.sl t l))(k:l.length≤9223372036854775807→W P ty w0 c Q st):W P ty w0 c Q st:=by
 intro a w iv
 obtain⟨env,g⟩:=iv.good
 obtain⟨us,_,hr⟩:=g.slot d _ h
 obtain⟨u,_,fp,⟨oa,cap,_,h1,h2,_⟩,_⟩:=hr.at hc
 have e:maxLen=9223372036854775807:=by decide
 exact k (by omega) a w iv
theorem gU{α:Type} [DecidableEq α](a b:List α)(d:α)(k:Nat)(ha:k<a.length)(hb:k<b.length)(h:a.take k=b.take k)(he:a.getD k d=b.getD k d):a.take (k+1)=b.take (k+1):=by
 rw[bR a k d ha,bR b k d hb,h,he]
theorem kj{α:Type} [BEq α] [LawfulBEq α](a b:List α)(d:α)(k:Nat)(he:a.getD k d≠b.getD k d):(a==b)=false:=by
 rw[beq_eq_false_iff_ne];rintro rfl;exact he rfl
theorem ko{α:Type} [BEq α] [LawfulBEq α](a b:List α)(k:Nat)(hk:k=a.length)(hl:a.length=b.length)(h:a.take k=b.take k):(a==b)=true:=by
 rw[List.take_of_length_le (by omega),List.take_of_length_le (by omega)]at h
 rw[h];simp
theorem mF{α:Type} [BEq α] [LawfulBEq α](a b:List α)(hl:(a.length:Int)≠b.length):(a==b)=false:=by
 rw[beq_eq_false_iff_ne];rintro rfl;exact hl rfl
theorem BG{x y:UInt8}(h:(x.toNat:Int)=y.toNat):x=y:=by
 have:x.toNat=y.toNat:=by omega
 exact UInt8.toNat_inj.1 this
end
section
def szr(left:Int)(n:Nat):Int:=if(n:Int)≤left then left-n else-1
theorem bE{l:Int}{n:Nat}(h:0≤szr l n):szr l n=l-n∧(n:Int)≤l:=by
 unfold szr at*
 split at h
 ·rename_i h1;exact⟨by rw[if_pos h1],h1⟩
 ·omega
theorem bO{l:Int}{n:Nat}(h0:0≤l)(h:szr l n<0):l<n:=by
 unfold szr at h
 split at h<;>omega
theorem dm{l:Int}{n:Nat}(h:(n:Int)≤l):szr l n=l-n:=by unfold szr;rw[if_pos h]
theorem bB{l:Int}{n:Nat}(h:l<(n:Int)):szr l n= -1:=by unfold szr;rw[if_neg (by omega)]
theorem gl{α:Type}(f:α→Nat)(l:List α)(d:α)(k:Nat)(h:k<l.length):((l.take (k+1)).map f).sum=((l.take k).map f).sum+f (l.getD k d):=
 tq l f k _ (by rw[List.getD_eq_getElem?_getD,List.getElem?_eq_getElem h];rfl)
theorem ff{α:Type}(l:List α)(d:α)(k:Nat)(h:k<l.length):(l.take k++List.replicate (l.length-k) d).set k (l.getD k d)=l.take (k+1)++List.replicate (l.length-(k+1)) d:=by
 have hk:(l.take k).length=k:=by rw[List.length_take];omega
 rw[List.set_append_right _ _ (by omega),hk,Nat.sub_self,show l.length-k=(l.length-(k+1))+1 by omega,List.replicate_succ,List.set_cons_zero,bR l k d h,List.append_assoc]
 rfl
theorem gV{α:Type}(l:List α)(d:α)(k:Nat)(h:k≤l.length):(l.take k++List.replicate (l.length-k) d).length=l.length:=by
 simp;omega
theorem Dw(x:UInt8):UInt8.ofNat (Int.toNat ((x.toNat:Nat):Int))=x:=by simp
theorem uH(n:Int):0≤IntKind.u8.wrap n∧IntKind.u8.wrap n<256:=by
 unfold IntKind.wrap
 simp only[IntKind.signed,IntKind.bits]
 simp
 omega
theorem Ka(x:UInt8):0≤((x.toNat:Nat):Int)∧((x.toNat:Nat):Int)<256:=by
 have:=x.toNat_lt
 omega
theorem G0(n:Int):(((UInt8.ofNat (IntKind.u8.wrap n).toNat).toNat:Nat):Int)=IntKind.u8.wrap n:=by
 have h:=uH n
 generalize IntKind.u8.wrap n=m at h
 simp
 omega
def fj{α:Type}(mn:α→Nat)(l:List α):Nat:=(l.map mn).sum
section
variable{α:Type}{mk:Int→α→α}{mn:α→Nat}
theorem BH(x:α)(r:List α):fj mn (x::r)=mn x+fj mn r:=by simp[fj]
end
theorem W.conv{P:Program}{ty:Tag→Nat}{zb:aY}{c:Code}{Q:Post}{st:St}(st':St)(h:st=st')(k:W P ty zb c Q st'):W P ty zb c Q st:=h▸k
end
section
set_option maxRecDepth 100000
theorem getD_some{α:Type}(l:List α)(d:α)(k:Nat)(h:k<l.length):l[k]? =some (l.getD k d):=by
 rw[List.getD_eq_getElem?_getD,List.getElem?_eq_getElem h];rfl
def ct(x:DB):Nat:=(cj List.length) x.rows
def aE(x:au):Nat:=ct x.share
def gW(x:au):Nat:=1+(fj (fj (fun _=>1))) x.share.rows
def aM(x:b9):Nat:=(cj aE) x.received
def nU(x:b9):Nat:=1+1+1+(fj gW) x.received+1
def aF(x:an):Nat:=ct x.db
def gX(x:an):Nat:=1+(fj (fj (fun _=>1))) x.db.rows
def bZ(x:fD):Nat:=(cj aF) x.rounds
def xU(x:fD):Nat:=(fj gX) x.rounds
def bu(x:dL):Nat:=(cj List.length) x.aj+(cj List.length) x.inbox
def aO(x:bH):Nat:=bu x.live+bu x.saved
def nV(x:bH):Nat:=1+1+1+1+(fj (fj (fun _=>1))) x.live.aj+1+(fj (fj (fun _=>1))) x.live.inbox+1+1+1+1+1+(fj (fj (fun _=>1))) x.saved.aj+1+(fj (fj (fun _=>1))) x.saved.inbox+1
def bq(x:cX):Nat:=(cj aM) x.aG+(cj aO) x.af+bZ x.aW+List.length x.replaced
def xV(x:cX):Nat:=(fj nU) x.aG+(fj nV) x.af+xU x.aW+(fj (fun _=>1)) x.replaced
theorem Dx{α:Type}(l:List α):fj (fun _=>1) l=l.length:=by
 induction l with
 |nil=>rfl
 |cons x r ih=>rw[BH,ih,List.length_cons];omega
theorem eg{α:Type}{mn sz:α→Nat}{C:Nat}(h: ∀e,mn e≤C*(1+sz e))(l:List α):fj mn l≤C*cj sz l:=by
 unfold cj fj
 induction l with
 |nil=>simp
 |cons x r ih=>
  simp only[List.map_cons,List.sum_cons,List.length_cons]
  have:=h x
  have e:C*(r.length+1+(sz x+(r.map sz).sum))=C*(1+sz x)+C*(r.length+(r.map sz).sum):=by rw[←Nat.mul_add];congr 1;omega
  omega
theorem gY{α:Type}(l:List α):fj (fun _=>1) l≤32*List.length l:=by rw[Dx];omega
theorem qw(x:au):gW x≤32*(1+aE x):=by
 have h0:(fj (fj (fun _=>1))) x.share.rows≤32*(cj List.length) x.share.rows:=eg (C:=32) (sz:=List.length) (fun e=>by have:(fj (fun _=>1)) e≤32*List.length e:=gY e;omega) x.share.rows
 simp only[gW,aE,ct]
 omega
theorem wK(x:b9):nU x≤32*(1+aM x):=by
 have h0:(fj gW) x.received≤32*(cj aE) x.received:=eg (C:=32) (sz:=aE) qw x.received
 simp only[nU,aM]
 omega
theorem qx(x:an):gX x≤32*(1+aF x):=by
 have h0:(fj (fj (fun _=>1))) x.db.rows≤32*(cj List.length) x.db.rows:=eg (C:=32) (sz:=List.length) (fun e=>by have:(fj (fun _=>1)) e≤32*List.length e:=gY e;omega) x.db.rows
 simp only[gX,aF,ct]
 omega
theorem wL(x:bH):nV x≤32*(1+aO x):=by
 have h0:(fj (fj (fun _=>1))) x.live.aj≤32*(cj List.length) x.live.aj:=eg (C:=32) (sz:=List.length) (fun e=>by have:(fj (fun _=>1)) e≤32*List.length e:=gY e;omega) x.live.aj
 have h1:(fj (fj (fun _=>1))) x.live.inbox≤32*(cj List.length) x.live.inbox:=eg (C:=32) (sz:=List.length) (fun e=>by have:(fj (fun _=>1)) e≤32*List.length e:=gY e;omega) x.live.inbox
 have h2:(fj (fj (fun _=>1))) x.saved.aj≤32*(cj List.length) x.saved.aj:=eg (C:=32) (sz:=List.length) (fun e=>by have:(fj (fun _=>1)) e≤32*List.length e:=gY e;omega) x.saved.aj
 have h3:(fj (fj (fun _=>1))) x.saved.inbox≤32*(cj List.length) x.saved.inbox:=eg (C:=32) (sz:=List.length) (fun e=>by have:(fj (fun _=>1)) e≤32*List.length e:=gY e;omega) x.saved.inbox
 simp only[nV,aO,bu]
 omega
theorem wM(x:cX):xV x≤32*bq x:=by
 have h0:(fj nU) x.aG≤32*(cj aM) x.aG:=eg (C:=32) (sz:=aM) wK x.aG
 have h1:(fj nV) x.af≤32*(cj aO) x.af:=eg (C:=32) (sz:=aO) wL x.af
 have h2:(fj gX) x.aW.rounds≤32*(cj aF) x.aW.rounds:=eg (C:=32) (sz:=aF) qx x.aW.rounds
 have h3:(fj (fun _=>1)) x.replaced≤32*List.length x.replaced:=gY x.replaced
 simp only[xV,xU,bq,bZ]
 omega
end
section
set_option maxRecDepth 100000
theorem ze(l:(List UInt8))(left:Int)(h0:0≤left)(h1:left≤1048576):Sound ty Tryz.prog 429 [.a (.sl .u8 l), .a (.lit (.int .i64 left))] [.a (.lit (.int .i64 (szr left (List.length l))))]:=by
 refine Sound.o X Tryz.call429 Tryz.func429 Tryz.ntmps429 rfl rfl ?_
 intro zb
 refine W.bound 0 rfl fun hl=> ?_
 refine W.s0 X [0,1] rfl ⟨⟩ ?_
 refine W.s0 X [1] rfl ⟨⟩ ?_
 rw[IntWalk.i64_in (left-(l.length:Nat)) (by omega)]
 refine W.seq ?_
 refine W.s0 X [1,10] rfl ⟨⟩ ?_
 refine W.cond rfl (fun hb0=> ?_) (fun hb0=> ?_)
 ·try simp only[nb]at hb0
  refine W.s0 X [4] rfl ⟨⟩ ?_
  refine W.ret ?_
  exact Fin.ret rfl ⟨by rw[bB (by omega)],⟨⟩⟩
 ·try simp only[nb]at hb0
  refine W.skip ?_
  refine W.s0 X [4] rfl ⟨⟩ ?_
  refine W.ret ?_
  exact Fin.ret rfl ⟨by rw[dm (by omega)],⟨⟩⟩
theorem kq(l:(List (List UInt8)))(left:Int)(h0:0≤left)(h1:left≤1048576):Sound ty Tryz.prog 409 [.a (.sl (.sl .u8) l), .a (.lit (.int .i64 left))] [.a (.lit (.int .i64 (szr left ((cj List.length) l))))]:=by
 refine Sound.o X Tryz.call409 Tryz.func409 Tryz.ntmps409 rfl rfl ?_
 intro zb
 refine W.bound 0 rfl fun hl=> ?_
 refine W.s0 X [0,1] rfl ⟨⟩ ?_
 refine W.s0 X [0,1] rfl ⟨⟩ ?_
 rw[IntWalk.i64_in (left-(l.length:Nat)) (by omega)]
 refine W.seq ?_
 refine W.s0 X [0,1,11] rfl ⟨⟩ ?_
 refine W.cond rfl (fun hb0=> ?_) (fun hb0=> ?_)
 ·try simp only[nb]at hb0
  refine W.s0 X [4] rfl ⟨⟩ ?_
  refine W.ret ?_
  exact Fin.ret rfl ⟨by rw[bB (by unfold cj;omega)],⟨⟩⟩
 ·try simp only[nb]at hb0
  refine W.skip ?_
  refine W.seq ?_
  refine W.s0 X [0,1,5] rfl ⟨⟩ ?_
  refine W.block ?_
  refine W.aV (fun k=>k≤l.length∧(l.length:Int)+(((l.take k).map List.length).sum:Nat)≤left) (fun k:Nat=> [(1, .one (.a (.lit (.int .i64 (left-(l.length:Nat)-(((l.take k).map List.length).sum:Nat)))))),(5, .one (.a (.lit (.int .i64 k))))]) (fun k=> []) (fun k=>l.length-k) 0 (fun k=>rfl) ⟨Nat.zero_le _,by simp;omega⟩ (by simp) ?_
  rintro k ⟨hk,hs⟩
  refine W.seq ?_
  refine W.s0 X [0,1,5,15] rfl ⟨⟩ ?_
  refine W.cond rfl (fun aL=> ?_) (fun aL=> ?_)
  ·try simp only[nb]at aL
   have Dy:=gl List.length l (aK (.sl .u8)) k aL
   have hle:=bS l List.length (k+1)
   refine W.skip ?_
   refine W.seq ?_
   refine W.block ?_
   refine W.sr X [] [(23,⟨false,[.a (.lit (.int .i64 (szr (left-(l.length:Nat)-(((l.take k).map List.length).sum:Nat)) (List.length (l.getD k (aK (.sl .u8)))))))]⟩)] [0,1,5] [] rfl ⟨ze (l.getD k (aK (.sl .u8))) _ (by omega) (by omega),by omega,⟨⟩⟩ ?_
   refine W.s0 X [0,1,5,25] rfl ⟨⟩ ?_
   refine W.cond rfl (fun aU=> ?_) (fun aU=> ?_)
   ·try simp only[nb]at aU
    have hn:=bO (by omega) aU
    refine W.s0 X [4] rfl ⟨⟩ ?_
    refine W.ret ?_
    exact Fin.ret rfl ⟨by rw[bB (by unfold cj;omega)],⟨⟩⟩
   ·try simp only[nb]at aU
    obtain⟨e2,e3⟩:=bE aU
    rw[e2]
    refine W.skip ?_
    refine W.r0 X [0,1,5] rfl ⟨⟩ ?_
    refine⟨k+1,⟨by omega,by omega⟩,by omega,?_⟩
    rw[bw _ k rfl (by omega),show left-(l.length:Nat)-(((l.take k).map List.length).sum:Nat)-(List.length (l.getD k (aK (.sl .u8))):Nat)=left-(l.length:Nat)-(((l.take (k+1)).map List.length).sum:Nat)by omega]
  ·try simp only[nb]at aL
   refine W.exit ?_
   refine W.s0 X [4] rfl ⟨⟩ ?_
   refine W.ret ?_
   have hf:l.take k=l:=List.take_of_length_le (by omega)
   rw[hf]at hs
   exact Fin.ret rfl ⟨by rw[hf,dm (by unfold cj;omega)];congr 1;unfold cj;omega,⟨⟩⟩
theorem lF(x:DB)(left:Int)(h0:0≤left)(h1:left≤1048576):Sound ty Tryz.prog 410 [.agg (dA x), .a (.lit (.int .i64 left))] [.a (.lit (.int .i64 (szr left (ct x))))]:=by
 refine Sound.o X Tryz.call410 Tryz.func410 Tryz.ntmps410 rfl rfl ?_
 intro zb
 refine W.s0 X [1,2] rfl ⟨⟩ ?_
 refine W.sr X [] [(8,⟨false,[.a (.lit (.int .i64 (szr (left) ((cj List.length) x.rows))))]⟩)] [1] [] rfl ⟨kq x.rows (left) (by omega) (by omega),⟨⟩⟩ ?_
 refine W.seq ?_
 refine W.s0 X [1,10] rfl ⟨⟩ ?_
 refine W.cond rfl (fun hb0=> ?_) (fun hb0=> ?_)
 ·try simp only[nb]at hb0
  refine W.s0 X [4] rfl ⟨⟩ ?_
  refine W.ret ?_
  exact Fin.ret rfl ⟨by rw[bB (by have:=bO (by omega) hb0;unfold ct;omega)],⟨⟩⟩
 ·try simp only[nb]at hb0
  obtain⟨e0,D3⟩:=bE hb0
  rw[e0]
  refine W.skip ?_
  refine W.s0 X [4] rfl ⟨⟩ ?_
  refine W.ret ?_
  exact Fin.ret rfl ⟨by rw[dm (by unfold ct;omega)];first|done| (congr 1;done)| (congr 1;unfold ct;omega),⟨⟩⟩
theorem lG(x:an)(left:Int)(h0:0≤left)(h1:left≤1048576):Sound ty Tryz.prog 369 [.agg (cq x), .a (.lit (.int .i64 left))] [.a (.lit (.int .i64 (szr left (aF x))))]:=by
 refine Sound.o X Tryz.call369 Tryz.func369 Tryz.ntmps369 rfl rfl ?_
 intro zb
 refine W.s0 X [1,2] rfl ⟨⟩ ?_
 refine W.sr X [] [(8,⟨false,[.a (.lit (.int .i64 (szr (left) (ct x.db))))]⟩)] [1] [] rfl ⟨lF x.db (left) (by omega) (by omega),⟨⟩⟩ ?_
 refine W.seq ?_
 refine W.s0 X [1,10] rfl ⟨⟩ ?_
 refine W.cond rfl (fun hb0=> ?_) (fun hb0=> ?_)
 ·try simp only[nb]at hb0
  refine W.s0 X [4] rfl ⟨⟩ ?_
  refine W.ret ?_
  exact Fin.ret rfl ⟨by rw[bB (by have:=bO (by omega) hb0;unfold aF;omega)],⟨⟩⟩
 ·try simp only[nb]at hb0
  obtain⟨e0,D3⟩:=bE hb0
  rw[e0]
  refine W.skip ?_
  refine W.s0 X [4] rfl ⟨⟩ ?_
  refine W.ret ?_
  exact Fin.ret rfl ⟨by rw[dm (by unfold aF;omega)];first|done| (congr 1;done)| (congr 1;unfold aF;omega),⟨⟩⟩
theorem kr(l:(List an))(left:Int)(h0:0≤left)(h1:left≤1048576):Sound ty Tryz.prog 300 [.a (.sl .an l), .a (.lit (.int .i64 left))] [.a (.lit (.int .i64 (szr left ((cj aF) l))))]:=by
 refine Sound.o X Tryz.call300 Tryz.func300 Tryz.ntmps300 rfl rfl ?_
 intro zb
 refine W.bound 0 rfl fun hl=> ?_
 refine W.s0 X [0,1] rfl ⟨⟩ ?_
 refine W.s0 X [0,1] rfl ⟨⟩ ?_
 rw[IntWalk.i64_in (left-(l.length:Nat)) (by omega)]
 refine W.seq ?_
 refine W.s0 X [0,1,11] rfl ⟨⟩ ?_
 refine W.cond rfl (fun hb0=> ?_) (fun hb0=> ?_)
 ·try simp only[nb]at hb0
  refine W.s0 X [4] rfl ⟨⟩ ?_
  refine W.ret ?_
  exact Fin.ret rfl ⟨by rw[bB (by unfold cj;omega)],⟨⟩⟩
 ·try simp only[nb]at hb0
  refine W.skip ?_
  refine W.seq ?_
  refine W.s0 X [0,1,5] rfl ⟨⟩ ?_
  refine W.block ?_
  refine W.aV (fun k=>k≤l.length∧(l.length:Int)+(((l.take k).map aF).sum:Nat)≤left) (fun k:Nat=> [(1, .one (.a (.lit (.int .i64 (left-(l.length:Nat)-(((l.take k).map aF).sum:Nat)))))),(5, .one (.a (.lit (.int .i64 k))))]) (fun k=> []) (fun k=>l.length-k) 0 (fun k=>rfl) ⟨Nat.zero_le _,by simp;omega⟩ (by simp) ?_
  rintro k ⟨hk,hs⟩
  refine W.seq ?_
  refine W.s0 X [0,1,5,15] rfl ⟨⟩ ?_
  refine W.cond rfl (fun aL=> ?_) (fun aL=> ?_)
  ·try simp only[nb]at aL
   have Dy:=gl aF l (aK .an) k aL
   have hle:=bS l aF (k+1)
   refine W.skip ?_
   refine W.seq ?_
   refine W.block ?_
   refine W.sr X [] [(23,⟨false,[.a (.lit (.int .i64 (szr (left-(l.length:Nat)-(((l.take k).map aF).sum:Nat)) (aF (l.getD k (aK .an))))))]⟩)] [0,1,5] [] rfl ⟨lG (l.getD k (aK .an)) _ (by omega) (by omega),by omega,⟨⟩⟩ ?_
   refine W.s0 X [0,1,5,25] rfl ⟨⟩ ?_
   refine W.cond rfl (fun aU=> ?_) (fun aU=> ?_)
   ·try simp only[nb]at aU
    have hn:=bO (by omega) aU
    refine W.s0 X [4] rfl ⟨⟩ ?_
    refine W.ret ?_
    exact Fin.ret rfl ⟨by rw[bB (by unfold cj;omega)],⟨⟩⟩
   ·try simp only[nb]at aU
    obtain⟨e2,e3⟩:=bE aU
    rw[e2]
    refine W.skip ?_
    refine W.r0 X [0,1,5] rfl ⟨⟩ ?_
    refine⟨k+1,⟨by omega,by omega⟩,by omega,?_⟩
    rw[bw _ k rfl (by omega),show left-(l.length:Nat)-(((l.take k).map aF).sum:Nat)-(aF (l.getD k (aK .an)):Nat)=left-(l.length:Nat)-(((l.take (k+1)).map aF).sum:Nat)by omega]
  ·try simp only[nb]at aL
   refine W.exit ?_
   refine W.s0 X [4] rfl ⟨⟩ ?_
   refine W.ret ?_
   have hf:l.take k=l:=List.take_of_length_le (by omega)
   rw[hf]at hs
   exact Fin.ret rfl ⟨by rw[hf,dm (by unfold cj;omega)];congr 1;unfold cj;omega,⟨⟩⟩
theorem uI(x:fD)(left:Int)(h0:0≤left)(h1:left≤1048576):Sound ty Tryz.prog 193 [.agg (cA x), .a (.lit (.int .i64 left))] [.a (.lit (.int .i64 (szr left (bZ x))))]:=by
 refine Sound.o X Tryz.call193 Tryz.func193 Tryz.ntmps193 rfl rfl ?_
 intro zb
 refine W.s0 X [1,2] rfl ⟨⟩ ?_
 refine W.sr X [] [(8,⟨false,[.a (.lit (.int .i64 (szr (left) ((cj aF) x.rounds))))]⟩)] [1] [] rfl ⟨kr x.rounds (left) (by omega) (by omega),⟨⟩⟩ ?_
 refine W.seq ?_
 refine W.s0 X [1,10] rfl ⟨⟩ ?_
 refine W.cond rfl (fun hb0=> ?_) (fun hb0=> ?_)
 ·try simp only[nb]at hb0
  refine W.s0 X [4] rfl ⟨⟩ ?_
  refine W.ret ?_
  exact Fin.ret rfl ⟨by rw[bB (by have:=bO (by omega) hb0;unfold bZ;omega)],⟨⟩⟩
 ·try simp only[nb]at hb0
  obtain⟨e0,D3⟩:=bE hb0
  rw[e0]
  refine W.skip ?_
  refine W.s0 X [4] rfl ⟨⟩ ?_
  refine W.ret ?_
  exact Fin.ret rfl ⟨by rw[dm (by unfold bZ;omega)];first|done| (congr 1;done)| (congr 1;unfold bZ;omega),⟨⟩⟩
theorem pS(x:dL)(left:Int)(h0:0≤left)(h1:left≤1048576):Sound ty Tryz.prog 368 [.agg (bl x), .a (.lit (.int .i64 left))] [.a (.lit (.int .i64 (szr left (bu x))))]:=by
 refine Sound.o X Tryz.call368 Tryz.func368 Tryz.ntmps368 rfl rfl ?_
 intro zb
 refine W.s0 X [1,2] rfl ⟨⟩ ?_
 refine W.sr X [] [(8,⟨false,[.a (.lit (.int .i64 (szr (left) ((cj List.length) x.aj))))]⟩)] [1,2] [] rfl ⟨kq x.aj (left) (by omega) (by omega),⟨⟩⟩ ?_
 refine W.seq ?_
 refine W.s0 X [1,2,10] rfl ⟨⟩ ?_
 refine W.cond rfl (fun hb0=> ?_) (fun hb0=> ?_)
 ·try simp only[nb]at hb0
  refine W.s0 X [4] rfl ⟨⟩ ?_
  refine W.ret ?_
  exact Fin.ret rfl ⟨by rw[bB (by have:=bO (by omega) hb0;unfold bu;omega)],⟨⟩⟩
 ·try simp only[nb]at hb0
  obtain⟨e0,D3⟩:=bE hb0
  rw[e0]
  refine W.skip ?_
  refine W.sr X [] [(14,⟨false,[.a (.lit (.int .i64 (szr (left-(((cj List.length) x.aj):Nat)) ((cj List.length) x.inbox))))]⟩)] [1] [] rfl ⟨kq x.inbox (left-(((cj List.length) x.aj):Nat)) (by omega) (by omega),⟨⟩⟩ ?_
  refine W.seq ?_
  refine W.s0 X [1,16] rfl ⟨⟩ ?_
  refine W.cond rfl (fun aL=> ?_) (fun aL=> ?_)
  ·try simp only[nb]at aL
   refine W.s0 X [4] rfl ⟨⟩ ?_
   refine W.ret ?_
   exact Fin.ret rfl ⟨by rw[bB (by have:=bO (by omega) aL;unfold bu;omega)],⟨⟩⟩
  ·try simp only[nb]at aL
   obtain⟨e1,Jb⟩:=bE aL
   rw[e1]
   refine W.skip ?_
   refine W.s0 X [4] rfl ⟨⟩ ?_
   refine W.ret ?_
   exact Fin.ret rfl ⟨by rw[dm (by unfold bu;omega)];first|done| (congr 1;done)| (congr 1;unfold bu;omega),⟨⟩⟩
theorem wN(x:bH)(left:Int)(h0:0≤left)(h1:left≤1048576):Sound ty Tryz.prog 299 [.agg (dD x), .a (.lit (.int .i64 left))] [.a (.lit (.int .i64 (szr left (aO x))))]:=by
 refine Sound.o X Tryz.call299 Tryz.func299 Tryz.ntmps299 rfl rfl ?_
 intro zb
 refine W.s0 X [1,2] rfl ⟨⟩ ?_
 refine W.sr X [] [(8,⟨false,[.a (.lit (.int .i64 (szr (left) (bu x.live))))]⟩)] [1,2] [] rfl ⟨pS x.live (left) (by omega) (by omega),⟨⟩⟩ ?_
 refine W.seq ?_
 refine W.s0 X [1,2,10] rfl ⟨⟩ ?_
 refine W.cond rfl (fun hb0=> ?_) (fun hb0=> ?_)
 ·try simp only[nb]at hb0
  refine W.s0 X [4] rfl ⟨⟩ ?_
  refine W.ret ?_
  exact Fin.ret rfl ⟨by rw[bB (by have:=bO (by omega) hb0;unfold aO;omega)],⟨⟩⟩
 ·try simp only[nb]at hb0
  obtain⟨e0,D3⟩:=bE hb0
  rw[e0]
  refine W.skip ?_
  refine W.sr X [] [(14,⟨false,[.a (.lit (.int .i64 (szr (left-((bu x.live):Nat)) (bu x.saved))))]⟩)] [1] [] rfl ⟨pS x.saved (left-((bu x.live):Nat)) (by omega) (by omega),⟨⟩⟩ ?_
  refine W.seq ?_
  refine W.s0 X [1,16] rfl ⟨⟩ ?_
  refine W.cond rfl (fun aL=> ?_) (fun aL=> ?_)
  ·try simp only[nb]at aL
   refine W.s0 X [4] rfl ⟨⟩ ?_
   refine W.ret ?_
   exact Fin.ret rfl ⟨by rw[bB (by have:=bO (by omega) aL;unfold aO;omega)],⟨⟩⟩
  ·try simp only[nb]at aL
   obtain⟨e1,Jb⟩:=bE aL
   rw[e1]
   refine W.skip ?_
   refine W.s0 X [4] rfl ⟨⟩ ?_
   refine W.ret ?_
   exact Fin.ret rfl ⟨by rw[dm (by unfold aO;omega)];first|done| (congr 1;done)| (congr 1;unfold aO;omega),⟨⟩⟩
theorem uJ(l:(List bH))(left:Int)(h0:0≤left)(h1:left≤1048576):Sound ty Tryz.prog 192 [.a (.sl .bH l), .a (.lit (.int .i64 left))] [.a (.lit (.int .i64 (szr left ((cj aO) l))))]:=by
 refine Sound.o X Tryz.call192 Tryz.func192 Tryz.ntmps192 rfl rfl ?_
 intro zb
 refine W.bound 0 rfl fun hl=> ?_
 refine W.s0 X [0,1] rfl ⟨⟩ ?_
 refine W.s0 X [0,1] rfl ⟨⟩ ?_
 rw[IntWalk.i64_in (left-(l.length:Nat)) (by omega)]
 refine W.seq ?_
 refine W.s0 X [0,1,11] rfl ⟨⟩ ?_
 refine W.cond rfl (fun hb0=> ?_) (fun hb0=> ?_)
 ·try simp only[nb]at hb0
  refine W.s0 X [4] rfl ⟨⟩ ?_
  refine W.ret ?_
  exact Fin.ret rfl ⟨by rw[bB (by unfold cj;omega)],⟨⟩⟩
 ·try simp only[nb]at hb0
  refine W.skip ?_
  refine W.seq ?_
  refine W.s0 X [0,1,5] rfl ⟨⟩ ?_
  refine W.block ?_
  refine W.aV (fun k=>k≤l.length∧(l.length:Int)+(((l.take k).map aO).sum:Nat)≤left) (fun k:Nat=> [(1, .one (.a (.lit (.int .i64 (left-(l.length:Nat)-(((l.take k).map aO).sum:Nat)))))),(5, .one (.a (.lit (.int .i64 k))))]) (fun k=> []) (fun k=>l.length-k) 0 (fun k=>rfl) ⟨Nat.zero_le _,by simp;omega⟩ (by simp) ?_
  rintro k ⟨hk,hs⟩
  refine W.seq ?_
  refine W.s0 X [0,1,5,15] rfl ⟨⟩ ?_
  refine W.cond rfl (fun aL=> ?_) (fun aL=> ?_)
  ·try simp only[nb]at aL
   have Dy:=gl aO l (aK .bH) k aL
   have hle:=bS l aO (k+1)
   refine W.skip ?_
   refine W.seq ?_
   refine W.block ?_
   refine W.sr X [] [(23,⟨false,[.a (.lit (.int .i64 (szr (left-(l.length:Nat)-(((l.take k).map aO).sum:Nat)) (aO (l.getD k (aK .bH))))))]⟩)] [0,1,5] [] rfl ⟨wN (l.getD k (aK .bH)) _ (by omega) (by omega),by omega,⟨⟩⟩ ?_
   refine W.s0 X [0,1,5,25] rfl ⟨⟩ ?_
   refine W.cond rfl (fun aU=> ?_) (fun aU=> ?_)
   ·try simp only[nb]at aU
    have hn:=bO (by omega) aU
    refine W.s0 X [4] rfl ⟨⟩ ?_
    refine W.ret ?_
    exact Fin.ret rfl ⟨by rw[bB (by unfold cj;omega)],⟨⟩⟩
   ·try simp only[nb]at aU
    obtain⟨e2,e3⟩:=bE aU
    rw[e2]
    refine W.skip ?_
    refine W.r0 X [0,1,5] rfl ⟨⟩ ?_
    refine⟨k+1,⟨by omega,by omega⟩,by omega,?_⟩
    rw[bw _ k rfl (by omega),show left-(l.length:Nat)-(((l.take k).map aO).sum:Nat)-(aO (l.getD k (aK .bH)):Nat)=left-(l.length:Nat)-(((l.take (k+1)).map aO).sum:Nat)by omega]
  ·try simp only[nb]at aL
   refine W.exit ?_
   refine W.s0 X [4] rfl ⟨⟩ ?_
   refine W.ret ?_
   have hf:l.take k=l:=List.take_of_length_le (by omega)
   rw[hf]at hs
   exact Fin.ret rfl ⟨by rw[hf,dm (by unfold cj;omega)];congr 1;unfold cj;omega,⟨⟩⟩
theorem BI(l:(List Int))(left:Int)(h0:0≤left)(h1:left≤1048576):Sound ty Tryz.prog 194 [.a (.sl .int l), .a (.lit (.int .i64 left))] [.a (.lit (.int .i64 (szr left (List.length l))))]:=by
 refine Sound.o X Tryz.call194 Tryz.func194 Tryz.ntmps194 rfl rfl ?_
 intro zb
 refine W.bound 0 rfl fun hl=> ?_
 refine W.s0 X [0,1] rfl ⟨⟩ ?_
 refine W.s0 X [1] rfl ⟨⟩ ?_
 rw[IntWalk.i64_in (left-(l.length:Nat)) (by omega)]
 refine W.seq ?_
 refine W.s0 X [1,10] rfl ⟨⟩ ?_
 refine W.cond rfl (fun hb0=> ?_) (fun hb0=> ?_)
 ·try simp only[nb]at hb0
  refine W.s0 X [4] rfl ⟨⟩ ?_
  refine W.ret ?_
  exact Fin.ret rfl ⟨by rw[bB (by omega)],⟨⟩⟩
 ·try simp only[nb]at hb0
  refine W.skip ?_
  refine W.s0 X [4] rfl ⟨⟩ ?_
  refine W.ret ?_
  exact Fin.ret rfl ⟨by rw[dm (by omega)],⟨⟩⟩
theorem lH(x:au)(left:Int)(h0:0≤left)(h1:left≤1048576):Sound ty Tryz.prog 408 [.agg (cm x), .a (.lit (.int .i64 left))] [.a (.lit (.int .i64 (szr left (aE x))))]:=by
 refine Sound.o X Tryz.call408 Tryz.func408 Tryz.ntmps408 rfl rfl ?_
 intro zb
 refine W.s0 X [1,2] rfl ⟨⟩ ?_
 refine W.sr X [] [(8,⟨false,[.a (.lit (.int .i64 (szr (left) (ct x.share))))]⟩)] [1] [] rfl ⟨lF x.share (left) (by omega) (by omega),⟨⟩⟩ ?_
 refine W.seq ?_
 refine W.s0 X [1,10] rfl ⟨⟩ ?_
 refine W.cond rfl (fun hb0=> ?_) (fun hb0=> ?_)
 ·try simp only[nb]at hb0
  refine W.s0 X [4] rfl ⟨⟩ ?_
  refine W.ret ?_
  exact Fin.ret rfl ⟨by rw[bB (by have:=bO (by omega) hb0;unfold aE;omega)],⟨⟩⟩
 ·try simp only[nb]at hb0
  obtain⟨e0,D3⟩:=bE hb0
  rw[e0]
  refine W.skip ?_
  refine W.s0 X [4] rfl ⟨⟩ ?_
  refine W.ret ?_
  exact Fin.ret rfl ⟨by rw[dm (by unfold aE;omega)];first|done| (congr 1;done)| (congr 1;unfold aE;omega),⟨⟩⟩
theorem ku(l:(List au))(left:Int)(h0:0≤left)(h1:left≤1048576):Sound ty Tryz.prog 367 [.a (.sl .au l), .a (.lit (.int .i64 left))] [.a (.lit (.int .i64 (szr left ((cj aE) l))))]:=by
 refine Sound.o X Tryz.call367 Tryz.func367 Tryz.ntmps367 rfl rfl ?_
 intro zb
 refine W.bound 0 rfl fun hl=> ?_
 refine W.s0 X [0,1] rfl ⟨⟩ ?_
 refine W.s0 X [0,1] rfl ⟨⟩ ?_
 rw[IntWalk.i64_in (left-(l.length:Nat)) (by omega)]
 refine W.seq ?_
 refine W.s0 X [0,1,11] rfl ⟨⟩ ?_
 refine W.cond rfl (fun hb0=> ?_) (fun hb0=> ?_)
 ·try simp only[nb]at hb0
  refine W.s0 X [4] rfl ⟨⟩ ?_
  refine W.ret ?_
  exact Fin.ret rfl ⟨by rw[bB (by unfold cj;omega)],⟨⟩⟩
 ·try simp only[nb]at hb0
  refine W.skip ?_
  refine W.seq ?_
  refine W.s0 X [0,1,5] rfl ⟨⟩ ?_
  refine W.block ?_
  refine W.aV (fun k=>k≤l.length∧(l.length:Int)+(((l.take k).map aE).sum:Nat)≤left) (fun k:Nat=> [(1, .one (.a (.lit (.int .i64 (left-(l.length:Nat)-(((l.take k).map aE).sum:Nat)))))),(5, .one (.a (.lit (.int .i64 k))))]) (fun k=> []) (fun k=>l.length-k) 0 (fun k=>rfl) ⟨Nat.zero_le _,by simp;omega⟩ (by simp) ?_
  rintro k ⟨hk,hs⟩
  refine W.seq ?_
  refine W.s0 X [0,1,5,15] rfl ⟨⟩ ?_
  refine W.cond rfl (fun aL=> ?_) (fun aL=> ?_)
  ·try simp only[nb]at aL
   have Dy:=gl aE l (aK .au) k aL
   have hle:=bS l aE (k+1)
   refine W.skip ?_
   refine W.seq ?_
   refine W.block ?_
   refine W.sr X [] [(23,⟨false,[.a (.lit (.int .i64 (szr (left-(l.length:Nat)-(((l.take k).map aE).sum:Nat)) (aE (l.getD k (aK .au))))))]⟩)] [0,1,5] [] rfl ⟨lH (l.getD k (aK .au)) _ (by omega) (by omega),by omega,⟨⟩⟩ ?_
   refine W.s0 X [0,1,5,25] rfl ⟨⟩ ?_
   refine W.cond rfl (fun aU=> ?_) (fun aU=> ?_)
   ·try simp only[nb]at aU
    have hn:=bO (by omega) aU
    refine W.s0 X [4] rfl ⟨⟩ ?_
    refine W.ret ?_
    exact Fin.ret rfl ⟨by rw[bB (by unfold cj;omega)],⟨⟩⟩
   ·try simp only[nb]at aU
    obtain⟨e2,e3⟩:=bE aU
    rw[e2]
    refine W.skip ?_
    refine W.r0 X [0,1,5] rfl ⟨⟩ ?_
    refine⟨k+1,⟨by omega,by omega⟩,by omega,?_⟩
    rw[bw _ k rfl (by omega),show left-(l.length:Nat)-(((l.take k).map aE).sum:Nat)-(aE (l.getD k (aK .au)):Nat)=left-(l.length:Nat)-(((l.take (k+1)).map aE).sum:Nat)by omega]
  ·try simp only[nb]at aL
   refine W.exit ?_
   refine W.s0 X [4] rfl ⟨⟩ ?_
   refine W.ret ?_
   have hf:l.take k=l:=List.take_of_length_le (by omega)
   rw[hf]at hs
   exact Fin.ret rfl ⟨by rw[hf,dm (by unfold cj;omega)];congr 1;unfold cj;omega,⟨⟩⟩
theorem wO(x:b9)(left:Int)(h0:0≤left)(h1:left≤1048576):Sound ty Tryz.prog 298 [.agg (dB x), .a (.lit (.int .i64 left))] [.a (.lit (.int .i64 (szr left (aM x))))]:=by
 refine Sound.o X Tryz.call298 Tryz.func298 Tryz.ntmps298 rfl rfl ?_
 intro zb
 refine W.s0 X [1,2] rfl ⟨⟩ ?_
 refine W.sr X [] [(8,⟨false,[.a (.lit (.int .i64 (szr (left) ((cj aE) x.received))))]⟩)] [1] [] rfl ⟨ku x.received (left) (by omega) (by omega),⟨⟩⟩ ?_
 refine W.seq ?_
 refine W.s0 X [1,10] rfl ⟨⟩ ?_
 refine W.cond rfl (fun hb0=> ?_) (fun hb0=> ?_)
 ·try simp only[nb]at hb0
  refine W.s0 X [4] rfl ⟨⟩ ?_
  refine W.ret ?_
  exact Fin.ret rfl ⟨by rw[bB (by have:=bO (by omega) hb0;unfold aM;omega)],⟨⟩⟩
 ·try simp only[nb]at hb0
  obtain⟨e0,D3⟩:=bE hb0
  rw[e0]
  refine W.skip ?_
  refine W.s0 X [4] rfl ⟨⟩ ?_
  refine W.ret ?_
  exact Fin.ret rfl ⟨by rw[dm (by unfold aM;omega)];first|done| (congr 1;done)| (congr 1;unfold aM;omega),⟨⟩⟩
theorem uK(l:(List b9))(left:Int)(h0:0≤left)(h1:left≤1048576):Sound ty Tryz.prog 191 [.a (.sl .b9 l), .a (.lit (.int .i64 left))] [.a (.lit (.int .i64 (szr left ((cj aM) l))))]:=by
 refine Sound.o X Tryz.call191 Tryz.func191 Tryz.ntmps191 rfl rfl ?_
 intro zb
 refine W.bound 0 rfl fun hl=> ?_
 refine W.s0 X [0,1] rfl ⟨⟩ ?_
 refine W.s0 X [0,1] rfl ⟨⟩ ?_
 rw[IntWalk.i64_in (left-(l.length:Nat)) (by omega)]
 refine W.seq ?_
 refine W.s0 X [0,1,11] rfl ⟨⟩ ?_
 refine W.cond rfl (fun hb0=> ?_) (fun hb0=> ?_)
 ·try simp only[nb]at hb0
  refine W.s0 X [4] rfl ⟨⟩ ?_
  refine W.ret ?_
  exact Fin.ret rfl ⟨by rw[bB (by unfold cj;omega)],⟨⟩⟩
 ·try simp only[nb]at hb0
  refine W.skip ?_
  refine W.seq ?_
  refine W.s0 X [0,1,5] rfl ⟨⟩ ?_
  refine W.block ?_
  refine W.aV (fun k=>k≤l.length∧(l.length:Int)+(((l.take k).map aM).sum:Nat)≤left) (fun k:Nat=> [(1, .one (.a (.lit (.int .i64 (left-(l.length:Nat)-(((l.take k).map aM).sum:Nat)))))),(5, .one (.a (.lit (.int .i64 k))))]) (fun k=> []) (fun k=>l.length-k) 0 (fun k=>rfl) ⟨Nat.zero_le _,by simp;omega⟩ (by simp) ?_
  rintro k ⟨hk,hs⟩
  refine W.seq ?_
  refine W.s0 X [0,1,5,15] rfl ⟨⟩ ?_
  refine W.cond rfl (fun aL=> ?_) (fun aL=> ?_)
  ·try simp only[nb]at aL
   have Dy:=gl aM l (aK .b9) k aL
   have hle:=bS l aM (k+1)
   refine W.skip ?_
   refine W.seq ?_
   refine W.block ?_
   refine W.sr X [] [(23,⟨false,[.a (.lit (.int .i64 (szr (left-(l.length:Nat)-(((l.take k).map aM).sum:Nat)) (aM (l.getD k (aK .b9))))))]⟩)] [0,1,5] [] rfl ⟨wO (l.getD k (aK .b9)) _ (by omega) (by omega),by omega,⟨⟩⟩ ?_
   refine W.s0 X [0,1,5,25] rfl ⟨⟩ ?_
   refine W.cond rfl (fun aU=> ?_) (fun aU=> ?_)
   ·try simp only[nb]at aU
    have hn:=bO (by omega) aU
    refine W.s0 X [4] rfl ⟨⟩ ?_
    refine W.ret ?_
    exact Fin.ret rfl ⟨by rw[bB (by unfold cj;omega)],⟨⟩⟩
   ·try simp only[nb]at aU
    obtain⟨e2,e3⟩:=bE aU
    rw[e2]
    refine W.skip ?_
    refine W.r0 X [0,1,5] rfl ⟨⟩ ?_
    refine⟨k+1,⟨by omega,by omega⟩,by omega,?_⟩
    rw[bw _ k rfl (by omega),show left-(l.length:Nat)-(((l.take k).map aM).sum:Nat)-(aM (l.getD k (aK .b9)):Nat)=left-(l.length:Nat)-(((l.take (k+1)).map aM).sum:Nat)by omega]
  ·try simp only[nb]at aL
   refine W.exit ?_
   refine W.s0 X [4] rfl ⟨⟩ ?_
   refine W.ret ?_
   have hf:l.take k=l:=List.take_of_length_le (by omega)
   rw[hf]at hs
   exact Fin.ret rfl ⟨by rw[hf,dm (by unfold cj;omega)];congr 1;unfold cj;omega,⟨⟩⟩
theorem zf(x:cX)(left:Int)(h0:0≤left)(h1:left≤1048576):Sound ty Tryz.prog 74 [.agg (bM x), .a (.lit (.int .i64 left))] [.a (.lit (.int .i64 (szr left (bq x))))]:=by
 refine Sound.o X Tryz.call74 Tryz.func74 Tryz.ntmps74 rfl rfl ?_
 intro zb
 refine W.s0 X [1,2] rfl ⟨⟩ ?_
 refine W.sr X [] [(8,⟨false,[.a (.lit (.int .i64 (szr (left) ((cj aM) x.aG))))]⟩)] [1,2] [] rfl ⟨uK x.aG (left) (by omega) (by omega),⟨⟩⟩ ?_
 refine W.seq ?_
 refine W.s0 X [1,2,10] rfl ⟨⟩ ?_
 refine W.cond rfl (fun hb0=> ?_) (fun hb0=> ?_)
 ·try simp only[nb]at hb0
  refine W.s0 X [4] rfl ⟨⟩ ?_
  refine W.ret ?_
  exact Fin.ret rfl ⟨by rw[bB (by have:=bO (by omega) hb0;unfold bq;omega)],⟨⟩⟩
 ·try simp only[nb]at hb0
  obtain⟨e0,D3⟩:=bE hb0
  rw[e0]
  refine W.skip ?_
  refine W.sr X [] [(14,⟨false,[.a (.lit (.int .i64 (szr (left-(((cj aM) x.aG):Nat)) ((cj aO) x.af))))]⟩)] [1,2] [] rfl ⟨uJ x.af (left-(((cj aM) x.aG):Nat)) (by omega) (by omega),⟨⟩⟩ ?_
  refine W.seq ?_
  refine W.s0 X [1,2,16] rfl ⟨⟩ ?_
  refine W.cond rfl (fun aL=> ?_) (fun aL=> ?_)
  ·try simp only[nb]at aL
   refine W.s0 X [4] rfl ⟨⟩ ?_
   refine W.ret ?_
   exact Fin.ret rfl ⟨by rw[bB (by have:=bO (by omega) aL;unfold bq;omega)],⟨⟩⟩
  ·try simp only[nb]at aL
   obtain⟨e1,Jb⟩:=bE aL
   rw[e1]
   refine W.skip ?_
   refine W.sr X [] [(20,⟨false,[.a (.lit (.int .i64 (szr (left-(((cj aM) x.aG):Nat)-(((cj aO) x.af):Nat)) (bZ x.aW))))]⟩)] [1,2] [] rfl ⟨uI x.aW (left-(((cj aM) x.aG):Nat)-(((cj aO) x.af):Nat)) (by omega) (by omega),⟨⟩⟩ ?_
   refine W.seq ?_
   refine W.s0 X [1,2,22] rfl ⟨⟩ ?_
   refine W.cond rfl (fun aU=> ?_) (fun aU=> ?_)
   ·try simp only[nb]at aU
    refine W.s0 X [4] rfl ⟨⟩ ?_
    refine W.ret ?_
    exact Fin.ret rfl ⟨by rw[bB (by have:=bO (by omega) aU;unfold bq;omega)],⟨⟩⟩
   ·try simp only[nb]at aU
    obtain⟨e2,KK⟩:=bE aU
    rw[e2]
    refine W.skip ?_
    refine W.sr X [] [(26,⟨false,[.a (.lit (.int .i64 (szr (left-(((cj aM) x.aG):Nat)-(((cj aO) x.af):Nat)-((bZ x.aW):Nat)) (List.length x.replaced))))]⟩)] [1] [] rfl ⟨BI x.replaced (left-(((cj aM) x.aG):Nat)-(((cj aO) x.af):Nat)-((bZ x.aW):Nat)) (by omega) (by omega),⟨⟩⟩ ?_
    refine W.seq ?_
    refine W.s0 X [1,28] rfl ⟨⟩ ?_
    refine W.cond rfl (fun kA=> ?_) (fun kA=> ?_)
    ·try simp only[nb]at kA
     refine W.s0 X [4] rfl ⟨⟩ ?_
     refine W.ret ?_
     exact Fin.ret rfl ⟨by rw[bB (by have:=bO (by omega) kA;unfold bq;omega)],⟨⟩⟩
    ·try simp only[nb]at kA
     obtain⟨e3,KL⟩:=bE kA
     rw[e3]
     refine W.skip ?_
     refine W.s0 X [4] rfl ⟨⟩ ?_
     refine W.ret ?_
     exact Fin.ret rfl ⟨by rw[dm (by unfold bq;omega)];first|done| (congr 1;done)| (congr 1;unfold bq;omega),⟨⟩⟩
end
section
set_option maxRecDepth 100000
theorem zg(l:(List UInt8))(hx:(List.length l)≤1048576):Sound ty Tryz.prog 83 [.a (.sl .u8 l)] [.a (.sl .u8 l)]:=by
 refine Sound.o X Tryz.call83 Tryz.func83 Tryz.ntmps83 rfl rfl ?_
 intro zb
 have hl:l.length≤1048576:=hx
 refine W.s0 X [0] rfl ⟨⟩ ?_
 refine W.s0 X [0,3] rfl (by and_intros<;>first|exact⟨⟩| (intros;omega)|exact rfl| (simp only[iA,maxLen,lens];omega)) ?_
 refine W.seq ?_
 refine W.s0 X [0,3,4] rfl ⟨⟩ ?_
 refine W.block ?_
 refine W.aV (fun k=>k≤l.length) (fun k:Nat=> [(4, .one (.a (.lit (.int .i64 k))))]) (fun k=> [(7, .arr .u8 (l.take k++List.replicate (l.length-k) (aK .u8)))]) (fun k=>l.length-k) 0 (fun k=>rfl) (Nat.zero_le _) rfl ?_
 intro k hk
 refine W.seq ?_
 refine W.s0 X [0,3,4,11] rfl ⟨⟩ ?_
 refine W.cond rfl (fun hb0=> ?_) (fun hb0=> ?_)
 ·try simp only[nb]at hb0
  have qo:=gV l (aK .u8) k (by omega)
  refine W.skip ?_
  refine W.seq ?_
  refine W.block ?_
  refine W.r0 X [0,3,4] rfl (by and_intros<;>first|exact⟨⟩| (intros;omega)|exact(Ka _).2) ?_
  have e1:=ff l (aK .u8) k hb0
  refine W.r0 X [0,3,4] rfl ⟨⟩ ?_
  refine⟨k+1,by omega,by omega,?_⟩
  rw[Dw]
  rw[bw _ k rfl (by omega), ←e1]
  try rfl
 ·try simp only[nb]at hb0
  refine W.exit ?_
  refine W.s0 X [2] rfl ⟨⟩ ?_
  refine W.ret ?_
  exact Fin.ret rfl ⟨by rw[List.take_of_length_le (by omega),show l.length-k=0 by omega,List.replicate_zero,List.append_nil],⟨⟩⟩
theorem kB(l:(List (List UInt8)))(hx:((cj List.length) l)≤1048576):Sound ty Tryz.prog 412 [.a (.sl (.sl .u8) l)] [.a (.sl (.sl .u8) l)]:=by
 refine Sound.o X Tryz.call412 Tryz.func412 Tryz.ntmps412 rfl rfl ?_
 intro zb
 have hl:l.length≤1048576:=gD hx
 refine W.s0 X [0] rfl ⟨⟩ ?_
 refine W.s0 X [0,3] rfl (by and_intros<;>first|exact⟨⟩| (intros;omega)|exact rfl| (simp only[iA,maxLen,lens];omega)) ?_
 refine W.seq ?_
 refine W.s0 X [0,3,4] rfl ⟨⟩ ?_
 refine W.block ?_
 refine W.aV (fun k=>k≤l.length) (fun k:Nat=> [(4, .one (.a (.lit (.int .i64 k))))]) (fun k=> [(7, .arr (.sl .u8) (l.take k++List.replicate (l.length-k) (aK (.sl .u8))))]) (fun k=>l.length-k) 0 (fun k=>rfl) (Nat.zero_le _) rfl ?_
 intro k hk
 refine W.seq ?_
 refine W.s0 X [0,3,4,11] rfl ⟨⟩ ?_
 refine W.cond rfl (fun hb0=> ?_) (fun hb0=> ?_)
 ·try simp only[nb]at hb0
  have qo:=gV l (aK (.sl .u8)) k (by omega)
  refine W.skip ?_
  refine W.seq ?_
  refine W.block ?_
  refine W.cV X [(20,300)] [(20,⟨true,[.a (.sl .u8 (l.getD k (aK (.sl .u8))))]⟩)] [0,3,4] [] rfl (by(repeat' with_reducible first|exact ah.nil|refine ah.mk ?_ ?_|apply And.intro)<;>first|exact zg (l.getD k (aK (.sl .u8))) (kO hx (getD_some l _ k hb0))| (intros;omega)) ?_
  have e1:=ff l (aK (.sl .u8)) k hb0
  refine W.r0 X [0,3,4] rfl ⟨⟩ ?_
  refine⟨k+1,by omega,by omega,?_⟩
  rw[bw _ k rfl (by omega), ←e1]
  try rfl
 ·try simp only[nb]at hb0
  refine W.exit ?_
  refine W.s0 X [2] rfl ⟨⟩ ?_
  refine W.ret ?_
  exact Fin.ret rfl ⟨by rw[List.take_of_length_le (by omega),show l.length-k=0 by omega,List.replicate_zero,List.append_nil],⟨⟩⟩
theorem lI(x:DB)(hx:ct x≤1048576):Sound ty Tryz.prog 413 [.agg (dA x)] [.agg (dA x)]:=by
 refine Sound.o X Tryz.call413 Tryz.func413 Tryz.ntmps413 rfl rfl ?_
 intro zb
 have nE:=hx
 unfold ct at nE
 refine W.s0 X [1,2] rfl ⟨⟩ ?_
 refine W.s0 X [1,2,3] rfl ⟨⟩ ?_
 refine W.sr X [(6,230)] [(6,⟨true,[.a (.sl (.sl .u8) x.rows)]⟩)] [2,3] [] rfl ⟨kB x.rows (by omega),⟨⟩⟩ ?_
 refine W.s0 X [2] rfl (by and_intros<;>exact⟨⟩) ?_
 refine W.ret ?_
 exact Fin.ret rfl (by(repeat' (first|exact True.intro|apply And.intro))<;>rfl)
theorem lJ(x:an)(hx:aF x≤1048576):Sound ty Tryz.prog 373 [.agg (cq x)] [.agg (cq x)]:=by
 refine Sound.o X Tryz.call373 Tryz.func373 Tryz.ntmps373 rfl rfl ?_
 intro zb
 have nE:=hx
 unfold aF at nE
 refine W.s0 X [1,2] rfl ⟨⟩ ?_
 refine W.s0 X [1,2,3] rfl ⟨⟩ ?_
 refine W.s0 X [1,2,3] rfl ⟨⟩ ?_
 refine W.sr X [(9,230)] [(9,⟨true,[.agg (dA x.db)]⟩)] [2,3] [] rfl ⟨lI x.db (by omega),⟨⟩⟩ ?_
 refine W.s0 X [2] rfl (by and_intros<;>exact⟨⟩) ?_
 refine W.ret ?_
 exact Fin.ret rfl (by(repeat' (first|exact True.intro|apply And.intro))<;>rfl)
theorem kC(l:(List an))(hx:((cj aF) l)≤1048576):Sound ty Tryz.prog 304 [.a (.sl .an l)] [.a (.sl .an l)]:=by
 refine Sound.o X Tryz.call304 Tryz.func304 Tryz.ntmps304 rfl rfl ?_
 intro zb
 have hl:l.length≤1048576:=gD hx
 refine W.s0 X [0] rfl ⟨⟩ ?_
 refine W.s0 X [0,3] rfl (by and_intros<;>first|exact⟨⟩| (intros;omega)|exact rfl| (simp only[iA,maxLen,lens];omega)) ?_
 refine W.seq ?_
 refine W.s0 X [0,3,4] rfl ⟨⟩ ?_
 refine W.block ?_
 refine W.aV (fun k=>k≤l.length) (fun k:Nat=> [(4, .one (.a (.lit (.int .i64 k))))]) (fun k=> [(7, .arr .an (l.take k++List.replicate (l.length-k) (aK .an)))]) (fun k=>l.length-k) 0 (fun k=>rfl) (Nat.zero_le _) rfl ?_
 intro k hk
 refine W.seq ?_
 refine W.s0 X [0,3,4,11] rfl ⟨⟩ ?_
 refine W.cond rfl (fun hb0=> ?_) (fun hb0=> ?_)
 ·try simp only[nb]at hb0
  have qo:=gV l (aK .an) k (by omega)
  refine W.skip ?_
  refine W.seq ?_
  refine W.block ?_
  refine W.cV X [(20,300)] [(20,⟨true,[.agg (cq (l.getD k (aK .an)))]⟩)] [0,3,4] [] rfl (by(repeat' with_reducible first|exact ah.nil|refine ah.mk ?_ ?_|apply And.intro)<;>first|exact lJ (l.getD k (aK .an)) (kO hx (getD_some l _ k hb0))| (intros;omega)) ?_
  have e1:=ff l (aK .an) k hb0
  refine W.r0 X [0,3,4] rfl ⟨⟩ ?_
  refine⟨k+1,by omega,by omega,?_⟩
  rw[bw _ k rfl (by omega), ←e1]
  try rfl
 ·try simp only[nb]at hb0
  refine W.exit ?_
  refine W.s0 X [2] rfl ⟨⟩ ?_
  refine W.ret ?_
  exact Fin.ret rfl ⟨by rw[List.take_of_length_le (by omega),show l.length-k=0 by omega,List.replicate_zero,List.append_nil],⟨⟩⟩
theorem uL(x:fD)(hx:bZ x≤1048576):Sound ty Tryz.prog 201 [.agg (cA x)] [.agg (cA x)]:=by
 refine Sound.o X Tryz.call201 Tryz.func201 Tryz.ntmps201 rfl rfl ?_
 intro zb
 have nE:=hx
 unfold bZ at nE
 refine W.s0 X [1,2] rfl ⟨⟩ ?_
 refine W.s0 X [1,2,3] rfl ⟨⟩ ?_
 refine W.s0 X [1,2,3] rfl ⟨⟩ ?_
 refine W.sr X [(9,230)] [(9,⟨true,[.a (.sl .an x.rounds)]⟩)] [2,3] [] rfl ⟨kC x.rounds (by omega),⟨⟩⟩ ?_
 refine W.s0 X [2] rfl (by and_intros<;>exact⟨⟩) ?_
 refine W.ret ?_
 exact Fin.ret rfl (by(repeat' (first|exact True.intro|apply And.intro))<;>rfl)
theorem pT(x:dL)(hx:bu x≤1048576):Sound ty Tryz.prog 372 [.agg (bl x)] [.agg (bl x)]:=by
 refine Sound.o X Tryz.call372 Tryz.func372 Tryz.ntmps372 rfl rfl ?_
 intro zb
 have nE:=hx
 unfold bu at nE
 refine W.s0 X [1,2] rfl ⟨⟩ ?_
 refine W.s0 X [1,2,3] rfl ⟨⟩ ?_
 refine W.s0 X [1,2,3] rfl ⟨⟩ ?_
 refine W.s0 X [1,2,3] rfl ⟨⟩ ?_
 refine W.s0 X [1,2,3] rfl ⟨⟩ ?_
 refine W.s0 X [1,2,3] rfl ⟨⟩ ?_
 refine W.sr X [(18,230)] [(18,⟨true,[.a (.sl (.sl .u8) x.aj)]⟩)] [1,2,3] [] rfl ⟨kB x.aj (by omega),⟨⟩⟩ ?_
 refine W.s0 X [1,2,3] rfl ⟨⟩ ?_
 refine W.sr X [(25,260)] [(25,⟨true,[.a (.sl (.sl .u8) x.inbox)]⟩)] [1,2,3] [] rfl ⟨kB x.inbox (by omega),⟨⟩⟩ ?_
 refine W.s0 X [2,3] rfl ⟨⟩ ?_
 refine W.s0 X [2] rfl (by and_intros<;>exact⟨⟩) ?_
 refine W.ret ?_
 exact Fin.ret rfl (by(repeat' (first|exact True.intro|apply And.intro))<;>rfl)
theorem wP(x:bH)(hx:aO x≤1048576):Sound ty Tryz.prog 303 [.agg (dD x)] [.agg (dD x)]:=by
 refine Sound.o X Tryz.call303 Tryz.func303 Tryz.ntmps303 rfl rfl ?_
 intro zb
 have nE:=hx
 unfold aO at nE
 refine W.s0 X [1,2] rfl ⟨⟩ ?_
 refine W.s0 X [1,2,3] rfl ⟨⟩ ?_
 refine W.sr X [(6,230)] [(6,⟨true,[.agg (bl x.live)]⟩)] [1,2,3] [] rfl ⟨pT x.live (by omega),⟨⟩⟩ ?_
 refine W.sr X [(10,260)] [(10,⟨true,[.agg (bl x.saved)]⟩)] [2,3] [] rfl ⟨pT x.saved (by omega),⟨⟩⟩ ?_
 refine W.s0 X [2] rfl (by and_intros<;>exact⟨⟩) ?_
 refine W.ret ?_
 exact Fin.ret rfl (by(repeat' (first|exact True.intro|apply And.intro))<;>rfl)
theorem uM(l:(List bH))(hx:((cj aO) l)≤1048576):Sound ty Tryz.prog 200 [.a (.sl .bH l)] [.a (.sl .bH l)]:=by
 refine Sound.o X Tryz.call200 Tryz.func200 Tryz.ntmps200 rfl rfl ?_
 intro zb
 have hl:l.length≤1048576:=gD hx
 refine W.s0 X [0] rfl ⟨⟩ ?_
 refine W.s0 X [0,3] rfl (by and_intros<;>first|exact⟨⟩| (intros;omega)|exact rfl| (simp only[iA,maxLen,lens];omega)) ?_
 refine W.seq ?_
 refine W.s0 X [0,3,4] rfl ⟨⟩ ?_
 refine W.block ?_
 refine W.aV (fun k=>k≤l.length) (fun k:Nat=> [(4, .one (.a (.lit (.int .i64 k))))]) (fun k=> [(7, .arr .bH (l.take k++List.replicate (l.length-k) (aK .bH)))]) (fun k=>l.length-k) 0 (fun k=>rfl) (Nat.zero_le _) rfl ?_
 intro k hk
 refine W.seq ?_
 refine W.s0 X [0,3,4,11] rfl ⟨⟩ ?_
 refine W.cond rfl (fun hb0=> ?_) (fun hb0=> ?_)
 ·try simp only[nb]at hb0
  have qo:=gV l (aK .bH) k (by omega)
  refine W.skip ?_
  refine W.seq ?_
  refine W.block ?_
  refine W.cV X [(20,300)] [(20,⟨true,[.agg (dD (l.getD k (aK .bH)))]⟩)] [0,3,4] [] rfl (by(repeat' with_reducible first|exact ah.nil|refine ah.mk ?_ ?_|apply And.intro)<;>first|exact wP (l.getD k (aK .bH)) (kO hx (getD_some l _ k hb0))| (intros;omega)) ?_
  have e1:=ff l (aK .bH) k hb0
  refine W.r0 X [0,3,4] rfl ⟨⟩ ?_
  refine⟨k+1,by omega,by omega,?_⟩
  rw[bw _ k rfl (by omega), ←e1]
  try rfl
 ·try simp only[nb]at hb0
  refine W.exit ?_
  refine W.s0 X [2] rfl ⟨⟩ ?_
  refine W.ret ?_
  exact Fin.ret rfl ⟨by rw[List.take_of_length_le (by omega),show l.length-k=0 by omega,List.replicate_zero,List.append_nil],⟨⟩⟩
theorem BJ(l:(List Int))(hx:(List.length l)≤1048576):Sound ty Tryz.prog 202 [.a (.sl .int l)] [.a (.sl .int l)]:=by
 refine Sound.o X Tryz.call202 Tryz.func202 Tryz.ntmps202 rfl rfl ?_
 intro zb
 have hl:l.length≤1048576:=hx
 refine W.s0 X [0] rfl ⟨⟩ ?_
 refine W.s0 X [0,3] rfl (by and_intros<;>first|exact⟨⟩| (intros;omega)|exact rfl| (simp only[iA,maxLen,lens];omega)) ?_
 refine W.seq ?_
 refine W.s0 X [0,3,4] rfl ⟨⟩ ?_
 refine W.block ?_
 refine W.aV (fun k=>k≤l.length) (fun k:Nat=> [(4, .one (.a (.lit (.int .i64 k))))]) (fun k=> [(7, .arr .int (l.take k++List.replicate (l.length-k) (aK .int)))]) (fun k=>l.length-k) 0 (fun k=>rfl) (Nat.zero_le _) rfl ?_
 intro k hk
 refine W.seq ?_
 refine W.s0 X [0,3,4,11] rfl ⟨⟩ ?_
 refine W.cond rfl (fun hb0=> ?_) (fun hb0=> ?_)
 ·try simp only[nb]at hb0
  have qo:=gV l (aK .int) k (by omega)
  refine W.skip ?_
  refine W.seq ?_
  refine W.block ?_
  refine W.r0 X [0,3,4] rfl (by and_intros<;>first|exact⟨⟩| (intros;omega)) ?_
  have e1:=ff l (aK .int) k hb0
  refine W.r0 X [0,3,4] rfl ⟨⟩ ?_
  refine⟨k+1,by omega,by omega,?_⟩
  rw[bw _ k rfl (by omega), ←e1]
  try rfl
 ·try simp only[nb]at hb0
  refine W.exit ?_
  refine W.s0 X [2] rfl ⟨⟩ ?_
  refine W.ret ?_
  exact Fin.ret rfl ⟨by rw[List.take_of_length_le (by omega),show l.length-k=0 by omega,List.replicate_zero,List.append_nil],⟨⟩⟩
theorem lK(x:au)(hx:aE x≤1048576):Sound ty Tryz.prog 411 [.agg (cm x)] [.agg (cm x)]:=by
 refine Sound.o X Tryz.call411 Tryz.func411 Tryz.ntmps411 rfl rfl ?_
 intro zb
 have nE:=hx
 unfold aE at nE
 refine W.s0 X [1,2] rfl ⟨⟩ ?_
 refine W.s0 X [1,2,3] rfl ⟨⟩ ?_
 refine W.s0 X [1,2,3] rfl ⟨⟩ ?_
 refine W.sr X [(9,230)] [(9,⟨true,[.agg (dA x.share)]⟩)] [2,3] [] rfl ⟨lI x.share (by omega),⟨⟩⟩ ?_
 refine W.s0 X [2] rfl (by and_intros<;>exact⟨⟩) ?_
 refine W.ret ?_
 exact Fin.ret rfl (by(repeat' (first|exact True.intro|apply And.intro))<;>rfl)
theorem kD(l:(List au))(hx:((cj aE) l)≤1048576):Sound ty Tryz.prog 371 [.a (.sl .au l)] [.a (.sl .au l)]:=by
 refine Sound.o X Tryz.call371 Tryz.func371 Tryz.ntmps371 rfl rfl ?_
 intro zb
 have hl:l.length≤1048576:=gD hx
 refine W.s0 X [0] rfl ⟨⟩ ?_
 refine W.s0 X [0,3] rfl (by and_intros<;>first|exact⟨⟩| (intros;omega)|exact rfl| (simp only[iA,maxLen,lens];omega)) ?_
 refine W.seq ?_
 refine W.s0 X [0,3,4] rfl ⟨⟩ ?_
 refine W.block ?_
 refine W.aV (fun k=>k≤l.length) (fun k:Nat=> [(4, .one (.a (.lit (.int .i64 k))))]) (fun k=> [(7, .arr .au (l.take k++List.replicate (l.length-k) (aK .au)))]) (fun k=>l.length-k) 0 (fun k=>rfl) (Nat.zero_le _) rfl ?_
 intro k hk
 refine W.seq ?_
 refine W.s0 X [0,3,4,11] rfl ⟨⟩ ?_
 refine W.cond rfl (fun hb0=> ?_) (fun hb0=> ?_)
 ·try simp only[nb]at hb0
  have qo:=gV l (aK .au) k (by omega)
  refine W.skip ?_
  refine W.seq ?_
  refine W.block ?_
  refine W.cV X [(20,300)] [(20,⟨true,[.agg (cm (l.getD k (aK .au)))]⟩)] [0,3,4] [] rfl (by(repeat' with_reducible first|exact ah.nil|refine ah.mk ?_ ?_|apply And.intro)<;>first|exact lK (l.getD k (aK .au)) (kO hx (getD_some l _ k hb0))| (intros;omega)) ?_
  have e1:=ff l (aK .au) k hb0
  refine W.r0 X [0,3,4] rfl ⟨⟩ ?_
  refine⟨k+1,by omega,by omega,?_⟩
  rw[bw _ k rfl (by omega), ←e1]
  try rfl
 ·try simp only[nb]at hb0
  refine W.exit ?_
  refine W.s0 X [2] rfl ⟨⟩ ?_
  refine W.ret ?_
  exact Fin.ret rfl ⟨by rw[List.take_of_length_le (by omega),show l.length-k=0 by omega,List.replicate_zero,List.append_nil],⟨⟩⟩
theorem wQ(x:b9)(hx:aM x≤1048576):Sound ty Tryz.prog 302 [.agg (dB x)] [.agg (dB x)]:=by
 refine Sound.o X Tryz.call302 Tryz.func302 Tryz.ntmps302 rfl rfl ?_
 intro zb
 have nE:=hx
 unfold aM at nE
 refine W.s0 X [1,2] rfl ⟨⟩ ?_
 refine W.s0 X [1,2,3] rfl ⟨⟩ ?_
 refine W.s0 X [1,2,3] rfl ⟨⟩ ?_
 refine W.s0 X [1,2,3] rfl ⟨⟩ ?_
 refine W.s0 X [1,2,3] rfl ⟨⟩ ?_
 refine W.sr X [(15,230)] [(15,⟨true,[.a (.sl .au x.received)]⟩)] [1,2,3] [] rfl ⟨kD x.received (by omega),⟨⟩⟩ ?_
 refine W.s0 X [2,3] rfl ⟨⟩ ?_
 refine W.s0 X [2] rfl (by and_intros<;>exact⟨⟩) ?_
 refine W.ret ?_
 exact Fin.ret rfl (by(repeat' (first|exact True.intro|apply And.intro))<;>rfl)
theorem uN(l:(List b9))(hx:((cj aM) l)≤1048576):Sound ty Tryz.prog 199 [.a (.sl .b9 l)] [.a (.sl .b9 l)]:=by
 refine Sound.o X Tryz.call199 Tryz.func199 Tryz.ntmps199 rfl rfl ?_
 intro zb
 have hl:l.length≤1048576:=gD hx
 refine W.s0 X [0] rfl ⟨⟩ ?_
 refine W.s0 X [0,3] rfl (by and_intros<;>first|exact⟨⟩| (intros;omega)|exact rfl| (simp only[iA,maxLen,lens];omega)) ?_
 refine W.seq ?_
 refine W.s0 X [0,3,4] rfl ⟨⟩ ?_
 refine W.block ?_
 refine W.aV (fun k=>k≤l.length) (fun k:Nat=> [(4, .one (.a (.lit (.int .i64 k))))]) (fun k=> [(7, .arr .b9 (l.take k++List.replicate (l.length-k) (aK .b9)))]) (fun k=>l.length-k) 0 (fun k=>rfl) (Nat.zero_le _) rfl ?_
 intro k hk
 refine W.seq ?_
 refine W.s0 X [0,3,4,11] rfl ⟨⟩ ?_
 refine W.cond rfl (fun hb0=> ?_) (fun hb0=> ?_)
 ·try simp only[nb]at hb0
  have qo:=gV l (aK .b9) k (by omega)
  refine W.skip ?_
  refine W.seq ?_
  refine W.block ?_
  refine W.cV X [(20,300)] [(20,⟨true,[.agg (dB (l.getD k (aK .b9)))]⟩)] [0,3,4] [] rfl (by(repeat' with_reducible first|exact ah.nil|refine ah.mk ?_ ?_|apply And.intro)<;>first|exact wQ (l.getD k (aK .b9)) (kO hx (getD_some l _ k hb0))| (intros;omega)) ?_
  have e1:=ff l (aK .b9) k hb0
  refine W.r0 X [0,3,4] rfl ⟨⟩ ?_
  refine⟨k+1,by omega,by omega,?_⟩
  rw[bw _ k rfl (by omega), ←e1]
  try rfl
 ·try simp only[nb]at hb0
  refine W.exit ?_
  refine W.s0 X [2] rfl ⟨⟩ ?_
  refine W.ret ?_
  exact Fin.ret rfl ⟨by rw[List.take_of_length_le (by omega),show l.length-k=0 by omega,List.replicate_zero,List.append_nil],⟨⟩⟩
theorem mG(x:cX)(hx:bq x≤1048576):Sound ty Tryz.prog 76 [.agg (bM x)] [.agg (bM x)]:=by
 refine Sound.o X Tryz.call76 Tryz.func76 Tryz.ntmps76 rfl rfl ?_
 intro zb
 have nE:=hx
 unfold bq at nE
 refine W.s0 X [1,2] rfl ⟨⟩ ?_
 refine W.s0 X [1,2,3] rfl ⟨⟩ ?_
 refine W.s0 X [1,2,3] rfl ⟨⟩ ?_
 refine W.sr X [(9,230)] [(9,⟨true,[.a (.sl .b9 x.aG)]⟩)] [1,2,3] [] rfl ⟨uN x.aG (by omega),⟨⟩⟩ ?_
 refine W.sr X [(13,260)] [(13,⟨true,[.a (.sl .bH x.af)]⟩)] [1,2,3] [] rfl ⟨uM x.af (by omega),⟨⟩⟩ ?_
 refine W.sr X [(17,290)] [(17,⟨true,[.agg (cA x.aW)]⟩)] [1,2,3] [] rfl ⟨uL x.aW (by omega),⟨⟩⟩ ?_
 refine W.s0 X [1,2,3] rfl ⟨⟩ ?_
 refine W.s0 X [1,2,3] rfl ⟨⟩ ?_
 refine W.s0 X [1,2,3] rfl ⟨⟩ ?_
 refine W.sr X [(30,320)] [(30,⟨true,[.a (.sl .int x.replaced)]⟩)] [1,2,3] [] rfl ⟨BJ x.replaced (by omega),⟨⟩⟩ ?_
 refine W.s0 X [2,3] rfl ⟨⟩ ?_
 refine W.s0 X [2] rfl (by and_intros<;>exact⟨⟩) ?_
 refine W.ret ?_
 exact Fin.ret rfl (by(repeat' (first|exact True.intro|apply And.intro))<;>rfl)
end
section
set_option maxRecDepth 100000
theorem zh(l:(List UInt8)):Sound ty Tryz.prog 85 [.a (.sl .u8 l), .a (.sl .u8 l)] [.a (.lit (.bool true))]:=by
 refine Sound.o X Tryz.call85 Tryz.func85 Tryz.ntmps85 rfl rfl ?_
 intro zb
 refine W.bound 0 rfl fun hl=> ?_
 refine W.s0 X [0,1] rfl ⟨⟩ ?_
 refine W.seq ?_
 refine W.s0 X [0,1,10] rfl ⟨⟩ ?_
 refine W.cond rfl (fun hb0=> ?_) (fun hb0=> ?_)
 ·exact absurd hb0 (by simp)
 ·clear hb0
  refine W.skip ?_
  refine W.seq ?_
  refine W.s0 X [0,1,5] rfl ⟨⟩ ?_
  refine W.block ?_
  refine W.aV (fun k=>k≤l.length) (fun k:Nat=> [(5, .one (.a (.lit (.int .i64 k))))]) (fun k=> []) (fun k=>l.length-k) 0 (fun k=>rfl) (Nat.zero_le _) rfl ?_
  intro k hk
  refine W.seq ?_
  refine W.s0 X [0,1,5,14] rfl ⟨⟩ ?_
  refine W.cond rfl (fun aL=> ?_) (fun aL=> ?_)
  ·try simp only[nb]at aL
   refine W.skip ?_
   refine W.seq ?_
   refine W.block ?_
   refine W.sd X [] [] [0,1,5,25] [] 9 MO (by kernel_rfl) rfl (by and_intros<;>first|exact⟨⟩| (intros;omega)) ?_
   refine W.cond rfl (fun aU=> ?_) (fun aU=> ?_)
   ·exact absurd aU (by simp)
   ·clear aU
    refine W.skip ?_
    refine W.r0 X [0,1,5] rfl ⟨⟩ ?_
    refine⟨k+1,by omega,by omega,?_⟩
    rw[bw _ k rfl (by omega)]
    try rfl
  ·try simp only[nb]at aL
   refine W.exit ?_
   refine W.s0 X [4] rfl ⟨⟩ ?_
   refine W.ret ?_
   exact Fin.ret rfl ⟨rfl,⟨⟩⟩
theorem kE(l:(List (List UInt8))):Sound ty Tryz.prog 315 [.a (.sl (.sl .u8) l), .a (.sl (.sl .u8) l)] [.a (.lit (.bool true))]:=by
 refine Sound.o X Tryz.call315 Tryz.func315 Tryz.ntmps315 rfl rfl ?_
 intro zb
 refine W.bound 0 rfl fun hl=> ?_
 refine W.s0 X [0,1] rfl ⟨⟩ ?_
 refine W.seq ?_
 refine W.s0 X [0,1,10] rfl ⟨⟩ ?_
 refine W.cond rfl (fun hb0=> ?_) (fun hb0=> ?_)
 ·exact absurd hb0 (by simp)
 ·clear hb0
  refine W.skip ?_
  refine W.seq ?_
  refine W.s0 X [0,1,5] rfl ⟨⟩ ?_
  refine W.block ?_
  refine W.aV (fun k=>k≤l.length) (fun k:Nat=> [(5, .one (.a (.lit (.int .i64 k))))]) (fun k=> []) (fun k=>l.length-k) 0 (fun k=>rfl) (Nat.zero_le _) rfl ?_
  intro k hk
  refine W.seq ?_
  refine W.s0 X [0,1,5,14] rfl ⟨⟩ ?_
  refine W.cond rfl (fun aL=> ?_) (fun aL=> ?_)
  ·try simp only[nb]at aL
   refine W.skip ?_
   refine W.seq ?_
   refine W.block ?_
   refine W.sd X [] [(25,⟨false,[.a (.lit (.bool true))]⟩)] [0,1,5,26] [] 10 MO (by kernel_rfl) rfl ⟨zh (l.getD k (aK (.sl .u8))),by omega,by omega,⟨⟩⟩ ?_
   refine W.cond rfl (fun aU=> ?_) (fun aU=> ?_)
   ·exact absurd aU (by simp)
   ·clear aU
    refine W.skip ?_
    refine W.r0 X [0,1,5] rfl ⟨⟩ ?_
    refine⟨k+1,by omega,by omega,?_⟩
    rw[bw _ k rfl (by omega)]
    try rfl
  ·try simp only[nb]at aL
   refine W.exit ?_
   refine W.s0 X [4] rfl ⟨⟩ ?_
   refine W.ret ?_
   exact Fin.ret rfl ⟨rfl,⟨⟩⟩
theorem lM(x:DB):Sound ty Tryz.prog 214 [.agg (dA x), .agg (dA x)] [.a (.lit (.bool true))]:=by
 refine Sound.o X Tryz.call214 Tryz.func214 Tryz.ntmps214 rfl rfl ?_
 intro zb
 refine W.s0 X [2,3] rfl ⟨⟩ ?_
 refine W.seq ?_
 refine W.sr X [] [(9,⟨false,[.a (.lit (.bool true))]⟩)] [10] [] rfl ⟨kE x.rows,⟨⟩⟩ ?_
 refine W.cond rfl (fun hb0=> ?_) (fun hb0=> ?_)
 ·exact absurd hb0 (by simp)
 ·clear hb0
  refine W.skip ?_
  refine W.s0 X [4] rfl ⟨⟩ ?_
  refine W.ret ?_
  exact Fin.ret rfl ⟨rfl,⟨⟩⟩
theorem lN(x:an):Sound ty Tryz.prog 376 [.agg (cq x), .agg (cq x)] [.a (.lit (.bool true))]:=by
 refine Sound.o X Tryz.call376 Tryz.func376 Tryz.ntmps376 rfl rfl ?_
 intro zb
 refine W.s0 X [2,3] rfl ⟨⟩ ?_
 refine W.seq ?_
 refine W.s0 X [2,3,9] rfl ⟨⟩ ?_
 refine W.cond rfl (fun hb0=> ?_) (fun hb0=> ?_)
 ·exact absurd hb0 (by simp)
 ·clear hb0
  refine W.skip ?_
  refine W.seq ?_
  refine W.sr X [] [(14,⟨false,[.a (.lit (.bool true))]⟩)] [15] [] rfl ⟨lM x.db,⟨⟩⟩ ?_
  refine W.cond rfl (fun aL=> ?_) (fun aL=> ?_)
  ·exact absurd aL (by simp)
  ·clear aL
   refine W.skip ?_
   refine W.s0 X [4] rfl ⟨⟩ ?_
   refine W.ret ?_
   exact Fin.ret rfl ⟨rfl,⟨⟩⟩
theorem kG(l:(List an)):Sound ty Tryz.prog 307 [.a (.sl .an l), .a (.sl .an l)] [.a (.lit (.bool true))]:=by
 refine Sound.o X Tryz.call307 Tryz.func307 Tryz.ntmps307 rfl rfl ?_
 intro zb
 refine W.bound 0 rfl fun hl=> ?_
 refine W.s0 X [0,1] rfl ⟨⟩ ?_
 refine W.seq ?_
 refine W.s0 X [0,1,10] rfl ⟨⟩ ?_
 refine W.cond rfl (fun hb0=> ?_) (fun hb0=> ?_)
 ·exact absurd hb0 (by simp)
 ·clear hb0
  refine W.skip ?_
  refine W.seq ?_
  refine W.s0 X [0,1,5] rfl ⟨⟩ ?_
  refine W.block ?_
  refine W.aV (fun k=>k≤l.length) (fun k:Nat=> [(5, .one (.a (.lit (.int .i64 k))))]) (fun k=> []) (fun k=>l.length-k) 0 (fun k=>rfl) (Nat.zero_le _) rfl ?_
  intro k hk
  refine W.seq ?_
  refine W.s0 X [0,1,5,14] rfl ⟨⟩ ?_
  refine W.cond rfl (fun aL=> ?_) (fun aL=> ?_)
  ·try simp only[nb]at aL
   refine W.skip ?_
   refine W.seq ?_
   refine W.block ?_
   refine W.sd X [] [(25,⟨false,[.a (.lit (.bool true))]⟩)] [0,1,5,26] [] 10 MO (by kernel_rfl) rfl ⟨lN (l.getD k (aK .an)),by omega,by omega,⟨⟩⟩ ?_
   refine W.cond rfl (fun aU=> ?_) (fun aU=> ?_)
   ·exact absurd aU (by simp)
   ·clear aU
    refine W.skip ?_
    refine W.r0 X [0,1,5] rfl ⟨⟩ ?_
    refine⟨k+1,by omega,by omega,?_⟩
    rw[bw _ k rfl (by omega)]
    try rfl
  ·try simp only[nb]at aL
   refine W.exit ?_
   refine W.s0 X [4] rfl ⟨⟩ ?_
   refine W.ret ?_
   exact Fin.ret rfl ⟨rfl,⟨⟩⟩
theorem uO(x:fD):Sound ty Tryz.prog 206 [.agg (cA x), .agg (cA x)] [.a (.lit (.bool true))]:=by
 refine Sound.o X Tryz.call206 Tryz.func206 Tryz.ntmps206 rfl rfl ?_
 intro zb
 refine W.s0 X [2,3] rfl ⟨⟩ ?_
 refine W.seq ?_
 refine W.s0 X [2,3,9] rfl ⟨⟩ ?_
 refine W.cond rfl (fun hb0=> ?_) (fun hb0=> ?_)
 ·exact absurd hb0 (by simp)
 ·clear hb0
  refine W.skip ?_
  refine W.seq ?_
  refine W.sr X [] [(14,⟨false,[.a (.lit (.bool true))]⟩)] [15] [] rfl ⟨kG x.rounds,⟨⟩⟩ ?_
  refine W.cond rfl (fun aL=> ?_) (fun aL=> ?_)
  ·exact absurd aL (by simp)
  ·clear aL
   refine W.skip ?_
   refine W.s0 X [4] rfl ⟨⟩ ?_
   refine W.ret ?_
   exact Fin.ret rfl ⟨rfl,⟨⟩⟩
theorem pU(x:dL):Sound ty Tryz.prog 375 [.agg (bl x), .agg (bl x)] [.a (.lit (.bool true))]:=by
 refine Sound.o X Tryz.call375 Tryz.func375 Tryz.ntmps375 rfl rfl ?_
 intro zb
 refine W.s0 X [2,3] rfl ⟨⟩ ?_
 refine W.seq ?_
 refine W.s0 X [2,3,9] rfl ⟨⟩ ?_
 refine W.cond rfl (fun hb0=> ?_) (fun hb0=> ?_)
 ·exact absurd hb0 (by simp)
 ·clear hb0
  refine W.skip ?_
  refine W.seq ?_
  refine W.s0 X [2,3,14] rfl ⟨⟩ ?_
  refine W.cond rfl (fun aL=> ?_) (fun aL=> ?_)
  ·exact absurd aL (by simp)
  ·clear aL
   refine W.skip ?_
   refine W.seq ?_
   refine W.s0 X [2,3,19] rfl ⟨⟩ ?_
   refine W.cond rfl (fun aU=> ?_) (fun aU=> ?_)
   ·exact absurd aU (by simp)
   ·clear aU
    refine W.skip ?_
    refine W.seq ?_
    refine W.s0 X [2,3,24] rfl ⟨⟩ ?_
    refine W.cond rfl (fun kA=> ?_) (fun kA=> ?_)
    ·exact absurd kA (by simp)
    ·clear kA
     refine W.skip ?_
     refine W.seq ?_
     refine W.sr X [] [(29,⟨false,[.a (.lit (.bool true))]⟩)] [2,3,30] [] rfl ⟨kE x.aj,⟨⟩⟩ ?_
     refine W.cond rfl (fun sM=> ?_) (fun sM=> ?_)
     ·exact absurd sM (by simp)
     ·clear sM
      refine W.skip ?_
      refine W.seq ?_
      refine W.s0 X [2,3,35] rfl ⟨⟩ ?_
      refine W.cond rfl (fun Fa=> ?_) (fun Fa=> ?_)
      ·exact absurd Fa (by simp)
      ·clear Fa
       refine W.skip ?_
       refine W.seq ?_
       refine W.sr X [] [(40,⟨false,[.a (.lit (.bool true))]⟩)] [2,3,41] [] rfl ⟨kE x.inbox,⟨⟩⟩ ?_
       refine W.cond rfl (fun Fb=> ?_) (fun Fb=> ?_)
       ·exact absurd Fb (by simp)
       ·clear Fb
        refine W.skip ?_
        refine W.seq ?_
        refine W.s0 X [46] rfl ⟨⟩ ?_
        refine W.cond rfl (fun Fc=> ?_) (fun Fc=> ?_)
        ·exact absurd Fc (by simp)
        ·clear Fc
         refine W.skip ?_
         refine W.s0 X [4] rfl ⟨⟩ ?_
         refine W.ret ?_
         exact Fin.ret rfl ⟨rfl,⟨⟩⟩
theorem wR(x:bH):Sound ty Tryz.prog 306 [.agg (dD x), .agg (dD x)] [.a (.lit (.bool true))]:=by
 refine Sound.o X Tryz.call306 Tryz.func306 Tryz.ntmps306 rfl rfl ?_
 intro zb
 refine W.s0 X [2,3] rfl ⟨⟩ ?_
 refine W.seq ?_
 refine W.sr X [] [(9,⟨false,[.a (.lit (.bool true))]⟩)] [2,3,10] [] rfl ⟨pU x.live,⟨⟩⟩ ?_
 refine W.cond rfl (fun hb0=> ?_) (fun hb0=> ?_)
 ·exact absurd hb0 (by simp)
 ·clear hb0
  refine W.skip ?_
  refine W.seq ?_
  refine W.sr X [] [(15,⟨false,[.a (.lit (.bool true))]⟩)] [16] [] rfl ⟨pU x.saved,⟨⟩⟩ ?_
  refine W.cond rfl (fun aL=> ?_) (fun aL=> ?_)
  ·exact absurd aL (by simp)
  ·clear aL
   refine W.skip ?_
   refine W.s0 X [4] rfl ⟨⟩ ?_
   refine W.ret ?_
   exact Fin.ret rfl ⟨rfl,⟨⟩⟩
theorem uP(l:(List bH)):Sound ty Tryz.prog 205 [.a (.sl .bH l), .a (.sl .bH l)] [.a (.lit (.bool true))]:=by
 refine Sound.o X Tryz.call205 Tryz.func205 Tryz.ntmps205 rfl rfl ?_
 intro zb
 refine W.bound 0 rfl fun hl=> ?_
 refine W.s0 X [0,1] rfl ⟨⟩ ?_
 refine W.seq ?_
 refine W.s0 X [0,1,10] rfl ⟨⟩ ?_
 refine W.cond rfl (fun hb0=> ?_) (fun hb0=> ?_)
 ·exact absurd hb0 (by simp)
 ·clear hb0
  refine W.skip ?_
  refine W.seq ?_
  refine W.s0 X [0,1,5] rfl ⟨⟩ ?_
  refine W.block ?_
  refine W.aV (fun k=>k≤l.length) (fun k:Nat=> [(5, .one (.a (.lit (.int .i64 k))))]) (fun k=> []) (fun k=>l.length-k) 0 (fun k=>rfl) (Nat.zero_le _) rfl ?_
  intro k hk
  refine W.seq ?_
  refine W.s0 X [0,1,5,14] rfl ⟨⟩ ?_
  refine W.cond rfl (fun aL=> ?_) (fun aL=> ?_)
  ·try simp only[nb]at aL
   refine W.skip ?_
   refine W.seq ?_
   refine W.block ?_
   refine W.sd X [] [(25,⟨false,[.a (.lit (.bool true))]⟩)] [0,1,5,26] [] 10 MO (by kernel_rfl) rfl ⟨wR (l.getD k (aK .bH)),by omega,by omega,⟨⟩⟩ ?_
   refine W.cond rfl (fun aU=> ?_) (fun aU=> ?_)
   ·exact absurd aU (by simp)
   ·clear aU
    refine W.skip ?_
    refine W.r0 X [0,1,5] rfl ⟨⟩ ?_
    refine⟨k+1,by omega,by omega,?_⟩
    rw[bw _ k rfl (by omega)]
    try rfl
  ·try simp only[nb]at aL
   refine W.exit ?_
   refine W.s0 X [4] rfl ⟨⟩ ?_
   refine W.ret ?_
   exact Fin.ret rfl ⟨rfl,⟨⟩⟩
theorem BK(l:(List Int)):Sound ty Tryz.prog 203 [.a (.sl .int l), .a (.sl .int l)] [.a (.lit (.bool true))]:=by
 refine Sound.o X Tryz.call203 Tryz.func203 Tryz.ntmps203 rfl rfl ?_
 intro zb
 refine W.bound 0 rfl fun hl=> ?_
 refine W.s0 X [0,1] rfl ⟨⟩ ?_
 refine W.seq ?_
 refine W.s0 X [0,1,10] rfl ⟨⟩ ?_
 refine W.cond rfl (fun hb0=> ?_) (fun hb0=> ?_)
 ·exact absurd hb0 (by simp)
 ·clear hb0
  refine W.skip ?_
  refine W.seq ?_
  refine W.s0 X [0,1,5] rfl ⟨⟩ ?_
  refine W.block ?_
  refine W.aV (fun k=>k≤l.length) (fun k:Nat=> [(5, .one (.a (.lit (.int .i64 k))))]) (fun k=> []) (fun k=>l.length-k) 0 (fun k=>rfl) (Nat.zero_le _) rfl ?_
  intro k hk
  refine W.seq ?_
  refine W.s0 X [0,1,5,14] rfl ⟨⟩ ?_
  refine W.cond rfl (fun aL=> ?_) (fun aL=> ?_)
  ·try simp only[nb]at aL
   refine W.skip ?_
   refine W.seq ?_
   refine W.block ?_
   refine W.sd X [] [] [0,1,5,25] [] 9 MO (by kernel_rfl) rfl (by and_intros<;>first|exact⟨⟩| (intros;omega)) ?_
   refine W.cond rfl (fun aU=> ?_) (fun aU=> ?_)
   ·exact absurd aU (by simp)
   ·clear aU
    refine W.skip ?_
    refine W.r0 X [0,1,5] rfl ⟨⟩ ?_
    refine⟨k+1,by omega,by omega,?_⟩
    rw[bw _ k rfl (by omega)]
    try rfl
  ·try simp only[nb]at aL
   refine W.exit ?_
   refine W.s0 X [4] rfl ⟨⟩ ?_
   refine W.ret ?_
   exact Fin.ret rfl ⟨rfl,⟨⟩⟩
theorem lO(x:au):Sound ty Tryz.prog 414 [.agg (cm x), .agg (cm x)] [.a (.lit (.bool true))]:=by
 refine Sound.o X Tryz.call414 Tryz.func414 Tryz.ntmps414 rfl rfl ?_
 intro zb
 refine W.s0 X [2,3] rfl ⟨⟩ ?_
 refine W.seq ?_
 refine W.s0 X [2,3,9] rfl ⟨⟩ ?_
 refine W.cond rfl (fun hb0=> ?_) (fun hb0=> ?_)
 ·exact absurd hb0 (by simp)
 ·clear hb0
  refine W.skip ?_
  refine W.seq ?_
  refine W.sr X [] [(14,⟨false,[.a (.lit (.bool true))]⟩)] [15] [] rfl ⟨lM x.share,⟨⟩⟩ ?_
  refine W.cond rfl (fun aL=> ?_) (fun aL=> ?_)
  ·exact absurd aL (by simp)
  ·clear aL
   refine W.skip ?_
   refine W.s0 X [4] rfl ⟨⟩ ?_
   refine W.ret ?_
   exact Fin.ret rfl ⟨rfl,⟨⟩⟩
theorem kH(l:(List au)):Sound ty Tryz.prog 374 [.a (.sl .au l), .a (.sl .au l)] [.a (.lit (.bool true))]:=by
 refine Sound.o X Tryz.call374 Tryz.func374 Tryz.ntmps374 rfl rfl ?_
 intro zb
 refine W.bound 0 rfl fun hl=> ?_
 refine W.s0 X [0,1] rfl ⟨⟩ ?_
 refine W.seq ?_
 refine W.s0 X [0,1,10] rfl ⟨⟩ ?_
 refine W.cond rfl (fun hb0=> ?_) (fun hb0=> ?_)
 ·exact absurd hb0 (by simp)
 ·clear hb0
  refine W.skip ?_
  refine W.seq ?_
  refine W.s0 X [0,1,5] rfl ⟨⟩ ?_
  refine W.block ?_
  refine W.aV (fun k=>k≤l.length) (fun k:Nat=> [(5, .one (.a (.lit (.int .i64 k))))]) (fun k=> []) (fun k=>l.length-k) 0 (fun k=>rfl) (Nat.zero_le _) rfl ?_
  intro k hk
  refine W.seq ?_
  refine W.s0 X [0,1,5,14] rfl ⟨⟩ ?_
  refine W.cond rfl (fun aL=> ?_) (fun aL=> ?_)
  ·try simp only[nb]at aL
   refine W.skip ?_
   refine W.seq ?_
   refine W.block ?_
   refine W.sd X [] [(25,⟨false,[.a (.lit (.bool true))]⟩)] [0,1,5,26] [] 10 MO (by kernel_rfl) rfl ⟨lO (l.getD k (aK .au)),by omega,by omega,⟨⟩⟩ ?_
   refine W.cond rfl (fun aU=> ?_) (fun aU=> ?_)
   ·exact absurd aU (by simp)
   ·clear aU
    refine W.skip ?_
    refine W.r0 X [0,1,5] rfl ⟨⟩ ?_
    refine⟨k+1,by omega,by omega,?_⟩
    rw[bw _ k rfl (by omega)]
    try rfl
  ·try simp only[nb]at aL
   refine W.exit ?_
   refine W.s0 X [4] rfl ⟨⟩ ?_
   refine W.ret ?_
   exact Fin.ret rfl ⟨rfl,⟨⟩⟩
theorem wS(x:b9):Sound ty Tryz.prog 305 [.agg (dB x), .agg (dB x)] [.a (.lit (.bool true))]:=by
 refine Sound.o X Tryz.call305 Tryz.func305 Tryz.ntmps305 rfl rfl ?_
 intro zb
 refine W.s0 X [2,3] rfl ⟨⟩ ?_
 refine W.seq ?_
 refine W.s0 X [2,3,9] rfl ⟨⟩ ?_
 refine W.cond rfl (fun hb0=> ?_) (fun hb0=> ?_)
 ·exact absurd hb0 (by simp)
 ·clear hb0
  refine W.skip ?_
  refine W.seq ?_
  refine W.s0 X [2,3,14] rfl ⟨⟩ ?_
  refine W.cond rfl (fun aL=> ?_) (fun aL=> ?_)
  ·exact absurd aL (by simp)
  ·clear aL
   refine W.skip ?_
   refine W.seq ?_
   refine W.s0 X [2,3,19] rfl ⟨⟩ ?_
   refine W.cond rfl (fun aU=> ?_) (fun aU=> ?_)
   ·exact absurd aU (by simp)
   ·clear aU
    refine W.skip ?_
    refine W.seq ?_
    refine W.sr X [] [(24,⟨false,[.a (.lit (.bool true))]⟩)] [2,3,25] [] rfl ⟨kH x.received,⟨⟩⟩ ?_
    refine W.cond rfl (fun kA=> ?_) (fun kA=> ?_)
    ·exact absurd kA (by simp)
    ·clear kA
     refine W.skip ?_
     refine W.seq ?_
     refine W.s0 X [30] rfl ⟨⟩ ?_
     refine W.cond rfl (fun sM=> ?_) (fun sM=> ?_)
     ·exact absurd sM (by simp)
     ·clear sM
      refine W.skip ?_
      refine W.s0 X [4] rfl ⟨⟩ ?_
      refine W.ret ?_
      exact Fin.ret rfl ⟨rfl,⟨⟩⟩
theorem uQ(l:(List b9)):Sound ty Tryz.prog 204 [.a (.sl .b9 l), .a (.sl .b9 l)] [.a (.lit (.bool true))]:=by
 refine Sound.o X Tryz.call204 Tryz.func204 Tryz.ntmps204 rfl rfl ?_
 intro zb
 refine W.bound 0 rfl fun hl=> ?_
 refine W.s0 X [0,1] rfl ⟨⟩ ?_
 refine W.seq ?_
 refine W.s0 X [0,1,10] rfl ⟨⟩ ?_
 refine W.cond rfl (fun hb0=> ?_) (fun hb0=> ?_)
 ·exact absurd hb0 (by simp)
 ·clear hb0
  refine W.skip ?_
  refine W.seq ?_
  refine W.s0 X [0,1,5] rfl ⟨⟩ ?_
  refine W.block ?_
  refine W.aV (fun k=>k≤l.length) (fun k:Nat=> [(5, .one (.a (.lit (.int .i64 k))))]) (fun k=> []) (fun k=>l.length-k) 0 (fun k=>rfl) (Nat.zero_le _) rfl ?_
  intro k hk
  refine W.seq ?_
  refine W.s0 X [0,1,5,14] rfl ⟨⟩ ?_
  refine W.cond rfl (fun aL=> ?_) (fun aL=> ?_)
  ·try simp only[nb]at aL
   refine W.skip ?_
   refine W.seq ?_
   refine W.block ?_
   refine W.sd X [] [(25,⟨false,[.a (.lit (.bool true))]⟩)] [0,1,5,26] [] 10 MO (by kernel_rfl) rfl ⟨wS (l.getD k (aK .b9)),by omega,by omega,⟨⟩⟩ ?_
   refine W.cond rfl (fun aU=> ?_) (fun aU=> ?_)
   ·exact absurd aU (by simp)
   ·clear aU
    refine W.skip ?_
    refine W.r0 X [0,1,5] rfl ⟨⟩ ?_
    refine⟨k+1,by omega,by omega,?_⟩
    rw[bw _ k rfl (by omega)]
    try rfl
  ·try simp only[nb]at aL
   refine W.exit ?_
   refine W.s0 X [4] rfl ⟨⟩ ?_
   refine W.ret ?_
   exact Fin.ret rfl ⟨rfl,⟨⟩⟩
theorem zi(x:cX):Sound ty Tryz.prog 78 [.agg (bM x), .agg (bM x)] [.a (.lit (.bool true))]:=by
 refine Sound.o X Tryz.call78 Tryz.func78 Tryz.ntmps78 rfl rfl ?_
 intro zb
 refine W.s0 X [2,3] rfl ⟨⟩ ?_
 refine W.seq ?_
 refine W.s0 X [2,3,9] rfl ⟨⟩ ?_
 refine W.cond rfl (fun hb0=> ?_) (fun hb0=> ?_)
 ·exact absurd hb0 (by simp)
 ·clear hb0
  refine W.skip ?_
  refine W.seq ?_
  refine W.sr X [] [(14,⟨false,[.a (.lit (.bool true))]⟩)] [2,3,15] [] rfl ⟨uQ x.aG,⟨⟩⟩ ?_
  refine W.cond rfl (fun aL=> ?_) (fun aL=> ?_)
  ·exact absurd aL (by simp)
  ·clear aL
   refine W.skip ?_
   refine W.seq ?_
   refine W.sr X [] [(20,⟨false,[.a (.lit (.bool true))]⟩)] [2,3,21] [] rfl ⟨uP x.af,⟨⟩⟩ ?_
   refine W.cond rfl (fun aU=> ?_) (fun aU=> ?_)
   ·exact absurd aU (by simp)
   ·clear aU
    refine W.skip ?_
    refine W.seq ?_
    refine W.sr X [] [(26,⟨false,[.a (.lit (.bool true))]⟩)] [2,3,27] [] rfl ⟨uO x.aW,⟨⟩⟩ ?_
    refine W.cond rfl (fun kA=> ?_) (fun kA=> ?_)
    ·exact absurd kA (by simp)
    ·clear kA
     refine W.skip ?_
     refine W.seq ?_
     refine W.s0 X [2,3,32] rfl ⟨⟩ ?_
     refine W.cond rfl (fun sM=> ?_) (fun sM=> ?_)
     ·exact absurd sM (by simp)
     ·clear sM
      refine W.skip ?_
      refine W.seq ?_
      refine W.s0 X [2,3,37] rfl ⟨⟩ ?_
      refine W.cond rfl (fun Fa=> ?_) (fun Fa=> ?_)
      ·exact absurd Fa (by simp)
      ·clear Fa
       refine W.skip ?_
       refine W.seq ?_
       refine W.s0 X [2,3,42] rfl ⟨⟩ ?_
       refine W.cond rfl (fun Fb=> ?_) (fun Fb=> ?_)
       ·exact absurd Fb (by simp)
       ·clear Fb
        refine W.skip ?_
        refine W.seq ?_
        refine W.sr X [] [(47,⟨false,[.a (.lit (.bool true))]⟩)] [2,3,48] [] rfl ⟨BK x.replaced,⟨⟩⟩ ?_
        refine W.cond rfl (fun Fc=> ?_) (fun Fc=> ?_)
        ·exact absurd Fc (by simp)
        ·clear Fc
         refine W.skip ?_
         refine W.seq ?_
         refine W.s0 X [53] rfl ⟨⟩ ?_
         refine W.cond rfl (fun Im=> ?_) (fun Im=> ?_)
         ·exact absurd Im (by simp)
         ·clear Im
          refine W.skip ?_
          refine W.s0 X [4] rfl ⟨⟩ ?_
          refine W.ret ?_
          exact Fin.ret rfl ⟨rfl,⟨⟩⟩
end
section
theorem cQ{a:Int}(h: -9223372036854775808≤a∧a≤9223372036854775807):IntKind.i64.wrap a=a:=IntWalk.i64_in _ (by omega)
theorem BL(n:Int):IntKind.u8.wrap n=n % 256:=by
 unfold IntKind.wrap
 simp only[IntKind.signed,IntKind.bits]
 simp
def b8(n:Int):UInt8:=UInt8.ofNat (IntKind.u8.wrap n).toNat
theorem uR(n:Int):((b8 n).toNat:Int)=n % 256:=by unfold b8;rw[G0,BL]
theorem Fe{x y:UInt8}(h:(x.toNat:Int)=y.toNat):x=y:=BG h
theorem uS{a b:Int}(h:a % 256=b % 256):b8 a=b8 b:=by
 apply Fe;rw[uR,uR,h]
theorem b7{a b:Int}(h:0≤a):a.tmod b=a % b:=Int.tmod_eq_emod_of_nonneg h
theorem BM{a b:Int}(h:0≤a):a.tdiv b=a/b:=Int.tdiv_eq_ediv_of_nonneg h
theorem md_eq(p q:Int)(h1:1≤q)(h2:q≤1000000000000):(IntKind.i64.wrap (p.tmod q+q)).tmod q=p % q:=by
 have hb: -q<p.tmod q∧p.tmod q<q:=⟨Int.lt_tmod_of_pos p (by omega),Int.tmod_lt_of_pos p (by omega)⟩
 rw[cQ (by omega),b7 (by omega),Int.add_emod_right]
 rcases Int.le_total 0 p with h|h
 ·rw[b7 h,Int.emod_emod_of_dvd _ (Int.dvd_refl q)]
 ·have e:p.tmod q=p-q*p.tdiv q:=by have:=Int.tmod_add_mul_tdiv p q;omega
  rw[e,Int.sub_mul_emod_self_left]
def hs1(h v:Int):Int:=(h*1000003+v % 2147483647+13)% 2147483647
def hsh(l:List Int):Int:=l.foldl hs1 11
def kh(k:Int)(l:List Int):Int:=hsh (k::(l++ [k]))
theorem zj(h v:Int):0≤hs1 h v∧hs1 h v<2147483647:=⟨Int.emod_nonneg _ (by decide),Int.emod_lt_of_pos _ (by decide)⟩
theorem pV{α β:Type}(f:β→α→β)(b:β)(l:List α)(k:Nat)(d:α)(h:k<l.length):(l.take (k+1)).foldl f b=f ((l.take k).foldl f b) (l.getD k d):=by
 rw[bR l k d h,List.foldl_append];rfl
theorem mH: ∀l:List Int,0≤hsh l∧hsh l<2147483647:=by
 have g: ∀(l:List Int) (a:Int),(0≤a∧a<2147483647)→0≤l.foldl hs1 a∧l.foldl hs1 a<2147483647:=by
  intro l
  induction l with
  |nil=>intro a h;exact h
  |cons x r ih=>intro a _;exact ih _ (zj a x)
 exact fun l=>g l 11 (by decide)
theorem eA(k:Int)(l:List Int):0≤kh k l∧kh k l<2147483647:=mH _
theorem Ff{h v:Int}(h0:0≤h)(h1:h<2147483647):(IntKind.i64.wrap (IntKind.i64.wrap (IntKind.i64.wrap (h*1000003)+v % 2147483647)+13)).tmod 2147483647=hs1 h v:=by
 have hv:0≤v % 2147483647∧v % 2147483647<2147483647:=⟨Int.emod_nonneg _ (by decide),Int.emod_lt_of_pos _ (by decide)⟩
 rw[cQ (a:=h*1000003) (by omega),cQ (a:=h*1000003+v % 2147483647) (by omega),cQ (by omega),b7 (by omega)]
 rfl
def Fg(n:Int):Int:=if n=0 then 1 else n
theorem xW{n:Int}(h:0≤n):(if n>1 then n else 1)=Fg n:=by
 unfold Fg;split<;>split<;>omega
theorem Io{h:Int}(h0:0≤h)(h1:h<2147483647):0≤h*h∧h*h≤4611686009837453316:=by
 have:=Int.mul_le_mul (show h≤2147483646 by omega) (show h≤2147483646 by omega) h0 (by decide)
 exact⟨Int.mul_nonneg h0 h0,by omega⟩
def cs(s k:Int):Int:=(kh s [47,k]*kh s [47,k]+5)% 2147483647
theorem iW(s k:Int):0≤cs s k∧cs s k<2147483647:=⟨Int.emod_nonneg _ (by decide),Int.emod_lt_of_pos _ (by decide)⟩
theorem cs_eq{h:Int}(h0:0≤h)(h1:h<2147483647):(IntKind.i64.wrap (IntKind.i64.wrap (h*h)+5)).tmod 2147483647=(h*h+5)% 2147483647:=by
 have:=Io h0 h1
 rw[cQ (a:=h*h) (by omega),cQ (by omega),b7 (by omega)]
theorem ry{α:Type}(l:List α)(k:Nat)(d:α)(h:k<l.length):l.drop k=l.getD k d::l.drop (k+1):=by
 rw[List.drop_eq_getElem_cons h,List.getD_eq_getElem?_getD,List.getElem?_eq_getElem h];rfl
theorem BN{α:Type}(f l:List α)(k:Nat)(d y:α)(h:k<l.length)(hf:k<f.length)(hy:f.getD k d=y):(f.take k++l.drop k).set k y=f.take (k+1)++l.drop (k+1):=by
 have hk:(f.take k).length=k:=by rw[List.length_take];omega
 rw[List.set_append_right _ _ (by omega),hk,Nat.sub_self,ry l k d h,List.set_cons_zero,bR f k d hf,List.append_assoc,hy]
 rfl
theorem BO{α:Type}(f l:List α)(k:Nat)(d:α)(hf:k≤f.length):(f.take k++l.drop k).getD k d=l.getD k d:=by
 have hk:(f.take k).length=k:=by rw[List.length_take];omega
 rw[List.getD_eq_getElem?_getD,List.getElem?_append_right (by omega),hk,Nat.sub_self,List.getElem?_drop,List.getD_eq_getElem?_getD,Nat.add_zero]
theorem BP{α:Type}(f l:List α)(k:Nat)(hf:f.length=l.length)(h:k≤l.length):(f.take k++l.drop k).length=l.length:=by
 rw[List.length_append,List.length_take,List.length_drop];omega
theorem BQ{α β:Type}(f:α→β)(l:List α)(k:Nat)(d:α)(h:k<l.length):(l.take (k+1)).map f=(l.take k).map f++ [f (l.getD k d)]:=by
 rw[bR l k d h,List.map_append];rfl
theorem wT{β:Type}(f:Nat→β)(k:Nat):(List.range (k+1)).map f=(List.range k).map f++ [f k]:=by
 rw[List.range_succ,List.map_append];rfl
theorem BR{α:Type}(p:α→Bool)(l:List α)(k:Nat)(d:α)(h:k<l.length):(l.take (k+1)).all p=((l.take k).all p&&p (l.getD k d)):=by
 rw[bR l k d h,List.all_append];simp
theorem BS{α:Type}(p:α→Bool)(l:List α)(k:Nat)(d:α)(h:k<l.length):(l.take (k+1)).any p=((l.take k).any p||p (l.getD k d)):=by
 rw[bR l k d h,List.any_append];simp
theorem xX{α:Type}(l:List α)(p:α→Bool)(d:α)(k:Nat)(h:k<l.length)(h2:p (l.getD k d)=true):l.any p=true:=by
 rw[List.any_eq_true]
 refine⟨l.getD k d,?_,h2⟩
 rw[List.getD_eq_getElem?_getD,List.getElem?_eq_getElem h];simp
theorem Fh{α:Type}(l:List α)(p:α→Bool)(d:α)(k:Nat)(h:k<l.length)(h2:p (l.getD k d)=false):l.all p=false:=by
 rw[List.all_eq_false]
 refine⟨l.getD k d,?_,by rw[h2];decide⟩
 rw[List.getD_eq_getElem?_getD,List.getElem?_eq_getElem h];simp
theorem iX{α:Type}(l:List α)(k:Nat):(l.take k).length≤k:=by rw[List.length_take];omega
def inr(x lo hi:Int):Bool:=if decide (x≥lo)then decide (x≤hi)else false
theorem ak{x lo hi:Int}:(inr x lo hi=true)=(lo≤x∧x≤hi):=by simp[inr]
theorem aq{x lo hi:Int}:(inr x lo hi=false)= ¬(lo≤x∧x≤hi):=by rw[←ak];simp
theorem aa{α:Type}{l:List α}:(l.isEmpty=true)=(l= []):=by simp
theorem uT(l:List Int)(k:Nat)(h:k<l.length):hsh (l.take (k+1))=(IntKind.i64.wrap (IntKind.i64.wrap (IntKind.i64.wrap (hsh (l.take k)*1000003)+(l.getD k (aK .int))% 2147483647)+13)).tmod 2147483647:=by
 rw[Ff (mH _).1 (mH _).2]
 exact pV hs1 11 l k _ h
def stream(s:Int)(n:Nat):List UInt8:=(List.range n).map fun i:Nat=>b8 (cs s (100+(i:Int))/256)
theorem dV(s:Int)(n:Nat):(stream s n).length=n:=by simp[stream]
theorem nr(s:Int)(k:Nat)(h:k≤1000):stream s (k+1)=stream s k++ [UInt8.ofNat (IntKind.u8.wrap (IntKind.i64.wrap ((cs s (IntKind.i64.wrap (100+(k:Int)))).tdiv 256))).toNat]:=by
 have h1:=iW s (100+(k:Int))
 rw[cQ (a:=100+(k:Int)) (by omega),BM h1.1,cQ (by omega)]
 exact wT (fun i:Nat=>b8 (cs s (100+(i:Int))/256)) k
theorem uU{α:Type}(l:List (List α))(d:List α)(k:Nat)(h:k<l.length):((l.take (k+1)).map List.length).sum=((l.take k).map List.length).sum+(l.getD k d).length:=gl List.length l d k h
theorem sN{α:Type}(l:List (List α))(d:List α)(k:Nat)(h:k<l.length):(l.take (k+1)).flatten=(l.take k).flatten++l.getD k d:=by
 rw[bR l k d h,List.flatten_append];simp
theorem nu{α:Type}(l:List (List α))(k:Nat):(l.take k).flatten.length≤(l.map List.length).sum:=by
 rw[List.length_flatten];exact bS l List.length k
end
section
theorem sP{α:Type}(f l:List α)(k:Nat)(d y:α)(h:k<l.length)(hf:f.length=l.length)(hy:f.getD k d=y):f.take (k+1)++l.drop (k+1)=(f.take k++l.drop k).set k y:=(BN f l k d y h (by omega) hy).symm
theorem uZ{α:Type}(f:List α)(k:Nat)(d y:α)(h:k<f.length)(hy:f.getD k d=y):f.take (k+1)=f.take k++ [y]:=by rw[bR f k d h,hy]
theorem sQ{α:Type}(f l:List α)(k:Nat)(hf:f.length=l.length)(h:l.length≤k):f.take k++l.drop k=f:=by
 rw[List.take_of_length_le (by omega),List.drop_eq_nil_of_le h,List.append_nil]
theorem sR{β:Type}(n:Nat)(g:Nat→β)(k:Nat)(d:β)(h:k<n):((List.range n).map g).getD k d=g k:=by
 rw[List.getD_eq_getElem?_getD,List.getElem?_map,List.getElem?_range h];rfl
def dY(s:Int)(l:List UInt8):List UInt8:=(List.range l.length).map fun i:Nat=>b8 ((l.getD i (aK .u8)).toNat+kh s [(i:Int)]% 256)
theorem eB(s:Int)(l:List UInt8):(dY s l).length=l.length:=by simp[dY]
theorem va(s:Int)(l:List UInt8)(k:Nat)(h:k<l.length):(dY s l).getD k (aK .u8)=b8 ((l.getD k (aK .u8)).toNat+kh s [(k:Int)]% 256):=sR _ _ k _ h
theorem zk(s:Int)(l:List UInt8)(k:Nat)(h:k<l.length):(dY s l).take (k+1)++l.drop (k+1)=((dY s l).take k++l.drop k).set k (UInt8.ofNat (IntKind.u8.wrap ((((dY s l).take k++l.drop k).getD k (aK .u8)).toNat+IntKind.u8.wrap ((kh s [(k:Int)]).tmod 256))).toNat):=by
 refine sP _ _ k (aK .u8) _ h (eB s l) ?_
 rw[va s l k h,BO _ _ _ _ (by rw[eB];omega)]
 refine uS ?_
 have:=eA s [(k:Int)]
 rw[BL ((kh s [(k:Int)]).tmod 256),b7 this.1]
 omega
theorem zl(s:Int)(l:List UInt8)(k:Nat)(h:k<l.length):(dY s l).take (k+1)=(dY s l).take k++ [UInt8.ofNat (IntKind.u8.wrap ((IntKind.i64.wrap (IntKind.i64.wrap ((l.getD k (aK .u8)).toNat:Int)+(kh s [(k:Int)]).tmod 256)).tmod 256)).toNat]:=by
 refine uZ _ k (aK .u8) _ (by rw[eB];exact h) ?_
 rw[va s l k h]
 refine uS ?_
 have:=eA s [(k:Int)]
 have hx:=(l.getD k (aK .u8)).toNat_lt
 rw[b7 this.1,cQ (a:=((l.getD k (aK .u8)).toNat:Int)) (by omega),cQ (by omega),b7 (by omega)]
 omega
def sS(key round dir rows:Int):Int:=if(1≤rows∧rows≤64)∧0≤round∧round≤1000000000000 then cs (kh key [79,round,dir]) 0 % rows else-1
def sU(seed round rows:Int):Int:=if 1≤rows∧rows≤64 then cs (kh seed [157,round]) 0 % rows else-1
def iY(key counter:Int)(data:List UInt8):Int:=kh key ([71,counter]++data.map fun c=>(c.toNat:Int))
theorem yc(l:List UInt8)(counter:Int)(k:Nat)(h:k<l.length): [71,counter]++(l.take (k+1)).map (fun c=>(c.toNat:Int))=([71,counter]++(l.take k).map (fun c=>(c.toNat:Int)))++ [IntKind.i64.wrap ((l.getD k (aK .u8)).toNat:Int)]:=by
 have:=(l.getD k (aK .u8)).toNat_lt
 rw[cQ (by omega),BQ (fun c:UInt8=>(c.toNat:Int)) l k (aK .u8) h,List.append_assoc]
def four(n:Int):List UInt8:= [b8 n,b8 (n/256),b8 (n/65536),b8 (n/16777216)]
theorem yd(n:Int): [UInt8.ofNat (IntKind.u8.wrap n).toNat,UInt8.ofNat (IntKind.u8.wrap (n.fdiv (2^(min (Int.toNat 8) IntKind.i64.bits)))).toNat,UInt8.ofNat (IntKind.u8.wrap (n.fdiv (2^(min (Int.toNat 16) IntKind.i64.bits)))).toNat,UInt8.ofNat (IntKind.u8.wrap (n.fdiv (2^(min (Int.toNat 24) IntKind.i64.bits)))).toNat]=four n:=by
 have e1:(2:Int)^(min (Int.toNat 8) IntKind.i64.bits)=256:=by decide
 have e2:(2:Int)^(min (Int.toNat 16) IntKind.i64.bits)=65536:=by decide
 have e3:(2:Int)^(min (Int.toNat 24) IntKind.i64.bits)=16777216:=by decide
 rw[e1,e2,e3,Int.fdiv_eq_ediv_of_nonneg _ (by decide),Int.fdiv_eq_ediv_of_nonneg _ (by decide),Int.fdiv_eq_ediv_of_nonneg _ (by decide)]
 rfl
def fI(p:Plain):Bool:=(inr p.kind 0 3)&&decide ((p.body.length:Int)≤14)
def gp(k:Int):Bool:=inr k 1 2147483646
def dn(key counter:Int)(p:Plain):Bool:=gp key&&(inr counter 0 1000000000000)&&fI p
def cu(key counter:Int)(p:Plain):List UInt8:= [b8 p.kind,b8 p.body.length]++p.body++(stream (kh key [61,counter]) 18).drop p.body.length
def gZ(key counter:Int):Int:=Fg (kh key [67,counter])
def lQ(key counter:Int)(p:Plain):List UInt8:=if dn key counter p then dY (gZ key counter) (cu key counter p)++four (iY key counter (dY (gZ key counter) (cu key counter p)))else []
def pX(key dir:Int):Int:=Fg (kh key [83,dir])
def cover(seed:Int):List UInt8:=stream (kh seed [73]) 24
end
section
theorem Fk(b c:Bool):(if b=true then true else c)=(b||c):=by cases b<;>rfl
theorem Fl(b c:Bool):(if b=true then c else false)=(b&&c):=by cases b<;>rfl
theorem DA(a b:Int):(!decide (a<b))=decide (b≤a):=by rw[←decide_not];congr 1;exact propext Int.not_lt
theorem DC(a b:Int):(!decide (a≤b))=decide (b<a):=by rw[←decide_not];congr 1;exact propext Int.not_le
theorem bne_not(a b:Int):(a !=b)= !(a==b):=rfl
theorem Ke(a b:Int):decide (a=b)=(a==b):=rfl
theorem bf:(∀b c:Bool,(if b=true then true else c)=(b||c))∧(∀b c:Bool,(if b=true then c else false)=(b&&c))∧(∀a b:Int,a>b↔b<a)∧(∀a b:Nat,a>b↔b<a)∧(∀a b:Int,a≥b↔b≤a)∧(∀a b:Nat,a≥b↔b≤a)∧(∀a b:Int,(!decide (a<b))=decide (b≤a))∧(∀a b:Int,(!decide (a≤b))=decide (b<a))∧(∀a b:Int,(a !=b)= !(a==b))∧(∀a b:Int,decide (a=b)=(a==b))∧(∀(p:Prop) [Decidable p] [Decidable (¬p)],decide (¬p)= !decide p)∧(∀(α:Type) (a b:α),(a≠b)= ¬a=b)∧(∀a b:Bool,(!(a&&b))=(!a|| !b))∧(∀a b:Bool,(!(a||b))=(!a&& !b))∧(∀b:Bool,(!!b)=b)∧(∀b:Bool,(b&&true)=b)∧(∀b:Bool,(true&&b)=b)∧(∀b:Bool,(b||false)=b)∧(∀b:Bool,(false||b)=b)∧(∀n:Nat,(n:Int).toNat=n):=⟨Fk,Fl,fun _ _=>Iff.rfl,fun _ _=>Iff.rfl,fun _ _=>Iff.rfl,fun _ _=>Iff.rfl,DA,DC,bne_not,Ke,fun _=>decide_not,fun _ _ _=>rfl,Bool.not_and,Bool.not_or,Bool.not_not,Bool.and_true,Bool.true_and,Bool.or_false,Bool.false_or,Int.toNat_natCast⟩
theorem G1{E R S:Bool}(h:E=true)(he:E= !R):(R&&S)=false:=by
 rw[h]at he
 cases R with
 |false=>rfl
 |true=>exact absurd he (by decide)
theorem dr{E R:Bool}(h:E=true)(he:E= !R):R=false:=by
 rw[h]at he
 cases R with
 |false=>rfl
 |true=>exact absurd he (by decide)
theorem cU{E R:Bool}(h:E=false)(he:E= !R):R=true:=by
 rw[h]at he
 cases R with
 |true=>rfl
 |false=>exact absurd he (by decide)
def p8(d:DB):Bool:=decide ((d.rows.length:Int)≤64)&&d.rows.all fun r=>decide ((r.length:Int)=24)
def gq(rows:Int)(l:List au)(i:Nat):Bool:=inr (l.getD i (aK .au)).client 0 7&& !(decide ((0:Int)<i)&&decide ((l.getD i (aK .au)).client≤(l.getD (i-1) (aK .au)).client))&&p8 (l.getD i (aK .au)).share&&(((l.getD i (aK .au)).share.rows.length:Int)==rows)
def ve(s:b9):Bool:=inr s.id 0 3&&inr s.rows 1 64&&inr s.behavior 0 3&&inr s.round 0 100000&&decide ((s.received.length:Int)≤8)
def gr(s:b9):Bool:=ve s&&(List.range s.received.length).all (gq s.rows s.received)
def mO(rows:Int)(l:List an)(i:Nat):Bool:=inr (l.getD i (aK .an)).round 0 100000&& !(decide ((0:Int)<i)&&decide ((l.getD i (aK .an)).round≤(l.getD (i-1) (aK .an)).round))&&p8 (l.getD i (aK .an)).db&&(((l.getD i (aK .an)).db.rows.length:Int)==rows)
def BW(a:fD):Bool:=inr a.rows 1 64&&decide ((a.rounds.length:Int)≤8)
def iZ(a:fD):Bool:=BW a&&(List.range a.rounds.length).all (mO a.rows a.rounds)
def lU(a:fD):Int:=if a.rounds.length=0 then-1 else(a.rounds.getD (a.rounds.length-1) (aK .an)).round
def p9(b:List UInt8):Bool:=decide ((14:Int)<b.length)
def dO(c:dL):Bool:=inr c.id 0 7&&inr c.dc 0 7&& !(c.id==c.dc)&&gp c.key&&decide ((c.aj.length:Int)≤16)&&decide ((c.inbox.length:Int)≤16)&& !c.aj.any p9&& !c.inbox.any p9&&inr c.sent 0 c.aj.length&&inr c.next 0 100000
def fJ(a b:dL):Bool:=(a.id==b.id)&&(a.dc==b.dc)&&(a.key==b.key)&&(a.seed==b.seed)&&(a.aj==b.aj)
def BX(a b:List (List UInt8)):Bool:=decide ((a.length:Int)≤b.length)&&(a==b.take a.length)
def lV(d:bH):Bool:=dO d.live&&dO d.saved&&fJ d.live d.saved&&decide (d.saved.sent≤d.live.sent)&&decide (d.saved.next≤d.live.next)&&BX d.saved.inbox d.live.inbox
def qa(n:Int):Bool:=inr n 2 4
def yf(x:cX)(i:Nat):Bool:=gr (x.aG.getD i (aK .b9))&&((x.aG.getD i (aK .b9)).id==(i:Int))&&((x.aG.getD i (aK .b9)).rows==x.rows)&&((x.aG.getD i (aK .b9)).round==x.round)&&decide (((x.aG.getD i (aK .b9)).received.length:Int)≤0)
def okD(x:cX)(i:Nat):Bool:=lV (x.af.getD i (aK .bH))&&((x.af.getD i (aK .bH)).live.id==(i:Int))&&((x.af.getD i (aK .bH)).live.dc==((i^^^1:Nat):Int))&&((x.af.getD i (aK .bH)).live.key==(x.af.getD (i^^^1) (aK .bH)).live.key)&&decide ((x.af.getD i (aK .bH)).live.next≤x.round)
def DD(x:cX):Bool:=inr x.rows 1 64&&qa x.aG.length&&inr x.af.length 2 8&&((x.af.length:Int).tmod 2==0)&&iZ x.aW&&(x.aW.rows==x.rows)&&decide (lU x.aW<x.round)&&gp x.gC&&inr x.round 0 100000&&decide (0≤x.cancelled)
def okW(x:cX):Bool:=DD x&&(List.range x.aG.length).all (yf x)&&(List.range x.af.length).all (okD x)
theorem dx{p:Nat→Bool}{k:Nat}(h:(List.range k).all p=true)(hk:p k=true):(List.range (k+1)).all p=true:=by
 rw[List.range_succ,List.all_append,h];simp[hk]
theorem eC{p:Nat→Bool}{k n:Nat}(h:k<n)(hk:p k=false):(List.range n).all p=false:=by
 rw[List.all_eq_false]
 exact⟨k,List.mem_range.2 h,by rw[hk];decide⟩
def fidx{α:Type}(p:α→Bool)(l:List α):Int:=if l.any p then(l.findIdx p:Int)else-1
theorem BY{α:Type}{p:α→Bool}{l:List α}{k:Nat}(d:α)(h:k<l.length)(h1:(l.take k).any p=false)(h2:p (l.getD k d)=true):fidx p l=k:=by
 have ha:l.any p=true:=xX l p d k h h2
 have e:l=l.take k++l.getD k d::l.drop (k+1):=by rw[←ry l k d h,List.take_append_drop]
 unfold fidx
 rw[if_pos ha]
 have hf:l.findIdx p=k:=by
  rw[List.findIdx_eq h]
  refine⟨?_,fun j hj=> ?_⟩
  ·rw[List.getD_eq_getElem?_getD,List.getElem?_eq_getElem h]at h2;exact h2
  ·rw[List.any_eq_false]at h1
   have:=h1 l[j] (by rw[List.mem_take_iff_getElem];exact⟨j,by omega,rfl⟩)
   simpa using this
 rw[hf]
theorem zm{α:Type}{p:α→Bool}{l:List α}(h:l.any p=false):fidx p l= -1:=by unfold fidx;rw[if_neg (by rw[h];decide)]
theorem DE{α:Type}(p:α→Bool)(l:List α):decide (fidx p l≥0)=l.any p:=by
 unfold fidx
 cases h:l.any p
 ·rw[if_neg (by decide)];rfl
 ·rw[if_pos rfl];simp
theorem BZ{α:Type}{p:α→Bool}{l:List α}{k:Nat}(d:α)(h:k<l.length)(h1:(l.take k).any p=false)(h2:p (l.getD k d)=false):(l.take (k+1)).any p=false:=by
 rw[BS p l k d h,h1,h2];rfl
theorem vf{α:Type}(l:List α)(p:α→Bool):l.all p= !(l.any fun b=> !p b):=by
 induction l with
 |nil=>rfl
 |cons a r ih=>simp[ih]
end
section
theorem B0(k n:Nat)(h:k<n)(he:n % 2=0):k^^^1<n:=by
 have h1:(k^^^1)/2=k/2:=by
  have:=Nat.xor_div_two (a:=k) (b:=1)
  simpa using this
 have h2:k^^^1<2*(k/2)+2:=by
  have:=Nat.div_add_mod (k^^^1) 2
  have:=Nat.mod_lt (k^^^1) (show 0<2 by decide)
  omega
 omega
theorem G2(k:Nat)(h:k<2^62):IntKind.i64.wrap (BitVec.ofInt IntKind.i64.bits (k:Int)^^^BitVec.ofInt IntKind.i64.bits 1).toNat=((k^^^1:Nat):Int):=by
 have h2:(BitVec.ofInt IntKind.i64.bits (k:Int)^^^BitVec.ofInt IntKind.i64.bits 1).toNat=k^^^1:=by
  rw[BitVec.toNat_xor]
  have h1:(BitVec.ofInt IntKind.i64.bits 1).toNat=1:=by decide
  have h2:(BitVec.ofInt IntKind.i64.bits (k:Int)).toNat=k % 2^64:=by rw[BitVec.ofInt_natCast,BitVec.toNat_ofNat];rfl
  rw[h1,h2,Nat.mod_eq_of_lt (by omega)]
 have hx:=Nat.xor_lt_two_pow (n:=62) h (show 1<2^62 by decide)
 rw[h2,cQ (by omega)]
theorem sW{x:cX}(h:DD x=true):x.af.length % 2=0∧x.af.length≤8∧2≤x.af.length:=by
 simp only[DD,ak,Bool.and_eq_true,beq_iff_eq]at h
 have h1:=h.1.1.1.1.1.1.2
 have h2:=h.1.1.1.1.1.1.1.2
 rw[b7 (by omega)]at h1
 omega
theorem B1{x:cX}(h:okW x=true):DD x=true:=by simp only[okW,Bool.and_eq_true]at h;exact h.1.1
def FQ(x:cX):Bool:=(List.range x.aG.length).all (yf x)&&qa x.aG.length
def D5(x:cX):Bool:=((x.af.length:Int).tmod 2==0)&&inr x.af.length 2 8&&(List.range x.af.length).all (okD x)
def eD(c:dL):Int:=if c.id<c.dc then 0 else 1
def vg(c:dL)(Jd:Int):List UInt8:=lQ (pX c.key (eD c)) Jd ⟨1,c.aj.getD Jd.toNat (aK (.sl .u8))⟩
def jN(c:dL)(r n:Int):Bool:=dO c&&inr r 0 100000&&inr n 1 64
def gx(c:dL)(r n:Int):Int:=if jN c r n=true then(if c.sent<c.aj.length then sS c.key r (eD c) n else sU c.seed r n)else 0
def fY(c:dL)(r n:Int):List UInt8:=if jN c r n=true then(if c.sent<c.aj.length then vg c c.sent else cover (kh c.seed [r]))else []
theorem rz{c:dL}{r n:Int}(h:jN c r n=true):0≤c.sent∧c.sent≤c.aj.length:=by
 simp only[jN,dO,ak,Bool.and_eq_true]at h
 exact h.1.1.1.2
theorem nw{k c:Int}{p:Plain}(h:dn k c p=true):p.body.length≤14:=by
 simp only[dn,fI,Bool.and_eq_true,decide_eq_true_eq]at h
 omega
end
section
theorem Fm{x:cX}(h:bq x≤1048576):x.af.length≤1048576:=by
 have h2:cj aO x.af≤1048576:=by unfold bq at h;omega
 exact gD h2
theorem Fo{x:cX}(h:bq x≤1048576):x.aG.length≤1048576:=by
 have h2:cj aM x.aG≤1048576:=by unfold bq at h;omega
 exact gD h2
end
section
def waiting(c:dL):Int:=IntKind.i64.wrap ((c.aj.length:Int)-c.sent)
end
section
theorem rA(y x v:Int): ∀l:List Int,fB (oE l x v) y=if y=x then v else fB l y
 | []=>by
   show fB [x,v] y=_
   rw[fB];try rfl
 | [a]=>by
   show fB [x,v] y=_
   rw[fB];try rfl
 |k::w::r=>by
  rw[oE]
  by_cases h:x=k
  ·subst h
   rw[if_pos rfl,fB,fB]
   by_cases h2:y=x
   ·rw[if_pos h2,if_pos h2]
   ·rw[if_neg h2,if_neg h2,if_neg h2]
  ·rw[if_neg h,fB,fB,rA y x v r]
   by_cases h2:y=k
   ·subst h2
    rw[if_pos rfl,if_pos rfl,if_neg (fun e=>h e.symm)]
   ·rw[if_neg h2,if_neg h2]
def Fw(m:List Int)(r:Int):List Int:=oE m r (IntKind.i64.wrap (fB m r+1))
def zo(l:List Int):List Int:=l.foldl Fw []
theorem rB(l:List Int)(k:Nat)(h:k<l.length):zo (l.take (k+1))=Fw (zo (l.take k)) (l.getD k (aK .int)):=pV _ _ _ _ _ h
theorem B3(l:List Int)(r:Int)(h:l.length≤1000):fB (zo l) r=(l.count r:Int):=by
 have key: ∀k,k≤l.length→fB (zo (l.take k)) r=((l.take k).count r:Int):=by
  intro k
  induction k with
  |zero=>intro _;rfl
  |succ k ih=>
   intro hk
   have ih:=ih (by omega)
   have hc:=List.count_le_length (a:=r) (l:=l.take k)
   rw[List.length_take]at hc
   rw[rB l k (by omega),Fw,rA,bR l k (aK .int) (by omega),List.count_append,List.count_singleton]
   by_cases hr:r=l.getD k (aK .int)
   ·rw[if_pos hr, ←hr,ih,cQ (by omega)]
    simp
   ·have hb:(l.getD k (aK .int)==r)=false:=by rw[beq_eq_false_iff_ne];exact fun e=>hr e.symm
    rw[if_neg hr,ih,hb]
    simp
 have:=key l.length (Nat.le_refl _)
 rwa [List.take_length]at this
def sX(l:List Int)(i m:Nat):Bool:=(List.range m).any fun j=> !decide (j=i)&&decide (l.getD j (aK .int)=l.getD i (aK .int))
theorem zq(l:List Int)(i m:Nat):sX l i (m+1)=(sX l i m|| (!decide (m=i)&&decide (l.getD m (aK .int)=l.getD i (aK .int)))):=by
 unfold sX
 rw[List.range_succ,List.any_append]
 simp
theorem wW(l:List Int)(i m:Nat):sX l i (m+1)=(if sX l i m=true then true else if((m:Int) !=(i:Int))=true then(l.getD ((m:Int)).toNat (aK .int)==l.getD ((i:Int)).toNat (aK .int))else false):=by
 rw[zq,Int.toNat_natCast,Int.toNat_natCast]
 cases sX l i m with
 |true=>simp
 |false=>
  by_cases h:m=i
  ·subst h;simp
  ·have h2:((m:Int) !=(i:Int))=true:=by rw[bne_iff_ne];omega
   rw[if_neg (by decide),if_pos h2,Bool.eq_iff_iff]
   simp[h]
theorem DF{a b c:Bool}(h:(if a=true then b else false)=false)(hc:c=(b&&a)):c=false:=by
 subst hc
 cases a<;>cases b<;>simp_all
theorem Fx{l:List Int}{i:Nat}(hi:i<l.length)(hl:l.length≤1000):decide (fB (zo l) (l.getD i (aK .int))>1)=sX l i l.length:=by
 rw[B3 _ _ hl]
 have hg:l.getD i (aK .int)=l[i]:=by rw[List.getD_eq_getElem?_getD,List.getElem?_eq_getElem hi];rfl
 have hc:l.count l[i]=(l.take i).count l[i]+1+(l.drop (i+1)).count l[i]:=by
  have e: ∀a,l.count a=(l.take i).count a+(l.drop i).count a:=fun a=>by rw[←List.count_append,List.take_append_drop]
  rw[e,List.drop_eq_getElem_cons hi,List.count_cons_self];omega
 rw[hg,hc,Bool.eq_iff_iff,decide_eq_true_eq]
 constructor
 ·intro h
  have:0<(l.take i).count l[i]∨0<(l.drop (i+1)).count l[i]:=by omega
  rcases this with h|h
  ·obtain⟨j,hj,he⟩:=List.mem_iff_getElem.1 (List.count_pos_iff.1 h)
   have hj2:j<i:=by rw[List.length_take]at hj;omega
   refine List.any_eq_true.2 ⟨j,List.mem_range.2 (by omega),?_⟩
   rw[List.getElem_take]at he
   have:l.getD j (aK .int)=l[j]:=by rw[List.getD_eq_getElem?_getD,List.getElem?_eq_getElem (by omega)];rfl
   simp only[this,hg,he,Bool.and_eq_true,Bool.not_eq_true',decide_eq_false_iff_not,decide_eq_true_eq]
   exact⟨by omega,trivial⟩
  ·obtain⟨j,hj,he⟩:=List.mem_iff_getElem.1 (List.count_pos_iff.1 h)
   rw[List.length_drop]at hj
   refine List.any_eq_true.2 ⟨i+1+j,List.mem_range.2 (by omega),?_⟩
   rw[List.getElem_drop]at he
   have:l.getD (i+1+j) (aK .int)=l[i+1+j]:=by rw[List.getD_eq_getElem?_getD,List.getElem?_eq_getElem (by omega)];rfl
   simp only[this,hg,he,Bool.and_eq_true,Bool.not_eq_true',decide_eq_false_iff_not,decide_eq_true_eq]
   exact⟨by omega,trivial⟩
 ·intro h
  obtain⟨j,hj,he⟩:=List.any_eq_true.1 h
  have hj:=List.mem_range.1 hj
  simp only[Bool.and_eq_true,Bool.not_eq_true',decide_eq_false_iff_not,decide_eq_true_eq]at he
  have Kn:l.getD j (aK .int)=l[j]:=by rw[List.getD_eq_getElem?_getD,List.getElem?_eq_getElem hj];rfl
  rw[Kn,hg]at he
  rcases Nat.lt_or_gt_of_ne he.1 with h1|h1
  ·have:0<(l.take i).count l[i]:=List.count_pos_iff.2 (List.mem_iff_getElem.2 ⟨j,by rw[List.length_take];omega,by rw[List.getElem_take];exact he.2⟩)
   omega
  ·have:0<(l.drop (i+1)).count l[i]:=List.count_pos_iff.2 (List.mem_iff_getElem.2 ⟨j-(i+1),by rw[List.length_drop];omega,by rw[List.getElem_drop];rw[←he.2];congr 1;omega⟩)
   omega
def cw(x:cX):List Int:=x.af.map fun d=>gx d.live x.round x.rows
theorem mS(x:cX):(cw x).length=x.af.length:=List.length_map ..
theorem rC{x:cX}{k:Nat}(h:k<x.af.length):(cw x).getD k (aK .int)=gx (x.af.getD k (aK .bH)).live x.round x.rows:=by
 unfold cw
 rw[List.getD_eq_getElem?_getD,List.getElem?_map,List.getElem?_eq_getElem h,List.getD_eq_getElem?_getD,List.getElem?_eq_getElem h];rfl
theorem qd{x:cX}{k:Nat}(h:k<x.af.length):(cw x).take (k+1)=(cw x).take k++ [gx (x.af.getD k (aK .bH)).live x.round x.rows]:=by
 rw[bR _ k (aK .int) (by rw[mS];exact h),rC h]
def qg(x:cX)(i:Nat):Bool:=decide (waiting (x.af.getD i (aK .bH)).live>0)&&sX (cw x) i (cw x).length
def mT(x:cX)(k:Nat):Nat:=((List.range k).filter (qg x)).length
theorem vh{x:cX}{k:Nat}(h:qg x k=true):mT x (k+1)=mT x k+1:=by unfold mT;rw[List.range_succ,List.filter_append,List.length_append];simp[h]
theorem rD{x:cX}{k:Nat}(h:qg x k=false):mT x (k+1)=mT x k:=by unfold mT;rw[List.range_succ,List.filter_append,List.length_append];simp[h]
theorem yh(x:cX)(k:Nat):mT x k≤k:=by
 unfold mT
 have:=List.length_filter_le (qg x) (List.range k)
 simpa using this
def coll(x:cX):Int:=if okW x then(mT x x.af.length:Int)else 0
end
section
theorem B4(w:World):(zeroValue 3).run Tryz.prog w= .ok (.int .i64 0) w:=by
 have h:(Tryz.prog.info? 3).map (fun i=>i.zero)=some (some (.int .i64 0)):=by kernel_rfl
 cases hq:Tryz.prog.info? 3 with
 |none=>rw[hq]at h;cases h
 |some i=>
  rw[hq]at h
  simp only[Option.map_some,Option.some.injEq]at h
  simp[zeroValue,typeInfo,hq,h]
theorem vi:aQ Tryz.prog 213 .mp:=⟨3,3,Tryz.underlying213,Tryz.underlying3,B4,by kernel_rfl⟩
def Fy:List (Nat×TK):=(213, .mp)::tys
def Γ3(t:Nat):TK:=match look Fy t with|some k=>k|none=> .other
theorem Fz: ∀e,e∈Fy→aQ Tryz.prog e.1 e.2:=by
 intro e he
 rcases List.mem_cons.1 he with rfl|he
 ·exact vi
 ·exact kinds e he
theorem G4: ∀e,e∈Fy→(∀z tg fo,e.2≠ .st z tg fo)→(Tryz.prog.info? e.1).map (·.size)=some 1:=by
 intro e he h
 rcases List.mem_cons.1 he with rfl|he
 ·obtain⟨_,_,_,_,_,h⟩:=vi
  exact h
 ·exact GZ e he h
theorem X3:Ctx Tryz.prog ty Γ3 where
 kind:=fun t=>by
  unfold Γ3
  split
  ·rename_i k hk;exact Fz (t,k) (bt hk)
  ·trivial
 one:=fun t h1 h2=>by
  unfold Γ3 at h1 h2
  split at h1
  ·rename_i k hk;exact G4 (t,k) (bt hk) h1
  ·rename_i hk;rw[hk]at h2;exact absurd rfl h2
end
end Go.Proofs.YteodajeiagmekaaGreat.G
