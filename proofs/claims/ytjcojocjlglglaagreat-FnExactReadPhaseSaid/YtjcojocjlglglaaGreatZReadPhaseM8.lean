/-
  Events: messages submitted, clients crashed and saved, servers corrupted, rounds. No program in sight.
-/
import Derived.Test.YtjcojocjlglglaaGreatZReadPhaseM7
import Derived.Test.YtjcojocjlglglaaGreatProg
import Derived.KernelRfl
namespace Go.Proofs.YtjcojocjlglglaaGreat.G
set_option linter.all false
open Go.RowKit L D
theorem J5:(Tryz.prog.info? 3).map (fun i=>(i.zero,i.size,i.bytes))=some (some (.int .i64 0),1,8):=by kernel_rfl
theorem J6:(Tryz.prog.info? 5).map (fun i=>(i.zero,i.size,i.bytes))=some (some (.int .u8 0),1,1):=by kernel_rfl
theorem M6:(Tryz.prog.info? 9).map (fun i=>(i.zero,i.size,i.bytes))=some (some (.string ⟨#[]⟩),1,16):=by kernel_rfl
theorem GK:(Tryz.prog.info? 52).map (fun i=>(i.zero,i.size,i.bytes))=some (some (.slice none 0 0),1,24):=by kernel_rfl
theorem GL:(Tryz.prog.info? 27).map (fun i=>(i.zero,i.size,i.bytes))=some (some (.slice none 0 0),1,24):=by kernel_rfl
theorem Le:(Tryz.prog.info? 87).map (fun i=>(i.zero,i.size,i.bytes))=some (some (.slice none 0 0),1,24):=by kernel_rfl
theorem zo:(Tryz.prog.info? 114).map (fun i=>(i.zero,i.size,i.bytes))=some (some (.agg #[.slice none 0 0]),1,24):=by kernel_rfl
theorem I2:(Tryz.prog.info? 215).map (fun i=>(i.zero,i.size,i.bytes))=some (some (.agg #[.slice none 0 0]),1,24):=by kernel_rfl
theorem zq:(Tryz.prog.info? 219).map (fun i=>(i.zero,i.size,i.bytes))=some (some (.agg #[.int .i64 0, .slice none 0 0]),2,32):=by kernel_rfl
theorem Du:(Tryz.prog.info? 264).map (fun i=>(i.zero,i.size,i.bytes))=some (some (.agg #[.int .i64 0, .slice none 0 0]),2,32):=by kernel_rfl
theorem zu:(Tryz.prog.info? 152).map (fun i=>(i.zero,i.size,i.bytes))=some (some (.agg #[.int .i64 0, .int .i64 0, .int .i64 0, .slice none 0 0, .int .i64 0]),5,56):=by kernel_rfl
theorem Dv:(Tryz.prog.info? 144).map (fun i=>(i.zero,i.size,i.bytes))=some (some (.agg #[.int .i64 0, .int .i64 0, .int .i64 0, .slice none 0 0, .int .i64 0]),5,56):=by kernel_rfl
theorem zv:(Tryz.prog.info? 159).map (fun i=>(i.zero,i.size,i.bytes))=some (some (.agg #[.int .i64 0, .slice none 0 0]),2,32):=by kernel_rfl
theorem Dw:(Tryz.prog.info? 217).map (fun i=>(i.zero,i.size,i.bytes))=some (some (.agg #[.int .i64 0, .slice none 0 0]),2,32):=by kernel_rfl
theorem GM:(Tryz.prog.info? 35).map (fun i=>(i.zero,i.size,i.bytes))=some (some (.agg #[.int .i64 0, .slice none 0 0]),2,32):=by kernel_rfl
theorem Lf:(Tryz.prog.info? 26).map (fun i=>(i.zero,i.size,i.bytes))=some (some (.agg #[.int .i64 0, .slice none 0 0]),2,32):=by kernel_rfl
theorem GN:(Tryz.prog.info? 89).map (fun i=>(i.zero,i.size,i.bytes))=some (some (.agg #[.int .i64 0, .int .i64 0, .int .i64 0, .int .i64 0, .slice none 0 0, .int .i64 0, .slice none 0 0, .int .i64 0]),8,96):=by kernel_rfl
theorem I3:(Tryz.prog.info? 146).map (fun i=>(i.zero,i.size,i.bytes))=some (some (.agg #[.int .i64 0, .int .i64 0, .int .i64 0, .int .i64 0, .slice none 0 0, .int .i64 0, .slice none 0 0, .int .i64 0]),8,96):=by kernel_rfl
theorem Cn:(Tryz.prog.info? 91).map (fun i=>(i.zero,i.size,i.bytes))=some (some (.agg #[.int .i64 0, .int .i64 0, .int .i64 0, .int .i64 0, .slice none 0 0, .int .i64 0, .slice none 0 0, .int .i64 0, .int .i64 0, .int .i64 0, .int .i64 0, .int .i64 0, .slice none 0 0, .int .i64 0, .slice none 0 0, .int .i64 0]),16,192):=by kernel_rfl
theorem Dx:(Tryz.prog.info? 148).map (fun i=>(i.zero,i.size,i.bytes))=some (some (.agg #[.int .i64 0, .int .i64 0, .int .i64 0, .int .i64 0, .slice none 0 0, .int .i64 0, .slice none 0 0, .int .i64 0, .int .i64 0, .int .i64 0, .int .i64 0, .int .i64 0, .slice none 0 0, .int .i64 0, .slice none 0 0, .int .i64 0]),16,192):=by kernel_rfl
theorem GO:(Tryz.prog.info? 37).map (fun i=>(i.zero,i.size,i.bytes))=some (some (.agg #[.int .i64 0, .slice none 0 0, .slice none 0 0, .int .i64 0, .slice none 0 0, .int .i64 0, .int .i64 0, .int .i64 0, .slice none 0 0, .int .i64 0]),10,144):=by kernel_rfl
theorem Lg:(Tryz.prog.info? 29).map (fun i=>(i.zero,i.size,i.bytes))=some (some (.agg #[.int .i64 0, .slice none 0 0, .slice none 0 0, .int .i64 0, .slice none 0 0, .int .i64 0, .int .i64 0, .int .i64 0, .slice none 0 0, .int .i64 0]),10,144):=by kernel_rfl
theorem Co:(Tryz.prog.info? 58).map (fun i=>(i.zero,i.size,i.bytes))=some (some (.agg #[.int .i64 0, .int .i64 0, .int .i64 0, .slice none 0 0]),4,48):=by kernel_rfl
theorem GP:(Tryz.prog.info? 54).map (fun i=>(i.zero,i.size,i.bytes))=some (some (.agg #[.int .i64 0, .int .i64 0, .int .i64 0, .slice none 0 0]),4,48):=by kernel_rfl
theorem zw:(Tryz.prog.info? 186).map (fun i=>(i.zero,i.size,i.bytes))=some (some (.agg #[.int .i64 0, .int .i64 0, .int .i64 0, .int .i64 0, .int .i64 0]),5,40):=by kernel_rfl
theorem Dy:(Tryz.prog.info? 227).map (fun i=>(i.zero,i.size,i.bytes))=some (some (.agg #[.int .i64 0, .slice none 0 0]),2,32):=by kernel_rfl
theorem zx:(Tryz.prog.info? 165).map (fun i=>(i.zero,i.size,i.bytes))=some (some (.agg #[.int .i64 0, .int .i64 0, .slice none 0 0, .slice none 0 0, .int .i64 0]),5,72):=by kernel_rfl
theorem gT{P:Program}{i:Nat}{z:Option Value}{k b:Nat}(h:(P.info? i).map (fun i=>(i.zero,i.size,i.bytes))=some (z,k,b)):(P.info? i).map (·.size)=some k:=by
 cases hq:P.info? i with
 |none=>simp[hq]at h
 |some x=>simp[hq]at h;simp[h]
theorem I4{P:Program}{i:Nat}{z:Option Value}{k b:Nat}(h:(P.info? i).map (fun i=>(i.zero,i.size,i.bytes))=some (z,k,b)):(P.info? i).map (fun i=>(i.size,i.zero))=some (k,z):=by
 cases hq:P.info? i with
 |none=>simp[hq]at h
 |some x=>simp[hq]at h;simp[h]
theorem fk{P:Program}{t:Nat}{z:List Value}{tg:List (Option Tag)}{fo:List Nat}{fs:Array Field}{b:Nat}(hu:P.underlying t=some (.struct fs))(hi:(P.info? t).map (fun i=>(i.zero,i.size,i.bytes))=some (some (.agg z.toArray),z.length,b))(hz:z.all (·.oneCell')=true)(hf:pH P z.length fs.toList fo=true):bG P t (.st z tg fo):=
 ⟨fs,hu,I4 hi,fun v hv=>List.all_eq_true.1 hz v hv,fun f k h=>by obtain⟨fd,h1,h2⟩:=(mg hf).1 f k h;exact⟨fd,by simpa using h1,h2⟩,(mg hf).2⟩
theorem ct{P:Program}{i:Nat}(h:(P.info? i).map (fun i=>Nat.beq i.size 1)=some true):(P.info? i).map (·.size)=some 1:=by
 cases hq:P.info? i with
 |none=>simp[hq]at h
 |some x=>simp[hq]at h;simp[h]
def tys:List (Nat×TK):= [(3, .int .i64),
 (2, .int .i64),
 (21, .int .i32),
 (5, .int .u8),
 (291, .int .u32),
 (247, .int .u64),
 (12, .int .u64),
 (4, .bool),
 (9, .str),
 (114, .st [.slice none 0 0] [some (.sl .u8)] [0]),
 (215, .st [.slice none 0 0] [some (.sl .u8)] [0]),
 (219, .st [.int .i64 0, .slice none 0 0] [none,some (.sl .u8)] [0,1]),
 (264, .st [.int .i64 0, .slice none 0 0] [none,some (.sl .u8)] [0,1]),
 (152, .st [.int .i64 0, .int .i64 0, .int .i64 0, .slice none 0 0, .int .i64 0] [none,none,none,some .aE,none] [0,1,2,3,4]),
 (144, .st [.int .i64 0, .int .i64 0, .int .i64 0, .slice none 0 0, .int .i64 0] [none,none,none,some .aE,none] [0,1,2,3,4]),
 (159, .st [.int .i64 0, .slice none 0 0] [none,some (.sl .u8)] [0,1]),
 (217, .st [.int .i64 0, .slice none 0 0] [none,some (.sl .u8)] [0,1]),
 (35, .st [.int .i64 0, .slice none 0 0] [none,some .az] [0,1]),
 (26, .st [.int .i64 0, .slice none 0 0] [none,some .az] [0,1]),
 (89, .st [.int .i64 0, .int .i64 0, .int .i64 0, .int .i64 0, .slice none 0 0, .int .i64 0, .slice none 0 0, .int .i64 0] [none,none,none,none,some (.sl .u8),none,some (.sl .u8),none] [0,1,2,3,4,5,6,7]),
 (146, .st [.int .i64 0, .int .i64 0, .int .i64 0, .int .i64 0, .slice none 0 0, .int .i64 0, .slice none 0 0, .int .i64 0] [none,none,none,none,some (.sl .u8),none,some (.sl .u8),none] [0,1,2,3,4,5,6,7]),
 (91, .st [.int .i64 0, .int .i64 0, .int .i64 0, .int .i64 0, .slice none 0 0, .int .i64 0, .slice none 0 0, .int .i64 0, .int .i64 0, .int .i64 0, .int .i64 0, .int .i64 0, .slice none 0 0, .int .i64 0, .slice none 0 0, .int .i64 0] [none,none,none,none,some (.sl .u8),none,some (.sl .u8),none,none,none,none,none,some (.sl .u8),none,some (.sl .u8),none] [0,8]),
 (148, .st [.int .i64 0, .int .i64 0, .int .i64 0, .int .i64 0, .slice none 0 0, .int .i64 0, .slice none 0 0, .int .i64 0, .int .i64 0, .int .i64 0, .int .i64 0, .int .i64 0, .slice none 0 0, .int .i64 0, .slice none 0 0, .int .i64 0] [none,none,none,none,some (.sl .u8),none,some (.sl .u8),none,none,none,none,none,some (.sl .u8),none,some (.sl .u8),none] [0,8]),
 (37, .st [.int .i64 0, .slice none 0 0, .slice none 0 0, .int .i64 0, .slice none 0 0, .int .i64 0, .int .i64 0, .int .i64 0, .slice none 0 0, .int .i64 0] [none,some .bO,some .aO,none,some .az,none,none,none,some .int,none] [0,1,2,3,5,6,7,8,9]),
 (29, .st [.int .i64 0, .slice none 0 0, .slice none 0 0, .int .i64 0, .slice none 0 0, .int .i64 0, .int .i64 0, .int .i64 0, .slice none 0 0, .int .i64 0] [none,some .bO,some .aO,none,some .az,none,none,none,some .int,none] [0,1,2,3,5,6,7,8,9]),
 (58, .st [.int .i64 0, .int .i64 0, .int .i64 0, .slice none 0 0] [none,none,none,some .u8] [0,1,2,3]),
 (54, .st [.int .i64 0, .int .i64 0, .int .i64 0, .slice none 0 0] [none,none,none,some .u8] [0,1,2,3]),
 (186, .st [.int .i64 0, .int .i64 0, .int .i64 0, .int .i64 0, .int .i64 0] [none,none,none,none,none] [0,1,2,3,4]),
 (227, .st [.int .i64 0, .slice none 0 0] [none,some .u8] [0,1]),
 (165, .st [.int .i64 0, .int .i64 0, .slice none 0 0, .slice none 0 0, .int .i64 0] [none,none,some .int,some .u8,none] [0,1,2,3,4]),
 (27, .sl .int 3),
 (52, .sl .u8 5),
 (87, .sl (.sl .u8) 52),
 (66, .sl (.sl .int) 27),
 (72, .sl .DB 114),
 (150, .sl .aE 219),
 (142, .sl .aE 264),
 (31, .sl .bO 152),
 (22, .sl .bO 144),
 (33, .sl .az 159),
 (24, .sl .az 217),
 (32, .sl .aO 91),
 (23, .sl .aO 148),
 (48, .sl .Ev 58),
 (45, .sl .Ev 54),
 (109, .sl .oq 186),
 (163, .sl .bw 165)]
def Γ(t:Nat):TK:=match look tys t with|some k=>k|none=> .other
def ty:Tag→Nat
 | .int=>3
 | .u8=>5
 | .str=>9
 | (.sl .u8)=>52
 | (.sl .int)=>27
 | (.sl (.sl .u8))=>87
 | .DB=>114
 | .aE=>219
 | .bO=>152
 | .az=>159
 | .gJ=>35
 | .dL=>89
 | .aO=>91
 | .b7=>37
 | .Ev=>58
 | .oq=>186
 | .Plain=>227
 | .bw=>165
 |_=>1000000000
theorem Lh:bG Tryz.prog 3 (.int .i64):=Tryz.underlying3
theorem Li:bG Tryz.prog 2 (.int .i64):=Tryz.underlying2
theorem I5:bG Tryz.prog 21 (.int .i32):=Tryz.underlying21
theorem Lj:bG Tryz.prog 5 (.int .u8):=Tryz.underlying5
theorem GQ:bG Tryz.prog 291 (.int .u32):=Tryz.underlying291
theorem GR:bG Tryz.prog 247 (.int .u64):=Tryz.underlying247
theorem I6:bG Tryz.prog 12 (.int .u64):=Tryz.underlying12
theorem Lk:bG Tryz.prog 4 (.bool):=Tryz.underlying4
theorem Ll:bG Tryz.prog 9 (.str):=Tryz.underlying9
theorem GS:bG Tryz.prog 114 (.st [.slice none 0 0] [some (.sl .u8)] [0]):=fk Tryz.underlying114 zo rfl (by kernel_rfl)
theorem GU:bG Tryz.prog 215 (.st [.slice none 0 0] [some (.sl .u8)] [0]):=fk Tryz.underlying215 I2 rfl (by kernel_rfl)
theorem GV:bG Tryz.prog 219 (.st [.int .i64 0, .slice none 0 0] [none,some (.sl .u8)] [0,1]):=fk Tryz.underlying219 zq rfl (by kernel_rfl)
theorem GW:bG Tryz.prog 264 (.st [.int .i64 0, .slice none 0 0] [none,some (.sl .u8)] [0,1]):=fk Tryz.underlying264 Du rfl (by kernel_rfl)
theorem GX:bG Tryz.prog 152 (.st [.int .i64 0, .int .i64 0, .int .i64 0, .slice none 0 0, .int .i64 0] [none,none,none,some .aE,none] [0,1,2,3,4]):=fk Tryz.underlying152 zu rfl (by kernel_rfl)
theorem GY:bG Tryz.prog 144 (.st [.int .i64 0, .int .i64 0, .int .i64 0, .slice none 0 0, .int .i64 0] [none,none,none,some .aE,none] [0,1,2,3,4]):=fk Tryz.underlying144 Dv rfl (by kernel_rfl)
theorem GZ:bG Tryz.prog 159 (.st [.int .i64 0, .slice none 0 0] [none,some (.sl .u8)] [0,1]):=fk Tryz.underlying159 zv rfl (by kernel_rfl)
theorem G0:bG Tryz.prog 217 (.st [.int .i64 0, .slice none 0 0] [none,some (.sl .u8)] [0,1]):=fk Tryz.underlying217 Dw rfl (by kernel_rfl)
theorem I7:bG Tryz.prog 35 (.st [.int .i64 0, .slice none 0 0] [none,some .az] [0,1]):=fk Tryz.underlying35 GM rfl (by kernel_rfl)
theorem I8:bG Tryz.prog 26 (.st [.int .i64 0, .slice none 0 0] [none,some .az] [0,1]):=fk Tryz.underlying26 Lf rfl (by kernel_rfl)
theorem I9:bG Tryz.prog 89 (.st [.int .i64 0, .int .i64 0, .int .i64 0, .int .i64 0, .slice none 0 0, .int .i64 0, .slice none 0 0, .int .i64 0] [none,none,none,none,some (.sl .u8),none,some (.sl .u8),none] [0,1,2,3,4,5,6,7]):=fk Tryz.underlying89 GN rfl (by kernel_rfl)
theorem G1:bG Tryz.prog 146 (.st [.int .i64 0, .int .i64 0, .int .i64 0, .int .i64 0, .slice none 0 0, .int .i64 0, .slice none 0 0, .int .i64 0] [none,none,none,none,some (.sl .u8),none,some (.sl .u8),none] [0,1,2,3,4,5,6,7]):=fk Tryz.underlying146 I3 rfl (by kernel_rfl)
theorem Ja:bG Tryz.prog 91 (.st [.int .i64 0, .int .i64 0, .int .i64 0, .int .i64 0, .slice none 0 0, .int .i64 0, .slice none 0 0, .int .i64 0, .int .i64 0, .int .i64 0, .int .i64 0, .int .i64 0, .slice none 0 0, .int .i64 0, .slice none 0 0, .int .i64 0] [none,none,none,none,some (.sl .u8),none,some (.sl .u8),none,none,none,none,none,some (.sl .u8),none,some (.sl .u8),none] [0,8]):=fk Tryz.underlying91 Cn rfl (by kernel_rfl)
theorem G2:bG Tryz.prog 148 (.st [.int .i64 0, .int .i64 0, .int .i64 0, .int .i64 0, .slice none 0 0, .int .i64 0, .slice none 0 0, .int .i64 0, .int .i64 0, .int .i64 0, .int .i64 0, .int .i64 0, .slice none 0 0, .int .i64 0, .slice none 0 0, .int .i64 0] [none,none,none,none,some (.sl .u8),none,some (.sl .u8),none,none,none,none,none,some (.sl .u8),none,some (.sl .u8),none] [0,8]):=fk Tryz.underlying148 Dx rfl (by kernel_rfl)
theorem Jb:bG Tryz.prog 37 (.st [.int .i64 0, .slice none 0 0, .slice none 0 0, .int .i64 0, .slice none 0 0, .int .i64 0, .int .i64 0, .int .i64 0, .slice none 0 0, .int .i64 0] [none,some .bO,some .aO,none,some .az,none,none,none,some .int,none] [0,1,2,3,5,6,7,8,9]):=fk Tryz.underlying37 GO rfl (by kernel_rfl)
theorem Jc:bG Tryz.prog 29 (.st [.int .i64 0, .slice none 0 0, .slice none 0 0, .int .i64 0, .slice none 0 0, .int .i64 0, .int .i64 0, .int .i64 0, .slice none 0 0, .int .i64 0] [none,some .bO,some .aO,none,some .az,none,none,none,some .int,none] [0,1,2,3,5,6,7,8,9]):=fk Tryz.underlying29 Lg rfl (by kernel_rfl)
theorem Jd:bG Tryz.prog 58 (.st [.int .i64 0, .int .i64 0, .int .i64 0, .slice none 0 0] [none,none,none,some .u8] [0,1,2,3]):=fk Tryz.underlying58 Co rfl (by kernel_rfl)
theorem Je:bG Tryz.prog 54 (.st [.int .i64 0, .int .i64 0, .int .i64 0, .slice none 0 0] [none,none,none,some .u8] [0,1,2,3]):=fk Tryz.underlying54 GP rfl (by kernel_rfl)
theorem G3:bG Tryz.prog 186 (.st [.int .i64 0, .int .i64 0, .int .i64 0, .int .i64 0, .int .i64 0] [none,none,none,none,none] [0,1,2,3,4]):=fk Tryz.underlying186 zw rfl (by kernel_rfl)
theorem G4:bG Tryz.prog 227 (.st [.int .i64 0, .slice none 0 0] [none,some .u8] [0,1]):=fk Tryz.underlying227 Dy rfl (by kernel_rfl)
theorem G5:bG Tryz.prog 165 (.st [.int .i64 0, .int .i64 0, .slice none 0 0, .slice none 0 0, .int .i64 0] [none,none,some .int,some .u8,none] [0,1,2,3,4]):=fk Tryz.underlying165 zx rfl (by kernel_rfl)
theorem Jf:bG Tryz.prog 27 (.sl .int 3):=⟨Tryz.underlying27,gT J5⟩
theorem Jg:bG Tryz.prog 52 (.sl .u8 5):=⟨Tryz.underlying52,gT J6⟩
theorem Jh:bG Tryz.prog 87 (.sl (.sl .u8) 52):=⟨Tryz.underlying87,gT GK⟩
theorem Ji:bG Tryz.prog 66 (.sl (.sl .int) 27):=⟨Tryz.underlying66,gT GL⟩
theorem Jj:bG Tryz.prog 72 (.sl .DB 114):=⟨Tryz.underlying72,gT zo⟩
theorem G6:bG Tryz.prog 150 (.sl .aE 219):=⟨Tryz.underlying150,gT zq⟩
theorem G7:bG Tryz.prog 142 (.sl .aE 264):=⟨Tryz.underlying142,gT Du⟩
theorem Jk:bG Tryz.prog 31 (.sl .bO 152):=⟨Tryz.underlying31,gT zu⟩
theorem Jl:bG Tryz.prog 22 (.sl .bO 144):=⟨Tryz.underlying22,gT Dv⟩
theorem Jm:bG Tryz.prog 33 (.sl .az 159):=⟨Tryz.underlying33,gT zv⟩
theorem Jn:bG Tryz.prog 24 (.sl .az 217):=⟨Tryz.underlying24,gT Dw⟩
theorem Jo:bG Tryz.prog 32 (.sl .aO 91):=⟨Tryz.underlying32,gT Cn⟩
theorem Jp:bG Tryz.prog 23 (.sl .aO 148):=⟨Tryz.underlying23,gT Dx⟩
theorem Jq:bG Tryz.prog 48 (.sl .Ev 58):=⟨Tryz.underlying48,gT Co⟩
theorem Jr:bG Tryz.prog 45 (.sl .Ev 54):=⟨Tryz.underlying45,gT GP⟩
theorem G8:bG Tryz.prog 109 (.sl .oq 186):=⟨Tryz.underlying109,gT zw⟩
theorem G9:bG Tryz.prog 163 (.sl .bw 165):=⟨Tryz.underlying163,gT zx⟩
set_option maxRecDepth 100000 in
theorem kinds: ∀e,e∈tys→bG Tryz.prog e.1 e.2:=by
 simp only[tys,List.forall_mem_cons]
 exact⟨Lh,Li,I5,Lj,GQ,GR,I6,Lk,Ll,GS,GU,GV,GW,GX,GY,GZ,G0,I7,I8,I9,G1,Ja,G2,Jb,Jc,Jd,Je,G3,G4,G5,Jf,Jg,Jh,Ji,Jj,G6,G7,Jk,Jl,Jm,Jn,Jo,Jp,Jq,Jr,G8,G9,by simp⟩
set_option maxRecDepth 100000 in
theorem OL: ∀e,e∈tys→(∀z tg fo,e.2≠ .st z tg fo)→(Tryz.prog.info? e.1).map (·.size)=some 1:=by
 simp only[tys,List.forall_mem_cons]
 refine⟨fun _=>ct (by kernel_rfl),fun _=>ct (by kernel_rfl),fun _=>ct (by kernel_rfl),fun _=>ct (by kernel_rfl),fun _=>ct (by kernel_rfl),fun _=>ct (by kernel_rfl),fun _=>ct (by kernel_rfl),fun _=>ct (by kernel_rfl),fun _=>ct (by kernel_rfl),fun h=>absurd rfl (h _ _ _),fun h=>absurd rfl (h _ _ _),fun h=>absurd rfl (h _ _ _),fun h=>absurd rfl (h _ _ _),fun h=>absurd rfl (h _ _ _),fun h=>absurd rfl (h _ _ _),fun h=>absurd rfl (h _ _ _),fun h=>absurd rfl (h _ _ _),fun h=>absurd rfl (h _ _ _),fun h=>absurd rfl (h _ _ _),fun h=>absurd rfl (h _ _ _),fun h=>absurd rfl (h _ _ _),fun h=>absurd rfl (h _ _ _),fun h=>absurd rfl (h _ _ _),fun h=>absurd rfl (h _ _ _),fun h=>absurd rfl (h _ _ _),fun h=>absurd rfl (h _ _ _),fun h=>absurd rfl (h _ _ _),fun h=>absurd rfl (h _ _ _),fun h=>absurd rfl (h _ _ _),fun h=>absurd rfl (h _ _ _),fun _=>ct (by kernel_rfl),fun _=>ct (by kernel_rfl),fun _=>ct (by kernel_rfl),fun _=>ct (by kernel_rfl),fun _=>ct (by kernel_rfl),fun _=>ct (by kernel_rfl),fun _=>ct (by kernel_rfl),fun _=>ct (by kernel_rfl),fun _=>ct (by kernel_rfl),fun _=>ct (by kernel_rfl),fun _=>ct (by kernel_rfl),fun _=>ct (by kernel_rfl),fun _=>ct (by kernel_rfl),fun _=>ct (by kernel_rfl),fun _=>ct (by kernel_rfl),fun _=>ct (by kernel_rfl),fun _=>ct (by kernel_rfl),by simp⟩
theorem X:Ctx Tryz.prog ty Γ where
 kind:=fun t=>by
  unfold Γ
  split
  ·rename_i k hk;exact kinds (t,k) (cZ hk)
  ·trivial
 one:=fun t h1 h2=>by
  unfold Γ at h1 h2
  split at h1
  ·rename_i k hk;exact OL (t,k) (cZ hk) h1
  ·rename_i hk;rw[hk]at h2;exact absurd rfl h2
theorem bS(t:Tag)(h:ty t<1000000000):El Tryz.prog ty t:=by
 unfold ty at h
 split at h
 ·exact J5
 ·exact J6
 ·exact M6
 ·exact GK
 ·exact GL
 ·exact Le
 ·exact zo
 ·exact zq
 ·exact zu
 ·exact zv
 ·exact GM
 ·exact GN
 ·exact Cn
 ·exact GO
 ·exact Co
 ·exact zw
 ·exact Dy
 ·exact zx
 ·exact absurd h (by decide)
end Go.Proofs.YtjcojocjlglglaaGreat.G
namespace Go.Proofs.YtjcojocjlglglaaGreat.G
set_option linter.all false
open Go.RowKit L D
theorem MO:Tryz.prog.follows .mixedOrders=true:=by kernel_rfl
theorem nb:(∀(p:Prop) [Decidable p],(decide p=true)=p)∧(∀(p:Prop) [Decidable p],(decide p=false)= ¬p)∧(∀b:Bool,((!b)=true)=(b=false))∧(∀b:Bool,((!b)=false)=(b=true))∧
  (∀(α:Type) [BEq α] [LawfulBEq α] (a b:α),((a==b)=true)=(a=b))∧(∀(α:Type) [BEq α] [LawfulBEq α] (a b:α),((a !=b)=true)=(¬a=b))∧(∀(α:Type) [BEq α] [LawfulBEq α] (a b:α),((a==b)=false)=(¬a=b))∧(∀(α:Type) [BEq α] [LawfulBEq α] (a b:α),((a !=b)=false)=(a=b))∧
  (∀(α:Type) (a b:α),(a≠b)= ¬a=b)∧(∀a b:Int,(a>b)=(b<a))∧(∀a b:Int,(a≥b)=(b≤a))∧(∀a b:Nat,(a>b)=(b<a))∧(∀a b:Nat,(a≥b)=(b≤a))∧(∀a b:Int,(¬a<b)=(b≤a))∧(∀a b:Int,(¬a≤b)=(b<a))∧
  (∀(p:Prop) [Decidable p],(¬ ¬p)=p)∧(∀n:Nat,(n:Int).toNat=n)∧(∀m n:Nat,((m:Int)<n)=(m<n))∧(∀m n:Nat,((m:Int)≤n)=(m≤n))∧(∀a b:Nat,(¬a<b)=(b≤a))∧(∀a b:Nat,(¬a≤b)=(b<a))∧
  (∀(p:Prop) [Decidable p] (b:Bool),(if p then b else false)=(decide p&&b))∧(∀(p:Prop) [Decidable p] (b:Bool),(if p then true else b)=(decide p||b))∧(∀(p:Prop) [Decidable p] (b:Bool),(if p then false else b)=(!decide p&&b))∧(∀(p:Prop) [Decidable p] (b:Bool),(if p then b else true)=(!decide p||b))∧
  (∀a b:Bool,((a&&b)=true)=(a=true∧b=true))∧(∀a b:Bool,((a||b)=true)=(a=true∨b=true))∧(∀a b:Bool,((a&&b)=false)=(a=false∨b=false))∧(∀a b:Bool,((a||b)=false)=(a=false∧b=false))∧(∀(b:Bool),decide (b=true)=b):=by
 refine⟨by simp,by simp,by simp,by simp,fun _ _ _ a b=>propext beq_iff_eq,fun _ _ _ a b=>propext bne_iff_ne,fun _ _ _ a b=>propext beq_eq_false_iff_ne,fun _ _ _ a b=>propext bne_eq_false_iff_eq,by simp,by simp,by simp,by simp,by simp,by simp,by simp,by simp,by simp,by simp,by simp,by simp,by simp,by simp,by simp,by simp,by simp,by simp,by simp,by simp,by simp,by simp⟩
theorem lens:(∀n:Nat,(n:Int).toNat=n)∧(∀(α:Type) (a b:List α),(a++b).length=a.length+b.length)∧(∀(α:Type) (a:α),[a].length=1)∧(∀(α:Type) (a:α) (l:List α),(a::l).length=l.length+1)∧(∀(α:Type),([]:List α).length=0)∧(∀(α:Type) (n:Nat) (a:α),(List.replicate n a).length=n)∧
  (∀(α:Type) (l:List α) (n:Nat) (a:α),(l.set n a).length=l.length)∧(∀(α β:Type) (f:α→β) (l:List α),(l.map f).length=l.length)∧(∀(α:Type) (l:List α) (n:Nat),(l.take n).length=min n l.length)∧(∀(α:Type) (l:List α) (n:Nat),(l.drop n).length=l.length-n)∧(∀n:Nat,(List.range n).length=n):=by
 refine⟨by simp,by simp,by simp,by simp,by simp,by simp,by simp,by simp,by simp,by simp,by simp⟩
theorem ak.mk{p:Prop}{l:List Prop}(h:p)(k:ak l):ak (p::l):=⟨h,k⟩
theorem ak.nil:ak []:=True.intro
theorem bg{α:Type}(l:List α)(k:Nat)(d:α)(h:k<l.length):l.take (k+1)=l.take k++ [l.getD k d]:=by
 rw[List.take_add_one,List.getD_eq_getElem?_getD,List.getElem?_eq_getElem h];rfl
theorem bn(a:Int)(n:Nat)(h:a=n)(h2:n<9223372036854775807):IntKind.i64.wrap (a+1)=((n+1:Nat):Int):=by
 subst h;rw[IntWalk.i64_in _ (by omega)];omega
theorem He{P:Program}{ty:Tag→Nat}{f:FuncId}{xs:List S1}{v:Value}(h:Sound ty P f xs [.a (.lit v)]){w:World}{us:List Value}(ha:aU (wT w) xs us)(hA:xE w:=by first|assumption|exact trivial):Calls P f us.toArray w (JP w v):=by
 refine(h.2 w us hA ha).mono ?_
 rintro e w' ⟨u,fp,rfl,hb,_,f1,f2,⟨rfl,_⟩,_⟩
 exact⟨rfl,hb⟩
theorem Js{w:World}{l:List V}{cs:List Value}{fp:List Nat}(h:bA w l cs fp):wT w (.agg l) (.agg cs.toArray):=⟨cs,fp,rfl,h⟩
theorem W.bound{P:Program}{ty:Tag→Nat}{w0:bK}{c:Code}{Q:Post}{st:St}(d:Nat){t:Tag}{l:List (T t)}(h:look st.sl d=some (.one (.a (.sl t l))))(k:l.length≤9223372036854775807→W P ty w0 c Q st):W P ty w0 c Q st:=by
 intro a w iv
 obtain⟨env,g⟩:=iv.good
 obtain⟨fp,⟨oa,cap,_,h1,h2,_⟩,_⟩:=g.slot d _ h
 have e:maxLen=9223372036854775807:=by decide
 exact k (by omega) a w iv
theorem W.fI{P:Program}{ty:Tag→Nat}{w0:bK}{c:Code}{Q:Post}{st:St}(d i:Nat){cs:List V}{t:Tag}{l:List (T t)}(h:look st.sl d=some (.one (.agg cs)))(hc:cs[i]? =some (.sl t l))(k:l.length≤9223372036854775807→W P ty w0 c Q st):W P ty w0 c Q st:=by
 intro a w iv
 obtain⟨env,g⟩:=iv.good
 obtain⟨us,_,hr⟩:=g.slot d _ h
 obtain⟨u,_,fp,⟨oa,cap,_,h1,h2,_⟩,_⟩:=hr.at hc
 have e:maxLen=9223372036854775807:=by decide
 exact k (by omega) a w iv
theorem lf{α:Type} [DecidableEq α](a b:List α)(d:α)(k:Nat)(ha:k<a.length)(hb:k<b.length)(h:a.take k=b.take k)(he:a.getD k d=b.getD k d):a.take (k+1)=b.take (k+1):=by
 rw[bg a k d ha,bg b k d hb,h,he]
theorem oB{α:Type} [BEq α] [LawfulBEq α](a b:List α)(d:α)(k:Nat)(he:a.getD k d≠b.getD k d):(a==b)=false:=by
 rw[beq_eq_false_iff_ne];rintro rfl;exact he rfl
theorem oC{α:Type} [BEq α] [LawfulBEq α](a b:List α)(k:Nat)(hk:k=a.length)(hl:a.length=b.length)(h:a.take k=b.take k):(a==b)=true:=by
 rw[List.take_of_length_le (by omega),List.take_of_length_le (by omega)]at h
 rw[h];simp
theorem rA{α:Type} [BEq α] [LawfulBEq α](a b:List α)(hl:(a.length:Int)≠b.length):(a==b)=false:=by
 rw[beq_eq_false_iff_ne];rintro rfl;exact hl rfl
theorem Hf{x y:UInt8}(h:(x.toNat:Int)=y.toNat):x=y:=by
 have:x.toNat=y.toNat:=by omega
 exact UInt8.toNat_inj.1 this
end Go.Proofs.YtjcojocjlglglaaGreat.G
namespace Go.Proofs.YtjcojocjlglglaaGreat.G
set_option linter.all false
open Go.RowKit L D
def szr(left:Int)(n:Nat):Int:=if(n:Int)≤left then left-n else-1
theorem cK{l:Int}{n:Nat}(h:0≤szr l n):szr l n=l-n∧(n:Int)≤l:=by
 unfold szr at*
 split at h
 ·rename_i h1;exact⟨by rw[if_pos h1],h1⟩
 ·omega
theorem cS{l:Int}{n:Nat}(h0:0≤l)(h:szr l n<0):l<n:=by
 unfold szr at h
 split at h<;>omega
theorem fJ{l:Int}{n:Nat}(h:(n:Int)≤l):szr l n=l-n:=by unfold szr;rw[if_pos h]
theorem cz{l:Int}{n:Nat}(h:l<(n:Int)):szr l n= -1:=by unfold szr;rw[if_neg (by omega)]
theorem iW{α:Type}(f:α→Nat)(l:List α)(d:α)(k:Nat)(h:k<l.length):((l.take (k+1)).map f).sum=((l.take k).map f).sum+f (l.getD k d):=
 zZ l f k _ (by rw[List.getD_eq_getElem?_getD,List.getElem?_eq_getElem h];rfl)
theorem iX{α:Type}(l:List α)(d:α)(k:Nat)(h:k<l.length):(l.take k++List.replicate (l.length-k) d).set k (l.getD k d)=l.take (k+1)++List.replicate (l.length-(k+1)) d:=by
 have hk:(l.take k).length=k:=by rw[List.length_take];omega
 rw[List.set_append_right _ _ (by omega),hk,Nat.sub_self,show l.length-k=(l.length-(k+1))+1 by omega,List.replicate_succ,List.set_cons_zero,bg l k d h,List.append_assoc]
 rfl
theorem lg{α:Type}(l:List α)(d:α)(k:Nat)(h:k≤l.length):(l.take k++List.replicate (l.length-k) d).length=l.length:=by
 simp;omega
theorem Dz(x:UInt8):UInt8.ofNat (Int.toNat ((x.toNat:Nat):Int))=x:=by simp
theorem mE(n:Int):0≤IntKind.u8.wrap n∧IntKind.u8.wrap n<256:=by
 unfold IntKind.wrap
 simp only[IntKind.signed,IntKind.bits]
 simp
 omega
theorem PM(x:UInt8):0≤((x.toNat:Nat):Int)∧((x.toNat:Nat):Int)<256:=by
 have:=x.toNat_lt
 omega
theorem cx(n:Int):(((UInt8.ofNat (IntKind.u8.wrap n).toNat).toNat:Nat):Int)=IntKind.u8.wrap n:=by
 have h:=mE n
 generalize IntKind.u8.wrap n=m at h
 simp
 omega
def cm{α:Type}(mk:Int→α→α)(mn:α→Nat):Int→List α→List α
 |_,[]=> []
 |k,x::r=>mk k x::cm mk mn (k+mn x) r
def ay{α:Type}(mn:α→Nat)(l:List α):Nat:=(l.map mn).sum
section
variable{α:Type}{mk:Int→α→α}{mn:α→Nat}
theorem bD: ∀{l:List α} {k:Int},(cm mk mn k l).length=l.length
 | [],_=>rfl
 |_::r,k=>by rw[cm,List.length_cons,List.length_cons,bD]
theorem AQ(x:α)(r:List α):ay mn (x::r)=mn x+ay mn r:=by simp[ay]
theorem dg(l:List α)(d:α)(j:Nat)(h:j<l.length):ay mn (l.take (j+1))=ay mn (l.take j)+mn (l.getD j d):=iW mn l d j h
theorem gh(l:List α)(j:Nat):ay mn (l.take j)≤ay mn l:=cM l mn j
theorem zy: ∀{l m:List α} {k:Int},cm mk mn k (l++m)=cm mk mn k l++cm mk mn (k+ay mn l) m
 | [],m,k=>by simp[cm,ay]
 |x::r,m,k=>by
  rw[List.cons_append,cm,cm,zy,List.cons_append,AQ]
  congr 3
  omega
theorem iY{l:List α}{k:Int}{d:α}{j:Nat}(h:j<l.length):(cm mk mn k l).getD j d=mk (k+ay mn (l.take j)) (l.getD j d):=by
 have e:l=l.take j++l.getD j d::l.drop (j+1):=by
  have:l.drop j=l.getD j d::l.drop (j+1):=by
   rw[List.drop_eq_getElem_cons h,List.getD_eq_getElem?_getD,List.getElem?_eq_getElem h];rfl
  rw[←this,List.take_append_drop]
 have hj:(l.take j).length=j:=by rw[List.length_take];omega
 generalize l.getD j d=x at e ⊢
 rw[show cm mk mn k l=cm mk mn k (l.take j++x::l.drop (j+1))by rw[←e],zy,cm]
 rw[List.getD_eq_getElem?_getD,List.getElem?_append_right (by rw[bD,hj];exact Nat.le_refl _),bD,hj,Nat.sub_self]
 rfl
theorem oD(l:List α)(k:Int)(d:α)(j:Nat)(h:j<l.length):(cm mk mn k (l.take j)++l.drop j).getD j d=l.getD j d:=by
 have hj:(cm mk mn k (l.take j)).length=j:=by rw[bD,List.length_take];omega
 rw[List.getD_eq_getElem?_getD,List.getElem?_append_right (by omega),hj,Nat.sub_self,List.getElem?_drop,List.getD_eq_getElem?_getD,Nat.add_zero]
theorem dz(l:List α)(k:Int)(j:Nat)(h:j≤l.length):(cm mk mn k (l.take j)++l.drop j).length=l.length:=by
 rw[List.length_append,bD,List.length_take,List.length_drop];omega
theorem lp(l:List α)(k:Int)(d:α)(j:Nat)(h:j<l.length):(cm mk mn k (l.take j)++l.drop j).set j (mk (k+ay mn (l.take j)) (l.getD j d))=cm mk mn k (l.take (j+1))++l.drop (j+1):=by
 have hj:(cm mk mn k (l.take j)).length=j:=by rw[bD,List.length_take];omega
 rw[List.set_append_right _ _ (by omega),hj,Nat.sub_self,List.drop_eq_getElem_cons h,List.set_cons_zero,bg l j d h,zy,cm,cm,List.append_assoc]
 rfl
theorem iZ(L:List α)(d y:α)(j:Nat)(h:j<L.length):(L.set j y).getD j d=y:=by
 rw[List.getD_eq_getElem?_getD,List.getElem?_set_self h];rfl
end
theorem W.oE{P:Program}{ty:Tag→Nat}{zb:bK}{c:Code}{Q:Post}{st:St}(n:Nat){t:Tag}{l:List (T t)}(h:look st.hp n=some (.arr t l))(k:l.length≤9223372036854775807→W P ty zb c Q st):W P ty zb c Q st:=by
 intro a w iv
 obtain⟨env,g⟩:=iv.good
 obtain⟨oa,cap,_,h1,h2,_⟩:=RO.sl (g.obj n _ h)
 have e:maxLen=9223372036854775807:=by decide
 exact k (by omega) a w iv
theorem W.conv{P:Program}{ty:Tag→Nat}{zb:bK}{c:Code}{Q:Post}{st:St}(st':St)(h:st=st')(k:W P ty zb c Q st'):W P ty zb c Q st:=h▸k
end Go.Proofs.YtjcojocjlglglaaGreat.G
namespace Go.Proofs.YtjcojocjlglglaaGreat.G
set_option linter.all false
open Go.RowKit L D
set_option maxRecDepth 100000
def bT(k:Int)(_:UInt8):UInt8:=UInt8.ofNat (IntKind.u8.wrap k).toNat
theorem getD_some{α:Type}(l:List α)(d:α)(k:Nat)(h:k<l.length):l[k]? =some (l.getD k d):=by
 rw[List.getD_eq_getElem?_getD,List.getElem?_eq_getElem h];rfl
def dR(x:DB):Nat:=(bY List.length) x.rows
def zz(x:DB):Nat:=(ay (ay (fun _=>1))) x.rows
def Hg(k:Int)(x:DB):DB:=⟨(cm (cm bT (fun _=>1)) (ay (fun _=>1))) (k) x.rows⟩
def aW(x:aE):Nat:=dR x.share
def aF(x:aE):Nat:=1+(ay (ay (fun _=>1))) x.share.rows
def cA(k:Int)(x:aE):aE:=⟨k,⟨(cm (cm bT (fun _=>1)) (ay (fun _=>1))) (k+1) x.share.rows⟩⟩
def aZ(x:bO):Nat:=(bY aW) x.received
def aL(x:bO):Nat:=1+1+1+(ay aF) x.received+1
def fA(k:Int)(x:bO):bO:=⟨k,k+1,k+1+1,(cm cA aF) (k+1+1+1) x.received,k+1+1+1+((ay aF) x.received:Nat)⟩
def aV(x:az):Nat:=dR x.db
def aM(x:az):Nat:=1+(ay (ay (fun _=>1))) x.db.rows
def cB(k:Int)(x:az):az:=⟨k,⟨(cm (cm bT (fun _=>1)) (ay (fun _=>1))) (k+1) x.db.rows⟩⟩
def bU(x:gJ):Nat:=(bY aV) x.rounds
def dh(x:gJ):Nat:=(ay aM) x.rounds
def tU(k:Int)(x:gJ):gJ:=⟨x.rows,(cm cB aM) (k) x.rounds⟩
def bh(x:dL):Nat:=(bY List.length) x.aj+(bY List.length) x.inbox
def DA(x:dL):Nat:=1+1+1+1+(ay (ay (fun _=>1))) x.aj+1+(ay (ay (fun _=>1))) x.inbox+1
def Jt(k:Int)(x:dL):dL:=⟨k,k+1,k+1+1,k+1+1+1,(cm (cm bT (fun _=>1)) (ay (fun _=>1))) (k+1+1+1+1) x.aj,k+1+1+1+1+((ay (ay (fun _=>1))) x.aj:Nat),(cm (cm bT (fun _=>1)) (ay (fun _=>1))) (k+1+1+1+1+((ay (ay (fun _=>1))) x.aj:Nat)+1) x.inbox,k+1+1+1+1+((ay (ay (fun _=>1))) x.aj:Nat)+1+((ay (ay (fun _=>1))) x.inbox:Nat)⟩
def aN(x:aO):Nat:=bh x.live+bh x.saved
def aB(x:aO):Nat:=1+1+1+1+(ay (ay (fun _=>1))) x.live.aj+1+(ay (ay (fun _=>1))) x.live.inbox+1+1+1+1+1+(ay (ay (fun _=>1))) x.saved.aj+1+(ay (ay (fun _=>1))) x.saved.inbox+1
def fB(k:Int)(x:aO):aO:=⟨⟨k,k+1,k+1+1,k+1+1+1,(cm (cm bT (fun _=>1)) (ay (fun _=>1))) (k+1+1+1+1) x.live.aj,k+1+1+1+1+((ay (ay (fun _=>1))) x.live.aj:Nat),(cm (cm bT (fun _=>1)) (ay (fun _=>1))) (k+1+1+1+1+((ay (ay (fun _=>1))) x.live.aj:Nat)+1) x.live.inbox,k+1+1+1+1+((ay (ay (fun _=>1))) x.live.aj:Nat)+1+((ay (ay (fun _=>1))) x.live.inbox:Nat)⟩,⟨k+1+1+1+1+((ay (ay (fun _=>1))) x.live.aj:Nat)+1+((ay (ay (fun _=>1))) x.live.inbox:Nat)+1,k+1+1+1+1+((ay (ay (fun _=>1))) x.live.aj:Nat)+1+((ay (ay (fun _=>1))) x.live.inbox:Nat)+1+1,k+1+1+1+1+((ay (ay (fun _=>1))) x.live.aj:Nat)+1+((ay (ay (fun _=>1))) x.live.inbox:Nat)+1+1+1,k+1+1+1+1+((ay (ay (fun _=>1))) x.live.aj:Nat)+1+((ay (ay (fun _=>1))) x.live.inbox:Nat)+1+1+1+1,(cm (cm bT (fun _=>1)) (ay (fun _=>1))) (k+1+1+1+1+((ay (ay (fun _=>1))) x.live.aj:Nat)+1+((ay (ay (fun _=>1))) x.live.inbox:Nat)+1+1+1+1+1) x.saved.aj,k+1+1+1+1+((ay (ay (fun _=>1))) x.live.aj:Nat)+1+((ay (ay (fun _=>1))) x.live.inbox:Nat)+1+1+1+1+1+((ay (ay (fun _=>1))) x.saved.aj:Nat),(cm (cm bT (fun _=>1)) (ay (fun _=>1))) (k+1+1+1+1+((ay (ay (fun _=>1))) x.live.aj:Nat)+1+((ay (ay (fun _=>1))) x.live.inbox:Nat)+1+1+1+1+1+((ay (ay (fun _=>1))) x.saved.aj:Nat)+1) x.saved.inbox,k+1+1+1+1+((ay (ay (fun _=>1))) x.live.aj:Nat)+1+((ay (ay (fun _=>1))) x.live.inbox:Nat)+1+1+1+1+1+((ay (ay (fun _=>1))) x.saved.aj:Nat)+1+((ay (ay (fun _=>1))) x.saved.inbox:Nat)⟩⟩
def bL(x:b7):Nat:=(bY aZ) x.aq+(bY aN) x.ah+bU x.aA+List.length x.replaced
def fC(x:b7):Nat:=(ay aL) x.aq+(ay aB) x.ah+dh x.aA+(ay (fun _=>1)) x.replaced
def tV(k:Int)(x:b7):b7:=⟨x.rows,(cm fA aL) (k) x.aq,(cm fB aB) (k+((ay aL) x.aq:Nat)) x.ah,tU (k+((ay aL) x.aq:Nat)+((ay aB) x.ah:Nat)) x.aA,x.cU,x.seed,x.round,(cm (fun k _=>k) (fun _=>1)) (k+((ay aL) x.aq:Nat)+((ay aB) x.ah:Nat)+(dh x.aA:Nat)) x.replaced,x.cancelled⟩
theorem Ju{α:Type}(l:List α):ay (fun _=>1) l=l.length:=by
 induction l with
 |nil=>rfl
 |cons x r ih=>rw[AQ,ih,List.length_cons];omega
theorem gL{α:Type}{mn sz:α→Nat}{C:Nat}(h: ∀e,mn e≤C*(1+sz e))(l:List α):ay mn l≤C*bY sz l:=by
 unfold bY ay
 induction l with
 |nil=>simp
 |cons x r ih=>
  simp only[List.map_cons,List.sum_cons,List.length_cons]
  have:=h x
  have e:C*(r.length+1+(sz x+(r.map sz).sum))=C*(1+sz x)+C*(r.length+(r.map sz).sum):=by rw[←Nat.mul_add];congr 1;omega
  omega
theorem lq{α:Type}(l:List α):ay (fun _=>1) l≤32*List.length l:=by rw[Ju];omega
theorem wX(x:aE):aF x≤32*(1+aW x):=by
 have h0:(ay (ay (fun _=>1))) x.share.rows≤32*(bY List.length) x.share.rows:=gL (C:=32) (sz:=List.length) (fun e=>by have:(ay (fun _=>1)) e≤32*List.length e:=lq e;omega) x.share.rows
 simp only[aF,aW,dR]
 omega
theorem Cp(x:bO):aL x≤32*(1+aZ x):=by
 have h0:(ay aF) x.received≤32*(bY aW) x.received:=gL (C:=32) (sz:=aW) wX x.received
 simp only[aL,aZ]
 omega
theorem wY(x:az):aM x≤32*(1+aV x):=by
 have h0:(ay (ay (fun _=>1))) x.db.rows≤32*(bY List.length) x.db.rows:=gL (C:=32) (sz:=List.length) (fun e=>by have:(ay (fun _=>1)) e≤32*List.length e:=lq e;omega) x.db.rows
 simp only[aM,aV,dR]
 omega
theorem Cq(x:aO):aB x≤32*(1+aN x):=by
 have h0:(ay (ay (fun _=>1))) x.live.aj≤32*(bY List.length) x.live.aj:=gL (C:=32) (sz:=List.length) (fun e=>by have:(ay (fun _=>1)) e≤32*List.length e:=lq e;omega) x.live.aj
 have h1:(ay (ay (fun _=>1))) x.live.inbox≤32*(bY List.length) x.live.inbox:=gL (C:=32) (sz:=List.length) (fun e=>by have:(ay (fun _=>1)) e≤32*List.length e:=lq e;omega) x.live.inbox
 have h2:(ay (ay (fun _=>1))) x.saved.aj≤32*(bY List.length) x.saved.aj:=gL (C:=32) (sz:=List.length) (fun e=>by have:(ay (fun _=>1)) e≤32*List.length e:=lq e;omega) x.saved.aj
 have h3:(ay (ay (fun _=>1))) x.saved.inbox≤32*(bY List.length) x.saved.inbox:=gL (C:=32) (sz:=List.length) (fun e=>by have:(ay (fun _=>1)) e≤32*List.length e:=lq e;omega) x.saved.inbox
 simp only[aB,aN,bh]
 omega
theorem vK(x:b7):fC x≤32*bL x:=by
 have h0:(ay aL) x.aq≤32*(bY aZ) x.aq:=gL (C:=32) (sz:=aZ) Cp x.aq
 have h1:(ay aB) x.ah≤32*(bY aN) x.ah:=gL (C:=32) (sz:=aN) Cq x.ah
 have h2:(ay aM) x.aA.rounds≤32*(bY aV) x.aA.rounds:=gL (C:=32) (sz:=aV) wY x.aA.rounds
 have h3:(ay (fun _=>1)) x.replaced≤32*List.length x.replaced:=lq x.replaced
 simp only[fC,dh,bL,bU]
 omega
end Go.Proofs.YtjcojocjlglglaaGreat.G
namespace Go.Proofs.YtjcojocjlglglaaGreat.G
set_option linter.all false
open Go.RowKit L D
set_option maxRecDepth 100000
theorem EL(l:(List UInt8))(left:Int)(h0:0≤left)(h1:left≤1048576):Sound ty Tryz.prog 104 [.a (.sl .u8 l), .a (.lit (.int .i64 left))] [.a (.lit (.int .i64 (szr left (List.length l))))]:=by
 refine Sound.of X Tryz.call104 Tryz.func104 rfl rfl (by decide) Tryz.ntmps104 (by simp) ?_
 intro zb
 refine W.bound 0 rfl fun hl=> ?_
 refine W.seq ?_
 refine W.af X [] [] [0,1] [] rfl ⟨⟩ ?_
 refine W.seq ?_
 refine W.af X [] [] [1] [] rfl ⟨⟩ ?_
 rw[IntWalk.i64_in (left-(l.length:Nat)) (by omega)]
 refine W.seq ?_
 refine W.seq ?_
 refine W.af X [] [] [1,10] [] rfl ⟨⟩ ?_
 refine W.cond rfl (fun hb0=> ?_) (fun hb0=> ?_)
 ·try simp only[nb]at hb0
  refine W.seq ?_
  refine W.af X [] [] [4] [] rfl ⟨⟩ ?_
  refine W.ret ?_
  exact Fin.ret rfl ⟨by rw[cz (by omega)],⟨⟩⟩
 ·try simp only[nb]at hb0
  refine W.skip ?_
  refine W.seq ?_
  refine W.af X [] [] [4] [] rfl ⟨⟩ ?_
  refine W.ret ?_
  exact Fin.ret rfl ⟨by rw[fJ (by omega)],⟨⟩⟩
theorem oF(l:(List (List UInt8)))(left:Int)(h0:0≤left)(h1:left≤1048576):Sound ty Tryz.prog 320 [.a (.sl (.sl .u8) l), .a (.lit (.int .i64 left))] [.a (.lit (.int .i64 (szr left ((bY List.length) l))))]:=by
 refine Sound.of X Tryz.call320 Tryz.func320 rfl rfl (by decide) Tryz.ntmps320 (by simp) ?_
 intro zb
 refine W.bound 0 rfl fun hl=> ?_
 refine W.seq ?_
 refine W.af X [] [] [0,1] [] rfl ⟨⟩ ?_
 refine W.seq ?_
 refine W.af X [] [] [0,1] [] rfl ⟨⟩ ?_
 rw[IntWalk.i64_in (left-(l.length:Nat)) (by omega)]
 refine W.seq ?_
 refine W.seq ?_
 refine W.af X [] [] [0,1,11] [] rfl ⟨⟩ ?_
 refine W.cond rfl (fun hb0=> ?_) (fun hb0=> ?_)
 ·try simp only[nb]at hb0
  refine W.seq ?_
  refine W.af X [] [] [4] [] rfl ⟨⟩ ?_
  refine W.ret ?_
  exact Fin.ret rfl ⟨by rw[cz (by unfold bY;omega)],⟨⟩⟩
 ·try simp only[nb]at hb0
  refine W.skip ?_
  refine W.seq ?_
  refine W.seq ?_
  refine W.af X [] [] [0,1,5] [] rfl ⟨⟩ ?_
  refine W.block ?_
  refine W.aP (fun k=>k≤l.length∧(l.length:Int)+(((l.take k).map List.length).sum:Nat)≤left) (fun k:Nat=> [(1, .one (.a (.lit (.int .i64 (left-(l.length:Nat)-(((l.take k).map List.length).sum:Nat)))))),(5, .one (.a (.lit (.int .i64 k))))]) (fun k=> []) (fun k=>l.length-k) 0 (fun k=>rfl) ⟨Nat.zero_le _,by simp;omega⟩ (by simp) ?_
  rintro k ⟨hk,hs⟩
  refine W.seq ?_
  refine W.seq ?_
  refine W.af X [] [] [0,1,5,15] [] rfl ⟨⟩ ?_
  refine W.cond rfl (fun aH=> ?_) (fun aH=> ?_)
  ·try simp only[nb]at aH
   have Jv:=iW List.length l (au (.sl .u8)) k aH
   have hle:=cM l List.length (k+1)
   refine W.skip ?_
   refine W.seq ?_
   refine W.block ?_
   refine W.seq ?_
   refine W.af X [] [(23,⟨false,[.a (.lit (.int .i64 (szr (left-(l.length:Nat)-(((l.take k).map List.length).sum:Nat)) (List.length (l.getD k (au (.sl .u8)))))))]⟩)] [0,1,5] [] rfl ⟨EL (l.getD k (au (.sl .u8))) _ (by omega) (by omega),by omega,⟨⟩⟩ ?_
   refine W.seq ?_
   refine W.af X [] [] [0,1,5,25] [] rfl ⟨⟩ ?_
   refine W.cond rfl (fun bk=> ?_) (fun bk=> ?_)
   ·try simp only[nb]at bk
    have hn:=cS (by omega) bk
    refine W.seq ?_
    refine W.af X [] [] [4] [] rfl ⟨⟩ ?_
    refine W.ret ?_
    exact Fin.ret rfl ⟨by rw[cz (by unfold bY;omega)],⟨⟩⟩
   ·try simp only[nb]at bk
    obtain⟨e2,e3⟩:=cK bk
    rw[e2]
    refine W.skip ?_
    refine W.af X [] [] [0,1,5] [] rfl ⟨⟩ ?_
    refine⟨k+1,⟨by omega,by omega⟩,by omega,?_⟩
    rw[bn _ k rfl (by omega),show left-(l.length:Nat)-(((l.take k).map List.length).sum:Nat)-(List.length (l.getD k (au (.sl .u8))):Nat)=left-(l.length:Nat)-(((l.take (k+1)).map List.length).sum:Nat)by omega]
  ·try simp only[nb]at aH
   refine W.exit ?_
   refine W.seq ?_
   refine W.af X [] [] [4] [] rfl ⟨⟩ ?_
   refine W.ret ?_
   have hf:l.take k=l:=List.take_of_length_le (by omega)
   rw[hf]at hs
   exact Fin.ret rfl ⟨by rw[hf,fJ (by unfold bY;omega)];congr 1;unfold bY;omega,⟨⟩⟩
theorem p7(x:DB)(left:Int)(h0:0≤left)(h1:left≤1048576):Sound ty Tryz.prog 321 [.agg (bR x), .a (.lit (.int .i64 left))] [.a (.lit (.int .i64 (szr left (dR x))))]:=by
 refine Sound.of X Tryz.call321 Tryz.func321 rfl rfl (by decide) Tryz.ntmps321 (by simp) ?_
 intro zb
 refine W.seq ?_
 refine W.af X [] [] [1,2] [] rfl ⟨⟩ ?_
 refine W.seq ?_
 refine W.af X [] [(8,⟨false,[.a (.lit (.int .i64 (szr (left) ((bY List.length) x.rows))))]⟩)] [1] [] rfl ⟨oF x.rows (left) (by omega) (by omega),⟨⟩⟩ ?_
 refine W.seq ?_
 refine W.seq ?_
 refine W.af X [] [] [1,10] [] rfl ⟨⟩ ?_
 refine W.cond rfl (fun hb0=> ?_) (fun hb0=> ?_)
 ·try simp only[nb]at hb0
  refine W.seq ?_
  refine W.af X [] [] [4] [] rfl ⟨⟩ ?_
  refine W.ret ?_
  exact Fin.ret rfl ⟨by rw[cz (by have:=cS (by omega) hb0;unfold dR;omega)],⟨⟩⟩
 ·try simp only[nb]at hb0
  obtain⟨e0,J7⟩:=cK hb0
  rw[e0]
  refine W.skip ?_
  refine W.seq ?_
  refine W.af X [] [] [4] [] rfl ⟨⟩ ?_
  refine W.ret ?_
  exact Fin.ret rfl ⟨by rw[fJ (by unfold dR;omega)];first|done| (congr 1;done)| (congr 1;unfold dR;omega),⟨⟩⟩
theorem p8(x:az)(left:Int)(h0:0≤left)(h1:left≤1048576):Sound ty Tryz.prog 241 [.agg (dP x), .a (.lit (.int .i64 left))] [.a (.lit (.int .i64 (szr left (aV x))))]:=by
 refine Sound.of X Tryz.call241 Tryz.func241 rfl rfl (by decide) Tryz.ntmps241 (by simp) ?_
 intro zb
 refine W.seq ?_
 refine W.af X [] [] [1,2] [] rfl ⟨⟩ ?_
 refine W.seq ?_
 refine W.af X [] [(8,⟨false,[.a (.lit (.int .i64 (szr (left) (dR x.db))))]⟩)] [1] [] rfl ⟨p7 x.db (left) (by omega) (by omega),⟨⟩⟩ ?_
 refine W.seq ?_
 refine W.seq ?_
 refine W.af X [] [] [1,10] [] rfl ⟨⟩ ?_
 refine W.cond rfl (fun hb0=> ?_) (fun hb0=> ?_)
 ·try simp only[nb]at hb0
  refine W.seq ?_
  refine W.af X [] [] [4] [] rfl ⟨⟩ ?_
  refine W.ret ?_
  exact Fin.ret rfl ⟨by rw[cz (by have:=cS (by omega) hb0;unfold aV;omega)],⟨⟩⟩
 ·try simp only[nb]at hb0
  obtain⟨e0,J7⟩:=cK hb0
  rw[e0]
  refine W.skip ?_
  refine W.seq ?_
  refine W.af X [] [] [4] [] rfl ⟨⟩ ?_
  refine W.ret ?_
  exact Fin.ret rfl ⟨by rw[fJ (by unfold aV;omega)];first|done| (congr 1;done)| (congr 1;unfold aV;omega),⟨⟩⟩
theorem oG(l:(List az))(left:Int)(h0:0≤left)(h1:left≤1048576):Sound ty Tryz.prog 136 [.a (.sl .az l), .a (.lit (.int .i64 left))] [.a (.lit (.int .i64 (szr left ((bY aV) l))))]:=by
 refine Sound.of X Tryz.call136 Tryz.func136 rfl rfl (by decide) Tryz.ntmps136 (by simp) ?_
 intro zb
 refine W.bound 0 rfl fun hl=> ?_
 refine W.seq ?_
 refine W.af X [] [] [0,1] [] rfl ⟨⟩ ?_
 refine W.seq ?_
 refine W.af X [] [] [0,1] [] rfl ⟨⟩ ?_
 rw[IntWalk.i64_in (left-(l.length:Nat)) (by omega)]
 refine W.seq ?_
 refine W.seq ?_
 refine W.af X [] [] [0,1,11] [] rfl ⟨⟩ ?_
 refine W.cond rfl (fun hb0=> ?_) (fun hb0=> ?_)
 ·try simp only[nb]at hb0
  refine W.seq ?_
  refine W.af X [] [] [4] [] rfl ⟨⟩ ?_
  refine W.ret ?_
  exact Fin.ret rfl ⟨by rw[cz (by unfold bY;omega)],⟨⟩⟩
 ·try simp only[nb]at hb0
  refine W.skip ?_
  refine W.seq ?_
  refine W.seq ?_
  refine W.af X [] [] [0,1,5] [] rfl ⟨⟩ ?_
  refine W.block ?_
  refine W.aP (fun k=>k≤l.length∧(l.length:Int)+(((l.take k).map aV).sum:Nat)≤left) (fun k:Nat=> [(1, .one (.a (.lit (.int .i64 (left-(l.length:Nat)-(((l.take k).map aV).sum:Nat)))))),(5, .one (.a (.lit (.int .i64 k))))]) (fun k=> []) (fun k=>l.length-k) 0 (fun k=>rfl) ⟨Nat.zero_le _,by simp;omega⟩ (by simp) ?_
  rintro k ⟨hk,hs⟩
  refine W.seq ?_
  refine W.seq ?_
  refine W.af X [] [] [0,1,5,15] [] rfl ⟨⟩ ?_
  refine W.cond rfl (fun aH=> ?_) (fun aH=> ?_)
  ·try simp only[nb]at aH
   have Jv:=iW aV l (au .az) k aH
   have hle:=cM l aV (k+1)
   refine W.skip ?_
   refine W.seq ?_
   refine W.block ?_
   refine W.seq ?_
   refine W.af X [] [(23,⟨false,[.a (.lit (.int .i64 (szr (left-(l.length:Nat)-(((l.take k).map aV).sum:Nat)) (aV (l.getD k (au .az))))))]⟩)] [0,1,5] [] rfl ⟨p8 (l.getD k (au .az)) _ (by omega) (by omega),by omega,⟨⟩⟩ ?_
   refine W.seq ?_
   refine W.af X [] [] [0,1,5,25] [] rfl ⟨⟩ ?_
   refine W.cond rfl (fun bk=> ?_) (fun bk=> ?_)
   ·try simp only[nb]at bk
    have hn:=cS (by omega) bk
    refine W.seq ?_
    refine W.af X [] [] [4] [] rfl ⟨⟩ ?_
    refine W.ret ?_
    exact Fin.ret rfl ⟨by rw[cz (by unfold bY;omega)],⟨⟩⟩
   ·try simp only[nb]at bk
    obtain⟨e2,e3⟩:=cK bk
    rw[e2]
    refine W.skip ?_
    refine W.af X [] [] [0,1,5] [] rfl ⟨⟩ ?_
    refine⟨k+1,⟨by omega,by omega⟩,by omega,?_⟩
    rw[bn _ k rfl (by omega),show left-(l.length:Nat)-(((l.take k).map aV).sum:Nat)-(aV (l.getD k (au .az)):Nat)=left-(l.length:Nat)-(((l.take (k+1)).map aV).sum:Nat)by omega]
  ·try simp only[nb]at aH
   refine W.exit ?_
   refine W.seq ?_
   refine W.af X [] [] [4] [] rfl ⟨⟩ ?_
   refine W.ret ?_
   have hf:l.take k=l:=List.take_of_length_le (by omega)
   rw[hf]at hs
   exact Fin.ret rfl ⟨by rw[hf,fJ (by unfold bY;omega)];congr 1;unfold bY;omega,⟨⟩⟩
theorem AR(x:gJ)(left:Int)(h0:0≤left)(h1:left≤1048576):Sound ty Tryz.prog 60 [.agg (bN x), .a (.lit (.int .i64 left))] [.a (.lit (.int .i64 (szr left (bU x))))]:=by
 refine Sound.of X Tryz.call60 Tryz.func60 rfl rfl (by decide) Tryz.ntmps60 (by simp) ?_
 intro zb
 refine W.seq ?_
 refine W.af X [] [] [1,2] [] rfl ⟨⟩ ?_
 refine W.seq ?_
 refine W.af X [] [(8,⟨false,[.a (.lit (.int .i64 (szr (left) ((bY aV) x.rounds))))]⟩)] [1] [] rfl ⟨oG x.rounds (left) (by omega) (by omega),⟨⟩⟩ ?_
 refine W.seq ?_
 refine W.seq ?_
 refine W.af X [] [] [1,10] [] rfl ⟨⟩ ?_
 refine W.cond rfl (fun hb0=> ?_) (fun hb0=> ?_)
 ·try simp only[nb]at hb0
  refine W.seq ?_
  refine W.af X [] [] [4] [] rfl ⟨⟩ ?_
  refine W.ret ?_
  exact Fin.ret rfl ⟨by rw[cz (by have:=cS (by omega) hb0;unfold bU;omega)],⟨⟩⟩
 ·try simp only[nb]at hb0
  obtain⟨e0,J7⟩:=cK hb0
  rw[e0]
  refine W.skip ?_
  refine W.seq ?_
  refine W.af X [] [] [4] [] rfl ⟨⟩ ?_
  refine W.ret ?_
  exact Fin.ret rfl ⟨by rw[fJ (by unfold bU;omega)];first|done| (congr 1;done)| (congr 1;unfold bU;omega),⟨⟩⟩
theorem vL(x:dL)(left:Int)(h0:0≤left)(h1:left≤1048576):Sound ty Tryz.prog 240 [.agg (bf x), .a (.lit (.int .i64 left))] [.a (.lit (.int .i64 (szr left (bh x))))]:=by
 refine Sound.of X Tryz.call240 Tryz.func240 rfl rfl (by decide) Tryz.ntmps240 (by simp) ?_
 intro zb
 refine W.seq ?_
 refine W.af X [] [] [1,2] [] rfl ⟨⟩ ?_
 refine W.seq ?_
 refine W.af X [] [(8,⟨false,[.a (.lit (.int .i64 (szr (left) ((bY List.length) x.aj))))]⟩)] [1,2] [] rfl ⟨oF x.aj (left) (by omega) (by omega),⟨⟩⟩ ?_
 refine W.seq ?_
 refine W.seq ?_
 refine W.af X [] [] [1,2,10] [] rfl ⟨⟩ ?_
 refine W.cond rfl (fun hb0=> ?_) (fun hb0=> ?_)
 ·try simp only[nb]at hb0
  refine W.seq ?_
  refine W.af X [] [] [4] [] rfl ⟨⟩ ?_
  refine W.ret ?_
  exact Fin.ret rfl ⟨by rw[cz (by have:=cS (by omega) hb0;unfold bh;omega)],⟨⟩⟩
 ·try simp only[nb]at hb0
  obtain⟨e0,J7⟩:=cK hb0
  rw[e0]
  refine W.skip ?_
  refine W.seq ?_
  refine W.af X [] [(14,⟨false,[.a (.lit (.int .i64 (szr (left-(((bY List.length) x.aj):Nat)) ((bY List.length) x.inbox))))]⟩)] [1] [] rfl ⟨oF x.inbox (left-(((bY List.length) x.aj):Nat)) (by omega) (by omega),⟨⟩⟩ ?_
  refine W.seq ?_
  refine W.seq ?_
  refine W.af X [] [] [1,16] [] rfl ⟨⟩ ?_
  refine W.cond rfl (fun aH=> ?_) (fun aH=> ?_)
  ·try simp only[nb]at aH
   refine W.seq ?_
   refine W.af X [] [] [4] [] rfl ⟨⟩ ?_
   refine W.ret ?_
   exact Fin.ret rfl ⟨by rw[cz (by have:=cS (by omega) aH;unfold bh;omega)],⟨⟩⟩
  ·try simp only[nb]at aH
   obtain⟨e1,PN⟩:=cK aH
   rw[e1]
   refine W.skip ?_
   refine W.seq ?_
   refine W.af X [] [] [4] [] rfl ⟨⟩ ?_
   refine W.ret ?_
   exact Fin.ret rfl ⟨by rw[fJ (by unfold bh;omega)];first|done| (congr 1;done)| (congr 1;unfold bh;omega),⟨⟩⟩
theorem Cr(x:aO)(left:Int)(h0:0≤left)(h1:left≤1048576):Sound ty Tryz.prog 135 [.agg (bq x), .a (.lit (.int .i64 left))] [.a (.lit (.int .i64 (szr left (aN x))))]:=by
 refine Sound.of X Tryz.call135 Tryz.func135 rfl rfl (by decide) Tryz.ntmps135 (by simp) ?_
 intro zb
 refine W.seq ?_
 refine W.af X [] [] [1,2] [] rfl ⟨⟩ ?_
 refine W.seq ?_
 refine W.af X [] [(8,⟨false,[.a (.lit (.int .i64 (szr (left) (bh x.live))))]⟩)] [1,2] [] rfl ⟨vL x.live (left) (by omega) (by omega),⟨⟩⟩ ?_
 refine W.seq ?_
 refine W.seq ?_
 refine W.af X [] [] [1,2,10] [] rfl ⟨⟩ ?_
 refine W.cond rfl (fun hb0=> ?_) (fun hb0=> ?_)
 ·try simp only[nb]at hb0
  refine W.seq ?_
  refine W.af X [] [] [4] [] rfl ⟨⟩ ?_
  refine W.ret ?_
  exact Fin.ret rfl ⟨by rw[cz (by have:=cS (by omega) hb0;unfold aN;omega)],⟨⟩⟩
 ·try simp only[nb]at hb0
  obtain⟨e0,J7⟩:=cK hb0
  rw[e0]
  refine W.skip ?_
  refine W.seq ?_
  refine W.af X [] [(14,⟨false,[.a (.lit (.int .i64 (szr (left-((bh x.live):Nat)) (bh x.saved))))]⟩)] [1] [] rfl ⟨vL x.saved (left-((bh x.live):Nat)) (by omega) (by omega),⟨⟩⟩ ?_
  refine W.seq ?_
  refine W.seq ?_
  refine W.af X [] [] [1,16] [] rfl ⟨⟩ ?_
  refine W.cond rfl (fun aH=> ?_) (fun aH=> ?_)
  ·try simp only[nb]at aH
   refine W.seq ?_
   refine W.af X [] [] [4] [] rfl ⟨⟩ ?_
   refine W.ret ?_
   exact Fin.ret rfl ⟨by rw[cz (by have:=cS (by omega) aH;unfold aN;omega)],⟨⟩⟩
  ·try simp only[nb]at aH
   obtain⟨e1,PN⟩:=cK aH
   rw[e1]
   refine W.skip ?_
   refine W.seq ?_
   refine W.af X [] [] [4] [] rfl ⟨⟩ ?_
   refine W.ret ?_
   exact Fin.ret rfl ⟨by rw[fJ (by unfold aN;omega)];first|done| (congr 1;done)| (congr 1;unfold aN;omega),⟨⟩⟩
theorem AS(l:(List aO))(left:Int)(h0:0≤left)(h1:left≤1048576):Sound ty Tryz.prog 59 [.a (.sl .aO l), .a (.lit (.int .i64 left))] [.a (.lit (.int .i64 (szr left ((bY aN) l))))]:=by
 refine Sound.of X Tryz.call59 Tryz.func59 rfl rfl (by decide) Tryz.ntmps59 (by simp) ?_
 intro zb
 refine W.bound 0 rfl fun hl=> ?_
 refine W.seq ?_
 refine W.af X [] [] [0,1] [] rfl ⟨⟩ ?_
 refine W.seq ?_
 refine W.af X [] [] [0,1] [] rfl ⟨⟩ ?_
 rw[IntWalk.i64_in (left-(l.length:Nat)) (by omega)]
 refine W.seq ?_
 refine W.seq ?_
 refine W.af X [] [] [0,1,11] [] rfl ⟨⟩ ?_
 refine W.cond rfl (fun hb0=> ?_) (fun hb0=> ?_)
 ·try simp only[nb]at hb0
  refine W.seq ?_
  refine W.af X [] [] [4] [] rfl ⟨⟩ ?_
  refine W.ret ?_
  exact Fin.ret rfl ⟨by rw[cz (by unfold bY;omega)],⟨⟩⟩
 ·try simp only[nb]at hb0
  refine W.skip ?_
  refine W.seq ?_
  refine W.seq ?_
  refine W.af X [] [] [0,1,5] [] rfl ⟨⟩ ?_
  refine W.block ?_
  refine W.aP (fun k=>k≤l.length∧(l.length:Int)+(((l.take k).map aN).sum:Nat)≤left) (fun k:Nat=> [(1, .one (.a (.lit (.int .i64 (left-(l.length:Nat)-(((l.take k).map aN).sum:Nat)))))),(5, .one (.a (.lit (.int .i64 k))))]) (fun k=> []) (fun k=>l.length-k) 0 (fun k=>rfl) ⟨Nat.zero_le _,by simp;omega⟩ (by simp) ?_
  rintro k ⟨hk,hs⟩
  refine W.seq ?_
  refine W.seq ?_
  refine W.af X [] [] [0,1,5,15] [] rfl ⟨⟩ ?_
  refine W.cond rfl (fun aH=> ?_) (fun aH=> ?_)
  ·try simp only[nb]at aH
   have Jv:=iW aN l (au .aO) k aH
   have hle:=cM l aN (k+1)
   refine W.skip ?_
   refine W.seq ?_
   refine W.block ?_
   refine W.seq ?_
   refine W.af X [] [(23,⟨false,[.a (.lit (.int .i64 (szr (left-(l.length:Nat)-(((l.take k).map aN).sum:Nat)) (aN (l.getD k (au .aO))))))]⟩)] [0,1,5] [] rfl ⟨Cr (l.getD k (au .aO)) _ (by omega) (by omega),by omega,⟨⟩⟩ ?_
   refine W.seq ?_
   refine W.af X [] [] [0,1,5,25] [] rfl ⟨⟩ ?_
   refine W.cond rfl (fun bk=> ?_) (fun bk=> ?_)
   ·try simp only[nb]at bk
    have hn:=cS (by omega) bk
    refine W.seq ?_
    refine W.af X [] [] [4] [] rfl ⟨⟩ ?_
    refine W.ret ?_
    exact Fin.ret rfl ⟨by rw[cz (by unfold bY;omega)],⟨⟩⟩
   ·try simp only[nb]at bk
    obtain⟨e2,e3⟩:=cK bk
    rw[e2]
    refine W.skip ?_
    refine W.af X [] [] [0,1,5] [] rfl ⟨⟩ ?_
    refine⟨k+1,⟨by omega,by omega⟩,by omega,?_⟩
    rw[bn _ k rfl (by omega),show left-(l.length:Nat)-(((l.take k).map aN).sum:Nat)-(aN (l.getD k (au .aO)):Nat)=left-(l.length:Nat)-(((l.take (k+1)).map aN).sum:Nat)by omega]
  ·try simp only[nb]at aH
   refine W.exit ?_
   refine W.seq ?_
   refine W.af X [] [] [4] [] rfl ⟨⟩ ?_
   refine W.ret ?_
   have hf:l.take k=l:=List.take_of_length_le (by omega)
   rw[hf]at hs
   exact Fin.ret rfl ⟨by rw[hf,fJ (by unfold bY;omega)];congr 1;unfold bY;omega,⟨⟩⟩
theorem Hh(l:(List Int))(left:Int)(h0:0≤left)(h1:left≤1048576):Sound ty Tryz.prog 61 [.a (.sl .int l), .a (.lit (.int .i64 left))] [.a (.lit (.int .i64 (szr left (List.length l))))]:=by
 refine Sound.of X Tryz.call61 Tryz.func61 rfl rfl (by decide) Tryz.ntmps61 (by simp) ?_
 intro zb
 refine W.bound 0 rfl fun hl=> ?_
 refine W.seq ?_
 refine W.af X [] [] [0,1] [] rfl ⟨⟩ ?_
 refine W.seq ?_
 refine W.af X [] [] [1] [] rfl ⟨⟩ ?_
 rw[IntWalk.i64_in (left-(l.length:Nat)) (by omega)]
 refine W.seq ?_
 refine W.seq ?_
 refine W.af X [] [] [1,10] [] rfl ⟨⟩ ?_
 refine W.cond rfl (fun hb0=> ?_) (fun hb0=> ?_)
 ·try simp only[nb]at hb0
  refine W.seq ?_
  refine W.af X [] [] [4] [] rfl ⟨⟩ ?_
  refine W.ret ?_
  exact Fin.ret rfl ⟨by rw[cz (by omega)],⟨⟩⟩
 ·try simp only[nb]at hb0
  refine W.skip ?_
  refine W.seq ?_
  refine W.af X [] [] [4] [] rfl ⟨⟩ ?_
  refine W.ret ?_
  exact Fin.ret rfl ⟨by rw[fJ (by omega)],⟨⟩⟩
theorem p9(x:aE)(left:Int)(h0:0≤left)(h1:left≤1048576):Sound ty Tryz.prog 319 [.agg (dO x), .a (.lit (.int .i64 left))] [.a (.lit (.int .i64 (szr left (aW x))))]:=by
 refine Sound.of X Tryz.call319 Tryz.func319 rfl rfl (by decide) Tryz.ntmps319 (by simp) ?_
 intro zb
 refine W.seq ?_
 refine W.af X [] [] [1,2] [] rfl ⟨⟩ ?_
 refine W.seq ?_
 refine W.af X [] [(8,⟨false,[.a (.lit (.int .i64 (szr (left) (dR x.share))))]⟩)] [1] [] rfl ⟨p7 x.share (left) (by omega) (by omega),⟨⟩⟩ ?_
 refine W.seq ?_
 refine W.seq ?_
 refine W.af X [] [] [1,10] [] rfl ⟨⟩ ?_
 refine W.cond rfl (fun hb0=> ?_) (fun hb0=> ?_)
 ·try simp only[nb]at hb0
  refine W.seq ?_
  refine W.af X [] [] [4] [] rfl ⟨⟩ ?_
  refine W.ret ?_
  exact Fin.ret rfl ⟨by rw[cz (by have:=cS (by omega) hb0;unfold aW;omega)],⟨⟩⟩
 ·try simp only[nb]at hb0
  obtain⟨e0,J7⟩:=cK hb0
  rw[e0]
  refine W.skip ?_
  refine W.seq ?_
  refine W.af X [] [] [4] [] rfl ⟨⟩ ?_
  refine W.ret ?_
  exact Fin.ret rfl ⟨by rw[fJ (by unfold aW;omega)];first|done| (congr 1;done)| (congr 1;unfold aW;omega),⟨⟩⟩
theorem oH(l:(List aE))(left:Int)(h0:0≤left)(h1:left≤1048576):Sound ty Tryz.prog 239 [.a (.sl .aE l), .a (.lit (.int .i64 left))] [.a (.lit (.int .i64 (szr left ((bY aW) l))))]:=by
 refine Sound.of X Tryz.call239 Tryz.func239 rfl rfl (by decide) Tryz.ntmps239 (by simp) ?_
 intro zb
 refine W.bound 0 rfl fun hl=> ?_
 refine W.seq ?_
 refine W.af X [] [] [0,1] [] rfl ⟨⟩ ?_
 refine W.seq ?_
 refine W.af X [] [] [0,1] [] rfl ⟨⟩ ?_
 rw[IntWalk.i64_in (left-(l.length:Nat)) (by omega)]
 refine W.seq ?_
 refine W.seq ?_
 refine W.af X [] [] [0,1,11] [] rfl ⟨⟩ ?_
 refine W.cond rfl (fun hb0=> ?_) (fun hb0=> ?_)
 ·try simp only[nb]at hb0
  refine W.seq ?_
  refine W.af X [] [] [4] [] rfl ⟨⟩ ?_
  refine W.ret ?_
  exact Fin.ret rfl ⟨by rw[cz (by unfold bY;omega)],⟨⟩⟩
 ·try simp only[nb]at hb0
  refine W.skip ?_
  refine W.seq ?_
  refine W.seq ?_
  refine W.af X [] [] [0,1,5] [] rfl ⟨⟩ ?_
  refine W.block ?_
  refine W.aP (fun k=>k≤l.length∧(l.length:Int)+(((l.take k).map aW).sum:Nat)≤left) (fun k:Nat=> [(1, .one (.a (.lit (.int .i64 (left-(l.length:Nat)-(((l.take k).map aW).sum:Nat)))))),(5, .one (.a (.lit (.int .i64 k))))]) (fun k=> []) (fun k=>l.length-k) 0 (fun k=>rfl) ⟨Nat.zero_le _,by simp;omega⟩ (by simp) ?_
  rintro k ⟨hk,hs⟩
  refine W.seq ?_
  refine W.seq ?_
  refine W.af X [] [] [0,1,5,15] [] rfl ⟨⟩ ?_
  refine W.cond rfl (fun aH=> ?_) (fun aH=> ?_)
  ·try simp only[nb]at aH
   have Jv:=iW aW l (au .aE) k aH
   have hle:=cM l aW (k+1)
   refine W.skip ?_
   refine W.seq ?_
   refine W.block ?_
   refine W.seq ?_
   refine W.af X [] [(23,⟨false,[.a (.lit (.int .i64 (szr (left-(l.length:Nat)-(((l.take k).map aW).sum:Nat)) (aW (l.getD k (au .aE))))))]⟩)] [0,1,5] [] rfl ⟨p9 (l.getD k (au .aE)) _ (by omega) (by omega),by omega,⟨⟩⟩ ?_
   refine W.seq ?_
   refine W.af X [] [] [0,1,5,25] [] rfl ⟨⟩ ?_
   refine W.cond rfl (fun bk=> ?_) (fun bk=> ?_)
   ·try simp only[nb]at bk
    have hn:=cS (by omega) bk
    refine W.seq ?_
    refine W.af X [] [] [4] [] rfl ⟨⟩ ?_
    refine W.ret ?_
    exact Fin.ret rfl ⟨by rw[cz (by unfold bY;omega)],⟨⟩⟩
   ·try simp only[nb]at bk
    obtain⟨e2,e3⟩:=cK bk
    rw[e2]
    refine W.skip ?_
    refine W.af X [] [] [0,1,5] [] rfl ⟨⟩ ?_
    refine⟨k+1,⟨by omega,by omega⟩,by omega,?_⟩
    rw[bn _ k rfl (by omega),show left-(l.length:Nat)-(((l.take k).map aW).sum:Nat)-(aW (l.getD k (au .aE)):Nat)=left-(l.length:Nat)-(((l.take (k+1)).map aW).sum:Nat)by omega]
  ·try simp only[nb]at aH
   refine W.exit ?_
   refine W.seq ?_
   refine W.af X [] [] [4] [] rfl ⟨⟩ ?_
   refine W.ret ?_
   have hf:l.take k=l:=List.take_of_length_le (by omega)
   rw[hf]at hs
   exact Fin.ret rfl ⟨by rw[hf,fJ (by unfold bY;omega)];congr 1;unfold bY;omega,⟨⟩⟩
theorem Cs(x:bO)(left:Int)(h0:0≤left)(h1:left≤1048576):Sound ty Tryz.prog 134 [.agg (cG x), .a (.lit (.int .i64 left))] [.a (.lit (.int .i64 (szr left (aZ x))))]:=by
 refine Sound.of X Tryz.call134 Tryz.func134 rfl rfl (by decide) Tryz.ntmps134 (by simp) ?_
 intro zb
 refine W.seq ?_
 refine W.af X [] [] [1,2] [] rfl ⟨⟩ ?_
 refine W.seq ?_
 refine W.af X [] [(8,⟨false,[.a (.lit (.int .i64 (szr (left) ((bY aW) x.received))))]⟩)] [1] [] rfl ⟨oH x.received (left) (by omega) (by omega),⟨⟩⟩ ?_
 refine W.seq ?_
 refine W.seq ?_
 refine W.af X [] [] [1,10] [] rfl ⟨⟩ ?_
 refine W.cond rfl (fun hb0=> ?_) (fun hb0=> ?_)
 ·try simp only[nb]at hb0
  refine W.seq ?_
  refine W.af X [] [] [4] [] rfl ⟨⟩ ?_
  refine W.ret ?_
  exact Fin.ret rfl ⟨by rw[cz (by have:=cS (by omega) hb0;unfold aZ;omega)],⟨⟩⟩
 ·try simp only[nb]at hb0
  obtain⟨e0,J7⟩:=cK hb0
  rw[e0]
  refine W.skip ?_
  refine W.seq ?_
  refine W.af X [] [] [4] [] rfl ⟨⟩ ?_
  refine W.ret ?_
  exact Fin.ret rfl ⟨by rw[fJ (by unfold aZ;omega)];first|done| (congr 1;done)| (congr 1;unfold aZ;omega),⟨⟩⟩
theorem AT(l:(List bO))(left:Int)(h0:0≤left)(h1:left≤1048576):Sound ty Tryz.prog 58 [.a (.sl .bO l), .a (.lit (.int .i64 left))] [.a (.lit (.int .i64 (szr left ((bY aZ) l))))]:=by
 refine Sound.of X Tryz.call58 Tryz.func58 rfl rfl (by decide) Tryz.ntmps58 (by simp) ?_
 intro zb
 refine W.bound 0 rfl fun hl=> ?_
 refine W.seq ?_
 refine W.af X [] [] [0,1] [] rfl ⟨⟩ ?_
 refine W.seq ?_
 refine W.af X [] [] [0,1] [] rfl ⟨⟩ ?_
 rw[IntWalk.i64_in (left-(l.length:Nat)) (by omega)]
 refine W.seq ?_
 refine W.seq ?_
 refine W.af X [] [] [0,1,11] [] rfl ⟨⟩ ?_
 refine W.cond rfl (fun hb0=> ?_) (fun hb0=> ?_)
 ·try simp only[nb]at hb0
  refine W.seq ?_
  refine W.af X [] [] [4] [] rfl ⟨⟩ ?_
  refine W.ret ?_
  exact Fin.ret rfl ⟨by rw[cz (by unfold bY;omega)],⟨⟩⟩
 ·try simp only[nb]at hb0
  refine W.skip ?_
  refine W.seq ?_
  refine W.seq ?_
  refine W.af X [] [] [0,1,5] [] rfl ⟨⟩ ?_
  refine W.block ?_
  refine W.aP (fun k=>k≤l.length∧(l.length:Int)+(((l.take k).map aZ).sum:Nat)≤left) (fun k:Nat=> [(1, .one (.a (.lit (.int .i64 (left-(l.length:Nat)-(((l.take k).map aZ).sum:Nat)))))),(5, .one (.a (.lit (.int .i64 k))))]) (fun k=> []) (fun k=>l.length-k) 0 (fun k=>rfl) ⟨Nat.zero_le _,by simp;omega⟩ (by simp) ?_
  rintro k ⟨hk,hs⟩
  refine W.seq ?_
  refine W.seq ?_
  refine W.af X [] [] [0,1,5,15] [] rfl ⟨⟩ ?_
  refine W.cond rfl (fun aH=> ?_) (fun aH=> ?_)
  ·try simp only[nb]at aH
   have Jv:=iW aZ l (au .bO) k aH
   have hle:=cM l aZ (k+1)
   refine W.skip ?_
   refine W.seq ?_
   refine W.block ?_
   refine W.seq ?_
   refine W.af X [] [(23,⟨false,[.a (.lit (.int .i64 (szr (left-(l.length:Nat)-(((l.take k).map aZ).sum:Nat)) (aZ (l.getD k (au .bO))))))]⟩)] [0,1,5] [] rfl ⟨Cs (l.getD k (au .bO)) _ (by omega) (by omega),by omega,⟨⟩⟩ ?_
   refine W.seq ?_
   refine W.af X [] [] [0,1,5,25] [] rfl ⟨⟩ ?_
   refine W.cond rfl (fun bk=> ?_) (fun bk=> ?_)
   ·try simp only[nb]at bk
    have hn:=cS (by omega) bk
    refine W.seq ?_
    refine W.af X [] [] [4] [] rfl ⟨⟩ ?_
    refine W.ret ?_
    exact Fin.ret rfl ⟨by rw[cz (by unfold bY;omega)],⟨⟩⟩
   ·try simp only[nb]at bk
    obtain⟨e2,e3⟩:=cK bk
    rw[e2]
    refine W.skip ?_
    refine W.af X [] [] [0,1,5] [] rfl ⟨⟩ ?_
    refine⟨k+1,⟨by omega,by omega⟩,by omega,?_⟩
    rw[bn _ k rfl (by omega),show left-(l.length:Nat)-(((l.take k).map aZ).sum:Nat)-(aZ (l.getD k (au .bO)):Nat)=left-(l.length:Nat)-(((l.take (k+1)).map aZ).sum:Nat)by omega]
  ·try simp only[nb]at aH
   refine W.exit ?_
   refine W.seq ?_
   refine W.af X [] [] [4] [] rfl ⟨⟩ ?_
   refine W.ret ?_
   have hf:l.take k=l:=List.take_of_length_le (by omega)
   rw[hf]at hs
   exact Fin.ret rfl ⟨by rw[hf,fJ (by unfold bY;omega)];congr 1;unfold bY;omega,⟨⟩⟩
theorem EM(x:b7)(left:Int)(h0:0≤left)(h1:left≤1048576):Sound ty Tryz.prog 14 [.agg (bz x), .a (.lit (.int .i64 left))] [.a (.lit (.int .i64 (szr left (bL x))))]:=by
 refine Sound.of X Tryz.call14 Tryz.func14 rfl rfl (by decide) Tryz.ntmps14 (by simp) ?_
 intro zb
 refine W.seq ?_
 refine W.af X [] [] [1,2] [] rfl ⟨⟩ ?_
 refine W.seq ?_
 refine W.af X [] [(8,⟨false,[.a (.lit (.int .i64 (szr (left) ((bY aZ) x.aq))))]⟩)] [1,2] [] rfl ⟨AT x.aq (left) (by omega) (by omega),⟨⟩⟩ ?_
 refine W.seq ?_
 refine W.seq ?_
 refine W.af X [] [] [1,2,10] [] rfl ⟨⟩ ?_
 refine W.cond rfl (fun hb0=> ?_) (fun hb0=> ?_)
 ·try simp only[nb]at hb0
  refine W.seq ?_
  refine W.af X [] [] [4] [] rfl ⟨⟩ ?_
  refine W.ret ?_
  exact Fin.ret rfl ⟨by rw[cz (by have:=cS (by omega) hb0;unfold bL;omega)],⟨⟩⟩
 ·try simp only[nb]at hb0
  obtain⟨e0,J7⟩:=cK hb0
  rw[e0]
  refine W.skip ?_
  refine W.seq ?_
  refine W.af X [] [(14,⟨false,[.a (.lit (.int .i64 (szr (left-(((bY aZ) x.aq):Nat)) ((bY aN) x.ah))))]⟩)] [1,2] [] rfl ⟨AS x.ah (left-(((bY aZ) x.aq):Nat)) (by omega) (by omega),⟨⟩⟩ ?_
  refine W.seq ?_
  refine W.seq ?_
  refine W.af X [] [] [1,2,16] [] rfl ⟨⟩ ?_
  refine W.cond rfl (fun aH=> ?_) (fun aH=> ?_)
  ·try simp only[nb]at aH
   refine W.seq ?_
   refine W.af X [] [] [4] [] rfl ⟨⟩ ?_
   refine W.ret ?_
   exact Fin.ret rfl ⟨by rw[cz (by have:=cS (by omega) aH;unfold bL;omega)],⟨⟩⟩
  ·try simp only[nb]at aH
   obtain⟨e1,PN⟩:=cK aH
   rw[e1]
   refine W.skip ?_
   refine W.seq ?_
   refine W.af X [] [(20,⟨false,[.a (.lit (.int .i64 (szr (left-(((bY aZ) x.aq):Nat)-(((bY aN) x.ah):Nat)) (bU x.aA))))]⟩)] [1,2] [] rfl ⟨AR x.aA (left-(((bY aZ) x.aq):Nat)-(((bY aN) x.ah):Nat)) (by omega) (by omega),⟨⟩⟩ ?_
   refine W.seq ?_
   refine W.seq ?_
   refine W.af X [] [] [1,2,22] [] rfl ⟨⟩ ?_
   refine W.cond rfl (fun bk=> ?_) (fun bk=> ?_)
   ·try simp only[nb]at bk
    refine W.seq ?_
    refine W.af X [] [] [4] [] rfl ⟨⟩ ?_
    refine W.ret ?_
    exact Fin.ret rfl ⟨by rw[cz (by have:=cS (by omega) bk;unfold bL;omega)],⟨⟩⟩
   ·try simp only[nb]at bk
    obtain⟨e2,Rz⟩:=cK bk
    rw[e2]
    refine W.skip ?_
    refine W.seq ?_
    refine W.af X [] [(26,⟨false,[.a (.lit (.int .i64 (szr (left-(((bY aZ) x.aq):Nat)-(((bY aN) x.ah):Nat)-((bU x.aA):Nat)) (List.length x.replaced))))]⟩)] [1] [] rfl ⟨Hh x.replaced (left-(((bY aZ) x.aq):Nat)-(((bY aN) x.ah):Nat)-((bU x.aA):Nat)) (by omega) (by omega),⟨⟩⟩ ?_
    refine W.seq ?_
    refine W.seq ?_
    refine W.af X [] [] [1,28] [] rfl ⟨⟩ ?_
    refine W.cond rfl (fun lu=> ?_) (fun lu=> ?_)
    ·try simp only[nb]at lu
     refine W.seq ?_
     refine W.af X [] [] [4] [] rfl ⟨⟩ ?_
     refine W.ret ?_
     exact Fin.ret rfl ⟨by rw[cz (by have:=cS (by omega) lu;unfold bL;omega)],⟨⟩⟩
    ·try simp only[nb]at lu
     obtain⟨e3,RC⟩:=cK lu
     rw[e3]
     refine W.skip ?_
     refine W.seq ?_
     refine W.af X [] [] [4] [] rfl ⟨⟩ ?_
     refine W.ret ?_
     exact Fin.ret rfl ⟨by rw[fJ (by unfold bL;omega)];first|done| (congr 1;done)| (congr 1;unfold bL;omega),⟨⟩⟩
end Go.Proofs.YtjcojocjlglglaaGreat.G
namespace Go.Proofs.YtjcojocjlglglaaGreat.G
set_option linter.all false
open Go.RowKit L D
set_option maxRecDepth 100000
theorem EN(l:(List UInt8))(hx:(List.length l)≤1048576):Sound ty Tryz.prog 51 [.a (.sl .u8 l)] [.a (.sl .u8 l)]:=by
 refine Sound.of X Tryz.call51 Tryz.func51 rfl rfl (by decide) Tryz.ntmps51 (by simp) ?_
 intro zb
 have hl:l.length≤1048576:=hx
 refine W.seq ?_
 refine W.af X [] [] [0] [] rfl ⟨⟩ ?_
 refine W.seq ?_
 refine W.af X [] [] [0,3] [] rfl (by(repeat' (first|exact True.intro|apply And.intro))<;>first| (intros;omega)|exact rfl| (simp only[cE,maxLen,lens];omega)) ?_
 refine W.seq ?_
 refine W.seq ?_
 refine W.af X [] [] [0,3,4] [] rfl ⟨⟩ ?_
 refine W.block ?_
 refine W.aP (fun k=>k≤l.length) (fun k:Nat=> [(4, .one (.a (.lit (.int .i64 k))))]) (fun k=> [(7, .arr .u8 (l.take k++List.replicate (l.length-k) (au .u8)))]) (fun k=>l.length-k) 0 (fun k=>rfl) (Nat.zero_le _) rfl ?_
 intro k hk
 refine W.seq ?_
 refine W.seq ?_
 refine W.af X [] [] [0,3,4,11] [] rfl ⟨⟩ ?_
 refine W.cond rfl (fun hb0=> ?_) (fun hb0=> ?_)
 ·try simp only[nb]at hb0
  have qP:=lg l (au .u8) k (by omega)
  refine W.skip ?_
  refine W.seq ?_
  refine W.block ?_
  refine W.af X [] [] [0,3,4] [] rfl (by(repeat' (first|exact True.intro|apply And.intro))<;>first| (intros;omega)|exact(PM _).2) ?_
  have e1:=iX l (au .u8) k hb0
  refine W.af X [] [] [0,3,4] [] rfl ⟨⟩ ?_
  refine⟨k+1,by omega,by omega,?_⟩
  rw[Dz]
  rw[bn _ k rfl (by omega), ←e1]
  try rfl
 ·try simp only[nb]at hb0
  refine W.exit ?_
  refine W.seq ?_
  refine W.af X [] [] [2] [] rfl ⟨⟩ ?_
  refine W.ret ?_
  exact Fin.ret rfl ⟨by rw[List.take_of_length_le (by omega),show l.length-k=0 by omega,List.replicate_zero,List.append_nil],⟨⟩⟩
theorem oI(l:(List (List UInt8)))(hx:((bY List.length) l)≤1048576):Sound ty Tryz.prog 330 [.a (.sl (.sl .u8) l)] [.a (.sl (.sl .u8) l)]:=by
 refine Sound.of X Tryz.call330 Tryz.func330 rfl rfl (by decide) Tryz.ntmps330 (by simp) ?_
 intro zb
 have hl:l.length≤1048576:=cR hx
 refine W.seq ?_
 refine W.af X [] [] [0] [] rfl ⟨⟩ ?_
 refine W.seq ?_
 refine W.af X [] [] [0,3] [] rfl (by(repeat' (first|exact True.intro|apply And.intro))<;>first| (intros;omega)|exact rfl| (simp only[cE,maxLen,lens];omega)) ?_
 refine W.seq ?_
 refine W.seq ?_
 refine W.af X [] [] [0,3,4] [] rfl ⟨⟩ ?_
 refine W.block ?_
 refine W.aP (fun k=>k≤l.length) (fun k:Nat=> [(4, .one (.a (.lit (.int .i64 k))))]) (fun k=> [(7, .arr (.sl .u8) (l.take k++List.replicate (l.length-k) (au (.sl .u8))))]) (fun k=>l.length-k) 0 (fun k=>rfl) (Nat.zero_le _) rfl ?_
 intro k hk
 refine W.seq ?_
 refine W.seq ?_
 refine W.af X [] [] [0,3,4,11] [] rfl ⟨⟩ ?_
 refine W.cond rfl (fun hb0=> ?_) (fun hb0=> ?_)
 ·try simp only[nb]at hb0
  have qP:=lg l (au (.sl .u8)) k (by omega)
  refine W.skip ?_
  refine W.seq ?_
  refine W.block ?_
  refine W.af X [(20,300)] [(20,⟨true,[.a (.sl .u8 (l.getD k (au (.sl .u8))))]⟩)] [0,3,4] [] rfl (by(repeat' (first|with_reducible exact ak.nil|with_reducible refine ak.mk ?_ ?_|with_reducible apply And.intro))<;>skip;(iterate 1 (all_goals try (first|exact EN (l.getD k (au (.sl .u8))) (fu hx (getD_some l _ k hb0)))));all_goals (first| (intros;omega))) ?_
  have e1:=iX l (au (.sl .u8)) k hb0
  refine W.af X [] [] [0,3,4] [] rfl ⟨⟩ ?_
  refine⟨k+1,by omega,by omega,?_⟩
  rw[bn _ k rfl (by omega), ←e1]
  try rfl
 ·try simp only[nb]at hb0
  refine W.exit ?_
  refine W.seq ?_
  refine W.af X [] [] [2] [] rfl ⟨⟩ ?_
  refine W.ret ?_
  exact Fin.ret rfl ⟨by rw[List.take_of_length_le (by omega),show l.length-k=0 by omega,List.replicate_zero,List.append_nil],⟨⟩⟩
theorem qa(x:DB)(hx:dR x≤1048576):Sound ty Tryz.prog 331 [.agg (bR x)] [.agg (bR x)]:=by
 refine Sound.of X Tryz.call331 Tryz.func331 rfl rfl (by decide) Tryz.ntmps331 (by simp) ?_
 intro zb
 have nM:=hx
 unfold dR at nM
 refine W.seq ?_
 refine W.af X [] [] [1,2] [] rfl ⟨⟩ ?_
 refine W.seq ?_
 refine W.af X [] [] [1,2,3] [] rfl ⟨⟩ ?_
 refine W.seq ?_
 refine W.af X [(6,230)] [(6,⟨true,[.a (.sl (.sl .u8) x.rows)]⟩)] [2,3] [] rfl ⟨oI x.rows (by omega),⟨⟩⟩ ?_
 refine W.seq ?_
 refine W.af X [] [] [2] [] rfl (by(repeat' (first|exact True.intro|apply And.intro))) ?_
 refine W.ret ?_
 exact Fin.ret rfl (by(repeat' (first|exact True.intro|apply And.intro))<;>rfl)
theorem qb(x:az)(hx:aV x≤1048576):Sound ty Tryz.prog 259 [.agg (dP x)] [.agg (dP x)]:=by
 refine Sound.of X Tryz.call259 Tryz.func259 rfl rfl (by decide) Tryz.ntmps259 (by simp) ?_
 intro zb
 have nM:=hx
 unfold aV at nM
 refine W.seq ?_
 refine W.af X [] [] [1,2] [] rfl ⟨⟩ ?_
 refine W.seq ?_
 refine W.af X [] [] [1,2,3] [] rfl ⟨⟩ ?_
 refine W.seq ?_
 refine W.af X [] [] [1,2,3] [] rfl ⟨⟩ ?_
 refine W.seq ?_
 refine W.af X [(9,230)] [(9,⟨true,[.agg (bR x.db)]⟩)] [2,3] [] rfl ⟨qa x.db (by omega),⟨⟩⟩ ?_
 refine W.seq ?_
 refine W.af X [] [] [2] [] rfl (by(repeat' (first|exact True.intro|apply And.intro))) ?_
 refine W.ret ?_
 exact Fin.ret rfl (by(repeat' (first|exact True.intro|apply And.intro))<;>rfl)
theorem oJ(l:(List az))(hx:((bY aV) l)≤1048576):Sound ty Tryz.prog 159 [.a (.sl .az l)] [.a (.sl .az l)]:=by
 refine Sound.of X Tryz.call159 Tryz.func159 rfl rfl (by decide) Tryz.ntmps159 (by simp) ?_
 intro zb
 have hl:l.length≤1048576:=cR hx
 refine W.seq ?_
 refine W.af X [] [] [0] [] rfl ⟨⟩ ?_
 refine W.seq ?_
 refine W.af X [] [] [0,3] [] rfl (by(repeat' (first|exact True.intro|apply And.intro))<;>first| (intros;omega)|exact rfl| (simp only[cE,maxLen,lens];omega)) ?_
 refine W.seq ?_
 refine W.seq ?_
 refine W.af X [] [] [0,3,4] [] rfl ⟨⟩ ?_
 refine W.block ?_
 refine W.aP (fun k=>k≤l.length) (fun k:Nat=> [(4, .one (.a (.lit (.int .i64 k))))]) (fun k=> [(7, .arr .az (l.take k++List.replicate (l.length-k) (au .az)))]) (fun k=>l.length-k) 0 (fun k=>rfl) (Nat.zero_le _) rfl ?_
 intro k hk
 refine W.seq ?_
 refine W.seq ?_
 refine W.af X [] [] [0,3,4,11] [] rfl ⟨⟩ ?_
 refine W.cond rfl (fun hb0=> ?_) (fun hb0=> ?_)
 ·try simp only[nb]at hb0
  have qP:=lg l (au .az) k (by omega)
  refine W.skip ?_
  refine W.seq ?_
  refine W.block ?_
  refine W.af X [(20,300)] [(20,⟨true,[.agg (dP (l.getD k (au .az)))]⟩)] [0,3,4] [] rfl (by(repeat' (first|with_reducible exact ak.nil|with_reducible refine ak.mk ?_ ?_|with_reducible apply And.intro))<;>skip;(iterate 1 (all_goals try (first|exact qb (l.getD k (au .az)) (fu hx (getD_some l _ k hb0)))));all_goals (first| (intros;omega))) ?_
  have e1:=iX l (au .az) k hb0
  refine W.af X [] [] [0,3,4] [] rfl ⟨⟩ ?_
  refine⟨k+1,by omega,by omega,?_⟩
  rw[bn _ k rfl (by omega), ←e1]
  try rfl
 ·try simp only[nb]at hb0
  refine W.exit ?_
  refine W.seq ?_
  refine W.af X [] [] [2] [] rfl ⟨⟩ ?_
  refine W.ret ?_
  exact Fin.ret rfl ⟨by rw[List.take_of_length_le (by omega),show l.length-k=0 by omega,List.replicate_zero,List.append_nil],⟨⟩⟩
theorem AU(x:gJ)(hx:bU x≤1048576):Sound ty Tryz.prog 70 [.agg (bN x)] [.agg (bN x)]:=by
 refine Sound.of X Tryz.call70 Tryz.func70 rfl rfl (by decide) Tryz.ntmps70 (by simp) ?_
 intro zb
 have nM:=hx
 unfold bU at nM
 refine W.seq ?_
 refine W.af X [] [] [1,2] [] rfl ⟨⟩ ?_
 refine W.seq ?_
 refine W.af X [] [] [1,2,3] [] rfl ⟨⟩ ?_
 refine W.seq ?_
 refine W.af X [] [] [1,2,3] [] rfl ⟨⟩ ?_
 refine W.seq ?_
 refine W.af X [(9,230)] [(9,⟨true,[.a (.sl .az x.rounds)]⟩)] [2,3] [] rfl ⟨oJ x.rounds (by omega),⟨⟩⟩ ?_
 refine W.seq ?_
 refine W.af X [] [] [2] [] rfl (by(repeat' (first|exact True.intro|apply And.intro))) ?_
 refine W.ret ?_
 exact Fin.ret rfl (by(repeat' (first|exact True.intro|apply And.intro))<;>rfl)
theorem vM(x:dL)(hx:bh x≤1048576):Sound ty Tryz.prog 258 [.agg (bf x)] [.agg (bf x)]:=by
 refine Sound.of X Tryz.call258 Tryz.func258 rfl rfl (by decide) Tryz.ntmps258 (by simp) ?_
 intro zb
 have nM:=hx
 unfold bh at nM
 refine W.seq ?_
 refine W.af X [] [] [1,2] [] rfl ⟨⟩ ?_
 refine W.seq ?_
 refine W.af X [] [] [1,2,3] [] rfl ⟨⟩ ?_
 refine W.seq ?_
 refine W.af X [] [] [1,2,3] [] rfl ⟨⟩ ?_
 refine W.seq ?_
 refine W.af X [] [] [1,2,3] [] rfl ⟨⟩ ?_
 refine W.seq ?_
 refine W.af X [] [] [1,2,3] [] rfl ⟨⟩ ?_
 refine W.seq ?_
 refine W.af X [] [] [1,2,3] [] rfl ⟨⟩ ?_
 refine W.seq ?_
 refine W.af X [(18,230)] [(18,⟨true,[.a (.sl (.sl .u8) x.aj)]⟩)] [1,2,3] [] rfl ⟨oI x.aj (by omega),⟨⟩⟩ ?_
 refine W.seq ?_
 refine W.af X [] [] [1,2,3] [] rfl ⟨⟩ ?_
 refine W.seq ?_
 refine W.af X [(25,260)] [(25,⟨true,[.a (.sl (.sl .u8) x.inbox)]⟩)] [1,2,3] [] rfl ⟨oI x.inbox (by omega),⟨⟩⟩ ?_
 refine W.seq ?_
 refine W.af X [] [] [2,3] [] rfl ⟨⟩ ?_
 refine W.seq ?_
 refine W.af X [] [] [2] [] rfl (by(repeat' (first|exact True.intro|apply And.intro))) ?_
 refine W.ret ?_
 exact Fin.ret rfl (by(repeat' (first|exact True.intro|apply And.intro))<;>rfl)
theorem Ct(x:aO)(hx:aN x≤1048576):Sound ty Tryz.prog 158 [.agg (bq x)] [.agg (bq x)]:=by
 refine Sound.of X Tryz.call158 Tryz.func158 rfl rfl (by decide) Tryz.ntmps158 (by simp) ?_
 intro zb
 have nM:=hx
 unfold aN at nM
 refine W.seq ?_
 refine W.af X [] [] [1,2] [] rfl ⟨⟩ ?_
 refine W.seq ?_
 refine W.af X [] [] [1,2,3] [] rfl ⟨⟩ ?_
 refine W.seq ?_
 refine W.af X [(6,230)] [(6,⟨true,[.agg (bf x.live)]⟩)] [1,2,3] [] rfl ⟨vM x.live (by omega),⟨⟩⟩ ?_
 refine W.seq ?_
 refine W.af X [(10,260)] [(10,⟨true,[.agg (bf x.saved)]⟩)] [2,3] [] rfl ⟨vM x.saved (by omega),⟨⟩⟩ ?_
 refine W.seq ?_
 refine W.af X [] [] [2] [] rfl (by(repeat' (first|exact True.intro|apply And.intro))) ?_
 refine W.ret ?_
 exact Fin.ret rfl (by(repeat' (first|exact True.intro|apply And.intro))<;>rfl)
theorem AV(l:(List aO))(hx:((bY aN) l)≤1048576):Sound ty Tryz.prog 69 [.a (.sl .aO l)] [.a (.sl .aO l)]:=by
 refine Sound.of X Tryz.call69 Tryz.func69 rfl rfl (by decide) Tryz.ntmps69 (by simp) ?_
 intro zb
 have hl:l.length≤1048576:=cR hx
 refine W.seq ?_
 refine W.af X [] [] [0] [] rfl ⟨⟩ ?_
 refine W.seq ?_
 refine W.af X [] [] [0,3] [] rfl (by(repeat' (first|exact True.intro|apply And.intro))<;>first| (intros;omega)|exact rfl| (simp only[cE,maxLen,lens];omega)) ?_
 refine W.seq ?_
 refine W.seq ?_
 refine W.af X [] [] [0,3,4] [] rfl ⟨⟩ ?_
 refine W.block ?_
 refine W.aP (fun k=>k≤l.length) (fun k:Nat=> [(4, .one (.a (.lit (.int .i64 k))))]) (fun k=> [(7, .arr .aO (l.take k++List.replicate (l.length-k) (au .aO)))]) (fun k=>l.length-k) 0 (fun k=>rfl) (Nat.zero_le _) rfl ?_
 intro k hk
 refine W.seq ?_
 refine W.seq ?_
 refine W.af X [] [] [0,3,4,11] [] rfl ⟨⟩ ?_
 refine W.cond rfl (fun hb0=> ?_) (fun hb0=> ?_)
 ·try simp only[nb]at hb0
  have qP:=lg l (au .aO) k (by omega)
  refine W.skip ?_
  refine W.seq ?_
  refine W.block ?_
  refine W.af X [(20,300)] [(20,⟨true,[.agg (bq (l.getD k (au .aO)))]⟩)] [0,3,4] [] rfl (by(repeat' (first|with_reducible exact ak.nil|with_reducible refine ak.mk ?_ ?_|with_reducible apply And.intro))<;>skip;(iterate 1 (all_goals try (first|exact Ct (l.getD k (au .aO)) (fu hx (getD_some l _ k hb0)))));all_goals (first| (intros;omega))) ?_
  have e1:=iX l (au .aO) k hb0
  refine W.af X [] [] [0,3,4] [] rfl ⟨⟩ ?_
  refine⟨k+1,by omega,by omega,?_⟩
  rw[bn _ k rfl (by omega), ←e1]
  try rfl
 ·try simp only[nb]at hb0
  refine W.exit ?_
  refine W.seq ?_
  refine W.af X [] [] [2] [] rfl ⟨⟩ ?_
  refine W.ret ?_
  exact Fin.ret rfl ⟨by rw[List.take_of_length_le (by omega),show l.length-k=0 by omega,List.replicate_zero,List.append_nil],⟨⟩⟩
theorem Hi(l:(List Int))(hx:(List.length l)≤1048576):Sound ty Tryz.prog 71 [.a (.sl .int l)] [.a (.sl .int l)]:=by
 refine Sound.of X Tryz.call71 Tryz.func71 rfl rfl (by decide) Tryz.ntmps71 (by simp) ?_
 intro zb
 have hl:l.length≤1048576:=hx
 refine W.seq ?_
 refine W.af X [] [] [0] [] rfl ⟨⟩ ?_
 refine W.seq ?_
 refine W.af X [] [] [0,3] [] rfl (by(repeat' (first|exact True.intro|apply And.intro))<;>first| (intros;omega)|exact rfl| (simp only[cE,maxLen,lens];omega)) ?_
 refine W.seq ?_
 refine W.seq ?_
 refine W.af X [] [] [0,3,4] [] rfl ⟨⟩ ?_
 refine W.block ?_
 refine W.aP (fun k=>k≤l.length) (fun k:Nat=> [(4, .one (.a (.lit (.int .i64 k))))]) (fun k=> [(7, .arr .int (l.take k++List.replicate (l.length-k) (au .int)))]) (fun k=>l.length-k) 0 (fun k=>rfl) (Nat.zero_le _) rfl ?_
 intro k hk
 refine W.seq ?_
 refine W.seq ?_
 refine W.af X [] [] [0,3,4,11] [] rfl ⟨⟩ ?_
 refine W.cond rfl (fun hb0=> ?_) (fun hb0=> ?_)
 ·try simp only[nb]at hb0
  have qP:=lg l (au .int) k (by omega)
  refine W.skip ?_
  refine W.seq ?_
  refine W.block ?_
  refine W.af X [] [] [0,3,4] [] rfl (by(repeat' (first|exact True.intro|apply And.intro))<;>first| (intros;omega)) ?_
  have e1:=iX l (au .int) k hb0
  refine W.af X [] [] [0,3,4] [] rfl ⟨⟩ ?_
  refine⟨k+1,by omega,by omega,?_⟩
  rw[bn _ k rfl (by omega), ←e1]
  try rfl
 ·try simp only[nb]at hb0
  refine W.exit ?_
  refine W.seq ?_
  refine W.af X [] [] [2] [] rfl ⟨⟩ ?_
  refine W.ret ?_
  exact Fin.ret rfl ⟨by rw[List.take_of_length_le (by omega),show l.length-k=0 by omega,List.replicate_zero,List.append_nil],⟨⟩⟩
theorem qc(x:aE)(hx:aW x≤1048576):Sound ty Tryz.prog 329 [.agg (dO x)] [.agg (dO x)]:=by
 refine Sound.of X Tryz.call329 Tryz.func329 rfl rfl (by decide) Tryz.ntmps329 (by simp) ?_
 intro zb
 have nM:=hx
 unfold aW at nM
 refine W.seq ?_
 refine W.af X [] [] [1,2] [] rfl ⟨⟩ ?_
 refine W.seq ?_
 refine W.af X [] [] [1,2,3] [] rfl ⟨⟩ ?_
 refine W.seq ?_
 refine W.af X [] [] [1,2,3] [] rfl ⟨⟩ ?_
 refine W.seq ?_
 refine W.af X [(9,230)] [(9,⟨true,[.agg (bR x.share)]⟩)] [2,3] [] rfl ⟨qa x.share (by omega),⟨⟩⟩ ?_
 refine W.seq ?_
 refine W.af X [] [] [2] [] rfl (by(repeat' (first|exact True.intro|apply And.intro))) ?_
 refine W.ret ?_
 exact Fin.ret rfl (by(repeat' (first|exact True.intro|apply And.intro))<;>rfl)
theorem oK(l:(List aE))(hx:((bY aW) l)≤1048576):Sound ty Tryz.prog 257 [.a (.sl .aE l)] [.a (.sl .aE l)]:=by
 refine Sound.of X Tryz.call257 Tryz.func257 rfl rfl (by decide) Tryz.ntmps257 (by simp) ?_
 intro zb
 have hl:l.length≤1048576:=cR hx
 refine W.seq ?_
 refine W.af X [] [] [0] [] rfl ⟨⟩ ?_
 refine W.seq ?_
 refine W.af X [] [] [0,3] [] rfl (by(repeat' (first|exact True.intro|apply And.intro))<;>first| (intros;omega)|exact rfl| (simp only[cE,maxLen,lens];omega)) ?_
 refine W.seq ?_
 refine W.seq ?_
 refine W.af X [] [] [0,3,4] [] rfl ⟨⟩ ?_
 refine W.block ?_
 refine W.aP (fun k=>k≤l.length) (fun k:Nat=> [(4, .one (.a (.lit (.int .i64 k))))]) (fun k=> [(7, .arr .aE (l.take k++List.replicate (l.length-k) (au .aE)))]) (fun k=>l.length-k) 0 (fun k=>rfl) (Nat.zero_le _) rfl ?_
 intro k hk
 refine W.seq ?_
 refine W.seq ?_
 refine W.af X [] [] [0,3,4,11] [] rfl ⟨⟩ ?_
 refine W.cond rfl (fun hb0=> ?_) (fun hb0=> ?_)
 ·try simp only[nb]at hb0
  have qP:=lg l (au .aE) k (by omega)
  refine W.skip ?_
  refine W.seq ?_
  refine W.block ?_
  refine W.af X [(20,300)] [(20,⟨true,[.agg (dO (l.getD k (au .aE)))]⟩)] [0,3,4] [] rfl (by(repeat' (first|with_reducible exact ak.nil|with_reducible refine ak.mk ?_ ?_|with_reducible apply And.intro))<;>skip;(iterate 1 (all_goals try (first|exact qc (l.getD k (au .aE)) (fu hx (getD_some l _ k hb0)))));all_goals (first| (intros;omega))) ?_
  have e1:=iX l (au .aE) k hb0
  refine W.af X [] [] [0,3,4] [] rfl ⟨⟩ ?_
  refine⟨k+1,by omega,by omega,?_⟩
  rw[bn _ k rfl (by omega), ←e1]
  try rfl
 ·try simp only[nb]at hb0
  refine W.exit ?_
  refine W.seq ?_
  refine W.af X [] [] [2] [] rfl ⟨⟩ ?_
  refine W.ret ?_
  exact Fin.ret rfl ⟨by rw[List.take_of_length_le (by omega),show l.length-k=0 by omega,List.replicate_zero,List.append_nil],⟨⟩⟩
theorem Cu(x:bO)(hx:aZ x≤1048576):Sound ty Tryz.prog 157 [.agg (cG x)] [.agg (cG x)]:=by
 refine Sound.of X Tryz.call157 Tryz.func157 rfl rfl (by decide) Tryz.ntmps157 (by simp) ?_
 intro zb
 have nM:=hx
 unfold aZ at nM
 refine W.seq ?_
 refine W.af X [] [] [1,2] [] rfl ⟨⟩ ?_
 refine W.seq ?_
 refine W.af X [] [] [1,2,3] [] rfl ⟨⟩ ?_
 refine W.seq ?_
 refine W.af X [] [] [1,2,3] [] rfl ⟨⟩ ?_
 refine W.seq ?_
 refine W.af X [] [] [1,2,3] [] rfl ⟨⟩ ?_
 refine W.seq ?_
 refine W.af X [] [] [1,2,3] [] rfl ⟨⟩ ?_
 refine W.seq ?_
 refine W.af X [(15,230)] [(15,⟨true,[.a (.sl .aE x.received)]⟩)] [1,2,3] [] rfl ⟨oK x.received (by omega),⟨⟩⟩ ?_
 refine W.seq ?_
 refine W.af X [] [] [2,3] [] rfl ⟨⟩ ?_
 refine W.seq ?_
 refine W.af X [] [] [2] [] rfl (by(repeat' (first|exact True.intro|apply And.intro))) ?_
 refine W.ret ?_
 exact Fin.ret rfl (by(repeat' (first|exact True.intro|apply And.intro))<;>rfl)
theorem AW(l:(List bO))(hx:((bY aZ) l)≤1048576):Sound ty Tryz.prog 68 [.a (.sl .bO l)] [.a (.sl .bO l)]:=by
 refine Sound.of X Tryz.call68 Tryz.func68 rfl rfl (by decide) Tryz.ntmps68 (by simp) ?_
 intro zb
 have hl:l.length≤1048576:=cR hx
 refine W.seq ?_
 refine W.af X [] [] [0] [] rfl ⟨⟩ ?_
 refine W.seq ?_
 refine W.af X [] [] [0,3] [] rfl (by(repeat' (first|exact True.intro|apply And.intro))<;>first| (intros;omega)|exact rfl| (simp only[cE,maxLen,lens];omega)) ?_
 refine W.seq ?_
 refine W.seq ?_
 refine W.af X [] [] [0,3,4] [] rfl ⟨⟩ ?_
 refine W.block ?_
 refine W.aP (fun k=>k≤l.length) (fun k:Nat=> [(4, .one (.a (.lit (.int .i64 k))))]) (fun k=> [(7, .arr .bO (l.take k++List.replicate (l.length-k) (au .bO)))]) (fun k=>l.length-k) 0 (fun k=>rfl) (Nat.zero_le _) rfl ?_
 intro k hk
 refine W.seq ?_
 refine W.seq ?_
 refine W.af X [] [] [0,3,4,11] [] rfl ⟨⟩ ?_
 refine W.cond rfl (fun hb0=> ?_) (fun hb0=> ?_)
 ·try simp only[nb]at hb0
  have qP:=lg l (au .bO) k (by omega)
  refine W.skip ?_
  refine W.seq ?_
  refine W.block ?_
  refine W.af X [(20,300)] [(20,⟨true,[.agg (cG (l.getD k (au .bO)))]⟩)] [0,3,4] [] rfl (by(repeat' (first|with_reducible exact ak.nil|with_reducible refine ak.mk ?_ ?_|with_reducible apply And.intro))<;>skip;(iterate 1 (all_goals try (first|exact Cu (l.getD k (au .bO)) (fu hx (getD_some l _ k hb0)))));all_goals (first| (intros;omega))) ?_
  have e1:=iX l (au .bO) k hb0
  refine W.af X [] [] [0,3,4] [] rfl ⟨⟩ ?_
  refine⟨k+1,by omega,by omega,?_⟩
  rw[bn _ k rfl (by omega), ←e1]
  try rfl
 ·try simp only[nb]at hb0
  refine W.exit ?_
  refine W.seq ?_
  refine W.af X [] [] [2] [] rfl ⟨⟩ ?_
  refine W.ret ?_
  exact Fin.ret rfl ⟨by rw[List.take_of_length_le (by omega),show l.length-k=0 by omega,List.replicate_zero,List.append_nil],⟨⟩⟩
theorem nB(x:b7)(hx:bL x≤1048576):Sound ty Tryz.prog 16 [.agg (bz x)] [.agg (bz x)]:=by
 refine Sound.of X Tryz.call16 Tryz.func16 rfl rfl (by decide) Tryz.ntmps16 (by simp) ?_
 intro zb
 have nM:=hx
 unfold bL at nM
 refine W.seq ?_
 refine W.af X [] [] [1,2] [] rfl ⟨⟩ ?_
 refine W.seq ?_
 refine W.af X [] [] [1,2,3] [] rfl ⟨⟩ ?_
 refine W.seq ?_
 refine W.af X [] [] [1,2,3] [] rfl ⟨⟩ ?_
 refine W.seq ?_
 refine W.af X [(9,230)] [(9,⟨true,[.a (.sl .bO x.aq)]⟩)] [1,2,3] [] rfl ⟨AW x.aq (by omega),⟨⟩⟩ ?_
 refine W.seq ?_
 refine W.af X [(13,260)] [(13,⟨true,[.a (.sl .aO x.ah)]⟩)] [1,2,3] [] rfl ⟨AV x.ah (by omega),⟨⟩⟩ ?_
 refine W.seq ?_
 refine W.af X [(17,290)] [(17,⟨true,[.agg (bN x.aA)]⟩)] [1,2,3] [] rfl ⟨AU x.aA (by omega),⟨⟩⟩ ?_
 refine W.seq ?_
 refine W.af X [] [] [1,2,3] [] rfl ⟨⟩ ?_
 refine W.seq ?_
 refine W.af X [] [] [1,2,3] [] rfl ⟨⟩ ?_
 refine W.seq ?_
 refine W.af X [] [] [1,2,3] [] rfl ⟨⟩ ?_
 refine W.seq ?_
 refine W.af X [(30,320)] [(30,⟨true,[.a (.sl .int x.replaced)]⟩)] [1,2,3] [] rfl ⟨Hi x.replaced (by omega),⟨⟩⟩ ?_
 refine W.seq ?_
 refine W.af X [] [] [2,3] [] rfl ⟨⟩ ?_
 refine W.seq ?_
 refine W.af X [] [] [2] [] rfl (by(repeat' (first|exact True.intro|apply And.intro))) ?_
 refine W.ret ?_
 exact Fin.ret rfl (by(repeat' (first|exact True.intro|apply And.intro))<;>rfl)
end Go.Proofs.YtjcojocjlglglaaGreat.G
namespace Go.Proofs.YtjcojocjlglglaaGreat.G
set_option linter.all false
open Go.RowKit L D
set_option maxRecDepth 100000
theorem EO(l:(List UInt8)):Sound ty Tryz.prog 54 [.a (.sl .u8 l), .a (.sl .u8 l)] [.a (.lit (.bool true))]:=by
 refine Sound.of X Tryz.call54 Tryz.func54 rfl rfl (by decide) Tryz.ntmps54 (by simp) ?_
 intro zb
 refine W.bound 0 rfl fun hl=> ?_
 refine W.seq ?_
 refine W.af X [] [] [0,1] [] rfl ⟨⟩ ?_
 refine W.seq ?_
 refine W.seq ?_
 refine W.af X [] [] [0,1,10] [] rfl ⟨⟩ ?_
 refine W.cond rfl (fun hb0=> ?_) (fun hb0=> ?_)
 ·exact absurd hb0 (by simp)
 ·clear hb0
  refine W.skip ?_
  refine W.seq ?_
  refine W.seq ?_
  refine W.af X [] [] [0,1,5] [] rfl ⟨⟩ ?_
  refine W.block ?_
  refine W.aP (fun k=>k≤l.length) (fun k:Nat=> [(5, .one (.a (.lit (.int .i64 k))))]) (fun k=> []) (fun k=>l.length-k) 0 (fun k=>rfl) (Nat.zero_le _) rfl ?_
  intro k hk
  refine W.seq ?_
  refine W.seq ?_
  refine W.af X [] [] [0,1,5,14] [] rfl ⟨⟩ ?_
  refine W.cond rfl (fun aH=> ?_) (fun aH=> ?_)
  ·try simp only[nb]at aH
   refine W.skip ?_
   refine W.seq ?_
   refine W.block ?_
   refine W.seq ?_
   refine W.draw X [] [] [0,1,5,25] [] 9 MO (by kernel_rfl) rfl (by(repeat' (first|exact True.intro|apply And.intro))<;>first| (intros;omega)) ?_
   refine W.cond rfl (fun bk=> ?_) (fun bk=> ?_)
   ·exact absurd bk (by simp)
   ·clear bk
    refine W.skip ?_
    refine W.af X [] [] [0,1,5] [] rfl ⟨⟩ ?_
    refine⟨k+1,by omega,by omega,?_⟩
    rw[bn _ k rfl (by omega)]
    try rfl
  ·try simp only[nb]at aH
   refine W.exit ?_
   refine W.seq ?_
   refine W.af X [] [] [4] [] rfl ⟨⟩ ?_
   refine W.ret ?_
   exact Fin.ret rfl ⟨rfl,⟨⟩⟩
theorem oL(l:(List (List UInt8))):Sound ty Tryz.prog 237 [.a (.sl (.sl .u8) l), .a (.sl (.sl .u8) l)] [.a (.lit (.bool true))]:=by
 refine Sound.of X Tryz.call237 Tryz.func237 rfl rfl (by decide) Tryz.ntmps237 (by simp) ?_
 intro zb
 refine W.bound 0 rfl fun hl=> ?_
 refine W.seq ?_
 refine W.af X [] [] [0,1] [] rfl ⟨⟩ ?_
 refine W.seq ?_
 refine W.seq ?_
 refine W.af X [] [] [0,1,10] [] rfl ⟨⟩ ?_
 refine W.cond rfl (fun hb0=> ?_) (fun hb0=> ?_)
 ·exact absurd hb0 (by simp)
 ·clear hb0
  refine W.skip ?_
  refine W.seq ?_
  refine W.seq ?_
  refine W.af X [] [] [0,1,5] [] rfl ⟨⟩ ?_
  refine W.block ?_
  refine W.aP (fun k=>k≤l.length) (fun k:Nat=> [(5, .one (.a (.lit (.int .i64 k))))]) (fun k=> []) (fun k=>l.length-k) 0 (fun k=>rfl) (Nat.zero_le _) rfl ?_
  intro k hk
  refine W.seq ?_
  refine W.seq ?_
  refine W.af X [] [] [0,1,5,14] [] rfl ⟨⟩ ?_
  refine W.cond rfl (fun aH=> ?_) (fun aH=> ?_)
  ·try simp only[nb]at aH
   refine W.skip ?_
   refine W.seq ?_
   refine W.block ?_
   refine W.seq ?_
   refine W.draw X [] [(25,⟨false,[.a (.lit (.bool true))]⟩)] [0,1,5,26] [] 10 MO (by kernel_rfl) rfl ⟨EO (l.getD k (au (.sl .u8))),by omega,by omega,⟨⟩⟩ ?_
   refine W.cond rfl (fun bk=> ?_) (fun bk=> ?_)
   ·exact absurd bk (by simp)
   ·clear bk
    refine W.skip ?_
    refine W.af X [] [] [0,1,5] [] rfl ⟨⟩ ?_
    refine⟨k+1,by omega,by omega,?_⟩
    rw[bn _ k rfl (by omega)]
    try rfl
  ·try simp only[nb]at aH
   refine W.exit ?_
   refine W.seq ?_
   refine W.af X [] [] [4] [] rfl ⟨⟩ ?_
   refine W.ret ?_
   exact Fin.ret rfl ⟨rfl,⟨⟩⟩
theorem qd(x:DB):Sound ty Tryz.prog 131 [.agg (bR x), .agg (bR x)] [.a (.lit (.bool true))]:=by
 refine Sound.of X Tryz.call131 Tryz.func131 rfl rfl (by decide) Tryz.ntmps131 (by simp) ?_
 intro zb
 refine W.seq ?_
 refine W.af X [] [] [2,3] [] rfl ⟨⟩ ?_
 refine W.seq ?_
 refine W.seq ?_
 refine W.af X [] [(9,⟨false,[.a (.lit (.bool true))]⟩)] [10] [] rfl ⟨oL x.rows,⟨⟩⟩ ?_
 refine W.cond rfl (fun hb0=> ?_) (fun hb0=> ?_)
 ·exact absurd hb0 (by simp)
 ·clear hb0
  refine W.skip ?_
  refine W.seq ?_
  refine W.af X [] [] [4] [] rfl ⟨⟩ ?_
  refine W.ret ?_
  exact Fin.ret rfl ⟨rfl,⟨⟩⟩
theorem qg(x:az):Sound ty Tryz.prog 276 [.agg (dP x), .agg (dP x)] [.a (.lit (.bool true))]:=by
 refine Sound.of X Tryz.call276 Tryz.func276 rfl rfl (by decide) Tryz.ntmps276 (by simp) ?_
 intro zb
 refine W.seq ?_
 refine W.af X [] [] [2,3] [] rfl ⟨⟩ ?_
 refine W.seq ?_
 refine W.seq ?_
 refine W.af X [] [] [2,3,9] [] rfl ⟨⟩ ?_
 refine W.cond rfl (fun hb0=> ?_) (fun hb0=> ?_)
 ·exact absurd hb0 (by simp)
 ·clear hb0
  refine W.skip ?_
  refine W.seq ?_
  refine W.seq ?_
  refine W.af X [] [(14,⟨false,[.a (.lit (.bool true))]⟩)] [15] [] rfl ⟨qd x.db,⟨⟩⟩ ?_
  refine W.cond rfl (fun aH=> ?_) (fun aH=> ?_)
  ·exact absurd aH (by simp)
  ·clear aH
   refine W.skip ?_
   refine W.seq ?_
   refine W.af X [] [] [4] [] rfl ⟨⟩ ?_
   refine W.ret ?_
   exact Fin.ret rfl ⟨rfl,⟨⟩⟩
theorem oM(l:(List az)):Sound ty Tryz.prog 181 [.a (.sl .az l), .a (.sl .az l)] [.a (.lit (.bool true))]:=by
 refine Sound.of X Tryz.call181 Tryz.func181 rfl rfl (by decide) Tryz.ntmps181 (by simp) ?_
 intro zb
 refine W.bound 0 rfl fun hl=> ?_
 refine W.seq ?_
 refine W.af X [] [] [0,1] [] rfl ⟨⟩ ?_
 refine W.seq ?_
 refine W.seq ?_
 refine W.af X [] [] [0,1,10] [] rfl ⟨⟩ ?_
 refine W.cond rfl (fun hb0=> ?_) (fun hb0=> ?_)
 ·exact absurd hb0 (by simp)
 ·clear hb0
  refine W.skip ?_
  refine W.seq ?_
  refine W.seq ?_
  refine W.af X [] [] [0,1,5] [] rfl ⟨⟩ ?_
  refine W.block ?_
  refine W.aP (fun k=>k≤l.length) (fun k:Nat=> [(5, .one (.a (.lit (.int .i64 k))))]) (fun k=> []) (fun k=>l.length-k) 0 (fun k=>rfl) (Nat.zero_le _) rfl ?_
  intro k hk
  refine W.seq ?_
  refine W.seq ?_
  refine W.af X [] [] [0,1,5,14] [] rfl ⟨⟩ ?_
  refine W.cond rfl (fun aH=> ?_) (fun aH=> ?_)
  ·try simp only[nb]at aH
   refine W.skip ?_
   refine W.seq ?_
   refine W.block ?_
   refine W.seq ?_
   refine W.draw X [] [(25,⟨false,[.a (.lit (.bool true))]⟩)] [0,1,5,26] [] 10 MO (by kernel_rfl) rfl ⟨qg (l.getD k (au .az)),by omega,by omega,⟨⟩⟩ ?_
   refine W.cond rfl (fun bk=> ?_) (fun bk=> ?_)
   ·exact absurd bk (by simp)
   ·clear bk
    refine W.skip ?_
    refine W.af X [] [] [0,1,5] [] rfl ⟨⟩ ?_
    refine⟨k+1,by omega,by omega,?_⟩
    rw[bn _ k rfl (by omega)]
    try rfl
  ·try simp only[nb]at aH
   refine W.exit ?_
   refine W.seq ?_
   refine W.af X [] [] [4] [] rfl ⟨⟩ ?_
   refine W.ret ?_
   exact Fin.ret rfl ⟨rfl,⟨⟩⟩
theorem AX(x:gJ):Sound ty Tryz.prog 80 [.agg (bN x), .agg (bN x)] [.a (.lit (.bool true))]:=by
 refine Sound.of X Tryz.call80 Tryz.func80 rfl rfl (by decide) Tryz.ntmps80 (by simp) ?_
 intro zb
 refine W.seq ?_
 refine W.af X [] [] [2,3] [] rfl ⟨⟩ ?_
 refine W.seq ?_
 refine W.seq ?_
 refine W.af X [] [] [2,3,9] [] rfl ⟨⟩ ?_
 refine W.cond rfl (fun hb0=> ?_) (fun hb0=> ?_)
 ·exact absurd hb0 (by simp)
 ·clear hb0
  refine W.skip ?_
  refine W.seq ?_
  refine W.seq ?_
  refine W.af X [] [(14,⟨false,[.a (.lit (.bool true))]⟩)] [15] [] rfl ⟨oM x.rounds,⟨⟩⟩ ?_
  refine W.cond rfl (fun aH=> ?_) (fun aH=> ?_)
  ·exact absurd aH (by simp)
  ·clear aH
   refine W.skip ?_
   refine W.seq ?_
   refine W.af X [] [] [4] [] rfl ⟨⟩ ?_
   refine W.ret ?_
   exact Fin.ret rfl ⟨rfl,⟨⟩⟩
theorem vN(x:dL):Sound ty Tryz.prog 275 [.agg (bf x), .agg (bf x)] [.a (.lit (.bool true))]:=by
 refine Sound.of X Tryz.call275 Tryz.func275 rfl rfl (by decide) Tryz.ntmps275 (by simp) ?_
 intro zb
 refine W.seq ?_
 refine W.af X [] [] [2,3] [] rfl ⟨⟩ ?_
 refine W.seq ?_
 refine W.seq ?_
 refine W.af X [] [] [2,3,9] [] rfl ⟨⟩ ?_
 refine W.cond rfl (fun hb0=> ?_) (fun hb0=> ?_)
 ·exact absurd hb0 (by simp)
 ·clear hb0
  refine W.skip ?_
  refine W.seq ?_
  refine W.seq ?_
  refine W.af X [] [] [2,3,14] [] rfl ⟨⟩ ?_
  refine W.cond rfl (fun aH=> ?_) (fun aH=> ?_)
  ·exact absurd aH (by simp)
  ·clear aH
   refine W.skip ?_
   refine W.seq ?_
   refine W.seq ?_
   refine W.af X [] [] [2,3,19] [] rfl ⟨⟩ ?_
   refine W.cond rfl (fun bk=> ?_) (fun bk=> ?_)
   ·exact absurd bk (by simp)
   ·clear bk
    refine W.skip ?_
    refine W.seq ?_
    refine W.seq ?_
    refine W.af X [] [] [2,3,24] [] rfl ⟨⟩ ?_
    refine W.cond rfl (fun lu=> ?_) (fun lu=> ?_)
    ·exact absurd lu (by simp)
    ·clear lu
     refine W.skip ?_
     refine W.seq ?_
     refine W.seq ?_
     refine W.af X [] [(29,⟨false,[.a (.lit (.bool true))]⟩)] [2,3,30] [] rfl ⟨oL x.aj,⟨⟩⟩ ?_
     refine W.cond rfl (fun rB=> ?_) (fun rB=> ?_)
     ·exact absurd rB (by simp)
     ·clear rB
      refine W.skip ?_
      refine W.seq ?_
      refine W.seq ?_
      refine W.af X [] [] [2,3,35] [] rfl ⟨⟩ ?_
      refine W.cond rfl (fun zA=> ?_) (fun zA=> ?_)
      ·exact absurd zA (by simp)
      ·clear zA
       refine W.skip ?_
       refine W.seq ?_
       refine W.seq ?_
       refine W.af X [] [(40,⟨false,[.a (.lit (.bool true))]⟩)] [2,3,41] [] rfl ⟨oL x.inbox,⟨⟩⟩ ?_
       refine W.cond rfl (fun Cv=> ?_) (fun Cv=> ?_)
       ·exact absurd Cv (by simp)
       ·clear Cv
        refine W.skip ?_
        refine W.seq ?_
        refine W.seq ?_
        refine W.af X [] [] [46] [] rfl ⟨⟩ ?_
        refine W.cond rfl (fun Cw=> ?_) (fun Cw=> ?_)
        ·exact absurd Cw (by simp)
        ·clear Cw
         refine W.skip ?_
         refine W.seq ?_
         refine W.af X [] [] [4] [] rfl ⟨⟩ ?_
         refine W.ret ?_
         exact Fin.ret rfl ⟨rfl,⟨⟩⟩
theorem Cx(x:aO):Sound ty Tryz.prog 180 [.agg (bq x), .agg (bq x)] [.a (.lit (.bool true))]:=by
 refine Sound.of X Tryz.call180 Tryz.func180 rfl rfl (by decide) Tryz.ntmps180 (by simp) ?_
 intro zb
 refine W.seq ?_
 refine W.af X [] [] [2,3] [] rfl ⟨⟩ ?_
 refine W.seq ?_
 refine W.seq ?_
 refine W.af X [] [(9,⟨false,[.a (.lit (.bool true))]⟩)] [2,3,10] [] rfl ⟨vN x.live,⟨⟩⟩ ?_
 refine W.cond rfl (fun hb0=> ?_) (fun hb0=> ?_)
 ·exact absurd hb0 (by simp)
 ·clear hb0
  refine W.skip ?_
  refine W.seq ?_
  refine W.seq ?_
  refine W.af X [] [(15,⟨false,[.a (.lit (.bool true))]⟩)] [16] [] rfl ⟨vN x.saved,⟨⟩⟩ ?_
  refine W.cond rfl (fun aH=> ?_) (fun aH=> ?_)
  ·exact absurd aH (by simp)
  ·clear aH
   refine W.skip ?_
   refine W.seq ?_
   refine W.af X [] [] [4] [] rfl ⟨⟩ ?_
   refine W.ret ?_
   exact Fin.ret rfl ⟨rfl,⟨⟩⟩
theorem AY(l:(List aO)):Sound ty Tryz.prog 79 [.a (.sl .aO l), .a (.sl .aO l)] [.a (.lit (.bool true))]:=by
 refine Sound.of X Tryz.call79 Tryz.func79 rfl rfl (by decide) Tryz.ntmps79 (by simp) ?_
 intro zb
 refine W.bound 0 rfl fun hl=> ?_
 refine W.seq ?_
 refine W.af X [] [] [0,1] [] rfl ⟨⟩ ?_
 refine W.seq ?_
 refine W.seq ?_
 refine W.af X [] [] [0,1,10] [] rfl ⟨⟩ ?_
 refine W.cond rfl (fun hb0=> ?_) (fun hb0=> ?_)
 ·exact absurd hb0 (by simp)
 ·clear hb0
  refine W.skip ?_
  refine W.seq ?_
  refine W.seq ?_
  refine W.af X [] [] [0,1,5] [] rfl ⟨⟩ ?_
  refine W.block ?_
  refine W.aP (fun k=>k≤l.length) (fun k:Nat=> [(5, .one (.a (.lit (.int .i64 k))))]) (fun k=> []) (fun k=>l.length-k) 0 (fun k=>rfl) (Nat.zero_le _) rfl ?_
  intro k hk
  refine W.seq ?_
  refine W.seq ?_
  refine W.af X [] [] [0,1,5,14] [] rfl ⟨⟩ ?_
  refine W.cond rfl (fun aH=> ?_) (fun aH=> ?_)
  ·try simp only[nb]at aH
   refine W.skip ?_
   refine W.seq ?_
   refine W.block ?_
   refine W.seq ?_
   refine W.draw X [] [(25,⟨false,[.a (.lit (.bool true))]⟩)] [0,1,5,26] [] 10 MO (by kernel_rfl) rfl ⟨Cx (l.getD k (au .aO)),by omega,by omega,⟨⟩⟩ ?_
   refine W.cond rfl (fun bk=> ?_) (fun bk=> ?_)
   ·exact absurd bk (by simp)
   ·clear bk
    refine W.skip ?_
    refine W.af X [] [] [0,1,5] [] rfl ⟨⟩ ?_
    refine⟨k+1,by omega,by omega,?_⟩
    rw[bn _ k rfl (by omega)]
    try rfl
  ·try simp only[nb]at aH
   refine W.exit ?_
   refine W.seq ?_
   refine W.af X [] [] [4] [] rfl ⟨⟩ ?_
   refine W.ret ?_
   exact Fin.ret rfl ⟨rfl,⟨⟩⟩
theorem Hj(l:(List Int)):Sound ty Tryz.prog 81 [.a (.sl .int l), .a (.sl .int l)] [.a (.lit (.bool true))]:=by
 refine Sound.of X Tryz.call81 Tryz.func81 rfl rfl (by decide) Tryz.ntmps81 (by simp) ?_
 intro zb
 refine W.bound 0 rfl fun hl=> ?_
 refine W.seq ?_
 refine W.af X [] [] [0,1] [] rfl ⟨⟩ ?_
 refine W.seq ?_
 refine W.seq ?_
 refine W.af X [] [] [0,1,10] [] rfl ⟨⟩ ?_
 refine W.cond rfl (fun hb0=> ?_) (fun hb0=> ?_)
 ·exact absurd hb0 (by simp)
 ·clear hb0
  refine W.skip ?_
  refine W.seq ?_
  refine W.seq ?_
  refine W.af X [] [] [0,1,5] [] rfl ⟨⟩ ?_
  refine W.block ?_
  refine W.aP (fun k=>k≤l.length) (fun k:Nat=> [(5, .one (.a (.lit (.int .i64 k))))]) (fun k=> []) (fun k=>l.length-k) 0 (fun k=>rfl) (Nat.zero_le _) rfl ?_
  intro k hk
  refine W.seq ?_
  refine W.seq ?_
  refine W.af X [] [] [0,1,5,14] [] rfl ⟨⟩ ?_
  refine W.cond rfl (fun aH=> ?_) (fun aH=> ?_)
  ·try simp only[nb]at aH
   refine W.skip ?_
   refine W.seq ?_
   refine W.block ?_
   refine W.seq ?_
   refine W.draw X [] [] [0,1,5,25] [] 9 MO (by kernel_rfl) rfl (by(repeat' (first|exact True.intro|apply And.intro))<;>first| (intros;omega)) ?_
   refine W.cond rfl (fun bk=> ?_) (fun bk=> ?_)
   ·exact absurd bk (by simp)
   ·clear bk
    refine W.skip ?_
    refine W.af X [] [] [0,1,5] [] rfl ⟨⟩ ?_
    refine⟨k+1,by omega,by omega,?_⟩
    rw[bn _ k rfl (by omega)]
    try rfl
  ·try simp only[nb]at aH
   refine W.exit ?_
   refine W.seq ?_
   refine W.af X [] [] [4] [] rfl ⟨⟩ ?_
   refine W.ret ?_
   exact Fin.ret rfl ⟨rfl,⟨⟩⟩
theorem qh(x:aE):Sound ty Tryz.prog 343 [.agg (dO x), .agg (dO x)] [.a (.lit (.bool true))]:=by
 refine Sound.of X Tryz.call343 Tryz.func343 rfl rfl (by decide) Tryz.ntmps343 (by simp) ?_
 intro zb
 refine W.seq ?_
 refine W.af X [] [] [2,3] [] rfl ⟨⟩ ?_
 refine W.seq ?_
 refine W.seq ?_
 refine W.af X [] [] [2,3,9] [] rfl ⟨⟩ ?_
 refine W.cond rfl (fun hb0=> ?_) (fun hb0=> ?_)
 ·exact absurd hb0 (by simp)
 ·clear hb0
  refine W.skip ?_
  refine W.seq ?_
  refine W.seq ?_
  refine W.af X [] [(14,⟨false,[.a (.lit (.bool true))]⟩)] [15] [] rfl ⟨qd x.share,⟨⟩⟩ ?_
  refine W.cond rfl (fun aH=> ?_) (fun aH=> ?_)
  ·exact absurd aH (by simp)
  ·clear aH
   refine W.skip ?_
   refine W.seq ?_
   refine W.af X [] [] [4] [] rfl ⟨⟩ ?_
   refine W.ret ?_
   exact Fin.ret rfl ⟨rfl,⟨⟩⟩
theorem oN(l:(List aE)):Sound ty Tryz.prog 274 [.a (.sl .aE l), .a (.sl .aE l)] [.a (.lit (.bool true))]:=by
 refine Sound.of X Tryz.call274 Tryz.func274 rfl rfl (by decide) Tryz.ntmps274 (by simp) ?_
 intro zb
 refine W.bound 0 rfl fun hl=> ?_
 refine W.seq ?_
 refine W.af X [] [] [0,1] [] rfl ⟨⟩ ?_
 refine W.seq ?_
 refine W.seq ?_
 refine W.af X [] [] [0,1,10] [] rfl ⟨⟩ ?_
 refine W.cond rfl (fun hb0=> ?_) (fun hb0=> ?_)
 ·exact absurd hb0 (by simp)
 ·clear hb0
  refine W.skip ?_
  refine W.seq ?_
  refine W.seq ?_
  refine W.af X [] [] [0,1,5] [] rfl ⟨⟩ ?_
  refine W.block ?_
  refine W.aP (fun k=>k≤l.length) (fun k:Nat=> [(5, .one (.a (.lit (.int .i64 k))))]) (fun k=> []) (fun k=>l.length-k) 0 (fun k=>rfl) (Nat.zero_le _) rfl ?_
  intro k hk
  refine W.seq ?_
  refine W.seq ?_
  refine W.af X [] [] [0,1,5,14] [] rfl ⟨⟩ ?_
  refine W.cond rfl (fun aH=> ?_) (fun aH=> ?_)
  ·try simp only[nb]at aH
   refine W.skip ?_
   refine W.seq ?_
   refine W.block ?_
   refine W.seq ?_
   refine W.draw X [] [(25,⟨false,[.a (.lit (.bool true))]⟩)] [0,1,5,26] [] 10 MO (by kernel_rfl) rfl ⟨qh (l.getD k (au .aE)),by omega,by omega,⟨⟩⟩ ?_
   refine W.cond rfl (fun bk=> ?_) (fun bk=> ?_)
   ·exact absurd bk (by simp)
   ·clear bk
    refine W.skip ?_
    refine W.af X [] [] [0,1,5] [] rfl ⟨⟩ ?_
    refine⟨k+1,by omega,by omega,?_⟩
    rw[bn _ k rfl (by omega)]
    try rfl
  ·try simp only[nb]at aH
   refine W.exit ?_
   refine W.seq ?_
   refine W.af X [] [] [4] [] rfl ⟨⟩ ?_
   refine W.ret ?_
   exact Fin.ret rfl ⟨rfl,⟨⟩⟩
theorem Cy(x:bO):Sound ty Tryz.prog 179 [.agg (cG x), .agg (cG x)] [.a (.lit (.bool true))]:=by
 refine Sound.of X Tryz.call179 Tryz.func179 rfl rfl (by decide) Tryz.ntmps179 (by simp) ?_
 intro zb
 refine W.seq ?_
 refine W.af X [] [] [2,3] [] rfl ⟨⟩ ?_
 refine W.seq ?_
 refine W.seq ?_
 refine W.af X [] [] [2,3,9] [] rfl ⟨⟩ ?_
 refine W.cond rfl (fun hb0=> ?_) (fun hb0=> ?_)
 ·exact absurd hb0 (by simp)
 ·clear hb0
  refine W.skip ?_
  refine W.seq ?_
  refine W.seq ?_
  refine W.af X [] [] [2,3,14] [] rfl ⟨⟩ ?_
  refine W.cond rfl (fun aH=> ?_) (fun aH=> ?_)
  ·exact absurd aH (by simp)
  ·clear aH
   refine W.skip ?_
   refine W.seq ?_
   refine W.seq ?_
   refine W.af X [] [] [2,3,19] [] rfl ⟨⟩ ?_
   refine W.cond rfl (fun bk=> ?_) (fun bk=> ?_)
   ·exact absurd bk (by simp)
   ·clear bk
    refine W.skip ?_
    refine W.seq ?_
    refine W.seq ?_
    refine W.af X [] [(24,⟨false,[.a (.lit (.bool true))]⟩)] [2,3,25] [] rfl ⟨oN x.received,⟨⟩⟩ ?_
    refine W.cond rfl (fun lu=> ?_) (fun lu=> ?_)
    ·exact absurd lu (by simp)
    ·clear lu
     refine W.skip ?_
     refine W.seq ?_
     refine W.seq ?_
     refine W.af X [] [] [30] [] rfl ⟨⟩ ?_
     refine W.cond rfl (fun rB=> ?_) (fun rB=> ?_)
     ·exact absurd rB (by simp)
     ·clear rB
      refine W.skip ?_
      refine W.seq ?_
      refine W.af X [] [] [4] [] rfl ⟨⟩ ?_
      refine W.ret ?_
      exact Fin.ret rfl ⟨rfl,⟨⟩⟩
theorem AZ(l:(List bO)):Sound ty Tryz.prog 78 [.a (.sl .bO l), .a (.sl .bO l)] [.a (.lit (.bool true))]:=by
 refine Sound.of X Tryz.call78 Tryz.func78 rfl rfl (by decide) Tryz.ntmps78 (by simp) ?_
 intro zb
 refine W.bound 0 rfl fun hl=> ?_
 refine W.seq ?_
 refine W.af X [] [] [0,1] [] rfl ⟨⟩ ?_
 refine W.seq ?_
 refine W.seq ?_
 refine W.af X [] [] [0,1,10] [] rfl ⟨⟩ ?_
 refine W.cond rfl (fun hb0=> ?_) (fun hb0=> ?_)
 ·exact absurd hb0 (by simp)
 ·clear hb0
  refine W.skip ?_
  refine W.seq ?_
  refine W.seq ?_
  refine W.af X [] [] [0,1,5] [] rfl ⟨⟩ ?_
  refine W.block ?_
  refine W.aP (fun k=>k≤l.length) (fun k:Nat=> [(5, .one (.a (.lit (.int .i64 k))))]) (fun k=> []) (fun k=>l.length-k) 0 (fun k=>rfl) (Nat.zero_le _) rfl ?_
  intro k hk
  refine W.seq ?_
  refine W.seq ?_
  refine W.af X [] [] [0,1,5,14] [] rfl ⟨⟩ ?_
  refine W.cond rfl (fun aH=> ?_) (fun aH=> ?_)
  ·try simp only[nb]at aH
   refine W.skip ?_
   refine W.seq ?_
   refine W.block ?_
   refine W.seq ?_
   refine W.draw X [] [(25,⟨false,[.a (.lit (.bool true))]⟩)] [0,1,5,26] [] 10 MO (by kernel_rfl) rfl ⟨Cy (l.getD k (au .bO)),by omega,by omega,⟨⟩⟩ ?_
   refine W.cond rfl (fun bk=> ?_) (fun bk=> ?_)
   ·exact absurd bk (by simp)
   ·clear bk
    refine W.skip ?_
    refine W.af X [] [] [0,1,5] [] rfl ⟨⟩ ?_
    refine⟨k+1,by omega,by omega,?_⟩
    rw[bn _ k rfl (by omega)]
    try rfl
  ·try simp only[nb]at aH
   refine W.exit ?_
   refine W.seq ?_
   refine W.af X [] [] [4] [] rfl ⟨⟩ ?_
   refine W.ret ?_
   exact Fin.ret rfl ⟨rfl,⟨⟩⟩
theorem nC(x:b7):Sound ty Tryz.prog 18 [.agg (bz x), .agg (bz x)] [.a (.lit (.bool true))]:=by
 refine Sound.of X Tryz.call18 Tryz.func18 rfl rfl (by decide) Tryz.ntmps18 (by simp) ?_
 intro zb
 refine W.seq ?_
 refine W.af X [] [] [2,3] [] rfl ⟨⟩ ?_
 refine W.seq ?_
 refine W.seq ?_
 refine W.af X [] [] [2,3,9] [] rfl ⟨⟩ ?_
 refine W.cond rfl (fun hb0=> ?_) (fun hb0=> ?_)
 ·exact absurd hb0 (by simp)
 ·clear hb0
  refine W.skip ?_
  refine W.seq ?_
  refine W.seq ?_
  refine W.af X [] [(14,⟨false,[.a (.lit (.bool true))]⟩)] [2,3,15] [] rfl ⟨AZ x.aq,⟨⟩⟩ ?_
  refine W.cond rfl (fun aH=> ?_) (fun aH=> ?_)
  ·exact absurd aH (by simp)
  ·clear aH
   refine W.skip ?_
   refine W.seq ?_
   refine W.seq ?_
   refine W.af X [] [(20,⟨false,[.a (.lit (.bool true))]⟩)] [2,3,21] [] rfl ⟨AY x.ah,⟨⟩⟩ ?_
   refine W.cond rfl (fun bk=> ?_) (fun bk=> ?_)
   ·exact absurd bk (by simp)
   ·clear bk
    refine W.skip ?_
    refine W.seq ?_
    refine W.seq ?_
    refine W.af X [] [(26,⟨false,[.a (.lit (.bool true))]⟩)] [2,3,27] [] rfl ⟨AX x.aA,⟨⟩⟩ ?_
    refine W.cond rfl (fun lu=> ?_) (fun lu=> ?_)
    ·exact absurd lu (by simp)
    ·clear lu
     refine W.skip ?_
     refine W.seq ?_
     refine W.seq ?_
     refine W.af X [] [] [2,3,32] [] rfl ⟨⟩ ?_
     refine W.cond rfl (fun rB=> ?_) (fun rB=> ?_)
     ·exact absurd rB (by simp)
     ·clear rB
      refine W.skip ?_
      refine W.seq ?_
      refine W.seq ?_
      refine W.af X [] [] [2,3,37] [] rfl ⟨⟩ ?_
      refine W.cond rfl (fun zA=> ?_) (fun zA=> ?_)
      ·exact absurd zA (by simp)
      ·clear zA
       refine W.skip ?_
       refine W.seq ?_
       refine W.seq ?_
       refine W.af X [] [] [2,3,42] [] rfl ⟨⟩ ?_
       refine W.cond rfl (fun Cv=> ?_) (fun Cv=> ?_)
       ·exact absurd Cv (by simp)
       ·clear Cv
        refine W.skip ?_
        refine W.seq ?_
        refine W.seq ?_
        refine W.af X [] [(47,⟨false,[.a (.lit (.bool true))]⟩)] [2,3,48] [] rfl ⟨Hj x.replaced,⟨⟩⟩ ?_
        refine W.cond rfl (fun Cw=> ?_) (fun Cw=> ?_)
        ·exact absurd Cw (by simp)
        ·clear Cw
         refine W.skip ?_
         refine W.seq ?_
         refine W.seq ?_
         refine W.af X [] [] [53] [] rfl ⟨⟩ ?_
         refine W.cond rfl (fun Hl=> ?_) (fun Hl=> ?_)
         ·exact absurd Hl (by simp)
         ·clear Hl
          refine W.skip ?_
          refine W.seq ?_
          refine W.af X [] [] [4] [] rfl ⟨⟩ ?_
          refine W.ret ?_
          exact Fin.ret rfl ⟨rfl,⟨⟩⟩
end Go.Proofs.YtjcojocjlglglaaGreat.G
namespace Go.Proofs.YtjcojocjlglglaaGreat.G
set_option linter.all false
open Go.RowKit L D
set_option maxRecDepth 100000
theorem sM(l:(List UInt8))(k0:Int)(h0:0≤k0)(h1:k0+((ay (fun _=>1)) l:Nat)≤1099511627776):cJ Tryz.prog 55 [.a (.sl .u8 l), .a (.lit (.int .i64 k0))] [.a (.sl .u8 ((cm bT (fun _=>1)) k0 l)), .a (.lit (.int .i64 k0))] (.int .i64 (k0+((ay (fun _=>1)) l:Nat))):=by
 refine cJ.of X Tryz.call55 Tryz.func55 rfl rfl Tryz.ntmps55 (by simp) ?_
 intro zb
 refine W.oE 1000 rfl fun hl=> ?_
 refine W.seq ?_
 refine W.af X [] [] [0,1] [] rfl ⟨⟩ ?_
 refine W.seq ?_
 refine W.seq ?_
 refine W.af X [] [] [0,1,5] [] rfl ⟨⟩ ?_
 refine W.block ?_
 refine W.aP (fun k=>k≤l.length) (fun k:Nat=> [(1, .one (.a (.lit (.int .i64 (k0+(ay (fun _=>1) (l.take k):Nat)))))),(5, .one (.a (.lit (.int .i64 k))))]) (fun k=> [(1000, .arr .u8 (cm bT (fun _=>1) k0 (l.take k)++l.drop k))]) (fun k=>l.length-k) 0 (fun k=>rfl) (Nat.zero_le _) (by simp[cm,ay]) ?_
 intro k hk
 refine W.seq ?_
 refine W.seq ?_
 refine W.af X [] [] [0,1,5,9] [] rfl ⟨⟩ ?_
 refine W.cond rfl (fun hb0=> ?_) (fun hb0=> ?_)
 ·rw[dz l k0 k hk]at hb0
  try simp only[nb]at hb0
  have hc:=oD (mk:=bT) (mn:=(fun _=>1)) l k0 (au .u8) k hb0
  have hlen:=dz (mk:=bT) (mn:=(fun _=>1)) l k0 k (by omega)
  have hst:=lp (mk:=bT) (mn:=(fun _=>1)) l k0 (au .u8) k hb0
  have mF:=dg (mn:=(fun _=>1)) l (au .u8) k hb0
  have hml:=gh (mn:=(fun _=>1)) l (k+1)
  generalize cm bT (fun _=>1) k0 (l.take k)++l.drop k=L at hc hlen hst ⊢
  generalize l.getD k (au .u8)=e at hc hst mF
  have hL:k<L.length:=by omega
  have gs: ∀y:UInt8,(L.set k y).getD k (au .u8)=y:=fun y=>iZ L _ y k hL
  have gl: ∀y:UInt8,(L.set k y).length=L.length:=fun y=>List.length_set
  refine W.skip ?_
  refine W.seq ?_
  refine W.block ?_
  refine W.seq ?_
  refine W.af X [] [] [0,1,5] [] rfl (by(repeat' (first|exact True.intro|apply And.intro))<;>first| (intros;omega)|exact(mE _).1|exact(mE _).2) ?_
  simp only[Int.toNat_natCast,gs,hc,List.set_set]
  refine W.af X [] [] [0,1,5] [] rfl ⟨⟩ ?_
  rw[IntWalk.i64_in ((k0+(ay (fun _=>1) (l.take k):Nat))+1) (by omega)]
  refine W.af X [] [] [0,1,5] [] rfl ⟨⟩ ?_
  refine⟨k+1,by omega,by omega,?_⟩
  rw[bn _ k rfl (by omega),show(k0+(ay (fun _=>1) (l.take k):Nat))+1=k0+(ay (fun _=>1) (l.take (k+1)):Nat)by omega, ←hst]
  try rfl
 ·rw[dz l k0 k hk]at hb0
  try simp only[nb]at hb0
  refine W.exit ?_
  refine W.seq ?_
  refine W.af X [] [] [4] [] rfl ⟨⟩ ?_
  refine W.ret ?_
  have hf:l.take k=l:=List.take_of_length_le (by omega)
  have hd:l.drop k= []:=List.drop_eq_nil_of_le (by omega)
  exact tu.ret rfl ⟨by rw[hf],by rw[hf,hd,List.append_nil],rfl,⟨⟩⟩
theorem bV(l:(List (List UInt8)))(k0:Int)(h0:0≤k0)(h1:k0+((ay (ay (fun _=>1))) l:Nat)≤1099511627776):cJ Tryz.prog 132 [.a (.sl (.sl .u8) l), .a (.lit (.int .i64 k0))] [.a (.sl (.sl .u8) ((cm (cm bT (fun _=>1)) (ay (fun _=>1))) k0 l)), .a (.lit (.int .i64 k0))] (.int .i64 (k0+((ay (ay (fun _=>1))) l:Nat))):=by
 refine cJ.of X Tryz.call132 Tryz.func132 rfl rfl Tryz.ntmps132 (by simp) ?_
 intro zb
 refine W.oE 1000 rfl fun hl=> ?_
 refine W.seq ?_
 refine W.af X [] [] [0,1] [] rfl ⟨⟩ ?_
 refine W.seq ?_
 refine W.seq ?_
 refine W.af X [] [] [0,1,5] [] rfl ⟨⟩ ?_
 refine W.block ?_
 refine W.aP (fun k=>k≤l.length) (fun k:Nat=> [(1, .one (.a (.lit (.int .i64 (k0+(ay (ay (fun _=>1)) (l.take k):Nat)))))),(5, .one (.a (.lit (.int .i64 k))))]) (fun k=> [(1000, .arr (.sl .u8) (cm (cm bT (fun _=>1)) (ay (fun _=>1)) k0 (l.take k)++l.drop k))]) (fun k=>l.length-k) 0 (fun k=>rfl) (Nat.zero_le _) (by simp[cm,ay]) ?_
 intro k hk
 refine W.seq ?_
 refine W.seq ?_
 refine W.af X [] [] [0,1,5,9] [] rfl ⟨⟩ ?_
 refine W.cond rfl (fun hb0=> ?_) (fun hb0=> ?_)
 ·rw[dz l k0 k hk]at hb0
  try simp only[nb]at hb0
  have hc:=oD (mk:=(cm bT (fun _=>1))) (mn:=(ay (fun _=>1))) l k0 (au (.sl .u8)) k hb0
  have hlen:=dz (mk:=(cm bT (fun _=>1))) (mn:=(ay (fun _=>1))) l k0 k (by omega)
  have hst:=lp (mk:=(cm bT (fun _=>1))) (mn:=(ay (fun _=>1))) l k0 (au (.sl .u8)) k hb0
  have mF:=dg (mn:=(ay (fun _=>1))) l (au (.sl .u8)) k hb0
  have hml:=gh (mn:=(ay (fun _=>1))) l (k+1)
  generalize cm (cm bT (fun _=>1)) (ay (fun _=>1)) k0 (l.take k)++l.drop k=L at hc hlen hst ⊢
  generalize l.getD k (au (.sl .u8))=e at hc hst mF
  have hL:k<L.length:=by omega
  have gs: ∀y:(List UInt8),(L.set k y).getD k (au (.sl .u8))=y:=fun y=>iZ L _ y k hL
  have gl: ∀y:(List UInt8),(L.set k y).length=L.length:=fun y=>List.length_set
  refine W.skip ?_
  refine W.seq ?_
  refine W.block ?_
  refine W.af X [] [(200017,⟨false,[.a (.lit (.int .i64 ((k0+(ay (ay (fun _=>1)) (l.take k):Nat))+((ay (fun _=>1)) e:Nat)))), .a (.sl .u8 ((cm bT (fun _=>1)) ((k0+(ay (ay (fun _=>1)) (l.take k):Nat))) e)), .a (.lit (.int .i64 ((k0+(ay (ay (fun _=>1)) (l.take k):Nat)))))]⟩)] [0,1,5] [] rfl (by(repeat' (first|exact True.intro|exact sM e ((k0+(ay (ay (fun _=>1)) (l.take k):Nat))) (by omega) (by omega)| (simp only[Int.toNat_natCast,gs,hc];exact sM e ((k0+(ay (ay (fun _=>1)) (l.take k):Nat))) (by omega) (by omega))|apply And.intro))<;>first| (intros;omega)) ?_
  simp only[Int.toNat_natCast,gs,hc,List.set_set]
  refine W.af X [] [] [0,1,5] [] rfl ⟨⟩ ?_
  refine⟨k+1,by omega,by omega,?_⟩
  rw[bn _ k rfl (by omega),show(k0+(ay (ay (fun _=>1)) (l.take k):Nat))+((ay (fun _=>1)) e:Nat)=k0+(ay (ay (fun _=>1)) (l.take (k+1)):Nat)by omega, ←hst]
  try rfl
 ·rw[dz l k0 k hk]at hb0
  try simp only[nb]at hb0
  refine W.exit ?_
  refine W.seq ?_
  refine W.af X [] [] [4] [] rfl ⟨⟩ ?_
  refine W.ret ?_
  have hf:l.take k=l:=List.take_of_length_le (by omega)
  have hd:l.drop k= []:=List.drop_eq_nil_of_le (by omega)
  exact tu.ret rfl ⟨by rw[hf],by rw[hf,hd,List.append_nil],rfl,⟨⟩⟩
theorem mG(l:(List az))(k0:Int)(h0:0≤k0)(h1:k0+((ay aM) l:Nat)≤1099511627776):cJ Tryz.prog 183 [.a (.sl .az l), .a (.lit (.int .i64 k0))] [.a (.sl .az ((cm cB aM) k0 l)), .a (.lit (.int .i64 k0))] (.int .i64 (k0+((ay aM) l:Nat))):=by
 refine cJ.of X Tryz.call183 Tryz.func183 rfl rfl Tryz.ntmps183 (by simp) ?_
 intro zb
 refine W.oE 1000 rfl fun hl=> ?_
 refine W.seq ?_
 refine W.af X [] [] [0,1] [] rfl ⟨⟩ ?_
 refine W.seq ?_
 refine W.seq ?_
 refine W.af X [] [] [0,1,5] [] rfl ⟨⟩ ?_
 refine W.block ?_
 refine W.aP (fun k=>k≤l.length) (fun k:Nat=> [(1, .one (.a (.lit (.int .i64 (k0+(ay aM (l.take k):Nat)))))),(5, .one (.a (.lit (.int .i64 k))))]) (fun k=> [(1000, .arr .az (cm cB aM k0 (l.take k)++l.drop k))]) (fun k=>l.length-k) 0 (fun k=>rfl) (Nat.zero_le _) (by simp[cm,ay]) ?_
 intro k hk
 refine W.seq ?_
 refine W.seq ?_
 refine W.af X [] [] [0,1,5,9] [] rfl ⟨⟩ ?_
 refine W.cond rfl (fun hb0=> ?_) (fun hb0=> ?_)
 ·rw[dz l k0 k hk]at hb0
  try simp only[nb]at hb0
  have hc:=oD (mk:=cB) (mn:=aM) l k0 (au .az) k hb0
  have hlen:=dz (mk:=cB) (mn:=aM) l k0 k (by omega)
  have hst:=lp (mk:=cB) (mn:=aM) l k0 (au .az) k hb0
  have mF:=dg (mn:=aM) l (au .az) k hb0
  have hml:=gh (mn:=aM) l (k+1)
  generalize cm cB aM k0 (l.take k)++l.drop k=L at hc hlen hst ⊢
  generalize l.getD k (au .az)=e at hc hst mF
  have hL:k<L.length:=by omega
  have gs: ∀y:az,(L.set k y).getD k (au .az)=y:=fun y=>iZ L _ y k hL
  have gl: ∀y:az,(L.set k y).length=L.length:=fun y=>List.length_set
  simp only[aM,zz]at mF
  refine W.skip ?_
  refine W.seq ?_
  refine W.block ?_
  refine W.seq ?_
  refine W.af X [] [] [0,1,5] [] rfl (by(repeat' (first|exact True.intro|apply And.intro))<;>first| (intros;omega)) ?_
  simp only[Int.toNat_natCast,gs,hc,List.set_set]
  refine W.seq ?_
  refine W.af X [] [] [0,1,5] [] rfl ⟨⟩ ?_
  rw[IntWalk.i64_in ((k0+(ay aM (l.take k):Nat))+1) (by omega)]
  refine W.af X [] [(200026,⟨false,[.a (.lit (.int .i64 ((k0+(ay aM (l.take k):Nat))+1+((ay (ay (fun _=>1))) e.db.rows:Nat)))), .a (.sl (.sl .u8) ((cm (cm bT (fun _=>1)) (ay (fun _=>1))) ((k0+(ay aM (l.take k):Nat))+1) e.db.rows)), .a (.lit (.int .i64 ((k0+(ay aM (l.take k):Nat))+1)))]⟩)] [0,1,5] [] rfl (by(repeat' (first|exact True.intro|exact bV e.db.rows ((k0+(ay aM (l.take k):Nat))+1) (by omega) (by omega)| (simp only[Int.toNat_natCast,gs,hc];exact bV e.db.rows ((k0+(ay aM (l.take k):Nat))+1) (by omega) (by omega))|apply And.intro))<;>first| (intros;omega)| (simp only[cE,maxLen,lens];omega)) ?_
  simp only[Int.toNat_natCast,gs,hc,List.set_set]
  refine W.af X [] [] [0,1,5] [] rfl ⟨⟩ ?_
  refine⟨k+1,by omega,by omega,?_⟩
  rw[bn _ k rfl (by omega),show(k0+(ay aM (l.take k):Nat))+1+((ay (ay (fun _=>1))) e.db.rows:Nat)=k0+(ay aM (l.take (k+1)):Nat)by omega, ←hst]
  try rfl
 ·rw[dz l k0 k hk]at hb0
  try simp only[nb]at hb0
  refine W.exit ?_
  refine W.seq ?_
  refine W.af X [] [] [4] [] rfl ⟨⟩ ?_
  refine W.ret ?_
  have hf:l.take k=l:=List.take_of_length_le (by omega)
  have hd:l.drop k= []:=List.drop_eq_nil_of_le (by omega)
  exact tu.ret rfl ⟨by rw[hf],by rw[hf,hd,List.append_nil],rfl,⟨⟩⟩
theorem wZ(x:gJ)(k0:Int)(h0:0≤k0)(h1:k0+(dh x:Nat)≤1099511627776):cJ Tryz.prog 84 [.agg (bN x), .a (.lit (.int .i64 k0))] [.agg (bN (tU k0 x)), .a (.lit (.int .i64 k0))] (.int .i64 (k0+(dh x:Nat))):=by
 refine cJ.of X Tryz.call84 Tryz.func84 rfl rfl Tryz.ntmps84 (by simp) ?_
 intro zb
 unfold dh at h1 ⊢
 refine W.seq ?_
 refine W.af X [] [] [1,2] [] rfl ⟨⟩ ?_
 refine W.seq ?_
 refine W.af X [] [(100008,⟨false,[.a (.lit (.int .i64 (k0+((ay aM) x.rounds:Nat)))), .a (.sl .az ((cm cB aM) (k0) x.rounds)), .a (.lit (.int .i64 (k0)))]⟩)] [1] [] rfl ⟨mG x.rounds (k0) (by omega) (by omega),⟨⟩⟩ ?_
 refine W.seq ?_
 refine W.af X [] [] [4] [] rfl ⟨⟩ ?_
 refine W.ret ?_
 exact tu.ret rfl (by(repeat' (first|exact True.intro|apply And.intro))<;>first|rfl| (congr 1;omega))
theorem w9(l:(List aO))(k0:Int)(h0:0≤k0)(h1:k0+((ay aB) l:Nat)≤1099511627776):cJ Tryz.prog 83 [.a (.sl .aO l), .a (.lit (.int .i64 k0))] [.a (.sl .aO ((cm fB aB) k0 l)), .a (.lit (.int .i64 k0))] (.int .i64 (k0+((ay aB) l:Nat))):=by
 refine cJ.of X Tryz.call83 Tryz.func83 rfl rfl Tryz.ntmps83 (by simp) ?_
 intro zb
 refine W.oE 1000 rfl fun hl=> ?_
 refine W.seq ?_
 refine W.af X [] [] [0,1] [] rfl ⟨⟩ ?_
 refine W.seq ?_
 refine W.seq ?_
 refine W.af X [] [] [0,1,5] [] rfl ⟨⟩ ?_
 refine W.block ?_
 refine W.aP (fun k=>k≤l.length) (fun k:Nat=> [(1, .one (.a (.lit (.int .i64 (k0+(ay aB (l.take k):Nat)))))),(5, .one (.a (.lit (.int .i64 k))))]) (fun k=> [(1000, .arr .aO (cm fB aB k0 (l.take k)++l.drop k))]) (fun k=>l.length-k) 0 (fun k=>rfl) (Nat.zero_le _) (by simp[cm,ay]) ?_
 intro k hk
 refine W.seq ?_
 refine W.seq ?_
 refine W.af X [] [] [0,1,5,9] [] rfl ⟨⟩ ?_
 refine W.cond rfl (fun hb0=> ?_) (fun hb0=> ?_)
 ·rw[dz l k0 k hk]at hb0
  try simp only[nb]at hb0
  have hc:=oD (mk:=fB) (mn:=aB) l k0 (au .aO) k hb0
  have hlen:=dz (mk:=fB) (mn:=aB) l k0 k (by omega)
  have hst:=lp (mk:=fB) (mn:=aB) l k0 (au .aO) k hb0
  have mF:=dg (mn:=aB) l (au .aO) k hb0
  have hml:=gh (mn:=aB) l (k+1)
  generalize cm fB aB k0 (l.take k)++l.drop k=L at hc hlen hst ⊢
  generalize l.getD k (au .aO)=e at hc hst mF
  have hL:k<L.length:=by omega
  have gs: ∀y:aO,(L.set k y).getD k (au .aO)=y:=fun y=>iZ L _ y k hL
  have gl: ∀y:aO,(L.set k y).length=L.length:=fun y=>List.length_set
  simp only[aB,DA]at mF
  refine W.skip ?_
  refine W.seq ?_
  refine W.block ?_
  refine W.seq ?_
  refine W.af X [] [] [0,1,5] [] rfl (by(repeat' (first|exact True.intro|apply And.intro))<;>first| (intros;omega)) ?_
  simp only[Int.toNat_natCast,gs,hc,List.set_set]
  refine W.seq ?_
  refine W.af X [] [] [0,1,5] [] rfl ⟨⟩ ?_
  rw[IntWalk.i64_in ((k0+(ay aB (l.take k):Nat))+1) (by omega)]
  refine W.seq ?_
  refine W.af X [] [] [0,1,5] [] rfl (by(repeat' (first|exact True.intro|apply And.intro))<;>first| (intros;omega)| (simp only[cE,maxLen,lens];omega)) ?_
  simp only[Int.toNat_natCast,gs,hc,List.set_set]
  refine W.seq ?_
  refine W.af X [] [] [0,1,5] [] rfl ⟨⟩ ?_
  rw[IntWalk.i64_in ((k0+(ay aB (l.take k):Nat))+1+1) (by omega)]
  refine W.seq ?_
  refine W.af X [] [] [0,1,5] [] rfl (by(repeat' (first|exact True.intro|apply And.intro))<;>first| (intros;omega)| (simp only[cE,maxLen,lens];omega)) ?_
  simp only[Int.toNat_natCast,gs,hc,List.set_set]
  refine W.seq ?_
  refine W.af X [] [] [0,1,5] [] rfl ⟨⟩ ?_
  rw[IntWalk.i64_in ((k0+(ay aB (l.take k):Nat))+1+1+1) (by omega)]
  refine W.seq ?_
  refine W.af X [] [] [0,1,5] [] rfl (by(repeat' (first|exact True.intro|apply And.intro))<;>first| (intros;omega)| (simp only[cE,maxLen,lens];omega)) ?_
  simp only[Int.toNat_natCast,gs,hc,List.set_set]
  refine W.seq ?_
  refine W.af X [] [] [0,1,5] [] rfl ⟨⟩ ?_
  rw[IntWalk.i64_in ((k0+(ay aB (l.take k):Nat))+1+1+1+1) (by omega)]
  refine W.seq ?_
  refine W.af X [] [(200051,⟨false,[.a (.lit (.int .i64 ((k0+(ay aB (l.take k):Nat))+1+1+1+1+((ay (ay (fun _=>1))) e.live.aj:Nat)))), .a (.sl (.sl .u8) ((cm (cm bT (fun _=>1)) (ay (fun _=>1))) ((k0+(ay aB (l.take k):Nat))+1+1+1+1) e.live.aj)), .a (.lit (.int .i64 ((k0+(ay aB (l.take k):Nat))+1+1+1+1)))]⟩)] [0,1,5] [] rfl (by(repeat' (first|exact True.intro|exact bV e.live.aj ((k0+(ay aB (l.take k):Nat))+1+1+1+1) (by omega) (by omega)| (simp only[Int.toNat_natCast,gs,hc];exact bV e.live.aj ((k0+(ay aB (l.take k):Nat))+1+1+1+1) (by omega) (by omega))|apply And.intro))<;>first| (intros;omega)| (simp only[cE,maxLen,lens];omega)) ?_
  simp only[Int.toNat_natCast,gs,hc,List.set_set]
  refine W.seq ?_
  refine W.af X [] [] [0,1,5] [] rfl (by(repeat' (first|exact True.intro|apply And.intro))<;>first| (intros;omega)| (simp only[cE,maxLen,lens];omega)) ?_
  simp only[Int.toNat_natCast,gs,hc,List.set_set]
  refine W.seq ?_
  refine W.af X [] [] [0,1,5] [] rfl ⟨⟩ ?_
  rw[IntWalk.i64_in ((k0+(ay aB (l.take k):Nat))+1+1+1+1+((ay (ay (fun _=>1))) e.live.aj:Nat)+1) (by omega)]
  refine W.seq ?_
  refine W.af X [] [(200067,⟨false,[.a (.lit (.int .i64 ((k0+(ay aB (l.take k):Nat))+1+1+1+1+((ay (ay (fun _=>1))) e.live.aj:Nat)+1+((ay (ay (fun _=>1))) e.live.inbox:Nat)))), .a (.sl (.sl .u8) ((cm (cm bT (fun _=>1)) (ay (fun _=>1))) ((k0+(ay aB (l.take k):Nat))+1+1+1+1+((ay (ay (fun _=>1))) e.live.aj:Nat)+1) e.live.inbox)), .a (.lit (.int .i64 ((k0+(ay aB (l.take k):Nat))+1+1+1+1+((ay (ay (fun _=>1))) e.live.aj:Nat)+1)))]⟩)] [0,1,5] [] rfl (by(repeat' (first|exact True.intro|exact bV e.live.inbox ((k0+(ay aB (l.take k):Nat))+1+1+1+1+((ay (ay (fun _=>1))) e.live.aj:Nat)+1) (by omega) (by omega)| (simp only[Int.toNat_natCast,gs,hc];exact bV e.live.inbox ((k0+(ay aB (l.take k):Nat))+1+1+1+1+((ay (ay (fun _=>1))) e.live.aj:Nat)+1) (by omega) (by omega))|apply And.intro))<;>first| (intros;omega)| (simp only[cE,maxLen,lens];omega)) ?_
  simp only[Int.toNat_natCast,gs,hc,List.set_set]
  refine W.seq ?_
  refine W.af X [] [] [0,1,5] [] rfl (by(repeat' (first|exact True.intro|apply And.intro))<;>first| (intros;omega)| (simp only[cE,maxLen,lens];omega)) ?_
  simp only[Int.toNat_natCast,gs,hc,List.set_set]
  refine W.seq ?_
  refine W.af X [] [] [0,1,5] [] rfl ⟨⟩ ?_
  rw[IntWalk.i64_in ((k0+(ay aB (l.take k):Nat))+1+1+1+1+((ay (ay (fun _=>1))) e.live.aj:Nat)+1+((ay (ay (fun _=>1))) e.live.inbox:Nat)+1) (by omega)]
  refine W.seq ?_
  refine W.af X [] [] [0,1,5] [] rfl (by(repeat' (first|exact True.intro|apply And.intro))<;>first| (intros;omega)| (simp only[cE,maxLen,lens];omega)) ?_
  simp only[Int.toNat_natCast,gs,hc,List.set_set]
  refine W.seq ?_
  refine W.af X [] [] [0,1,5] [] rfl ⟨⟩ ?_
  rw[IntWalk.i64_in ((k0+(ay aB (l.take k):Nat))+1+1+1+1+((ay (ay (fun _=>1))) e.live.aj:Nat)+1+((ay (ay (fun _=>1))) e.live.inbox:Nat)+1+1) (by omega)]
  refine W.seq ?_
  refine W.af X [] [] [0,1,5] [] rfl (by(repeat' (first|exact True.intro|apply And.intro))<;>first| (intros;omega)| (simp only[cE,maxLen,lens];omega)) ?_
  simp only[Int.toNat_natCast,gs,hc,List.set_set]
  refine W.seq ?_
  refine W.af X [] [] [0,1,5] [] rfl ⟨⟩ ?_
  rw[IntWalk.i64_in ((k0+(ay aB (l.take k):Nat))+1+1+1+1+((ay (ay (fun _=>1))) e.live.aj:Nat)+1+((ay (ay (fun _=>1))) e.live.inbox:Nat)+1+1+1) (by omega)]
  refine W.seq ?_
  refine W.af X [] [] [0,1,5] [] rfl (by(repeat' (first|exact True.intro|apply And.intro))<;>first| (intros;omega)| (simp only[cE,maxLen,lens];omega)) ?_
  simp only[Int.toNat_natCast,gs,hc,List.set_set]
  refine W.seq ?_
  refine W.af X [] [] [0,1,5] [] rfl ⟨⟩ ?_
  rw[IntWalk.i64_in ((k0+(ay aB (l.take k):Nat))+1+1+1+1+((ay (ay (fun _=>1))) e.live.aj:Nat)+1+((ay (ay (fun _=>1))) e.live.inbox:Nat)+1+1+1+1) (by omega)]
  refine W.seq ?_
  refine W.af X [] [] [0,1,5] [] rfl (by(repeat' (first|exact True.intro|apply And.intro))<;>first| (intros;omega)| (simp only[cE,maxLen,lens];omega)) ?_
  simp only[Int.toNat_natCast,gs,hc,List.set_set]
  refine W.seq ?_
  refine W.af X [] [] [0,1,5] [] rfl ⟨⟩ ?_
  rw[IntWalk.i64_in ((k0+(ay aB (l.take k):Nat))+1+1+1+1+((ay (ay (fun _=>1))) e.live.aj:Nat)+1+((ay (ay (fun _=>1))) e.live.inbox:Nat)+1+1+1+1+1) (by omega)]
  refine W.seq ?_
  refine W.af X [] [(200115,⟨false,[.a (.lit (.int .i64 ((k0+(ay aB (l.take k):Nat))+1+1+1+1+((ay (ay (fun _=>1))) e.live.aj:Nat)+1+((ay (ay (fun _=>1))) e.live.inbox:Nat)+1+1+1+1+1+((ay (ay (fun _=>1))) e.saved.aj:Nat)))), .a (.sl (.sl .u8) ((cm (cm bT (fun _=>1)) (ay (fun _=>1))) ((k0+(ay aB (l.take k):Nat))+1+1+1+1+((ay (ay (fun _=>1))) e.live.aj:Nat)+1+((ay (ay (fun _=>1))) e.live.inbox:Nat)+1+1+1+1+1) e.saved.aj)), .a (.lit (.int .i64 ((k0+(ay aB (l.take k):Nat))+1+1+1+1+((ay (ay (fun _=>1))) e.live.aj:Nat)+1+((ay (ay (fun _=>1))) e.live.inbox:Nat)+1+1+1+1+1)))]⟩)] [0,1,5] [] rfl (by(repeat' (first|exact True.intro|exact bV e.saved.aj ((k0+(ay aB (l.take k):Nat))+1+1+1+1+((ay (ay (fun _=>1))) e.live.aj:Nat)+1+((ay (ay (fun _=>1))) e.live.inbox:Nat)+1+1+1+1+1) (by omega) (by omega)| (simp only[Int.toNat_natCast,gs,hc];exact bV e.saved.aj ((k0+(ay aB (l.take k):Nat))+1+1+1+1+((ay (ay (fun _=>1))) e.live.aj:Nat)+1+((ay (ay (fun _=>1))) e.live.inbox:Nat)+1+1+1+1+1) (by omega) (by omega))|apply And.intro))<;>first| (intros;omega)| (simp only[cE,maxLen,lens];omega)) ?_
  simp only[Int.toNat_natCast,gs,hc,List.set_set]
  refine W.seq ?_
  refine W.af X [] [] [0,1,5] [] rfl (by(repeat' (first|exact True.intro|apply And.intro))<;>first| (intros;omega)| (simp only[cE,maxLen,lens];omega)) ?_
  simp only[Int.toNat_natCast,gs,hc,List.set_set]
  refine W.seq ?_
  refine W.af X [] [] [0,1,5] [] rfl ⟨⟩ ?_
  rw[IntWalk.i64_in ((k0+(ay aB (l.take k):Nat))+1+1+1+1+((ay (ay (fun _=>1))) e.live.aj:Nat)+1+((ay (ay (fun _=>1))) e.live.inbox:Nat)+1+1+1+1+1+((ay (ay (fun _=>1))) e.saved.aj:Nat)+1) (by omega)]
  refine W.seq ?_
  refine W.af X [] [(200131,⟨false,[.a (.lit (.int .i64 ((k0+(ay aB (l.take k):Nat))+1+1+1+1+((ay (ay (fun _=>1))) e.live.aj:Nat)+1+((ay (ay (fun _=>1))) e.live.inbox:Nat)+1+1+1+1+1+((ay (ay (fun _=>1))) e.saved.aj:Nat)+1+((ay (ay (fun _=>1))) e.saved.inbox:Nat)))), .a (.sl (.sl .u8) ((cm (cm bT (fun _=>1)) (ay (fun _=>1))) ((k0+(ay aB (l.take k):Nat))+1+1+1+1+((ay (ay (fun _=>1))) e.live.aj:Nat)+1+((ay (ay (fun _=>1))) e.live.inbox:Nat)+1+1+1+1+1+((ay (ay (fun _=>1))) e.saved.aj:Nat)+1) e.saved.inbox)), .a (.lit (.int .i64 ((k0+(ay aB (l.take k):Nat))+1+1+1+1+((ay (ay (fun _=>1))) e.live.aj:Nat)+1+((ay (ay (fun _=>1))) e.live.inbox:Nat)+1+1+1+1+1+((ay (ay (fun _=>1))) e.saved.aj:Nat)+1)))]⟩)] [0,1,5] [] rfl (by(repeat' (first|exact True.intro|exact bV e.saved.inbox ((k0+(ay aB (l.take k):Nat))+1+1+1+1+((ay (ay (fun _=>1))) e.live.aj:Nat)+1+((ay (ay (fun _=>1))) e.live.inbox:Nat)+1+1+1+1+1+((ay (ay (fun _=>1))) e.saved.aj:Nat)+1) (by omega) (by omega)| (simp only[Int.toNat_natCast,gs,hc];exact bV e.saved.inbox ((k0+(ay aB (l.take k):Nat))+1+1+1+1+((ay (ay (fun _=>1))) e.live.aj:Nat)+1+((ay (ay (fun _=>1))) e.live.inbox:Nat)+1+1+1+1+1+((ay (ay (fun _=>1))) e.saved.aj:Nat)+1) (by omega) (by omega))|apply And.intro))<;>first| (intros;omega)| (simp only[cE,maxLen,lens];omega)) ?_
  simp only[Int.toNat_natCast,gs,hc,List.set_set]
  refine W.seq ?_
  refine W.af X [] [] [0,1,5] [] rfl (by(repeat' (first|exact True.intro|apply And.intro))<;>first| (intros;omega)| (simp only[cE,maxLen,lens];omega)) ?_
  simp only[Int.toNat_natCast,gs,hc,List.set_set]
  refine W.af X [] [] [0,1,5] [] rfl ⟨⟩ ?_
  rw[IntWalk.i64_in ((k0+(ay aB (l.take k):Nat))+1+1+1+1+((ay (ay (fun _=>1))) e.live.aj:Nat)+1+((ay (ay (fun _=>1))) e.live.inbox:Nat)+1+1+1+1+1+((ay (ay (fun _=>1))) e.saved.aj:Nat)+1+((ay (ay (fun _=>1))) e.saved.inbox:Nat)+1) (by omega)]
  refine W.af X [] [] [0,1,5] [] rfl ⟨⟩ ?_
  refine⟨k+1,by omega,by omega,?_⟩
  rw[bn _ k rfl (by omega),show(k0+(ay aB (l.take k):Nat))+1+1+1+1+((ay (ay (fun _=>1))) e.live.aj:Nat)+1+((ay (ay (fun _=>1))) e.live.inbox:Nat)+1+1+1+1+1+((ay (ay (fun _=>1))) e.saved.aj:Nat)+1+((ay (ay (fun _=>1))) e.saved.inbox:Nat)+1=k0+(ay aB (l.take (k+1)):Nat)by omega, ←hst]
  try rfl
 ·rw[dz l k0 k hk]at hb0
  try simp only[nb]at hb0
  refine W.exit ?_
  refine W.seq ?_
  refine W.af X [] [] [4] [] rfl ⟨⟩ ?_
  refine W.ret ?_
  have hf:l.take k=l:=List.take_of_length_le (by omega)
  have hd:l.drop k= []:=List.drop_eq_nil_of_le (by omega)
  exact tu.ret rfl ⟨by rw[hf],by rw[hf,hd,List.append_nil],rfl,⟨⟩⟩
theorem Cz(l:(List Int))(k0:Int)(h0:0≤k0)(h1:k0+((ay (fun _=>1)) l:Nat)≤1099511627776):cJ Tryz.prog 85 [.a (.sl .int l), .a (.lit (.int .i64 k0))] [.a (.sl .int ((cm (fun k _=>k) (fun _=>1)) k0 l)), .a (.lit (.int .i64 k0))] (.int .i64 (k0+((ay (fun _=>1)) l:Nat))):=by
 refine cJ.of X Tryz.call85 Tryz.func85 rfl rfl Tryz.ntmps85 (by simp) ?_
 intro zb
 refine W.oE 1000 rfl fun hl=> ?_
 refine W.seq ?_
 refine W.af X [] [] [0,1] [] rfl ⟨⟩ ?_
 refine W.seq ?_
 refine W.seq ?_
 refine W.af X [] [] [0,1,5] [] rfl ⟨⟩ ?_
 refine W.block ?_
 refine W.aP (fun k=>k≤l.length) (fun k:Nat=> [(1, .one (.a (.lit (.int .i64 (k0+(ay (fun _=>1) (l.take k):Nat)))))),(5, .one (.a (.lit (.int .i64 k))))]) (fun k=> [(1000, .arr .int (cm (fun k _=>k) (fun _=>1) k0 (l.take k)++l.drop k))]) (fun k=>l.length-k) 0 (fun k=>rfl) (Nat.zero_le _) (by simp[cm,ay]) ?_
 intro k hk
 refine W.seq ?_
 refine W.seq ?_
 refine W.af X [] [] [0,1,5,9] [] rfl ⟨⟩ ?_
 refine W.cond rfl (fun hb0=> ?_) (fun hb0=> ?_)
 ·rw[dz l k0 k hk]at hb0
  try simp only[nb]at hb0
  have hc:=oD (mk:=(fun k _=>k)) (mn:=(fun _=>1)) l k0 (au .int) k hb0
  have hlen:=dz (mk:=(fun k _=>k)) (mn:=(fun _=>1)) l k0 k (by omega)
  have hst:=lp (mk:=(fun k _=>k)) (mn:=(fun _=>1)) l k0 (au .int) k hb0
  have mF:=dg (mn:=(fun _=>1)) l (au .int) k hb0
  have hml:=gh (mn:=(fun _=>1)) l (k+1)
  generalize cm (fun k _=>k) (fun _=>1) k0 (l.take k)++l.drop k=L at hc hlen hst ⊢
  generalize l.getD k (au .int)=e at hc hst mF
  have hL:k<L.length:=by omega
  have gs: ∀y:Int,(L.set k y).getD k (au .int)=y:=fun y=>iZ L _ y k hL
  have gl: ∀y:Int,(L.set k y).length=L.length:=fun y=>List.length_set
  refine W.skip ?_
  refine W.seq ?_
  refine W.block ?_
  refine W.seq ?_
  refine W.af X [] [] [0,1,5] [] rfl (by(repeat' (first|exact True.intro|apply And.intro))<;>first| (intros;omega)) ?_
  simp only[Int.toNat_natCast,gs,hc,List.set_set]
  refine W.af X [] [] [0,1,5] [] rfl ⟨⟩ ?_
  rw[IntWalk.i64_in ((k0+(ay (fun _=>1) (l.take k):Nat))+1) (by omega)]
  refine W.af X [] [] [0,1,5] [] rfl ⟨⟩ ?_
  refine⟨k+1,by omega,by omega,?_⟩
  rw[bn _ k rfl (by omega),show(k0+(ay (fun _=>1) (l.take k):Nat))+1=k0+(ay (fun _=>1) (l.take (k+1)):Nat)by omega, ←hst]
  try rfl
 ·rw[dz l k0 k hk]at hb0
  try simp only[nb]at hb0
  refine W.exit ?_
  refine W.seq ?_
  refine W.af X [] [] [4] [] rfl ⟨⟩ ?_
  refine W.ret ?_
  have hf:l.take k=l:=List.take_of_length_le (by omega)
  have hd:l.drop k= []:=List.drop_eq_nil_of_le (by omega)
  exact tu.ret rfl ⟨by rw[hf],by rw[hf,hd,List.append_nil],rfl,⟨⟩⟩
theorem gU(l:(List aE))(k0:Int)(h0:0≤k0)(h1:k0+((ay aF) l:Nat)≤1099511627776):cJ Tryz.prog 182 [.a (.sl .aE l), .a (.lit (.int .i64 k0))] [.a (.sl .aE ((cm cA aF) k0 l)), .a (.lit (.int .i64 k0))] (.int .i64 (k0+((ay aF) l:Nat))):=by
 refine cJ.of X Tryz.call182 Tryz.func182 rfl rfl Tryz.ntmps182 (by simp) ?_
 intro zb
 refine W.oE 1000 rfl fun hl=> ?_
 refine W.seq ?_
 refine W.af X [] [] [0,1] [] rfl ⟨⟩ ?_
 refine W.seq ?_
 refine W.seq ?_
 refine W.af X [] [] [0,1,5] [] rfl ⟨⟩ ?_
 refine W.block ?_
 refine W.aP (fun k=>k≤l.length) (fun k:Nat=> [(1, .one (.a (.lit (.int .i64 (k0+(ay aF (l.take k):Nat)))))),(5, .one (.a (.lit (.int .i64 k))))]) (fun k=> [(1000, .arr .aE (cm cA aF k0 (l.take k)++l.drop k))]) (fun k=>l.length-k) 0 (fun k=>rfl) (Nat.zero_le _) (by simp[cm,ay]) ?_
 intro k hk
 refine W.seq ?_
 refine W.seq ?_
 refine W.af X [] [] [0,1,5,9] [] rfl ⟨⟩ ?_
 refine W.cond rfl (fun hb0=> ?_) (fun hb0=> ?_)
 ·rw[dz l k0 k hk]at hb0
  try simp only[nb]at hb0
  have hc:=oD (mk:=cA) (mn:=aF) l k0 (au .aE) k hb0
  have hlen:=dz (mk:=cA) (mn:=aF) l k0 k (by omega)
  have hst:=lp (mk:=cA) (mn:=aF) l k0 (au .aE) k hb0
  have mF:=dg (mn:=aF) l (au .aE) k hb0
  have hml:=gh (mn:=aF) l (k+1)
  generalize cm cA aF k0 (l.take k)++l.drop k=L at hc hlen hst ⊢
  generalize l.getD k (au .aE)=e at hc hst mF
  have hL:k<L.length:=by omega
  have gs: ∀y:aE,(L.set k y).getD k (au .aE)=y:=fun y=>iZ L _ y k hL
  have gl: ∀y:aE,(L.set k y).length=L.length:=fun y=>List.length_set
  simp only[aF,zz]at mF
  refine W.skip ?_
  refine W.seq ?_
  refine W.block ?_
  refine W.seq ?_
  refine W.af X [] [] [0,1,5] [] rfl (by(repeat' (first|exact True.intro|apply And.intro))<;>first| (intros;omega)) ?_
  simp only[Int.toNat_natCast,gs,hc,List.set_set]
  refine W.seq ?_
  refine W.af X [] [] [0,1,5] [] rfl ⟨⟩ ?_
  rw[IntWalk.i64_in ((k0+(ay aF (l.take k):Nat))+1) (by omega)]
  refine W.af X [] [(200026,⟨false,[.a (.lit (.int .i64 ((k0+(ay aF (l.take k):Nat))+1+((ay (ay (fun _=>1))) e.share.rows:Nat)))), .a (.sl (.sl .u8) ((cm (cm bT (fun _=>1)) (ay (fun _=>1))) ((k0+(ay aF (l.take k):Nat))+1) e.share.rows)), .a (.lit (.int .i64 ((k0+(ay aF (l.take k):Nat))+1)))]⟩)] [0,1,5] [] rfl (by(repeat' (first|exact True.intro|exact bV e.share.rows ((k0+(ay aF (l.take k):Nat))+1) (by omega) (by omega)| (simp only[Int.toNat_natCast,gs,hc];exact bV e.share.rows ((k0+(ay aF (l.take k):Nat))+1) (by omega) (by omega))|apply And.intro))<;>first| (intros;omega)| (simp only[cE,maxLen,lens];omega)) ?_
  simp only[Int.toNat_natCast,gs,hc,List.set_set]
  refine W.af X [] [] [0,1,5] [] rfl ⟨⟩ ?_
  refine⟨k+1,by omega,by omega,?_⟩
  rw[bn _ k rfl (by omega),show(k0+(ay aF (l.take k):Nat))+1+((ay (ay (fun _=>1))) e.share.rows:Nat)=k0+(ay aF (l.take (k+1)):Nat)by omega, ←hst]
  try rfl
 ·rw[dz l k0 k hk]at hb0
  try simp only[nb]at hb0
  refine W.exit ?_
  refine W.seq ?_
  refine W.af X [] [] [4] [] rfl ⟨⟩ ?_
  refine W.ret ?_
  have hf:l.take k=l:=List.take_of_length_le (by omega)
  have hd:l.drop k= []:=List.drop_eq_nil_of_le (by omega)
  exact tu.ret rfl ⟨by rw[hf],by rw[hf,hd,List.append_nil],rfl,⟨⟩⟩
theorem xd(l:(List bO))(k0:Int)(h0:0≤k0)(h1:k0+((ay aL) l:Nat)≤1099511627776):cJ Tryz.prog 82 [.a (.sl .bO l), .a (.lit (.int .i64 k0))] [.a (.sl .bO ((cm fA aL) k0 l)), .a (.lit (.int .i64 k0))] (.int .i64 (k0+((ay aL) l:Nat))):=by
 refine cJ.of X Tryz.call82 Tryz.func82 rfl rfl Tryz.ntmps82 (by simp) ?_
 intro zb
 refine W.oE 1000 rfl fun hl=> ?_
 refine W.seq ?_
 refine W.af X [] [] [0,1] [] rfl ⟨⟩ ?_
 refine W.seq ?_
 refine W.seq ?_
 refine W.af X [] [] [0,1,5] [] rfl ⟨⟩ ?_
 refine W.block ?_
 refine W.aP (fun k=>k≤l.length) (fun k:Nat=> [(1, .one (.a (.lit (.int .i64 (k0+(ay aL (l.take k):Nat)))))),(5, .one (.a (.lit (.int .i64 k))))]) (fun k=> [(1000, .arr .bO (cm fA aL k0 (l.take k)++l.drop k))]) (fun k=>l.length-k) 0 (fun k=>rfl) (Nat.zero_le _) (by simp[cm,ay]) ?_
 intro k hk
 refine W.seq ?_
 refine W.seq ?_
 refine W.af X [] [] [0,1,5,9] [] rfl ⟨⟩ ?_
 refine W.cond rfl (fun hb0=> ?_) (fun hb0=> ?_)
 ·rw[dz l k0 k hk]at hb0
  try simp only[nb]at hb0
  have hc:=oD (mk:=fA) (mn:=aL) l k0 (au .bO) k hb0
  have hlen:=dz (mk:=fA) (mn:=aL) l k0 k (by omega)
  have hst:=lp (mk:=fA) (mn:=aL) l k0 (au .bO) k hb0
  have mF:=dg (mn:=aL) l (au .bO) k hb0
  have hml:=gh (mn:=aL) l (k+1)
  generalize cm fA aL k0 (l.take k)++l.drop k=L at hc hlen hst ⊢
  generalize l.getD k (au .bO)=e at hc hst mF
  have hL:k<L.length:=by omega
  have gs: ∀y:bO,(L.set k y).getD k (au .bO)=y:=fun y=>iZ L _ y k hL
  have gl: ∀y:bO,(L.set k y).length=L.length:=fun y=>List.length_set
  simp only[aL]at mF
  refine W.skip ?_
  refine W.seq ?_
  refine W.block ?_
  refine W.seq ?_
  refine W.af X [] [] [0,1,5] [] rfl (by(repeat' (first|exact True.intro|apply And.intro))<;>first| (intros;omega)) ?_
  simp only[Int.toNat_natCast,gs,hc,List.set_set]
  refine W.seq ?_
  refine W.af X [] [] [0,1,5] [] rfl ⟨⟩ ?_
  rw[IntWalk.i64_in ((k0+(ay aL (l.take k):Nat))+1) (by omega)]
  refine W.seq ?_
  refine W.af X [] [] [0,1,5] [] rfl (by(repeat' (first|exact True.intro|apply And.intro))<;>first| (intros;omega)| (simp only[cE,maxLen,lens];omega)) ?_
  simp only[Int.toNat_natCast,gs,hc,List.set_set]
  refine W.seq ?_
  refine W.af X [] [] [0,1,5] [] rfl ⟨⟩ ?_
  rw[IntWalk.i64_in ((k0+(ay aL (l.take k):Nat))+1+1) (by omega)]
  refine W.seq ?_
  refine W.af X [] [] [0,1,5] [] rfl (by(repeat' (first|exact True.intro|apply And.intro))<;>first| (intros;omega)| (simp only[cE,maxLen,lens];omega)) ?_
  simp only[Int.toNat_natCast,gs,hc,List.set_set]
  refine W.seq ?_
  refine W.af X [] [] [0,1,5] [] rfl ⟨⟩ ?_
  rw[IntWalk.i64_in ((k0+(ay aL (l.take k):Nat))+1+1+1) (by omega)]
  refine W.seq ?_
  refine W.af X [] [(200039,⟨false,[.a (.lit (.int .i64 ((k0+(ay aL (l.take k):Nat))+1+1+1+((ay aF) e.received:Nat)))), .a (.sl .aE ((cm cA aF) ((k0+(ay aL (l.take k):Nat))+1+1+1) e.received)), .a (.lit (.int .i64 ((k0+(ay aL (l.take k):Nat))+1+1+1)))]⟩)] [0,1,5] [] rfl (by(repeat' (first|exact True.intro|exact gU e.received ((k0+(ay aL (l.take k):Nat))+1+1+1) (by omega) (by omega)| (simp only[Int.toNat_natCast,gs,hc];exact gU e.received ((k0+(ay aL (l.take k):Nat))+1+1+1) (by omega) (by omega))|apply And.intro))<;>first| (intros;omega)| (simp only[cE,maxLen,lens];omega)) ?_
  simp only[Int.toNat_natCast,gs,hc,List.set_set]
  refine W.seq ?_
  refine W.af X [] [] [0,1,5] [] rfl (by(repeat' (first|exact True.intro|apply And.intro))<;>first| (intros;omega)| (simp only[cE,maxLen,lens];omega)) ?_
  simp only[Int.toNat_natCast,gs,hc,List.set_set]
  refine W.af X [] [] [0,1,5] [] rfl ⟨⟩ ?_
  rw[IntWalk.i64_in ((k0+(ay aL (l.take k):Nat))+1+1+1+((ay aF) e.received:Nat)+1) (by omega)]
  refine W.af X [] [] [0,1,5] [] rfl ⟨⟩ ?_
  refine⟨k+1,by omega,by omega,?_⟩
  rw[bn _ k rfl (by omega),show(k0+(ay aL (l.take k):Nat))+1+1+1+((ay aF) e.received:Nat)+1=k0+(ay aL (l.take (k+1)):Nat)by omega, ←hst]
  try rfl
 ·rw[dz l k0 k hk]at hb0
  try simp only[nb]at hb0
  refine W.exit ?_
  refine W.seq ?_
  refine W.af X [] [] [4] [] rfl ⟨⟩ ?_
  refine W.ret ?_
  have hf:l.take k=l:=List.take_of_length_le (by omega)
  have hd:l.drop k= []:=List.drop_eq_nil_of_le (by omega)
  exact tu.ret rfl ⟨by rw[hf],by rw[hf,hd,List.append_nil],rfl,⟨⟩⟩
theorem sN(x:b7)(k0:Int)(h0:0≤k0)(h1:k0+(fC x:Nat)≤1099511627776):cJ Tryz.prog 19 [.agg (bz x), .a (.lit (.int .i64 k0))] [.agg (bz (tV k0 x)), .a (.lit (.int .i64 k0))] (.int .i64 (k0+(fC x:Nat))):=by
 refine cJ.of X Tryz.call19 Tryz.func19 rfl rfl Tryz.ntmps19 (by simp) ?_
 intro zb
 unfold fC at h1 ⊢
 refine W.seq ?_
 refine W.af X [] [] [1,2] [] rfl ⟨⟩ ?_
 refine W.seq ?_
 refine W.af X [] [(100008,⟨false,[.a (.lit (.int .i64 (k0+((ay aL) x.aq:Nat)))), .a (.sl .bO ((cm fA aL) (k0) x.aq)), .a (.lit (.int .i64 (k0)))]⟩)] [1,2] [] rfl ⟨xd x.aq (k0) (by omega) (by omega),⟨⟩⟩ ?_
 refine W.seq ?_
 refine W.af X [] [(100012,⟨false,[.a (.lit (.int .i64 (k0+((ay aL) x.aq:Nat)+((ay aB) x.ah:Nat)))), .a (.sl .aO ((cm fB aB) (k0+((ay aL) x.aq:Nat)) x.ah)), .a (.lit (.int .i64 (k0+((ay aL) x.aq:Nat))))]⟩)] [1,2] [] rfl ⟨w9 x.ah (k0+((ay aL) x.aq:Nat)) (by omega) (by omega),⟨⟩⟩ ?_
 refine W.seq ?_
 refine W.af X [] [(100016,⟨false,[.a (.lit (.int .i64 (k0+((ay aL) x.aq:Nat)+((ay aB) x.ah:Nat)+(dh x.aA:Nat)))), .agg (bN (tU (k0+((ay aL) x.aq:Nat)+((ay aB) x.ah:Nat)) x.aA)), .a (.lit (.int .i64 (k0+((ay aL) x.aq:Nat)+((ay aB) x.ah:Nat))))]⟩)] [1,2] [] rfl ⟨wZ x.aA (k0+((ay aL) x.aq:Nat)+((ay aB) x.ah:Nat)) (by omega) (by omega),⟨⟩⟩ ?_
 refine W.seq ?_
 refine W.af X [] [(100020,⟨false,[.a (.lit (.int .i64 (k0+((ay aL) x.aq:Nat)+((ay aB) x.ah:Nat)+(dh x.aA:Nat)+((ay (fun _=>1)) x.replaced:Nat)))), .a (.sl .int ((cm (fun k _=>k) (fun _=>1)) (k0+((ay aL) x.aq:Nat)+((ay aB) x.ah:Nat)+(dh x.aA:Nat)) x.replaced)), .a (.lit (.int .i64 (k0+((ay aL) x.aq:Nat)+((ay aB) x.ah:Nat)+(dh x.aA:Nat))))]⟩)] [1] [] rfl ⟨Cz x.replaced (k0+((ay aL) x.aq:Nat)+((ay aB) x.ah:Nat)+(dh x.aA:Nat)) (by omega) (by omega),⟨⟩⟩ ?_
 refine W.seq ?_
 refine W.af X [] [] [4] [] rfl ⟨⟩ ?_
 refine W.ret ?_
 exact tu.ret rfl (by(repeat' (first|exact True.intro|apply And.intro))<;>first|rfl| (congr 1;omega))
end Go.Proofs.YtjcojocjlglglaaGreat.G
namespace Go.Proofs.YtjcojocjlglglaaGreat.G
set_option linter.all false
open Go.RowKit L D
set_option maxRecDepth 100000
theorem sO(l:(List UInt8))(k0:Int)(h0:0≤k0)(h1:k0+((ay (fun _=>1)) l:Nat)≤1099511627776):Sound ty Tryz.prog 238 [.a (.sl .u8 ((cm bT (fun _=>1)) k0 l)), .a (.lit (.int .i64 k0))] [.a (.lit (.int .i64 (k0+((ay (fun _=>1)) l:Nat))))]:=by
 refine Sound.of X Tryz.call238 Tryz.func238 rfl rfl (by decide) Tryz.ntmps238 (by simp) ?_
 intro zb
 refine W.bound 0 rfl fun hl=> ?_
 rw[bD]at hl
 refine W.seq ?_
 refine W.af X [] [] [0,1] [] rfl ⟨⟩ ?_
 refine W.seq ?_
 refine W.seq ?_
 refine W.af X [] [] [0,1,5] [] rfl ⟨⟩ ?_
 refine W.block ?_
 refine W.aP (fun k=>k≤l.length) (fun k:Nat=> [(1, .one (.a (.lit (.int .i64 (k0+(ay (fun _=>1) (l.take k):Nat)))))),(5, .one (.a (.lit (.int .i64 k))))]) (fun k=> []) (fun k=>l.length-k) 0 (fun k=>rfl) (Nat.zero_le _) (by simp[ay]) ?_
 intro k hk
 refine W.seq ?_
 refine W.seq ?_
 refine W.af X [] [] [0,1,5,9] [] rfl ⟨⟩ ?_
 refine W.cond rfl (fun hb0=> ?_) (fun hb0=> ?_)
 ·rw[bD]at hb0
  try simp only[nb]at hb0
  have hg:=iY (mk:=bT) (mn:=(fun _=>1)) (k:=k0) (d:=au .u8) hb0
  have mF:=dg (mn:=(fun _=>1)) l (au .u8) k hb0
  have hml:=gh (mn:=(fun _=>1)) l (k+1)
  have hlen:(cm bT (fun _=>1) k0 l).length=l.length:=bD
  generalize l.getD k (au .u8)=e at hg mF
  refine W.skip ?_
  refine W.seq ?_
  refine W.block ?_
  refine W.seq ?_
  refine W.seq ?_
  refine W.af X [] [] [0,1,5,18] [] rfl (by(repeat' (first|exact True.intro|apply And.intro))<;>first| (intros;omega)) ?_
  refine W.cond rfl (fun aH=> ?_) (fun aH=> ?_)
  ·exact absurd aH (by first| (simp only[decide_eq_true_eq];omega)| (simp only[Int.toNat_natCast,hg];simp;done)| (simp only[Int.toNat_natCast,hg,bT,cx];simp))
  ·clear aH
   refine W.skip ?_
   refine W.af X [] [] [0,1,5] [] rfl ⟨⟩ ?_
   rw[IntWalk.i64_in ((k0+(ay (fun _=>1) (l.take k):Nat))+1) (by omega)]
   refine W.af X [] [] [0,1,5] [] rfl ⟨⟩ ?_
   refine⟨k+1,by omega,by omega,?_⟩
   rw[bn _ k rfl (by omega),show(k0+(ay (fun _=>1) (l.take k):Nat))+1=k0+(ay (fun _=>1) (l.take (k+1)):Nat)by omega]
   try rfl
 ·rw[bD]at hb0
  try simp only[nb]at hb0
  refine W.exit ?_
  refine W.seq ?_
  refine W.af X [] [] [4] [] rfl ⟨⟩ ?_
  refine W.ret ?_
  exact Fin.ret rfl ⟨by rw[List.take_of_length_le (by omega)],⟨⟩⟩
theorem bW(l:(List (List UInt8)))(k0:Int)(h0:0≤k0)(h1:k0+((ay (ay (fun _=>1))) l:Nat)≤1099511627776):Sound ty Tryz.prog 133 [.a (.sl (.sl .u8) ((cm (cm bT (fun _=>1)) (ay (fun _=>1))) k0 l)), .a (.lit (.int .i64 k0))] [.a (.lit (.int .i64 (k0+((ay (ay (fun _=>1))) l:Nat))))]:=by
 refine Sound.of X Tryz.call133 Tryz.func133 rfl rfl (by decide) Tryz.ntmps133 (by simp) ?_
 intro zb
 refine W.bound 0 rfl fun hl=> ?_
 rw[bD]at hl
 refine W.seq ?_
 refine W.af X [] [] [0,1] [] rfl ⟨⟩ ?_
 refine W.seq ?_
 refine W.seq ?_
 refine W.af X [] [] [0,1,5] [] rfl ⟨⟩ ?_
 refine W.block ?_
 refine W.aP (fun k=>k≤l.length) (fun k:Nat=> [(1, .one (.a (.lit (.int .i64 (k0+(ay (ay (fun _=>1)) (l.take k):Nat)))))),(5, .one (.a (.lit (.int .i64 k))))]) (fun k=> []) (fun k=>l.length-k) 0 (fun k=>rfl) (Nat.zero_le _) (by simp[ay]) ?_
 intro k hk
 refine W.seq ?_
 refine W.seq ?_
 refine W.af X [] [] [0,1,5,9] [] rfl ⟨⟩ ?_
 refine W.cond rfl (fun hb0=> ?_) (fun hb0=> ?_)
 ·rw[bD]at hb0
  try simp only[nb]at hb0
  have hg:=iY (mk:=(cm bT (fun _=>1))) (mn:=(ay (fun _=>1))) (k:=k0) (d:=au (.sl .u8)) hb0
  have mF:=dg (mn:=(ay (fun _=>1))) l (au (.sl .u8)) k hb0
  have hml:=gh (mn:=(ay (fun _=>1))) l (k+1)
  have hlen:(cm (cm bT (fun _=>1)) (ay (fun _=>1)) k0 l).length=l.length:=bD
  generalize l.getD k (au (.sl .u8))=e at hg mF
  refine W.skip ?_
  refine W.seq ?_
  refine W.block ?_
  refine W.seq ?_
  refine W.af X [] [(17,⟨false,[.a (.lit (.int .i64 ((k0+(ay (ay (fun _=>1)) (l.take k):Nat))+((ay (fun _=>1)) e:Nat))))]⟩)] [0,1,5] [] rfl (by(repeat' (first|exact True.intro|exact sO e ((k0+(ay (ay (fun _=>1)) (l.take k):Nat))) (by omega) (by omega)| (simp only[Int.toNat_natCast,hg];exact sO e ((k0+(ay (ay (fun _=>1)) (l.take k):Nat))) (by omega) (by omega))|apply And.intro))<;>first| (intros;omega)) ?_
  refine W.seq ?_
  refine W.af X [] [] [0,1,5,19] [] rfl ⟨⟩ ?_
  refine W.cond rfl (fun aH=> ?_) (fun aH=> ?_)
  ·exact absurd aH (by first| (simp only[decide_eq_true_eq];omega)| (simp only[Int.toNat_natCast,hg];simp;done)| (simp only[Int.toNat_natCast,hg,bT,cx];simp))
  ·clear aH
   refine W.skip ?_
   refine W.af X [] [] [0,1,5] [] rfl ⟨⟩ ?_
   refine⟨k+1,by omega,by omega,?_⟩
   rw[bn _ k rfl (by omega),show(k0+(ay (ay (fun _=>1)) (l.take k):Nat))+((ay (fun _=>1)) e:Nat)=k0+(ay (ay (fun _=>1)) (l.take (k+1)):Nat)by omega]
   try rfl
 ·rw[bD]at hb0
  try simp only[nb]at hb0
  refine W.exit ?_
  refine W.seq ?_
  refine W.af X [] [] [4] [] rfl ⟨⟩ ?_
  refine W.ret ?_
  exact Fin.ret rfl ⟨by rw[List.take_of_length_le (by omega)],⟨⟩⟩
theorem mH(l:(List az))(k0:Int)(h0:0≤k0)(h1:k0+((ay aM) l:Nat)≤1099511627776):Sound ty Tryz.prog 185 [.a (.sl .az ((cm cB aM) k0 l)), .a (.lit (.int .i64 k0))] [.a (.lit (.int .i64 (k0+((ay aM) l:Nat))))]:=by
 refine Sound.of X Tryz.call185 Tryz.func185 rfl rfl (by decide) Tryz.ntmps185 (by simp) ?_
 intro zb
 refine W.bound 0 rfl fun hl=> ?_
 rw[bD]at hl
 refine W.seq ?_
 refine W.af X [] [] [0,1] [] rfl ⟨⟩ ?_
 refine W.seq ?_
 refine W.seq ?_
 refine W.af X [] [] [0,1,5] [] rfl ⟨⟩ ?_
 refine W.block ?_
 refine W.aP (fun k=>k≤l.length) (fun k:Nat=> [(1, .one (.a (.lit (.int .i64 (k0+(ay aM (l.take k):Nat)))))),(5, .one (.a (.lit (.int .i64 k))))]) (fun k=> []) (fun k=>l.length-k) 0 (fun k=>rfl) (Nat.zero_le _) (by simp[ay]) ?_
 intro k hk
 refine W.seq ?_
 refine W.seq ?_
 refine W.af X [] [] [0,1,5,9] [] rfl ⟨⟩ ?_
 refine W.cond rfl (fun hb0=> ?_) (fun hb0=> ?_)
 ·rw[bD]at hb0
  try simp only[nb]at hb0
  have hg:=iY (mk:=cB) (mn:=aM) (k:=k0) (d:=au .az) hb0
  have mF:=dg (mn:=aM) l (au .az) k hb0
  have hml:=gh (mn:=aM) l (k+1)
  have hlen:(cm cB aM k0 l).length=l.length:=bD
  generalize l.getD k (au .az)=e at hg mF
  simp only[aM,zz]at mF
  simp only[cB,Hg]at hg
  refine W.skip ?_
  refine W.seq ?_
  refine W.block ?_
  refine W.seq ?_
  refine W.seq ?_
  refine W.af X [] [] [0,1,5,18] [] rfl (by(repeat' (first|exact True.intro|apply And.intro))<;>first| (intros;omega)) ?_
  refine W.cond rfl (fun aH=> ?_) (fun aH=> ?_)
  ·exact absurd aH (by first| (simp only[decide_eq_true_eq];omega)| (simp only[Int.toNat_natCast,hg];simp;done)| (simp only[Int.toNat_natCast,hg,bT,cx];simp))
  ·clear aH
   refine W.skip ?_
   refine W.seq ?_
   refine W.af X [] [] [0,1,5] [] rfl ⟨⟩ ?_
   rw[IntWalk.i64_in ((k0+(ay aM (l.take k):Nat))+1) (by omega)]
   refine W.seq ?_
   refine W.af X [] [(28,⟨false,[.a (.lit (.int .i64 ((k0+(ay aM (l.take k):Nat))+1+((ay (ay (fun _=>1))) e.db.rows:Nat))))]⟩)] [0,1,5] [] rfl (by(repeat' (first|exact True.intro|exact bW e.db.rows ((k0+(ay aM (l.take k):Nat))+1) (by omega) (by omega)| (simp only[Int.toNat_natCast,hg];exact bW e.db.rows ((k0+(ay aM (l.take k):Nat))+1) (by omega) (by omega))|apply And.intro))<;>first| (intros;omega)) ?_
   refine W.seq ?_
   refine W.af X [] [] [0,1,5,30] [] rfl ⟨⟩ ?_
   refine W.cond rfl (fun bk=> ?_) (fun bk=> ?_)
   ·exact absurd bk (by first| (simp only[decide_eq_true_eq];omega)| (simp only[Int.toNat_natCast,hg];simp;done)| (simp only[Int.toNat_natCast,hg,bT,cx];simp))
   ·clear bk
    refine W.skip ?_
    refine W.af X [] [] [0,1,5] [] rfl ⟨⟩ ?_
    refine⟨k+1,by omega,by omega,?_⟩
    rw[bn _ k rfl (by omega),show(k0+(ay aM (l.take k):Nat))+1+((ay (ay (fun _=>1))) e.db.rows:Nat)=k0+(ay aM (l.take (k+1)):Nat)by omega]
    try rfl
 ·rw[bD]at hb0
  try simp only[nb]at hb0
  refine W.exit ?_
  refine W.seq ?_
  refine W.af X [] [] [4] [] rfl ⟨⟩ ?_
  refine W.ret ?_
  exact Fin.ret rfl ⟨by rw[List.take_of_length_le (by omega)],⟨⟩⟩
theorem xe(x:gJ)(k0:Int)(h0:0≤k0)(h1:k0+(dh x:Nat)≤1099511627776):Sound ty Tryz.prog 88 [.agg (bN (tU k0 x)), .a (.lit (.int .i64 k0))] [.a (.lit (.int .i64 (k0+(dh x:Nat))))]:=by
 refine Sound.of X Tryz.call88 Tryz.func88 rfl rfl (by decide) Tryz.ntmps88 (by simp) ?_
 intro zb
 unfold dh at h1 ⊢
 refine W.seq ?_
 refine W.af X [] [] [1,2] [] rfl ⟨⟩ ?_
 refine W.seq ?_
 refine W.af X [] [(8,⟨false,[.a (.lit (.int .i64 (k0+((ay aM) x.rounds:Nat))))]⟩)] [1] [] rfl ⟨mH x.rounds (k0) (by omega) (by omega),⟨⟩⟩ ?_
 refine W.seq ?_
 refine W.seq ?_
 refine W.af X [] [] [1,10] [] rfl ⟨⟩ ?_
 refine W.cond rfl (fun hb0=> ?_) (fun hb0=> ?_)
 ·exact absurd hb0 (by first| (simp only[decide_eq_true_eq];omega)| (simp only[Int.toNat_natCast,hg];simp;done)| (simp only[Int.toNat_natCast,hg,bT,cx];simp))
 ·clear hb0
  refine W.skip ?_
  refine W.seq ?_
  refine W.af X [] [] [4] [] rfl ⟨⟩ ?_
  refine W.ret ?_
  exact Fin.ret rfl ⟨by first|rfl| (congr 1;omega),⟨⟩⟩
theorem xg(l:(List aO))(k0:Int)(h0:0≤k0)(h1:k0+((ay aB) l:Nat)≤1099511627776):Sound ty Tryz.prog 87 [.a (.sl .aO ((cm fB aB) k0 l)), .a (.lit (.int .i64 k0))] [.a (.lit (.int .i64 (k0+((ay aB) l:Nat))))]:=by
 refine Sound.of X Tryz.call87 Tryz.func87 rfl rfl (by decide) Tryz.ntmps87 (by simp) ?_
 intro zb
 refine W.bound 0 rfl fun hl=> ?_
 rw[bD]at hl
 refine W.seq ?_
 refine W.af X [] [] [0,1] [] rfl ⟨⟩ ?_
 refine W.seq ?_
 refine W.seq ?_
 refine W.af X [] [] [0,1,5] [] rfl ⟨⟩ ?_
 refine W.block ?_
 refine W.aP (fun k=>k≤l.length) (fun k:Nat=> [(1, .one (.a (.lit (.int .i64 (k0+(ay aB (l.take k):Nat)))))),(5, .one (.a (.lit (.int .i64 k))))]) (fun k=> []) (fun k=>l.length-k) 0 (fun k=>rfl) (Nat.zero_le _) (by simp[ay]) ?_
 intro k hk
 refine W.seq ?_
 refine W.seq ?_
 refine W.af X [] [] [0,1,5,9] [] rfl ⟨⟩ ?_
 refine W.cond rfl (fun hb0=> ?_) (fun hb0=> ?_)
 ·rw[bD]at hb0
  try simp only[nb]at hb0
  have hg:=iY (mk:=fB) (mn:=aB) (k:=k0) (d:=au .aO) hb0
  have mF:=dg (mn:=aB) l (au .aO) k hb0
  have hml:=gh (mn:=aB) l (k+1)
  have hlen:(cm fB aB k0 l).length=l.length:=bD
  generalize l.getD k (au .aO)=e at hg mF
  simp only[aB,DA]at mF
  simp only[fB,Jt]at hg
  refine W.skip ?_
  refine W.seq ?_
  refine W.block ?_
  refine W.seq ?_
  refine W.seq ?_
  refine W.af X [] [] [0,1,5,19] [] rfl (by(repeat' (first|exact True.intro|apply And.intro))<;>first| (intros;omega)) ?_
  refine W.cond rfl (fun aH=> ?_) (fun aH=> ?_)
  ·exact absurd aH (by first| (simp only[decide_eq_true_eq];omega)| (simp only[Int.toNat_natCast,hg];simp;done)| (simp only[Int.toNat_natCast,hg,bT,cx];simp))
  ·clear aH
   refine W.skip ?_
   refine W.seq ?_
   refine W.af X [] [] [0,1,5] [] rfl ⟨⟩ ?_
   rw[IntWalk.i64_in ((k0+(ay aB (l.take k):Nat))+1) (by omega)]
   refine W.seq ?_
   refine W.seq ?_
   refine W.af X [] [] [0,1,5,29] [] rfl (by(repeat' (first|exact True.intro|apply And.intro))<;>first| (intros;omega)) ?_
   refine W.cond rfl (fun bk=> ?_) (fun bk=> ?_)
   ·exact absurd bk (by first| (simp only[decide_eq_true_eq];omega)| (simp only[Int.toNat_natCast,hg];simp;done)| (simp only[Int.toNat_natCast,hg,bT,cx];simp))
   ·clear bk
    refine W.skip ?_
    refine W.seq ?_
    refine W.af X [] [] [0,1,5] [] rfl ⟨⟩ ?_
    rw[IntWalk.i64_in ((k0+(ay aB (l.take k):Nat))+1+1) (by omega)]
    refine W.seq ?_
    refine W.seq ?_
    refine W.af X [] [] [0,1,5,39] [] rfl (by(repeat' (first|exact True.intro|apply And.intro))<;>first| (intros;omega)) ?_
    refine W.cond rfl (fun lu=> ?_) (fun lu=> ?_)
    ·exact absurd lu (by first| (simp only[decide_eq_true_eq];omega)| (simp only[Int.toNat_natCast,hg];simp;done)| (simp only[Int.toNat_natCast,hg,bT,cx];simp))
    ·clear lu
     refine W.skip ?_
     refine W.seq ?_
     refine W.af X [] [] [0,1,5] [] rfl ⟨⟩ ?_
     rw[IntWalk.i64_in ((k0+(ay aB (l.take k):Nat))+1+1+1) (by omega)]
     refine W.seq ?_
     refine W.seq ?_
     refine W.af X [] [] [0,1,5,49] [] rfl (by(repeat' (first|exact True.intro|apply And.intro))<;>first| (intros;omega)) ?_
     refine W.cond rfl (fun rB=> ?_) (fun rB=> ?_)
     ·exact absurd rB (by first| (simp only[decide_eq_true_eq];omega)| (simp only[Int.toNat_natCast,hg];simp;done)| (simp only[Int.toNat_natCast,hg,bT,cx];simp))
     ·clear rB
      refine W.skip ?_
      refine W.seq ?_
      refine W.af X [] [] [0,1,5] [] rfl ⟨⟩ ?_
      rw[IntWalk.i64_in ((k0+(ay aB (l.take k):Nat))+1+1+1+1) (by omega)]
      refine W.seq ?_
      refine W.af X [] [(59,⟨false,[.a (.lit (.int .i64 ((k0+(ay aB (l.take k):Nat))+1+1+1+1+((ay (ay (fun _=>1))) e.live.aj:Nat))))]⟩)] [0,1,5] [] rfl (by(repeat' (first|exact True.intro|exact bW e.live.aj ((k0+(ay aB (l.take k):Nat))+1+1+1+1) (by omega) (by omega)| (simp only[Int.toNat_natCast,hg];exact bW e.live.aj ((k0+(ay aB (l.take k):Nat))+1+1+1+1) (by omega) (by omega))|apply And.intro))<;>first| (intros;omega)) ?_
      refine W.seq ?_
      refine W.seq ?_
      refine W.af X [] [] [0,1,5,61] [] rfl ⟨⟩ ?_
      refine W.cond rfl (fun zA=> ?_) (fun zA=> ?_)
      ·exact absurd zA (by first| (simp only[decide_eq_true_eq];omega)| (simp only[Int.toNat_natCast,hg];simp;done)| (simp only[Int.toNat_natCast,hg,bT,cx];simp))
      ·clear zA
       refine W.skip ?_
       refine W.seq ?_
       refine W.seq ?_
       refine W.af X [] [] [0,1,5,69] [] rfl (by(repeat' (first|exact True.intro|apply And.intro))<;>first| (intros;omega)) ?_
       refine W.cond rfl (fun Cv=> ?_) (fun Cv=> ?_)
       ·exact absurd Cv (by first| (simp only[decide_eq_true_eq];omega)| (simp only[Int.toNat_natCast,hg];simp;done)| (simp only[Int.toNat_natCast,hg,bT,cx];simp))
       ·clear Cv
        refine W.skip ?_
        refine W.seq ?_
        refine W.af X [] [] [0,1,5] [] rfl ⟨⟩ ?_
        rw[IntWalk.i64_in ((k0+(ay aB (l.take k):Nat))+1+1+1+1+((ay (ay (fun _=>1))) e.live.aj:Nat)+1) (by omega)]
        refine W.seq ?_
        refine W.af X [] [(79,⟨false,[.a (.lit (.int .i64 ((k0+(ay aB (l.take k):Nat))+1+1+1+1+((ay (ay (fun _=>1))) e.live.aj:Nat)+1+((ay (ay (fun _=>1))) e.live.inbox:Nat))))]⟩)] [0,1,5] [] rfl (by(repeat' (first|exact True.intro|exact bW e.live.inbox ((k0+(ay aB (l.take k):Nat))+1+1+1+1+((ay (ay (fun _=>1))) e.live.aj:Nat)+1) (by omega) (by omega)| (simp only[Int.toNat_natCast,hg];exact bW e.live.inbox ((k0+(ay aB (l.take k):Nat))+1+1+1+1+((ay (ay (fun _=>1))) e.live.aj:Nat)+1) (by omega) (by omega))|apply And.intro))<;>first| (intros;omega)) ?_
        refine W.seq ?_
        refine W.seq ?_
        refine W.af X [] [] [0,1,5,81] [] rfl ⟨⟩ ?_
        refine W.cond rfl (fun Cw=> ?_) (fun Cw=> ?_)
        ·exact absurd Cw (by first| (simp only[decide_eq_true_eq];omega)| (simp only[Int.toNat_natCast,hg];simp;done)| (simp only[Int.toNat_natCast,hg,bT,cx];simp))
        ·clear Cw
         refine W.skip ?_
         refine W.seq ?_
         refine W.seq ?_
         refine W.af X [] [] [0,1,5,89] [] rfl (by(repeat' (first|exact True.intro|apply And.intro))<;>first| (intros;omega)) ?_
         refine W.cond rfl (fun Hl=> ?_) (fun Hl=> ?_)
         ·exact absurd Hl (by first| (simp only[decide_eq_true_eq];omega)| (simp only[Int.toNat_natCast,hg];simp;done)| (simp only[Int.toNat_natCast,hg,bT,cx];simp))
         ·clear Hl
          refine W.skip ?_
          refine W.seq ?_
          refine W.af X [] [] [0,1,5] [] rfl ⟨⟩ ?_
          rw[IntWalk.i64_in ((k0+(ay aB (l.take k):Nat))+1+1+1+1+((ay (ay (fun _=>1))) e.live.aj:Nat)+1+((ay (ay (fun _=>1))) e.live.inbox:Nat)+1) (by omega)]
          refine W.seq ?_
          refine W.seq ?_
          refine W.af X [] [] [0,1,5,99] [] rfl (by(repeat' (first|exact True.intro|apply And.intro))<;>first| (intros;omega)) ?_
          refine W.cond rfl (fun OM=> ?_) (fun OM=> ?_)
          ·exact absurd OM (by first| (simp only[decide_eq_true_eq];omega)| (simp only[Int.toNat_natCast,hg];simp;done)| (simp only[Int.toNat_natCast,hg,bT,cx];simp))
          ·clear OM
           refine W.skip ?_
           refine W.seq ?_
           refine W.af X [] [] [0,1,5] [] rfl ⟨⟩ ?_
           rw[IntWalk.i64_in ((k0+(ay aB (l.take k):Nat))+1+1+1+1+((ay (ay (fun _=>1))) e.live.aj:Nat)+1+((ay (ay (fun _=>1))) e.live.inbox:Nat)+1+1) (by omega)]
           refine W.seq ?_
           refine W.seq ?_
           refine W.af X [] [] [0,1,5,109] [] rfl (by(repeat' (first|exact True.intro|apply And.intro))<;>first| (intros;omega)) ?_
           refine W.cond rfl (fun Lm=> ?_) (fun Lm=> ?_)
           ·exact absurd Lm (by first| (simp only[decide_eq_true_eq];omega)| (simp only[Int.toNat_natCast,hg];simp;done)| (simp only[Int.toNat_natCast,hg,bT,cx];simp))
           ·clear Lm
            refine W.skip ?_
            refine W.seq ?_
            refine W.af X [] [] [0,1,5] [] rfl ⟨⟩ ?_
            rw[IntWalk.i64_in ((k0+(ay aB (l.take k):Nat))+1+1+1+1+((ay (ay (fun _=>1))) e.live.aj:Nat)+1+((ay (ay (fun _=>1))) e.live.inbox:Nat)+1+1+1) (by omega)]
            refine W.seq ?_
            refine W.seq ?_
            refine W.af X [] [] [0,1,5,119] [] rfl (by(repeat' (first|exact True.intro|apply And.intro))<;>first| (intros;omega)) ?_
            refine W.cond rfl (fun Ln=> ?_) (fun Ln=> ?_)
            ·exact absurd Ln (by first| (simp only[decide_eq_true_eq];omega)| (simp only[Int.toNat_natCast,hg];simp;done)| (simp only[Int.toNat_natCast,hg,bT,cx];simp))
            ·clear Ln
             refine W.skip ?_
             refine W.seq ?_
             refine W.af X [] [] [0,1,5] [] rfl ⟨⟩ ?_
             rw[IntWalk.i64_in ((k0+(ay aB (l.take k):Nat))+1+1+1+1+((ay (ay (fun _=>1))) e.live.aj:Nat)+1+((ay (ay (fun _=>1))) e.live.inbox:Nat)+1+1+1+1) (by omega)]
             refine W.seq ?_
             refine W.seq ?_
             refine W.af X [] [] [0,1,5,129] [] rfl (by(repeat' (first|exact True.intro|apply And.intro))<;>first| (intros;omega)) ?_
             refine W.cond rfl (fun Lo=> ?_) (fun Lo=> ?_)
             ·exact absurd Lo (by first| (simp only[decide_eq_true_eq];omega)| (simp only[Int.toNat_natCast,hg];simp;done)| (simp only[Int.toNat_natCast,hg,bT,cx];simp))
             ·clear Lo
              refine W.skip ?_
              refine W.seq ?_
              refine W.af X [] [] [0,1,5] [] rfl ⟨⟩ ?_
              rw[IntWalk.i64_in ((k0+(ay aB (l.take k):Nat))+1+1+1+1+((ay (ay (fun _=>1))) e.live.aj:Nat)+1+((ay (ay (fun _=>1))) e.live.inbox:Nat)+1+1+1+1+1) (by omega)]
              refine W.seq ?_
              refine W.af X [] [(139,⟨false,[.a (.lit (.int .i64 ((k0+(ay aB (l.take k):Nat))+1+1+1+1+((ay (ay (fun _=>1))) e.live.aj:Nat)+1+((ay (ay (fun _=>1))) e.live.inbox:Nat)+1+1+1+1+1+((ay (ay (fun _=>1))) e.saved.aj:Nat))))]⟩)] [0,1,5] [] rfl (by(repeat' (first|exact True.intro|exact bW e.saved.aj ((k0+(ay aB (l.take k):Nat))+1+1+1+1+((ay (ay (fun _=>1))) e.live.aj:Nat)+1+((ay (ay (fun _=>1))) e.live.inbox:Nat)+1+1+1+1+1) (by omega) (by omega)| (simp only[Int.toNat_natCast,hg];exact bW e.saved.aj ((k0+(ay aB (l.take k):Nat))+1+1+1+1+((ay (ay (fun _=>1))) e.live.aj:Nat)+1+((ay (ay (fun _=>1))) e.live.inbox:Nat)+1+1+1+1+1) (by omega) (by omega))|apply And.intro))<;>first| (intros;omega)) ?_
              refine W.seq ?_
              refine W.seq ?_
              refine W.af X [] [] [0,1,5,141] [] rfl ⟨⟩ ?_
              refine W.cond rfl (fun Lp=> ?_) (fun Lp=> ?_)
              ·exact absurd Lp (by first| (simp only[decide_eq_true_eq];omega)| (simp only[Int.toNat_natCast,hg];simp;done)| (simp only[Int.toNat_natCast,hg,bT,cx];simp))
              ·clear Lp
               refine W.skip ?_
               refine W.seq ?_
               refine W.seq ?_
               refine W.af X [] [] [0,1,5,149] [] rfl (by(repeat' (first|exact True.intro|apply And.intro))<;>first| (intros;omega)) ?_
               refine W.cond rfl (fun Lr=> ?_) (fun Lr=> ?_)
               ·exact absurd Lr (by first| (simp only[decide_eq_true_eq];omega)| (simp only[Int.toNat_natCast,hg];simp;done)| (simp only[Int.toNat_natCast,hg,bT,cx];simp))
               ·clear Lr
                refine W.skip ?_
                refine W.seq ?_
                refine W.af X [] [] [0,1,5] [] rfl ⟨⟩ ?_
                rw[IntWalk.i64_in ((k0+(ay aB (l.take k):Nat))+1+1+1+1+((ay (ay (fun _=>1))) e.live.aj:Nat)+1+((ay (ay (fun _=>1))) e.live.inbox:Nat)+1+1+1+1+1+((ay (ay (fun _=>1))) e.saved.aj:Nat)+1) (by omega)]
                refine W.seq ?_
                refine W.af X [] [(159,⟨false,[.a (.lit (.int .i64 ((k0+(ay aB (l.take k):Nat))+1+1+1+1+((ay (ay (fun _=>1))) e.live.aj:Nat)+1+((ay (ay (fun _=>1))) e.live.inbox:Nat)+1+1+1+1+1+((ay (ay (fun _=>1))) e.saved.aj:Nat)+1+((ay (ay (fun _=>1))) e.saved.inbox:Nat))))]⟩)] [0,1,5] [] rfl (by(repeat' (first|exact True.intro|exact bW e.saved.inbox ((k0+(ay aB (l.take k):Nat))+1+1+1+1+((ay (ay (fun _=>1))) e.live.aj:Nat)+1+((ay (ay (fun _=>1))) e.live.inbox:Nat)+1+1+1+1+1+((ay (ay (fun _=>1))) e.saved.aj:Nat)+1) (by omega) (by omega)| (simp only[Int.toNat_natCast,hg];exact bW e.saved.inbox ((k0+(ay aB (l.take k):Nat))+1+1+1+1+((ay (ay (fun _=>1))) e.live.aj:Nat)+1+((ay (ay (fun _=>1))) e.live.inbox:Nat)+1+1+1+1+1+((ay (ay (fun _=>1))) e.saved.aj:Nat)+1) (by omega) (by omega))|apply And.intro))<;>first| (intros;omega)) ?_
                refine W.seq ?_
                refine W.seq ?_
                refine W.af X [] [] [0,1,5,161] [] rfl ⟨⟩ ?_
                refine W.cond rfl (fun Ls=> ?_) (fun Ls=> ?_)
                ·exact absurd Ls (by first| (simp only[decide_eq_true_eq];omega)| (simp only[Int.toNat_natCast,hg];simp;done)| (simp only[Int.toNat_natCast,hg,bT,cx];simp))
                ·clear Ls
                 refine W.skip ?_
                 refine W.seq ?_
                 refine W.seq ?_
                 refine W.af X [] [] [0,1,5,169] [] rfl (by(repeat' (first|exact True.intro|apply And.intro))<;>first| (intros;omega)) ?_
                 refine W.cond rfl (fun Lt=> ?_) (fun Lt=> ?_)
                 ·exact absurd Lt (by first| (simp only[decide_eq_true_eq];omega)| (simp only[Int.toNat_natCast,hg];simp;done)| (simp only[Int.toNat_natCast,hg,bT,cx];simp))
                 ·clear Lt
                  refine W.skip ?_
                  refine W.af X [] [] [0,1,5] [] rfl ⟨⟩ ?_
                  rw[IntWalk.i64_in ((k0+(ay aB (l.take k):Nat))+1+1+1+1+((ay (ay (fun _=>1))) e.live.aj:Nat)+1+((ay (ay (fun _=>1))) e.live.inbox:Nat)+1+1+1+1+1+((ay (ay (fun _=>1))) e.saved.aj:Nat)+1+((ay (ay (fun _=>1))) e.saved.inbox:Nat)+1) (by omega)]
                  refine W.af X [] [] [0,1,5] [] rfl ⟨⟩ ?_
                  refine⟨k+1,by omega,by omega,?_⟩
                  rw[bn _ k rfl (by omega),show(k0+(ay aB (l.take k):Nat))+1+1+1+1+((ay (ay (fun _=>1))) e.live.aj:Nat)+1+((ay (ay (fun _=>1))) e.live.inbox:Nat)+1+1+1+1+1+((ay (ay (fun _=>1))) e.saved.aj:Nat)+1+((ay (ay (fun _=>1))) e.saved.inbox:Nat)+1=k0+(ay aB (l.take (k+1)):Nat)by omega]
                  try rfl
 ·rw[bD]at hb0
  try simp only[nb]at hb0
  refine W.exit ?_
  refine W.seq ?_
  refine W.af X [] [] [4] [] rfl ⟨⟩ ?_
  refine W.ret ?_
  exact Fin.ret rfl ⟨by rw[List.take_of_length_le (by omega)],⟨⟩⟩
theorem CA(l:(List Int))(k0:Int)(h0:0≤k0)(h1:k0+((ay (fun _=>1)) l:Nat)≤1099511627776):Sound ty Tryz.prog 89 [.a (.sl .int ((cm (fun k _=>k) (fun _=>1)) k0 l)), .a (.lit (.int .i64 k0))] [.a (.lit (.int .i64 (k0+((ay (fun _=>1)) l:Nat))))]:=by
 refine Sound.of X Tryz.call89 Tryz.func89 rfl rfl (by decide) Tryz.ntmps89 (by simp) ?_
 intro zb
 refine W.bound 0 rfl fun hl=> ?_
 rw[bD]at hl
 refine W.seq ?_
 refine W.af X [] [] [0,1] [] rfl ⟨⟩ ?_
 refine W.seq ?_
 refine W.seq ?_
 refine W.af X [] [] [0,1,5] [] rfl ⟨⟩ ?_
 refine W.block ?_
 refine W.aP (fun k=>k≤l.length) (fun k:Nat=> [(1, .one (.a (.lit (.int .i64 (k0+(ay (fun _=>1) (l.take k):Nat)))))),(5, .one (.a (.lit (.int .i64 k))))]) (fun k=> []) (fun k=>l.length-k) 0 (fun k=>rfl) (Nat.zero_le _) (by simp[ay]) ?_
 intro k hk
 refine W.seq ?_
 refine W.seq ?_
 refine W.af X [] [] [0,1,5,9] [] rfl ⟨⟩ ?_
 refine W.cond rfl (fun hb0=> ?_) (fun hb0=> ?_)
 ·rw[bD]at hb0
  try simp only[nb]at hb0
  have hg:=iY (mk:=(fun k _=>k)) (mn:=(fun _=>1)) (k:=k0) (d:=au .int) hb0
  have mF:=dg (mn:=(fun _=>1)) l (au .int) k hb0
  have hml:=gh (mn:=(fun _=>1)) l (k+1)
  have hlen:(cm (fun k _=>k) (fun _=>1) k0 l).length=l.length:=bD
  generalize l.getD k (au .int)=e at hg mF
  refine W.skip ?_
  refine W.seq ?_
  refine W.block ?_
  refine W.seq ?_
  refine W.seq ?_
  refine W.af X [] [] [0,1,5,17] [] rfl (by(repeat' (first|exact True.intro|apply And.intro))<;>first| (intros;omega)) ?_
  refine W.cond rfl (fun aH=> ?_) (fun aH=> ?_)
  ·exact absurd aH (by first| (simp only[decide_eq_true_eq];omega)| (simp only[Int.toNat_natCast,hg];simp;done)| (simp only[Int.toNat_natCast,hg,bT,cx];simp))
  ·clear aH
   refine W.skip ?_
   refine W.af X [] [] [0,1,5] [] rfl ⟨⟩ ?_
   rw[IntWalk.i64_in ((k0+(ay (fun _=>1) (l.take k):Nat))+1) (by omega)]
   refine W.af X [] [] [0,1,5] [] rfl ⟨⟩ ?_
   refine⟨k+1,by omega,by omega,?_⟩
   rw[bn _ k rfl (by omega),show(k0+(ay (fun _=>1) (l.take k):Nat))+1=k0+(ay (fun _=>1) (l.take (k+1)):Nat)by omega]
   try rfl
 ·rw[bD]at hb0
  try simp only[nb]at hb0
  refine W.exit ?_
  refine W.seq ?_
  refine W.af X [] [] [4] [] rfl ⟨⟩ ?_
  refine W.ret ?_
  exact Fin.ret rfl ⟨by rw[List.take_of_length_le (by omega)],⟨⟩⟩
theorem gV(l:(List aE))(k0:Int)(h0:0≤k0)(h1:k0+((ay aF) l:Nat)≤1099511627776):Sound ty Tryz.prog 184 [.a (.sl .aE ((cm cA aF) k0 l)), .a (.lit (.int .i64 k0))] [.a (.lit (.int .i64 (k0+((ay aF) l:Nat))))]:=by
 refine Sound.of X Tryz.call184 Tryz.func184 rfl rfl (by decide) Tryz.ntmps184 (by simp) ?_
 intro zb
 refine W.bound 0 rfl fun hl=> ?_
 rw[bD]at hl
 refine W.seq ?_
 refine W.af X [] [] [0,1] [] rfl ⟨⟩ ?_
 refine W.seq ?_
 refine W.seq ?_
 refine W.af X [] [] [0,1,5] [] rfl ⟨⟩ ?_
 refine W.block ?_
 refine W.aP (fun k=>k≤l.length) (fun k:Nat=> [(1, .one (.a (.lit (.int .i64 (k0+(ay aF (l.take k):Nat)))))),(5, .one (.a (.lit (.int .i64 k))))]) (fun k=> []) (fun k=>l.length-k) 0 (fun k=>rfl) (Nat.zero_le _) (by simp[ay]) ?_
 intro k hk
 refine W.seq ?_
 refine W.seq ?_
 refine W.af X [] [] [0,1,5,9] [] rfl ⟨⟩ ?_
 refine W.cond rfl (fun hb0=> ?_) (fun hb0=> ?_)
 ·rw[bD]at hb0
  try simp only[nb]at hb0
  have hg:=iY (mk:=cA) (mn:=aF) (k:=k0) (d:=au .aE) hb0
  have mF:=dg (mn:=aF) l (au .aE) k hb0
  have hml:=gh (mn:=aF) l (k+1)
  have hlen:(cm cA aF k0 l).length=l.length:=bD
  generalize l.getD k (au .aE)=e at hg mF
  simp only[aF,zz]at mF
  simp only[cA,Hg]at hg
  refine W.skip ?_
  refine W.seq ?_
  refine W.block ?_
  refine W.seq ?_
  refine W.seq ?_
  refine W.af X [] [] [0,1,5,18] [] rfl (by(repeat' (first|exact True.intro|apply And.intro))<;>first| (intros;omega)) ?_
  refine W.cond rfl (fun aH=> ?_) (fun aH=> ?_)
  ·exact absurd aH (by first| (simp only[decide_eq_true_eq];omega)| (simp only[Int.toNat_natCast,hg];simp;done)| (simp only[Int.toNat_natCast,hg,bT,cx];simp))
  ·clear aH
   refine W.skip ?_
   refine W.seq ?_
   refine W.af X [] [] [0,1,5] [] rfl ⟨⟩ ?_
   rw[IntWalk.i64_in ((k0+(ay aF (l.take k):Nat))+1) (by omega)]
   refine W.seq ?_
   refine W.af X [] [(28,⟨false,[.a (.lit (.int .i64 ((k0+(ay aF (l.take k):Nat))+1+((ay (ay (fun _=>1))) e.share.rows:Nat))))]⟩)] [0,1,5] [] rfl (by(repeat' (first|exact True.intro|exact bW e.share.rows ((k0+(ay aF (l.take k):Nat))+1) (by omega) (by omega)| (simp only[Int.toNat_natCast,hg];exact bW e.share.rows ((k0+(ay aF (l.take k):Nat))+1) (by omega) (by omega))|apply And.intro))<;>first| (intros;omega)) ?_
   refine W.seq ?_
   refine W.af X [] [] [0,1,5,30] [] rfl ⟨⟩ ?_
   refine W.cond rfl (fun bk=> ?_) (fun bk=> ?_)
   ·exact absurd bk (by first| (simp only[decide_eq_true_eq];omega)| (simp only[Int.toNat_natCast,hg];simp;done)| (simp only[Int.toNat_natCast,hg,bT,cx];simp))
   ·clear bk
    refine W.skip ?_
    refine W.af X [] [] [0,1,5] [] rfl ⟨⟩ ?_
    refine⟨k+1,by omega,by omega,?_⟩
    rw[bn _ k rfl (by omega),show(k0+(ay aF (l.take k):Nat))+1+((ay (ay (fun _=>1))) e.share.rows:Nat)=k0+(ay aF (l.take (k+1)):Nat)by omega]
    try rfl
 ·rw[bD]at hb0
  try simp only[nb]at hb0
  refine W.exit ?_
  refine W.seq ?_
  refine W.af X [] [] [4] [] rfl ⟨⟩ ?_
  refine W.ret ?_
  exact Fin.ret rfl ⟨by rw[List.take_of_length_le (by omega)],⟨⟩⟩
theorem xh(l:(List bO))(k0:Int)(h0:0≤k0)(h1:k0+((ay aL) l:Nat)≤1099511627776):Sound ty Tryz.prog 86 [.a (.sl .bO ((cm fA aL) k0 l)), .a (.lit (.int .i64 k0))] [.a (.lit (.int .i64 (k0+((ay aL) l:Nat))))]:=by
 refine Sound.of X Tryz.call86 Tryz.func86 rfl rfl (by decide) Tryz.ntmps86 (by simp) ?_
 intro zb
 refine W.bound 0 rfl fun hl=> ?_
 rw[bD]at hl
 refine W.seq ?_
 refine W.af X [] [] [0,1] [] rfl ⟨⟩ ?_
 refine W.seq ?_
 refine W.seq ?_
 refine W.af X [] [] [0,1,5] [] rfl ⟨⟩ ?_
 refine W.block ?_
 refine W.aP (fun k=>k≤l.length) (fun k:Nat=> [(1, .one (.a (.lit (.int .i64 (k0+(ay aL (l.take k):Nat)))))),(5, .one (.a (.lit (.int .i64 k))))]) (fun k=> []) (fun k=>l.length-k) 0 (fun k=>rfl) (Nat.zero_le _) (by simp[ay]) ?_
 intro k hk
 refine W.seq ?_
 refine W.seq ?_
 refine W.af X [] [] [0,1,5,9] [] rfl ⟨⟩ ?_
 refine W.cond rfl (fun hb0=> ?_) (fun hb0=> ?_)
 ·rw[bD]at hb0
  try simp only[nb]at hb0
  have hg:=iY (mk:=fA) (mn:=aL) (k:=k0) (d:=au .bO) hb0
  have mF:=dg (mn:=aL) l (au .bO) k hb0
  have hml:=gh (mn:=aL) l (k+1)
  have hlen:(cm fA aL k0 l).length=l.length:=bD
  generalize l.getD k (au .bO)=e at hg mF
  simp only[aL]at mF
  simp only[fA]at hg
  refine W.skip ?_
  refine W.seq ?_
  refine W.block ?_
  refine W.seq ?_
  refine W.seq ?_
  refine W.af X [] [] [0,1,5,18] [] rfl (by(repeat' (first|exact True.intro|apply And.intro))<;>first| (intros;omega)) ?_
  refine W.cond rfl (fun aH=> ?_) (fun aH=> ?_)
  ·exact absurd aH (by first| (simp only[decide_eq_true_eq];omega)| (simp only[Int.toNat_natCast,hg];simp;done)| (simp only[Int.toNat_natCast,hg,bT,cx];simp))
  ·clear aH
   refine W.skip ?_
   refine W.seq ?_
   refine W.af X [] [] [0,1,5] [] rfl ⟨⟩ ?_
   rw[IntWalk.i64_in ((k0+(ay aL (l.take k):Nat))+1) (by omega)]
   refine W.seq ?_
   refine W.seq ?_
   refine W.af X [] [] [0,1,5,27] [] rfl (by(repeat' (first|exact True.intro|apply And.intro))<;>first| (intros;omega)) ?_
   refine W.cond rfl (fun bk=> ?_) (fun bk=> ?_)
   ·exact absurd bk (by first| (simp only[decide_eq_true_eq];omega)| (simp only[Int.toNat_natCast,hg];simp;done)| (simp only[Int.toNat_natCast,hg,bT,cx];simp))
   ·clear bk
    refine W.skip ?_
    refine W.seq ?_
    refine W.af X [] [] [0,1,5] [] rfl ⟨⟩ ?_
    rw[IntWalk.i64_in ((k0+(ay aL (l.take k):Nat))+1+1) (by omega)]
    refine W.seq ?_
    refine W.seq ?_
    refine W.af X [] [] [0,1,5,36] [] rfl (by(repeat' (first|exact True.intro|apply And.intro))<;>first| (intros;omega)) ?_
    refine W.cond rfl (fun lu=> ?_) (fun lu=> ?_)
    ·exact absurd lu (by first| (simp only[decide_eq_true_eq];omega)| (simp only[Int.toNat_natCast,hg];simp;done)| (simp only[Int.toNat_natCast,hg,bT,cx];simp))
    ·clear lu
     refine W.skip ?_
     refine W.seq ?_
     refine W.af X [] [] [0,1,5] [] rfl ⟨⟩ ?_
     rw[IntWalk.i64_in ((k0+(ay aL (l.take k):Nat))+1+1+1) (by omega)]
     refine W.seq ?_
     refine W.af X [] [(45,⟨false,[.a (.lit (.int .i64 ((k0+(ay aL (l.take k):Nat))+1+1+1+((ay aF) e.received:Nat))))]⟩)] [0,1,5] [] rfl (by(repeat' (first|exact True.intro|exact gV e.received ((k0+(ay aL (l.take k):Nat))+1+1+1) (by omega) (by omega)| (simp only[Int.toNat_natCast,hg];exact gV e.received ((k0+(ay aL (l.take k):Nat))+1+1+1) (by omega) (by omega))|apply And.intro))<;>first| (intros;omega)) ?_
     refine W.seq ?_
     refine W.seq ?_
     refine W.af X [] [] [0,1,5,47] [] rfl ⟨⟩ ?_
     refine W.cond rfl (fun rB=> ?_) (fun rB=> ?_)
     ·exact absurd rB (by first| (simp only[decide_eq_true_eq];omega)| (simp only[Int.toNat_natCast,hg];simp;done)| (simp only[Int.toNat_natCast,hg,bT,cx];simp))
     ·clear rB
      refine W.skip ?_
      refine W.seq ?_
      refine W.seq ?_
      refine W.af X [] [] [0,1,5,54] [] rfl (by(repeat' (first|exact True.intro|apply And.intro))<;>first| (intros;omega)) ?_
      refine W.cond rfl (fun zA=> ?_) (fun zA=> ?_)
      ·exact absurd zA (by first| (simp only[decide_eq_true_eq];omega)| (simp only[Int.toNat_natCast,hg];simp;done)| (simp only[Int.toNat_natCast,hg,bT,cx];simp))
      ·clear zA
       refine W.skip ?_
       refine W.af X [] [] [0,1,5] [] rfl ⟨⟩ ?_
       rw[IntWalk.i64_in ((k0+(ay aL (l.take k):Nat))+1+1+1+((ay aF) e.received:Nat)+1) (by omega)]
       refine W.af X [] [] [0,1,5] [] rfl ⟨⟩ ?_
       refine⟨k+1,by omega,by omega,?_⟩
       rw[bn _ k rfl (by omega),show(k0+(ay aL (l.take k):Nat))+1+1+1+((ay aF) e.received:Nat)+1=k0+(ay aL (l.take (k+1)):Nat)by omega]
       try rfl
 ·rw[bD]at hb0
  try simp only[nb]at hb0
  refine W.exit ?_
  refine W.seq ?_
  refine W.af X [] [] [4] [] rfl ⟨⟩ ?_
  refine W.ret ?_
  exact Fin.ret rfl ⟨by rw[List.take_of_length_le (by omega)],⟨⟩⟩
theorem sP(x:b7)(k0:Int)(h0:0≤k0)(h1:k0+(fC x:Nat)≤1099511627776):Sound ty Tryz.prog 20 [.agg (bz (tV k0 x)), .a (.lit (.int .i64 k0))] [.a (.lit (.int .i64 (k0+(fC x:Nat))))]:=by
 refine Sound.of X Tryz.call20 Tryz.func20 rfl rfl (by decide) Tryz.ntmps20 (by simp) ?_
 intro zb
 unfold fC at h1 ⊢
 refine W.seq ?_
 refine W.af X [] [] [1,2] [] rfl ⟨⟩ ?_
 refine W.seq ?_
 refine W.af X [] [(8,⟨false,[.a (.lit (.int .i64 (k0+((ay aL) x.aq:Nat))))]⟩)] [1,2] [] rfl ⟨xh x.aq (k0) (by omega) (by omega),⟨⟩⟩ ?_
 refine W.seq ?_
 refine W.seq ?_
 refine W.af X [] [] [1,2,10] [] rfl ⟨⟩ ?_
 refine W.cond rfl (fun hb0=> ?_) (fun hb0=> ?_)
 ·exact absurd hb0 (by first| (simp only[decide_eq_true_eq];omega)| (simp only[Int.toNat_natCast,hg];simp;done)| (simp only[Int.toNat_natCast,hg,bT,cx];simp))
 ·clear hb0
  refine W.skip ?_
  refine W.seq ?_
  refine W.af X [] [(14,⟨false,[.a (.lit (.int .i64 (k0+((ay aL) x.aq:Nat)+((ay aB) x.ah:Nat))))]⟩)] [1,2] [] rfl ⟨xg x.ah (k0+((ay aL) x.aq:Nat)) (by omega) (by omega),⟨⟩⟩ ?_
  refine W.seq ?_
  refine W.seq ?_
  refine W.af X [] [] [1,2,16] [] rfl ⟨⟩ ?_
  refine W.cond rfl (fun aH=> ?_) (fun aH=> ?_)
  ·exact absurd aH (by first| (simp only[decide_eq_true_eq];omega)| (simp only[Int.toNat_natCast,hg];simp;done)| (simp only[Int.toNat_natCast,hg,bT,cx];simp))
  ·clear aH
   refine W.skip ?_
   refine W.seq ?_
   refine W.af X [] [(20,⟨false,[.a (.lit (.int .i64 (k0+((ay aL) x.aq:Nat)+((ay aB) x.ah:Nat)+(dh x.aA:Nat))))]⟩)] [1,2] [] rfl ⟨xe x.aA (k0+((ay aL) x.aq:Nat)+((ay aB) x.ah:Nat)) (by omega) (by omega),⟨⟩⟩ ?_
   refine W.seq ?_
   refine W.seq ?_
   refine W.af X [] [] [1,2,22] [] rfl ⟨⟩ ?_
   refine W.cond rfl (fun bk=> ?_) (fun bk=> ?_)
   ·exact absurd bk (by first| (simp only[decide_eq_true_eq];omega)| (simp only[Int.toNat_natCast,hg];simp;done)| (simp only[Int.toNat_natCast,hg,bT,cx];simp))
   ·clear bk
    refine W.skip ?_
    refine W.seq ?_
    refine W.af X [] [(26,⟨false,[.a (.lit (.int .i64 (k0+((ay aL) x.aq:Nat)+((ay aB) x.ah:Nat)+(dh x.aA:Nat)+((ay (fun _=>1)) x.replaced:Nat))))]⟩)] [1] [] rfl ⟨CA x.replaced (k0+((ay aL) x.aq:Nat)+((ay aB) x.ah:Nat)+(dh x.aA:Nat)) (by omega) (by omega),⟨⟩⟩ ?_
    refine W.seq ?_
    refine W.seq ?_
    refine W.af X [] [] [1,28] [] rfl ⟨⟩ ?_
    refine W.cond rfl (fun lu=> ?_) (fun lu=> ?_)
    ·exact absurd lu (by first| (simp only[decide_eq_true_eq];omega)| (simp only[Int.toNat_natCast,hg];simp;done)| (simp only[Int.toNat_natCast,hg,bT,cx];simp))
    ·clear lu
     refine W.skip ?_
     refine W.seq ?_
     refine W.af X [] [] [4] [] rfl ⟨⟩ ?_
     refine W.ret ?_
     exact Fin.ret rfl ⟨by first|rfl| (congr 1;omega),⟨⟩⟩
end Go.Proofs.YtjcojocjlglglaaGreat.G
namespace Go.Proofs.YtjcojocjlglglaaGreat.G
set_option linter.all false
open Go.RowKit L D
theorem bZ{a:Int}(h: -9223372036854775808≤a∧a≤9223372036854775807):IntKind.i64.wrap a=a:=IntWalk.i64_in _ (by omega)
theorem zB(n:Int):IntKind.u8.wrap n=n % 256:=by
 unfold IntKind.wrap
 simp only[IntKind.signed,IntKind.bits]
 simp
def b8(n:Int):UInt8:=UInt8.ofNat (IntKind.u8.wrap n).toNat
theorem qi(n:Int):((b8 n).toNat:Int)=n % 256:=by unfold b8;rw[cx,zB]
theorem CB{x y:UInt8}(h:(x.toNat:Int)=y.toNat):x=y:=Hf h
theorem ofNat_toNat(n:Int)(h0:0≤n)(h1:n<256):((UInt8.ofNat n.toNat).toNat:Int)=n:=by
 simp;omega
theorem ofNat_eq{n:Int}{x:UInt8}(h0:0≤n)(h1:n<256)(h:n=x.toNat):UInt8.ofNat n.toNat=x:=by
 apply CB;rw[ofNat_toNat n h0 h1,h]
theorem ql{a b:Int}(h:a % 256=b % 256):b8 a=b8 b:=by
 apply CB;rw[qi,qi,h]
theorem dj{a b:Int}(h:0≤a):a.tmod b=a % b:=Int.tmod_eq_emod_of_nonneg h
theorem Ho{a b:Int}(h:0≤a):a.tdiv b=a/b:=Int.tdiv_eq_ediv_of_nonneg h
theorem md_eq(p q:Int)(h1:1≤q)(h2:q≤1000000000000):(IntKind.i64.wrap (p.tmod q+q)).tmod q=p % q:=by
 have hb: -q<p.tmod q∧p.tmod q<q:=⟨Int.lt_tmod_of_pos p (by omega),Int.tmod_lt_of_pos p (by omega)⟩
 rw[bZ (by omega),dj (by omega),Int.add_emod_right]
 rcases Int.le_total 0 p with h|h
 ·rw[dj h,Int.emod_emod_of_dvd _ (Int.dvd_refl q)]
 ·have e:p.tmod q=p-q*p.tdiv q:=by have:=Int.tmod_add_mul_tdiv p q;omega
  rw[e,Int.sub_mul_emod_self_left]
def hs1(h v:Int):Int:=(h*1000003+v % 2147483647+13)% 2147483647
def hsh(l:List Int):Int:=l.foldl hs1 11
def kh(k:Int)(l:List Int):Int:=hsh (k::(l++ [k]))
theorem EP(h v:Int):0≤hs1 h v∧hs1 h v<2147483647:=⟨Int.emod_nonneg _ (by decide),Int.emod_lt_of_pos _ (by decide)⟩
theorem vO{α β:Type}(f:β→α→β)(b:β)(l:List α)(k:Nat)(d:α)(h:k<l.length):(l.take (k+1)).foldl f b=f ((l.take k).foldl f b) (l.getD k d):=by
 rw[bg l k d h,List.foldl_append];rfl
theorem rC: ∀l:List Int,0≤hsh l∧hsh l<2147483647:=by
 have g: ∀(l:List Int) (a:Int),(0≤a∧a<2147483647)→0≤l.foldl hs1 a∧l.foldl hs1 a<2147483647:=by
  intro l
  induction l with
  |nil=>intro a h;exact h
  |cons x r ih=>intro a _;exact ih _ (EP a x)
 exact fun l=>g l 11 (by decide)
theorem dm(k:Int)(l:List Int):0≤kh k l∧kh k l<2147483647:=rC _
theorem Lu{h v:Int}(h0:0≤h)(h1:h<2147483647):(IntKind.i64.wrap (IntKind.i64.wrap (IntKind.i64.wrap (h*1000003)+v % 2147483647)+13)).tmod 2147483647=hs1 h v:=by
 have hv:0≤v % 2147483647∧v % 2147483647<2147483647:=⟨Int.emod_nonneg _ (by decide),Int.emod_lt_of_pos _ (by decide)⟩
 rw[bZ (a:=h*1000003) (by omega),bZ (a:=h*1000003+v % 2147483647) (by omega),bZ (by omega),dj (by omega)]
 rfl
def Ie(n:Int):Int:=if n=0 then 1 else n
theorem DC{n:Int}(h:0≤n):(if n>1 then n else 1)=Ie n:=by
 unfold Ie;split<;>split<;>omega
theorem M7{h:Int}(h0:0≤h)(h1:h<2147483647):0≤h*h∧h*h≤4611686009837453316:=by
 have:=Int.mul_le_mul (show h≤2147483646 by omega) (show h≤2147483646 by omega) h0 (by decide)
 exact⟨Int.mul_nonneg h0 h0,by omega⟩
def cs(s k:Int):Int:=(kh s [47,k]*kh s [47,k]+5)% 2147483647
theorem vP(s k:Int):0≤cs s k∧cs s k<2147483647:=⟨Int.emod_nonneg _ (by decide),Int.emod_lt_of_pos _ (by decide)⟩
theorem cs_eq{h:Int}(h0:0≤h)(h1:h<2147483647):(IntKind.i64.wrap (IntKind.i64.wrap (h*h)+5)).tmod 2147483647=(h*h+5)% 2147483647:=by
 have:=M7 h0 h1
 rw[bZ (a:=h*h) (by omega),bZ (by omega),dj (by omega)]
theorem ON{x:Int}(h:0≤x):IntKind.i64.wrap (BitVec.ofInt IntKind.i64.bits x&&&BitVec.ofInt IntKind.i64.bits 1).toNat=x % 2:=by
 obtain⟨n,rfl⟩:=Int.eq_ofNat_of_zero_le h
 have e:(BitVec.ofInt IntKind.i64.bits (n:Int)&&&BitVec.ofInt IntKind.i64.bits 1).toNat=n % 2:=by
  rw[BitVec.toNat_and]
  have h1:(BitVec.ofInt IntKind.i64.bits 1).toNat=1:=by decide
  have h2:(BitVec.ofInt IntKind.i64.bits (n:Int)).toNat=n % 2^64:=by
   rw[BitVec.ofInt_natCast,BitVec.toNat_ofNat];rfl
  rw[h1,h2,Nat.and_one_is_mod]
  omega
 rw[e,bZ (by omega)]
 omega
def PO(h:Int):Int:=h*h % 2147483647/512 % 2
theorem Lv{h:Int}(h0:0≤h)(h1:h<2147483647):IntKind.i64.wrap (BitVec.ofInt IntKind.i64.bits (((IntKind.i64.wrap (h*h)).tmod 2147483647).fdiv (2^(min (Int.toNat 9) IntKind.i64.bits)))&&&BitVec.ofInt IntKind.i64.bits 1).toNat=PO h:=by
 have:=M7 h0 h1
 have e:(2:Int)^(min (Int.toNat 9) IntKind.i64.bits)=512:=by decide
 rw[bZ (a:=h*h) (by omega),dj (by omega),e,Int.fdiv_eq_ediv_of_nonneg _ (by decide)]
 have hm:0≤h*h % 2147483647:=Int.emod_nonneg _ (by decide)
 rw[ON (by omega)]
 rfl
def cC:List UInt8→List UInt8→List UInt8
 | [],b=>b
 |a,[]=>a
 |x::a,y::b=>(x^^^y)::cC a b
theorem gj(a:List UInt8):cC a []=a:=by cases a<;>rfl
theorem jP(a:List UInt8):cC [] a=a:=by cases a<;>rfl
theorem cu: ∀a b:List UInt8,(cC a b).length=max a.length b.length
 | [],b=>by simp[cC]
 |x::a,[]=>by simp[cC]
 |x::a,y::b=>by simp[cC,cu a b]
theorem ya: ∀a b:List UInt8,cC a b=cC b a
 | [],b=>by rw[jP,gj]
 |x::a,[]=>by rw[jP,gj]
 |x::a,y::b=>by rw[cC,cC,ya a b,UInt8.xor_comm]
theorem Jw(x y:UInt8):UInt8.ofNat (IntKind.u8.wrap ((BitVec.ofInt IntKind.u8.bits (x.toNat:Int)^^^BitVec.ofInt IntKind.u8.bits (y.toNat:Int)).toNat:Int)).toNat=x^^^y:=by
 have h:(BitVec.ofInt IntKind.u8.bits (x.toNat:Int)^^^BitVec.ofInt IntKind.u8.bits (y.toNat:Int)).toNat=(x^^^y).toNat:=by
  rw[BitVec.ofInt_natCast,BitVec.ofInt_natCast,BitVec.toNat_xor,BitVec.toNat_ofNat,BitVec.toNat_ofNat,UInt8.toNat_xor]
  have hx:=x.toNat_lt
  have hy:=y.toNat_lt
  show x.toNat % 2^8^^^y.toNat % 2^8=_
  rw[Nat.mod_eq_of_lt (by omega),Nat.mod_eq_of_lt (by omega)]
 rw[h,zB]
 apply ofNat_eq<;>have:=(x^^^y).toNat_lt<;>omega
def J8(l:List UInt8)(i:Nat):UInt8:=l.getD i 0
theorem j7: ∀(a b:List UInt8) (k:Nat),k<max a.length b.length→(cC a b).take (k+1)=(cC a b).take k++ [J8 a k^^^J8 b k]
 | [],b,k,h=>by
   rw[jP,bg b k 0 (by simpa using h)]
   simp[J8]
 |x::a,[],k,h=>by
  rw[gj,bg (x::a) k 0 (by simpa using h)]
  simp[J8]
 |x::a,y::b,0,h=>by simp[cC,J8]
 |x::a,y::b,k+1,h=>by
  rw[cC,List.take_succ_cons,List.take_succ_cons,j7 a b k (by simp at h;omega)]
  simp[J8]
theorem iP{α:Type}(l:List α)(k:Nat)(d:α)(h:k<l.length):l.drop k=l.getD k d::l.drop (k+1):=by
 rw[List.drop_eq_getElem_cons h,List.getD_eq_getElem?_getD,List.getElem?_eq_getElem h];rfl
theorem A0{α:Type}(f l:List α)(k:Nat)(d y:α)(h:k<l.length)(hf:k<f.length)(hy:f.getD k d=y):(f.take k++l.drop k).set k y=f.take (k+1)++l.drop (k+1):=by
 have hk:(f.take k).length=k:=by rw[List.length_take];omega
 rw[List.set_append_right _ _ (by omega),hk,Nat.sub_self,iP l k d h,List.set_cons_zero,bg f k d hf,List.append_assoc,hy]
 rfl
theorem qm{α:Type}(f l:List α)(k:Nat)(d:α)(hf:k≤f.length):(f.take k++l.drop k).getD k d=l.getD k d:=by
 have hk:(f.take k).length=k:=by rw[List.length_take];omega
 rw[List.getD_eq_getElem?_getD,List.getElem?_append_right (by omega),hk,Nat.sub_self,List.getElem?_drop,List.getD_eq_getElem?_getD,Nat.add_zero]
theorem j8{α:Type}(f l:List α)(k:Nat)(hf:f.length=l.length)(h:k≤l.length):(f.take k++l.drop k).length=l.length:=by
 rw[List.length_append,List.length_take,List.length_drop];omega
theorem j9{α β:Type}(f:α→β)(l:List α)(k:Nat)(d:α)(h:k<l.length):(l.take (k+1)).map f=(l.take k).map f++ [f (l.getD k d)]:=by
 rw[bg l k d h,List.map_append];rfl
theorem CC{β:Type}(f:Nat→β)(k:Nat):(List.range (k+1)).map f=(List.range k).map f++ [f k]:=by
 rw[List.range_succ,List.map_append];rfl
theorem vQ{α:Type}(p:α→Bool)(l:List α)(k:Nat)(d:α)(h:k<l.length):(l.take (k+1)).all p=((l.take k).all p&&p (l.getD k d)):=by
 rw[bg l k d h,List.all_append];simp
theorem Hq{α:Type}(p:α→Bool)(l:List α)(k:Nat)(d:α)(h:k<l.length):(l.take (k+1)).any p=((l.take k).any p||p (l.getD k d)):=by
 rw[bg l k d h,List.any_append];simp
theorem zC{α:Type}(l:List α)(p:α→Bool)(d:α)(k:Nat)(h:k<l.length)(h2:p (l.getD k d)=true):l.any p=true:=by
 rw[List.any_eq_true]
 refine⟨l.getD k d,?_,h2⟩
 rw[List.getD_eq_getElem?_getD,List.getElem?_eq_getElem h];simp
theorem CD{α:Type}(l:List α)(p:α→Bool)(d:α)(k:Nat)(h:k<l.length)(h2:p (l.getD k d)=false):l.all p=false:=by
 rw[List.all_eq_false]
 refine⟨l.getD k d,?_,by rw[h2];decide⟩
 rw[List.getD_eq_getElem?_getD,List.getElem?_eq_getElem h];simp
theorem CE{α:Type}(l:List α)(k:Nat)(d:α)(h:k<l.length):l[k]? =some (l.getD k d):=by
 rw[List.getD_eq_getElem?_getD,List.getElem?_eq_getElem h];rfl
theorem bp{α:Type}(l:List α)(k:Nat):(l.take k).length≤k:=by rw[List.length_take];omega
def inr(x lo hi:Int):Bool:=if decide (x≥lo)then decide (x≤hi)else false
theorem an{x lo hi:Int}:(inr x lo hi=true)=(lo≤x∧x≤hi):=by simp[inr]
theorem av{x lo hi:Int}:(inr x lo hi=false)= ¬(lo≤x∧x≤hi):=by rw[←an];simp
theorem aa{α:Type}{l:List α}:(l.isEmpty=true)=(l= []):=by simp
theorem A1(l:List Int)(k:Nat)(h:k<l.length):hsh (l.take (k+1))=(IntKind.i64.wrap (IntKind.i64.wrap (IntKind.i64.wrap (hsh (l.take k)*1000003)+(l.getD k (au .int))% 2147483647)+13)).tmod 2147483647:=by
 rw[Lu (rC _).1 (rC _).2]
 exact vO hs1 11 l k _ h
def ES(l:List UInt8):List Int:=(l.length:Int)::l.map fun c=>(c.toNat:Int)
theorem A2(l:List UInt8)(k:Nat)(h:k<l.length):(l.length:Int)::(l.take (k+1)).map (fun c=>(c.toNat:Int))=((l.length:Int)::(l.take k).map (fun c=>(c.toNat:Int)))++ [IntKind.i64.wrap ((l.getD k (au .u8)).toNat:Int)]:=by
 have:=(l.getD k (au .u8)).toNat_lt
 rw[bZ (by omega),j9 (fun c:UInt8=>(c.toNat:Int)) l k (au .u8) h]
 rfl
def stream(s:Int)(n:Nat):List UInt8:=(List.range n).map fun i:Nat=>b8 (cs s (100+(i:Int))/256)
theorem gE(s:Int)(n:Nat):(stream s n).length=n:=by simp[stream]
theorem sQ(s:Int)(k:Nat)(h:k≤1000):stream s (k+1)=stream s k++ [UInt8.ofNat (IntKind.u8.wrap (IntKind.i64.wrap ((cs s (IntKind.i64.wrap (100+(k:Int)))).tdiv 256))).toNat]:=by
 have h1:=vP s (100+(k:Int))
 rw[bZ (a:=100+(k:Int)) (by omega),Ho h1.1,bZ (by omega)]
 exact CC (fun i:Nat=>b8 (cs s (100+(i:Int))/256)) k
theorem A3{α:Type}(l:List (List α))(d:List α)(k:Nat)(h:k<l.length):((l.take (k+1)).map List.length).sum=((l.take k).map List.length).sum+(l.getD k d).length:=iW List.length l d k h
theorem zD{α:Type}(l:List (List α))(d:List α)(k:Nat)(h:k<l.length):(l.take (k+1)).flatten=(l.take k).flatten++l.getD k d:=by
 rw[bg l k d h,List.flatten_append];simp
theorem sR{α:Type}(l:List (List α))(k:Nat):(l.take k).flatten.length≤(l.map List.length).sum:=by
 rw[List.length_flatten];exact cM l List.length k
end Go.Proofs.YtjcojocjlglglaaGreat.G
namespace Go.Proofs.YtjcojocjlglglaaGreat.G
set_option linter.all false
open Go.RowKit L D
theorem lB{α:Type}(f l:List α)(k:Nat)(d y:α)(h:k<l.length)(hf:f.length=l.length)(hy:f.getD k d=y):f.take (k+1)++l.drop (k+1)=(f.take k++l.drop k).set k y:=(A0 f l k d y h (by omega) hy).symm
theorem sS{α:Type}(f:List α)(k:Nat)(d y:α)(h:k<f.length)(hy:f.getD k d=y):f.take (k+1)=f.take k++ [y]:=by rw[bg f k d h,hy]
theorem lC{α:Type}(f l:List α)(k:Nat)(hf:f.length=l.length)(h:l.length≤k):f.take k++l.drop k=f:=by
 rw[List.take_of_length_le (by omega),List.drop_eq_nil_of_le h,List.append_nil]
theorem iK{β:Type}(n:Nat)(g:Nat→β)(k:Nat)(d:β)(h:k<n):((List.range n).map g).getD k d=g k:=by
 rw[List.getD_eq_getElem?_getD,List.getElem?_map,List.getElem?_range h];rfl
def gF(s:Int)(l:List UInt8):List UInt8:=(List.range l.length).map fun i:Nat=>b8 ((l.getD i (au .u8)).toNat+kh s [(i:Int)]% 256)
theorem gW(s:Int)(l:List UInt8):(gF s l).length=l.length:=by simp[gF]
theorem A8(s:Int)(l:List UInt8)(k:Nat)(h:k<l.length):(gF s l).getD k (au .u8)=b8 ((l.getD k (au .u8)).toNat+kh s [(k:Int)]% 256):=iK _ _ k _ h
theorem ET(s:Int)(l:List UInt8)(k:Nat)(h:k<l.length):(gF s l).take (k+1)++l.drop (k+1)=((gF s l).take k++l.drop k).set k (UInt8.ofNat (IntKind.u8.wrap ((((gF s l).take k++l.drop k).getD k (au .u8)).toNat+IntKind.u8.wrap ((kh s [(k:Int)]).tmod 256))).toNat):=by
 refine lB _ _ k (au .u8) _ h (gW s l) ?_
 rw[A8 s l k h,qm _ _ _ _ (by rw[gW];omega)]
 refine ql ?_
 have:=dm s [(k:Int)]
 rw[zB ((kh s [(k:Int)]).tmod 256),dj this.1]
 omega
theorem EU(s:Int)(l:List UInt8)(k:Nat)(h:k<l.length):(gF s l).take (k+1)=(gF s l).take k++ [UInt8.ofNat (IntKind.u8.wrap ((IntKind.i64.wrap (IntKind.i64.wrap ((l.getD k (au .u8)).toNat:Int)+(kh s [(k:Int)]).tmod 256)).tmod 256)).toNat]:=by
 refine sS _ k (au .u8) _ (by rw[gW];exact h) ?_
 rw[A8 s l k h]
 refine ql ?_
 have:=dm s [(k:Int)]
 have hx:=(l.getD k (au .u8)).toNat_lt
 rw[dj this.1,bZ (a:=((l.getD k (au .u8)).toNat:Int)) (by omega),bZ (by omega),dj (by omega)]
 omega
def decr(s:Int)(l:List UInt8):List UInt8:=(List.range l.length).map fun i:Nat=>b8 ((l.getD i (au .u8)).toNat-kh s [(i:Int)]% 256)
theorem jc(s:Int)(l:List UInt8):(decr s l).length=l.length:=by simp[decr]
theorem A9(s:Int)(l:List UInt8)(k:Nat)(h:k<l.length):(decr s l).getD k (au .u8)=b8 ((l.getD k (au .u8)).toNat-kh s [(k:Int)]% 256):=iK _ _ k _ h
theorem EV(s:Int)(l:List UInt8)(k:Nat)(h:k<l.length):(decr s l).take (k+1)++l.drop (k+1)=((decr s l).take k++l.drop k).set k (UInt8.ofNat (IntKind.u8.wrap ((((decr s l).take k++l.drop k).getD k (au .u8)).toNat-IntKind.u8.wrap ((kh s [(k:Int)]).tmod 256))).toNat):=by
 refine lB _ _ k (au .u8) _ h (jc s l) ?_
 rw[A9 s l k h,qm _ _ _ _ (by rw[jc];omega)]
 refine ql ?_
 have:=dm s [(k:Int)]
 rw[zB ((kh s [(k:Int)]).tmod 256),dj this.1]
 omega
theorem EW(s:Int)(l:List UInt8)(k:Nat)(h:k<l.length):(decr s l).take (k+1)=(decr s l).take k++ [UInt8.ofNat (IntKind.u8.wrap ((IntKind.i64.wrap (IntKind.i64.wrap ((l.getD k (au .u8)).toNat:Int)-(kh s [(k:Int)]).tmod 256))% 256)).toNat]:=by
 refine sS _ k (au .u8) _ (by rw[jc];exact h) ?_
 rw[A9 s l k h]
 refine ql ?_
 have:=dm s [(k:Int)]
 have hx:=(l.getD k (au .u8)).toNat_lt
 rw[dj this.1,bZ (a:=((l.getD k (au .u8)).toNat:Int)) (by omega),bZ (by omega)]
 omega
theorem Hu(a b:List UInt8)(k:Nat)(h:k<max a.length b.length):(cC a b).getD k (au .u8)=a.getD k 0^^^b.getD k 0:=by
 have h1:=j7 a b k h
 have h2:=bg (cC a b) k (au .u8) (by rw[cu];exact h)
 rw[h1]at h2
 have:=List.append_inj_right h2 rfl
 simp only[List.cons.injEq,and_true]at this
 rw[←this];rfl
theorem Ba(p q:List UInt8)(k:Nat)(h:k<q.length)(hl:q.length≤p.length):(cC p q).take (k+1)++p.drop (k+1)=((cC p q).take k++p.drop k).set k (UInt8.ofNat (IntKind.u8.wrap ((BitVec.ofInt IntKind.u8.bits ((((cC p q).take k++p.drop k).getD k (au .u8)).toNat:Int)^^^BitVec.ofInt IntKind.u8.bits ((q.getD k (au .u8)).toNat:Int)).toNat:Int)).toNat):=by
 refine lB _ _ k (au .u8) _ (by omega) (by rw[cu];omega) ?_
 rw[Hu p q k (by omega),qm _ _ _ _ (by rw[cu];omega),Jw]
 rfl
theorem Bb(p q:List UInt8)(k:Nat)(h:q.length≤k)(hl:q.length≤p.length)(hk:k≤q.length):(cC p q).take k++p.drop k=cC p q:=by
 have hk:k=q.length:=by omega
 subst hk
 have key: ∀p q:List UInt8,q.length≤p.length→(cC p q).take q.length++p.drop q.length=cC p q:=by
  intro p
  induction p with
  |nil=>intro q h;cases q with|nil=>rfl|cons _ _=>simp at h
  |cons x p ih=>intro q h;cases q with
   |nil=>rw[gj];rfl
   |cons y q=>simp only[cC,List.length_cons,List.take_succ_cons,List.drop_succ_cons,List.cons_append];rw[ih q (by simpa using h)]
 exact key p q hl
theorem Ly(a b:List UInt8)(k:Nat)(ha:k<a.length)(hb:k<b.length):(cC a b).take (k+1)=(cC a b).take k++ [UInt8.ofNat (IntKind.u8.wrap ((BitVec.ofInt IntKind.u8.bits ((a.getD k (au .u8)).toNat:Int)^^^BitVec.ofInt IntKind.u8.bits ((b.getD k (au .u8)).toNat:Int)).toNat:Int)).toNat]:=by
 rw[j7 a b k (by omega),Jw];rfl
theorem Bc{α:Type}(l:List α)(k:Nat)(d:α)(h:l.length≤k):l.getD k d=d:=by
 rw[List.getD_eq_getElem?_getD,List.getElem?_eq_none h];rfl
theorem M8(a b:List UInt8)(k:Nat)(ha:k<a.length)(hb:b.length≤k):(cC a b).take (k+1)=(cC a b).take k++ [UInt8.ofNat (((a.getD k (au .u8)).toNat:Int)).toNat]:=by
 rw[j7 a b k (by omega),Dz]
 have:J8 b k=0:=Bc b k 0 hb
 rw[this];simp;rfl
theorem M9(a b:List UInt8)(k:Nat)(ha:a.length≤k)(hb:k<b.length):(cC a b).take (k+1)=(cC a b).take k++ [UInt8.ofNat (IntKind.u8.wrap ((BitVec.ofInt IntKind.u8.bits (0:Int)^^^BitVec.ofInt IntKind.u8.bits ((b.getD k (au .u8)).toNat:Int)).toNat:Int)).toNat]:=by
 rw[j7 a b k (by omega)]
 have:J8 a k=0:=Bc a k 0 ha
 rw[this]
 have:=Jw 0 (b.getD k (au .u8))
 rw[show((0:UInt8).toNat:Int)=0 from rfl]at this
 rw[this];rfl
theorem Hv{l:List (List UInt8)}(h:bY List.length l≤1048576)(k:Nat)(hk:k<l.length):(l.getD k (au (.sl .u8))).length≤1048576:=fu h (CE l k _ hk)
def cW(key round dir rows:Int):Int:=if(1≤rows∧rows≤64)∧0≤round∧round≤1000000000000 then cs (kh key [79,round,dir]) 0 % rows else-1
def OQ(seed round rows:Int):Int:=if 1≤rows∧rows≤64 then cs (kh seed [157,round]) 0 % rows else-1
def eV(key counter:Int)(data:List UInt8):Int:=kh key ([71,counter]++data.map fun c=>(c.toNat:Int))
theorem DG(l:List UInt8)(counter:Int)(k:Nat)(h:k<l.length): [71,counter]++(l.take (k+1)).map (fun c=>(c.toNat:Int))=([71,counter]++(l.take k).map (fun c=>(c.toNat:Int)))++ [IntKind.i64.wrap ((l.getD k (au .u8)).toNat:Int)]:=by
 have:=(l.getD k (au .u8)).toNat_lt
 rw[bZ (by omega),j9 (fun c:UInt8=>(c.toNat:Int)) l k (au .u8) h,List.append_assoc]
def four(n:Int):List UInt8:= [b8 n,b8 (n/256),b8 (n/65536),b8 (n/16777216)]
theorem DH(n:Int): [UInt8.ofNat (IntKind.u8.wrap n).toNat,UInt8.ofNat (IntKind.u8.wrap (n.fdiv (2^(min (Int.toNat 8) IntKind.i64.bits)))).toNat,UInt8.ofNat (IntKind.u8.wrap (n.fdiv (2^(min (Int.toNat 16) IntKind.i64.bits)))).toNat,UInt8.ofNat (IntKind.u8.wrap (n.fdiv (2^(min (Int.toNat 24) IntKind.i64.bits)))).toNat]=four n:=by
 have e1:(2:Int)^(min (Int.toNat 8) IntKind.i64.bits)=256:=by decide
 have e2:(2:Int)^(min (Int.toNat 16) IntKind.i64.bits)=65536:=by decide
 have e3:(2:Int)^(min (Int.toNat 24) IntKind.i64.bits)=16777216:=by decide
 rw[e1,e2,e3,Int.fdiv_eq_ediv_of_nonneg _ (by decide),Int.fdiv_eq_ediv_of_nonneg _ (by decide),Int.fdiv_eq_ediv_of_nonneg _ (by decide)]
 rfl
def gk(p:Plain):Bool:=(inr p.kind 0 3)&&decide ((p.body.length:Int)≤14)
def gm(k:Int):Bool:=inr k 1 2147483646
def fK(key counter:Int)(p:Plain):Bool:=gm key&&(inr counter 0 1000000000000)&&gk p
def dS(key counter:Int)(p:Plain):List UInt8:= [b8 p.kind,b8 p.body.length]++p.body++(stream (kh key [61,counter]) 18).drop p.body.length
def gG(key counter:Int):Int:=Ie (kh key [67,counter])
def qn(key counter:Int)(p:Plain):List UInt8:=if fK key counter p then gF (gG key counter) (dS key counter p)++four (eV key counter (gF (gG key counter) (dS key counter p)))else []
def gn(key dir:Int):Int:=Ie (kh key [83,dir])
def cover(seed:Int):List UInt8:=stream (kh seed [73]) 24
end Go.Proofs.YtjcojocjlglglaaGreat.G
namespace Go.Proofs.YtjcojocjlglglaaGreat.G
set_option linter.all false
open Go.RowKit L D
theorem aI(b c:Bool):(if b=true then true else c)=(b||c):=by cases b<;>rfl
theorem aJ(b c:Bool):(if b=true then c else false)=(b&&c):=by cases b<;>rfl
theorem aC(a b:Int):(!decide (a<b))=decide (b≤a):=by rw[←decide_not];congr 1;exact propext Int.not_lt
theorem aD(a b:Int):(!decide (a≤b))=decide (b<a):=by rw[←decide_not];congr 1;exact propext Int.not_le
theorem bne_not(a b:Int):(a !=b)= !(a==b):=rfl
theorem cX(a b:Int):decide (a=b)=(a==b):=rfl
theorem Na{E R S:Bool}(h:E=true)(he:E= !R):(R&&S)=false:=by
 rw[h]at he
 cases R with
 |false=>rfl
 |true=>exact absurd he (by decide)
theorem cj{E R:Bool}(h:E=true)(he:E= !R):R=false:=by
 rw[h]at he
 cases R with
 |false=>rfl
 |true=>exact absurd he (by decide)
theorem cg{E R:Bool}(h:E=false)(he:E= !R):R=true:=by
 rw[h]at he
 cases R with
 |true=>rfl
 |false=>exact absurd he (by decide)
def iz(d:DB):Bool:=decide ((d.rows.length:Int)≤64)&&d.rows.all fun r=>decide ((r.length:Int)=24)
def ko(rows:Int)(l:List aE)(i:Nat):Bool:=inr (l.getD i (au .aE)).client 0 7&& !(decide ((0:Int)<i)&&decide ((l.getD i (au .aE)).client≤(l.getD (i-1) (au .aE)).client))&&iz (l.getD i (au .aE)).share&&(((l.getD i (au .aE)).share.rows.length:Int)==rows)
def Bd(s:bO):Bool:=inr s.id 0 3&&inr s.rows 1 64&&inr s.behavior 0 3&&inr s.round 0 100000&&decide ((s.received.length:Int)≤8)
def jd(s:bO):Bool:=Bd s&&(List.range s.received.length).all (ko s.rows s.received)
def qo(rows:Int)(l:List az)(i:Nat):Bool:=inr (l.getD i (au .az)).round 0 100000&& !(decide ((0:Int)<i)&&decide ((l.getD i (au .az)).round≤(l.getD (i-1) (au .az)).round))&&iz (l.getD i (au .az)).db&&(((l.getD i (au .az)).db.rows.length:Int)==rows)
def DI(a:gJ):Bool:=inr a.rows 1 64&&decide ((a.rounds.length:Int)≤8)
def kq(a:gJ):Bool:=DI a&&(List.range a.rounds.length).all (qo a.rows a.rounds)
def qp(a:gJ):Int:=if a.rounds.length=0 then-1 else(a.rounds.getD (a.rounds.length-1) (au .az)).round
def rF(b:List UInt8):Bool:=decide ((14:Int)<b.length)
def eT(c:dL):Bool:=inr c.id 0 7&&inr c.dD 0 7&& !(c.id==c.dD)&&gm c.key&&decide ((c.aj.length:Int)≤16)&&decide ((c.inbox.length:Int)≤16)&& !c.aj.any rF&& !c.inbox.any rF&&inr c.sent 0 c.aj.length&&inr c.next 0 100000
def jB(a b:dL):Bool:=(a.id==b.id)&&(a.dD==b.dD)&&(a.key==b.key)&&(a.seed==b.seed)&&(a.aj==b.aj)
def Hx(a b:List (List UInt8)):Bool:=decide ((a.length:Int)≤b.length)&&(a==b.take a.length)
def dX(d:aO):Bool:=eT d.live&&eT d.saved&&jB d.live d.saved&&decide (d.saved.sent≤d.live.sent)&&decide (d.saved.next≤d.live.next)&&Hx d.saved.inbox d.live.inbox
def gq(n:Int):Bool:=inr n 2 4
def DJ(x:b7)(i:Nat):Bool:=jd (x.aq.getD i (au .bO))&&((x.aq.getD i (au .bO)).id==(i:Int))&&((x.aq.getD i (au .bO)).rows==x.rows)&&((x.aq.getD i (au .bO)).round==x.round)&&decide (((x.aq.getD i (au .bO)).received.length:Int)≤0)
def Be(x:b7)(i:Nat):Bool:=dX (x.ah.getD i (au .aO))&&((x.ah.getD i (au .aO)).live.id==(i:Int))&&((x.ah.getD i (au .aO)).live.dD==((i^^^1:Nat):Int))&&((x.ah.getD i (au .aO)).live.key==(x.ah.getD (i^^^1) (au .aO)).live.key)&&decide ((x.ah.getD i (au .aO)).live.next≤x.round)
def Hy(x:b7):Bool:=inr x.rows 1 64&&gq x.aq.length&&inr x.ah.length 2 8&&((x.ah.length:Int).tmod 2==0)&&kq x.aA&&(x.aA.rows==x.rows)&&decide (qp x.aA<x.round)&&gm x.cU&&inr x.round 0 100000&&decide (0≤x.cancelled)
def okW(x:b7):Bool:=Hy x&&(List.range x.aq.length).all (DJ x)&&(List.range x.ah.length).all (Be x)
theorem fW{p:Nat→Bool}{k:Nat}(h:(List.range k).all p=true)(hk:p k=true):(List.range (k+1)).all p=true:=by
 rw[List.range_succ,List.all_append,h];simp[hk]
theorem gX{p:Nat→Bool}{k n:Nat}(h:k<n)(hk:p k=false):(List.range n).all p=false:=by
 rw[List.all_eq_false]
 exact⟨k,List.mem_range.2 h,by rw[hk];decide⟩
def fidx{α:Type}(p:α→Bool)(l:List α):Int:=if l.any p then(l.findIdx p:Int)else-1
theorem vW{α:Type}{p:α→Bool}{l:List α}{k:Nat}(d:α)(h:k<l.length)(h1:(l.take k).any p=false)(h2:p (l.getD k d)=true):fidx p l=k:=by
 have ha:l.any p=true:=zC l p d k h h2
 have e:l=l.take k++l.getD k d::l.drop (k+1):=by rw[←iP l k d h,List.take_append_drop]
 unfold fidx
 rw[if_pos ha]
 have hf:l.findIdx p=k:=by
  rw[List.findIdx_eq h]
  refine⟨?_,fun j hj=> ?_⟩
  ·rw[List.getD_eq_getElem?_getD,List.getElem?_eq_getElem h]at h2;exact h2
  ·rw[List.any_eq_false]at h1
   have:=h1 l[j] (by rw[List.mem_take_iff_getElem];exact⟨j,by omega,rfl⟩)
   simpa using this
 rw[hf]
theorem yc{α:Type}{p:α→Bool}{l:List α}(h:l.any p=false):fidx p l= -1:=by unfold fidx;rw[if_neg (by rw[h];decide)]
theorem DK{α:Type}(p:α→Bool)(l:List α):decide (fidx p l≥0)=l.any p:=by
 unfold fidx
 cases h:l.any p
 ·rw[if_neg (by decide)];rfl
 ·rw[if_pos rfl];simp
theorem vX{α:Type}{p:α→Bool}{l:List α}{k:Nat}(d:α)(h:k<l.length)(h1:(l.take k).any p=false)(h2:p (l.getD k d)=false):(l.take (k+1)).any p=false:=by
 rw[Hq p l k d h,h1,h2];rfl
theorem mJ{α:Type}(l:List α)(p:α→Bool):l.all p= !(l.any fun b=> !p b):=by
 induction l with
 |nil=>rfl
 |cons a r ih=>simp[ih]
end Go.Proofs.YtjcojocjlglglaaGreat.G
namespace Go.Proofs.YtjcojocjlglglaaGreat.G
set_option linter.all false
open Go.RowKit L D
theorem Hz(k n:Nat)(h:k<n)(he:n % 2=0):k^^^1<n:=by
 have h1:(k^^^1)/2=k/2:=by
  have:=Nat.xor_div_two (a:=k) (b:=1)
  simpa using this
 have h2:k^^^1<2*(k/2)+2:=by
  have:=Nat.div_add_mod (k^^^1) 2
  have:=Nat.mod_lt (k^^^1) (show 0<2 by decide)
  omega
 omega
theorem Nb(k:Nat)(h:k<2^62):IntKind.i64.wrap (BitVec.ofInt IntKind.i64.bits (k:Int)^^^BitVec.ofInt IntKind.i64.bits 1).toNat=((k^^^1:Nat):Int):=by
 have h2:(BitVec.ofInt IntKind.i64.bits (k:Int)^^^BitVec.ofInt IntKind.i64.bits 1).toNat=k^^^1:=by
  rw[BitVec.toNat_xor]
  have h1:(BitVec.ofInt IntKind.i64.bits 1).toNat=1:=by decide
  have h2:(BitVec.ofInt IntKind.i64.bits (k:Int)).toNat=k % 2^64:=by rw[BitVec.ofInt_natCast,BitVec.toNat_ofNat];rfl
  rw[h1,h2,Nat.mod_eq_of_lt (by omega)]
 have hx:=Nat.xor_lt_two_pow (n:=62) h (show 1<2^62 by decide)
 rw[h2,bZ (by omega)]
theorem tW{x:b7}(h:Hy x=true):x.ah.length % 2=0∧x.ah.length≤8∧2≤x.ah.length:=by
 simp only[Hy,an,Bool.and_eq_true,beq_iff_eq]at h
 have h1:=h.1.1.1.1.1.1.2
 have h2:=h.1.1.1.1.1.1.1.2
 rw[dj (by omega)]at h1
 omega
theorem vY{x:b7}(h:okW x=true):Hy x=true:=by simp only[okW,Bool.and_eq_true]at h;exact h.1.1
theorem zH{x:b7}(h:okW x=true):x.aq.length≤4∧2≤x.aq.length:=by
 have:=vY h
 simp only[Hy,gq,an,Bool.and_eq_true,beq_iff_eq]at this
 have h1:=this.1.1.1.1.1.1.1.1.2
 omega
def Mg(x:b7):Bool:=(List.range x.aq.length).all (DJ x)&&gq x.aq.length
def J9(x:b7):Bool:=((x.ah.length:Int).tmod 2==0)&&inr x.ah.length 2 8&&(List.range x.ah.length).all (Be x)
def bu(c:dL):Int:=if c.id<c.dD then 0 else 1
def n7(c:dL)(PS:Int):List UInt8:=qn (gn c.key (bu c)) PS ⟨1,c.aj.getD PS.toNat (au (.sl .u8))⟩
def Nc(c:dL)(r n:Int):Bool:=eT c&&inr r 0 100000&&inr n 1 64
def Nd(c:dL)(r n:Int):Int:=if Nc c r n=true then(if c.sent<c.aj.length then cW c.key r (bu c) n else OQ c.seed r n)else 0
def Lz(c:dL)(r n:Int):List UInt8:=if Nc c r n=true then(if c.sent<c.aj.length then n7 c c.sent else cover (kh c.seed [r]))else []
theorem sV{k c:Int}{p:Plain}(h:fK k c p=true):p.body.length≤14:=by
 simp only[fK,gk,Bool.and_eq_true,decide_eq_true_eq]at h
 omega
end Go.Proofs.YtjcojocjlglglaaGreat.G
namespace Go.Proofs.YtjcojocjlglglaaGreat.G
set_option linter.all false
open Go.RowKit L D
def OS(s:Int)(i:Nat):Int:=PO (kh s [(i:Int),41])
def bF(s rows:Int):List Int:=if 0≤rows∧rows≤64 then(List.range rows.toNat).map (OS s)else []
theorem gZ(s rows:Int):(bF s rows).length≤64:=by
 unfold bF
 split
 ·simp;omega
 ·simp
theorem v5(s rows:Int)(k:Nat)(h0:(k:Int)<rows)(h1:rows≤64):k<(bF s rows).length:=by
 rw[bF,if_pos (by omega)];simp;omega
theorem qv(s rows:Int)(k:Nat)(h0:(k:Int)<rows)(h1:rows≤64):(bF s rows).take (k+1)=(bF s rows).take k++ [IntKind.i64.wrap (BitVec.ofInt IntKind.i64.bits (((IntKind.i64.wrap (kh s [(k:Int),41]*kh s [(k:Int),41])).tmod 2147483647).fdiv (2^(min (Int.toNat 9) IntKind.i64.bits)))&&&BitVec.ofInt IntKind.i64.bits 1).toNat]:=by
 rw[Lv (dm _ _).1 (dm _ _).2,bg _ _ 0 (v5 s rows k h0 h1)]
 congr 2
 rw[bF,if_pos (by omega),iK _ _ _ _ (by omega)]
 rfl
theorem sW(s rows:Int)(k:Nat)(h:rows≤64→rows≤k):(bF s rows).take k=bF s rows:=by
 refine List.take_of_length_le ?_
 unfold bF
 split
 ·simp;omega
 ·simp
def eI(v:List Int)(rows:Int):Bool:=(decide ((v.length:Int)=rows)&&decide (rows≤64))&&v.all fun x=>inr x 0 1
theorem CG(v:List Int)(rows:Int):eI v rows=((inr rows 0 64&&decide ((v.length:Int)=rows))&& !(v.any fun x=> !inr x 0 1)):=by
 have e:(v.all fun x=>inr x 0 1)= !(v.any fun x=> !inr x 0 1):=by rw[List.not_any_eq_all_not];simp
 rw[eI,e]
 by_cases h:(v.length:Int)=rows
 ·subst h;simp[inr]
 ·simp[h]
theorem yd{v:List Int}{r:Int}(h:eI v r=true):(v.length:Int)=r∧r≤64:=by
 simp only[eI,Bool.and_eq_true,decide_eq_true_eq]at h
 exact h.1
theorem yf{v:List Int}{r:Int}(h:eI v r=true)(k:Nat)(hk:k<v.length):v.getD k (au .int)=0∨v.getD k (au .int)=1:=by
 simp only[eI,Bool.and_eq_true,List.all_eq_true,an]at h
 have:=h.2 (v.getD k (au .int)) (by rw[List.getD_eq_getElem?_getD,List.getElem?_eq_getElem hk];exact List.getElem_mem _)
 omega
def xb(x y:Int):Int:=if x=y then 0 else 1
theorem Nf{x y:Int}(hx:x=0∨x=1)(hy:y=0∨y=1):IntKind.i64.wrap (BitVec.ofInt IntKind.i64.bits x^^^BitVec.ofInt IntKind.i64.bits y).toNat=xb x y:=by
 rcases hx with rfl|rfl<;>rcases hy with rfl|rfl<;>decide
def gz(a b:List Int):Bool:=eI a a.length&&eI b a.length
def iB(a b:List Int):List Int:=if gz a b then List.zipWith xb a b else []
theorem iQ{a b:List Int}(h:gz a b=true):b.length=a.length∧a.length≤64:=by
 simp only[gz,Bool.and_eq_true]at h
 have h1:=yd h.1
 have h2:=yd h.2
 omega
theorem oU{a b:List Int}(h:gz a b=true):iB a b=List.zipWith xb a b:=by rw[iB,if_pos h]
theorem qw{a b:List Int}(h:gz a b=true):(List.zipWith xb a b).length=a.length:=by
 have:=iQ h
 rw[List.length_zipWith];omega
theorem CH(a b:List Int):(iB a b).length≤64:=by
 cases h:gz a b with
 |true=>rw[oU h,qw h];exact(iQ h).2
 |false=>rw[iB,if_neg (by rw[h];decide)];simp
theorem DL{a b:List Int}(h:gz a b=true)(k:Nat)(hk:k<a.length):(List.zipWith xb a b).getD k (au .int)=IntKind.i64.wrap (BitVec.ofInt IntKind.i64.bits (a.getD k (au .int))^^^BitVec.ofInt IntKind.i64.bits (b.getD k (au .int))).toNat:=by
 have hl:=iQ h
 have h':=h
 simp only[gz,Bool.and_eq_true]at h'
 rw[Nf (yf h'.1 k hk) (yf h'.2 k (by omega))]
 rw[List.getD_eq_getElem?_getD,List.getD_eq_getElem?_getD,List.getD_eq_getElem?_getD,List.getElem?_zipWith,List.getElem?_eq_getElem hk,List.getElem?_eq_getElem (show k<b.length by omega)]
 rfl
theorem Bf{a b:List Int}(h:gz a b=true)(k:Nat)(hk:k<b.length):(List.zipWith xb a b).take (k+1)++a.drop (k+1)=((List.zipWith xb a b).take k++a.drop k).set k (IntKind.i64.wrap (BitVec.ofInt IntKind.i64.bits (((List.zipWith xb a b).take k++a.drop k).getD k (au .int))^^^BitVec.ofInt IntKind.i64.bits (b.getD k (au .int))).toNat):=by
 have hl:=iQ h
 have hz:=qw h
 rw[A0 _ _ k (au .int) _ (by omega) (by omega)]
 rw[qm _ _ _ _ (by omega),DL h k (by omega)]
theorem Bg{a b:List Int}(h:gz a b=true)(k:Nat)(hk:k<a.length):(List.zipWith xb a b).take (k+1)=(List.zipWith xb a b).take k++ [IntKind.i64.wrap (BitVec.ofInt IntKind.i64.bits (a.getD k (au .int))^^^BitVec.ofInt IntKind.i64.bits (b.getD k (au .int))).toNat]:=by
 rw[bg _ k (au .int) (by rw[qw h];exact hk),DL h k hk]
def gr(rows i:Int):Bool:=inr rows 1 64&&inr i 0 (IntKind.i64.wrap (rows-1))
def qx(rows i:Int):List Int:=if gr rows i then(List.replicate rows.toNat (au .int)).set i.toNat 1 else []
theorem v8{rows i:Int}(h:gr rows i=true):1≤rows∧rows≤64∧0≤i∧i<rows:=by
 simp only[gr,Bool.and_eq_true,an]at h
 rw[bZ (by omega)]at h
 omega
theorem rJ{rows i:Int}(h:gr rows i=true):qx rows i=(List.replicate rows.toNat (au .int)).set i.toNat 1:=by rw[qx,if_pos h]
theorem rK{rows i:Int}(h:gr rows i=false):qx rows i= []:=by rw[qx,if_neg (by rw[h];decide)]
theorem rL(rows i:Int):(qx rows i).length≤64:=by
 cases h:gr rows i with
 |true=>rw[rJ h];have:=v8 h;simp;omega
 |false=>rw[rK h];simp
def v9(rows i:Int)(sd:List Int):Bool:= !decide (((qx rows i).length:Int)=0)&&gq (IntKind.i64.wrap ((sd.length:Int)+1))
def mM(rows i:Int)(sd:List Int):List Int:=sd.foldl (fun l s=>iB l (bF s rows)) (qx rows i)
def jg(rows i:Int)(sd:List Int):List (List Int):=if v9 rows i sd then sd.map (fun s=>bF s rows)++ [mM rows i sd]else []
theorem we(rows i:Int)(sd:List Int)(k:Nat)(h:k<sd.length):mM rows i (sd.take (k+1))=iB (mM rows i (sd.take k)) (bF (sd.getD k (au .int)) rows):=vO _ _ sd k _ h
theorem rM(rows i:Int)(sd:List Int):(mM rows i sd).length≤64:=by
 rcases List.eq_nil_or_concat sd with rfl| ⟨l,x,rfl⟩
 ·exact rL _ _
 ·rw[List.concat_eq_append,mM,List.foldl_append];exact CH _ _
theorem Bh{rows i:Int}{sd:List Int}(h:v9 rows i sd=true)(hl:sd.length≤1048576):sd.length≤3:=by
 simp only[v9,gq,Bool.and_eq_true,an]at h
 rw[bZ (by omega)]at h
 omega
def dI(n:Nat)(r row s:Int):List Int:=(List.range (n-1)).map fun i:Nat=>kh s [229,r,row,(i:Int)]
theorem jh(n:Nat)(r row s:Int):(dI n r row s).length=n-1:=by simp[dI]
theorem sX(n:Nat)(r row s:Int)(k:Nat)(h:k<n-1):(dI n r row s).take (k+1)=(dI n r row s).take k++ [kh s [229,r,row,(k:Int)]]:=by
 rw[bg _ k (au .int) (by rw[jh];exact h),dI,iK _ _ _ _ h]
theorem Kb(n:Nat)(h:n≤1048576):Iv 0 (IntKind.i64.wrap ((n:Int)-1))=((n-1:Nat):Int):=by
 rw[bZ (by omega)];unfold Iv;split<;>omega
end Go.Proofs.YtjcojocjlglglaaGreat.G
namespace Go.Proofs.YtjcojocjlglglaaGreat.G
set_option linter.all false
open Go.RowKit L D
theorem LC{x:b7}(h:bL x≤1048576):x.ah.length≤1048576:=by
 have h2:bY aN x.ah≤1048576:=by unfold bL at h;omega
 exact cR h2
theorem LD{x:b7}(h:bL x≤1048576):x.aq.length≤1048576:=by
 have h2:bY aZ x.aq≤1048576:=by unfold bL at h;omega
 exact cR h2
end Go.Proofs.YtjcojocjlglglaaGreat.G
namespace Go.Proofs.YtjcojocjlglglaaGreat.G
set_option linter.all false
open Go.RowKit L D
def Kc:List UInt8:=List.replicate 24 (au .u8)
def Ke(rows:Int):DB:=⟨if 0≤rows∧rows≤64 then List.replicate rows.toNat Kc else []⟩
def Kf(d:DB)(i:Int)(c:List UInt8):Bool:=inr i 0 (IntKind.i64.wrap ((d.rows.length:Int)-1))&&decide ((c.length:Int)=24)
def Ni(d:DB)(i:Int)(c:List UInt8):DB:=if Kf d i c then⟨d.rows.set i.toNat c⟩else d
def OW(a b:DB):Bool:=(iz a&&iz b)&&decide ((a.rows.length:Int)=b.rows.length)
def LF(a b:DB):List (List UInt8):=List.zipWith cC a.rows b.rows
def Nj(a b:DB):DB:=if OW a b then⟨LF a b⟩else a
theorem JB{d:DB}(h:iz d=true)(k:Nat)(hk:k<d.rows.length):(d.rows.getD k (au (.sl .u8))).length=24:=by
 simp only[iz,Bool.and_eq_true,List.all_eq_true,decide_eq_true_eq]at h
 have:=h.2 (d.rows.getD k (au (.sl .u8))) (by rw[List.getD_eq_getElem?_getD,List.getElem?_eq_getElem hk];exact List.getElem_mem _)
 omega
def LG(x:b7)(c:Int):List Int:=(List.range (x.aq.length-1)).map fun i:Nat=>kh x.seed [223,x.round,c,(i:Int)]
def OX(rows i:Int)(c:List UInt8):Bool:=inr rows 1 64&&Kf (Ke rows) i c
def Q0(rows i:Int)(c:List UInt8):DB:=if inr rows 1 64 then Ni (Ke rows) i c else⟨[]⟩
theorem zI:Kc.length=24:=by simp[Kc]
end Go.Proofs.YtjcojocjlglglaaGreat.G
namespace Go.Proofs.YtjcojocjlglglaaGreat.G
set_option linter.all false
open Go.RowKit L D
theorem wq{d:DB}:iz d=true↔d.rows.length≤64∧ ∀r,r∈d.rows→r.length=24:=by
 simp only[iz,Bool.and_eq_true,decide_eq_true_eq,List.all_eq_true]
 constructor
 ·rintro⟨h1,h2⟩;exact⟨by omega,fun r hr=>by have:=h2 r hr;omega⟩
 ·rintro⟨h1,h2⟩;exact⟨by omega,fun r hr=>by have:=h2 r hr;omega⟩
theorem HE{d:DB}(h:iz d=true):bY List.length d.rows≤1048576:=by
 obtain⟨h1,h2⟩:=wq.1 h
 have h3: ∀l:List (List UInt8),(∀r,r∈l→r.length=24)→(l.map List.length).sum=24*l.length:=by
  intro l
  induction l with
  |nil=>intro _;rfl
  |cons x r ih=>intro hl;rw[List.map_cons,List.sum_cons,ih fun y hy=>hl y (by simp[hy]),hl x (by simp),List.length_cons];omega
 have:=h3 _ h2
 unfold bY;omega
def JE(s rows:Int):List (List UInt8):=(List.range rows.toNat).map fun r:Nat=>stream (IntKind.i64.wrap (s+IntKind.i64.wrap (1000*(r:Int)))) (24:Int).toNat
def PY(s rows:Int):DB:=⟨JE s rows⟩
def O3(rows i:Int)(c:List UInt8)(sd:List Int):Bool:=OX rows i c&&gq (IntKind.i64.wrap ((sd.length:Int)+1))
def Ns(rows i:Int)(c:List UInt8)(sd:List Int):DB:=sd.foldl (fun d s=>Nj d (PY s rows)) (Q0 rows i c)
def Nt(rows i:Int)(c:List UInt8)(sd:List Int):List DB:=if O3 rows i c sd then sd.map (fun s=>PY s rows)++ [Ns rows i c sd]else []
end Go.Proofs.YtjcojocjlglglaaGreat.G
namespace Go.Proofs.YtjcojocjlglglaaGreat.G
set_option linter.all false
open Go.RowKit L D
def PZ(x:b7)(c:Int):dL:=(x.ah.getD c.toNat (au .aO)).live
def JF(x:b7)(c:Int):List DB:=Nt x.rows (Nd (PZ x c) x.round x.rows) (Lz (PZ x c) x.round x.rows) (LG x c)
end Go.Proofs.YtjcojocjlglglaaGreat.G
namespace Go.Proofs.YtjcojocjlglglaaGreat.G
set_option linter.all false
open Go.RowKit L D
theorem jI{E R:Bool}(h:E=true)(he:E=R):R=true:=by rw[←he];exact h
theorem mV{E R:Bool}(h:E=false)(he:E=R):R=false:=by rw[←he];exact h
theorem JG{x:b7}(h:okW x=true){i:Nat}(hi:i<x.ah.length):Be x i=true:=by
 simp only[okW,Bool.and_eq_true,List.all_eq_true]at h
 exact h.2 i (List.mem_range.2 hi)
theorem nG{c:dL}(h:eT c=true):c.aj.length≤16∧c.inbox.length≤16∧(∀b,b∈c.aj→b.length≤14)∧(∀b,b∈c.inbox→b.length≤14)∧0≤c.sent∧c.sent≤c.aj.length∧0≤c.next∧c.next≤100000:=by
 simp only[eT,Bool.and_eq_true,Bool.not_eq_true',List.any_eq_false,an,decide_eq_true_eq]at h
 obtain⟨⟨⟨⟨⟨⟨_,h1⟩,h2⟩,h3⟩,h4⟩,h5⟩,h6⟩:=h
 refine⟨by omega,by omega,fun b hb=> ?_,fun b hb=> ?_,h5.1,h5.2,h6.1,h6.2⟩
 ·have:=h3 b hb;simp only[rF,decide_eq_true_eq]at this;omega
 ·have:=h4 b hb;simp only[rF,decide_eq_true_eq]at this;omega
theorem getD_in{α:Type}{l:List α}{k:Nat}(d:α)(h:k<l.length):l.getD k d∈l:=by
 rw[List.getD_eq_getElem?_getD,List.getElem?_eq_getElem h];exact List.getElem_mem h
end Go.Proofs.YtjcojocjlglglaaGreat.G
namespace Go.Proofs.YtjcojocjlglglaaGreat.G
set_option linter.all false
open Go.RowKit L D
theorem Kh{α:Type}(f:α→Nat)(C:Nat): ∀(l:List α),(∀x,x∈l→f x≤C)→(l.map f).sum≤C*l.length
 | [],_=>by simp
 |x::r,h=>by
  have:=Kh f C r fun y hy=>h y (by simp[hy])
  have:=h x (by simp)
  rw[List.map_cons,List.sum_cons,List.length_cons,Nat.mul_add]
  omega
end Go.Proofs.YtjcojocjlglglaaGreat.G
namespace Go.Proofs.YtjcojocjlglglaaGreat.G
set_option linter.all false
open Go.RowKit L D
def CM(s:bO):Prop:=s.received.length≤1048576∧ ∀r,r∈s.received→bY List.length r.share.rows≤1048576
theorem ym{l:List bO}(h:bY aZ l≤1048576){i:Nat}{s:bO}(hs:l[i]? =some s):CM s:=by
 have h1:bY aW s.received≤1048576:=fu h hs
 refine⟨cR h1,fun r hr=> ?_⟩
 obtain⟨j,hj⟩:=List.mem_iff_getElem?.1 hr
 exact fu h1 hj
def wB(x:b7):Prop:=bY aZ x.aq≤1048576∧bY aN x.ah≤1048576∧bU x.aA≤1048576∧x.replaced.length≤4194304
theorem HF{x:b7}(h:bL x≤1048576):wB x:=by unfold bL at h;unfold wB;omega
def HG(s:bO)(c:Int)(d:DB):bO:=⟨s.id,s.rows,s.round,s.received++ [⟨c,d⟩],s.behavior⟩
def Nu(s:bO)(c:Int)(d:DB):Bool:=jd s&&jd (HG s c d)
def Q7(s:bO)(c:Int)(d:DB):bO:=if Nu s c d then HG s c d else s
def below(s:bO)(c:Int):Prop:= ∀r,r∈s.received→r.client<c
theorem tY(l:List UInt8):(ES l).length=l.length+1:=by simp[ES]
def tD(m s:Int):Int:=Ie (kh m [173,s])
theorem HH{m s:Int}:(if kh m [173,s]>1 then kh m [173,s]else 1)=tD m s:=by
 have:=dm m [173,s]
 unfold tD Ie
 split<;>split<;>omega
def JH(l:List bO)(c:Int)(ds:List DB):List bO:=List.zipWith (fun s d=>Q7 s c d) l ds
def JI(x:b7):Nat→List bO
 |0=>x.aq
 |k+1=>JH (JI x k) (k:Int) (JF x (k:Int))
structure RK(x:b7)(k:Nat):Prop where
 len:(JI x k).length=x.aq.length
 O4: ∀s,s∈JI x k→below s (k:Int)
 RL: ∀s,s∈JI x k→CM s
end Go.Proofs.YtjcojocjlglglaaGreat.G
namespace Go.Proofs.YtjcojocjlglglaaGreat.G
set_option linter.all false
open Go.RowKit L D
end Go.Proofs.YtjcojocjlglglaaGreat.G
namespace Go.Proofs.YtjcojocjlglglaaGreat.G
set_option linter.all false
open Go.RowKit L D
def eo(l:List az)(f:Int):List Int:=(l.filter fun r=>decide (f≤r.round)).map az.round
theorem wE(l:List az)(f:Int)(k:Nat)(h:k<l.length)(h2:f≤(l.getD k (au .az)).round):eo (l.take (k+1)) f=eo (l.take k) f++ [(l.getD k (au .az)).round]:=by
 unfold eo
 rw[bg l k (au .az) h,List.filter_append,List.map_append]
 generalize l.getD k (au .az)=r at h2 ⊢
 simp[List.filter_cons,h2]
theorem sZ(l:List az)(f:Int)(k:Nat)(h:k<l.length)(h2: ¬f≤(l.getD k (au .az)).round):eo (l.take (k+1)) f=eo (l.take k) f:=by
 unfold eo
 rw[bg l k (au .az) h,List.filter_append,List.map_append]
 generalize l.getD k (au .az)=r at h2 ⊢
 simp[List.filter_cons,h2]
theorem oX(l:List az)(f:Int):(eo l f).length≤l.length:=by
 unfold eo
 rw[List.length_map];exact List.length_filter_le _ _
theorem s6(l:List az)(f:Int)(k:Nat):(eo (l.take k) f).length≤k:=by
 have h1:=oX (l.take k) f
 rw[List.length_take]at h1
 omega
end Go.Proofs.YtjcojocjlglglaaGreat.G
namespace Go.Proofs.YtjcojocjlglglaaGreat.G
set_option linter.all false
open Go.RowKit L D
def wN(key c:Int)(cell:List UInt8):List UInt8:=decr (gG key c) (cell.take 20)
def BJ(key c:Int)(cell:List UInt8):Bool:=gm key&&inr c 0 1000000000000&&decide ((cell.length:Int)=24)&&(cell.drop 20==four (eV key c (cell.take 20)))
def Ki(key c:Int)(cell:List UInt8):Bool:=inr ((wN key c cell).getD 0 (au .u8)).toNat 0 3&&decide ((((wN key c cell).getD 1 (au .u8)).toNat:Int)≤14)
def hJ(key c:Int)(cell:List UInt8):Bool:=BJ key c cell&&Ki key c cell
def BK(key c:Int)(cell:List UInt8):Plain:=if hJ key c cell then⟨((wN key c cell).getD 0 (au .u8)).toNat,((wN key c cell).take (2+((wN key c cell).getD 1 (au .u8)).toNat)).drop 2⟩else⟨0,[]⟩
theorem zO{key c:Int}{cell:List UInt8}(h:BJ key c cell=true):(wN key c cell).length=20∧cell.length=24:=by
 simp only[BJ,Bool.and_eq_true,decide_eq_true_eq]at h
 have:cell.length=24:=by omega
 refine⟨?_,this⟩
 unfold wN
 rw[jc,List.length_take];omega
theorem iC{key c:Int}{cell:List UInt8}(h:hJ key c cell=false):BK key c cell=⟨0,[]⟩:=by rw[BK,h];rfl
theorem HK(key c:Int)(cell:List UInt8):(BK key c cell).body.length≤14:=by
 unfold BK
 split
 ·rename_i h
  simp only[hJ,Ki,Bool.and_eq_true,decide_eq_true_eq]at h
  simp only[List.length_drop,List.length_take];omega
 ·exact Nat.zero_le _
theorem HL(a b c d:UInt8)(n:Int)(h0:0≤n)(h1:n<4294967296):([a,b,c,d]==four n)=decide ((a.toNat:Int)+256*b.toNat+65536*c.toNat+16777216*d.toNat=n):=by
 have ha:=a.toNat_lt;have hb:=b.toNat_lt;have hc:=c.toNat_lt;have hd:=d.toNat_lt
 rw[Bool.eq_iff_iff,beq_iff_eq,decide_eq_true_eq]
 have key: ∀(x:UInt8) (m:Int),x=b8 m↔(x.toNat:Int)=m % 256:=by
  intro x m
  constructor
  ·rintro rfl;exact qi m
  ·intro h;apply CB;rw[qi];exact h
 unfold four
 simp only[List.cons.injEq,and_true,key]
 constructor
 ·rintro⟨q1,q2,q3,q4⟩;omega
 ·intro h;omega
def Kj(r:Int)(a:az):Bool:=a.round==r
def hU(l:List az)(r:Int):Bool:=l.any (Kj r)
def fN(l:List az)(r:Int):DB:=if hU l r then(l.getD (fidx (Kj r) l).toNat (au .az)).db else⟨[]⟩
theorem HM{l:List az}{r:Int}{k:Nat}(h:k<l.length)(h1:(l.take k).any (Kj r)=false)(h2:Kj r (l.getD k (au .az))=true):hU l r=true∧fN l r=(l.getD k (au .az)).db:=by
 have ha:hU l r=true:=zC l (Kj r) (au .az) k h h2
 exact⟨ha,by rw[fN,if_pos ha,vW (au .az) h h1 h2];rfl⟩
theorem tZ{l:List az}{r:Int}(h:l.any (Kj r)=false):hU l r=false∧fN l r=⟨[]⟩:=⟨h,by rw[fN,hU,h];rfl⟩
def JJ(rows:List (List UInt8))(v:List Int)(o:List UInt8)(k:Nat):List UInt8:=if decide ((k:Int)<v.length)&&(v.getD k (au .int)==1)then cC o (rows.getD k (au (.sl .u8)))else o
def lG(rows:List (List UInt8))(v:List Int)(k:Nat):List UInt8:=(List.range k).foldl (JJ rows v) []
def qB(rows:List (List UInt8))(v:List Int):List UInt8:=lG rows v rows.length
theorem yq(rows:List (List UInt8))(v:List Int)(k:Nat):lG rows v (k+1)=JJ rows v (lG rows v k) k:=by
 unfold lG
 rw[List.range_succ,List.foldl_append];rfl
theorem qC{rows:List (List UInt8)}{v:List Int}{k:Nat}(h:k<v.length)(h1:v.getD k (au .int)=1):lG rows v (k+1)=cC (lG rows v k) (rows.getD k (au (.sl .u8))):=by
 rw[yq,JJ,if_pos]
 simp only[Bool.and_eq_true,decide_eq_true_eq,beq_iff_eq]
 exact⟨by omega,h1⟩
theorem kC{rows:List (List UInt8)}{v:List Int}{k:Nat}(h: ¬(k<v.length∧v.getD k (au .int)=1)):lG rows v (k+1)=lG rows v k:=by
 rw[yq,JJ,if_neg]
 simp only[Bool.and_eq_true,decide_eq_true_eq,beq_iff_eq]
 intro h2
 exact h ⟨by omega,h2.2⟩
theorem yt(rows:List (List UInt8))(v:List Int)(k:Nat)(h:v.length≤k): ∀n,lG rows v (k+n)=lG rows v k
 |0=>rfl
 |n+1=>by rw[←Nat.add_assoc,kC (by omega)];exact yt rows v k h n
theorem Bp{rows:List (List UInt8)}{v:List Int}{k:Nat}(hk:k≤rows.length)(h:rows.length≤k∨v.length≤k):lG rows v k=qB rows v:=by
 unfold qB
 rcases h with h|h
 ·rw[show k=rows.length by omega]
 ·have:=yt rows v k h (rows.length-k)
  rw[show k+(rows.length-k)=rows.length by omega]at this
  exact this.symm
theorem mX{rows:List (List UInt8)}(v:List Int)(h: ∀r,r∈rows→r.length≤1048576): ∀k,k≤rows.length→(lG rows v k).length≤1048576
 |0,_=>Nat.zero_le _
 |k+1,hk=>by
  have ih:=mX v h k (by omega)
  by_cases hh:k<v.length∧v.getD k (au .int)=1
  ·rw[qC hh.1 hh.2,cu]
   have:=h _ (getD_in (au (.sl .u8)) (show k<rows.length by omega))
   omega
  ·rw[kC hh];exact ih
def dY(d:DB)(v:List Int):List UInt8:=if iz d&&eI v d.rows.length then cC Kc (qB d.rows v)else []
theorem qD(d:DB)(v:List Int):(dY d v).length=24∨dY d v= []:=by
 unfold dY
 split
 ·left
  rename_i h
  simp only[Bool.and_eq_true]at h
  have key: ∀k,k≤d.rows.length→(lG d.rows v k).length≤24:=by
   intro k
   induction k with
   |zero=>intro _;exact Nat.zero_le _
   |succ k ih=>
    intro hk
    by_cases hh:k<v.length∧v.getD k (au .int)=1
    ·rw[qC hh.1 hh.2,cu,JB h.1 k (by omega)]
     have:=ih (by omega);omega
    ·rw[kC hh];exact ih (by omega)
  have:=key d.rows.length (Nat.le_refl _)
  unfold qB
  rw[cu,zI];omega
 ·right;rfl
def xj(key sv r:Int)(v:List Int)(b:List UInt8):Int:=kh key ([191,sv,r,(v.length:Int)]++v++ES b)
def Nv(key sv r:Int)(v:List Int)(b:List UInt8):bw:=⟨sv,r,v,b,xj key sv r v b⟩
def ga(d:DB)(v:List Int):Bool:= !((dY d v).length==0)
def O5:bw:=⟨0,0,[],[],0⟩
def dA(key sv r:Int)(d:DB)(v:List Int):bw:=if ga d v then Nv key sv r v (dY d v)else O5
def wF(b:List UInt8):List UInt8:=b.set 0 (b.getD 0 (au .u8)^^^128)
def E3(s:bO)(key r:Int)(d:DB)(v:List Int):bw:=if ga d v then(if s.behavior=3 then Nv key s.id r v (wF (dY d v))else Nv key s.id r v (dY d v))else O5
theorem HN(s:bO)(key r:Int)(d:DB)(v:List Int):(E3 s key r d v).data.length=24∨(ga d v=false∧(E3 s key r d v).data= []):=by
 unfold E3
 cases h:ga d v with
 |false=>right;exact⟨rfl,rfl⟩
 |true=>
  left
  have h1:=qD d v
  have h2:(dY d v).length=24:=by
   rcases h1 with h1|h1
   ·exact h1
   ·rw[ga,h1]at h;cases h
  simp only[if_true]
  split
  ·show(wF (dY d v)).length=24
   unfold wF;rw[List.length_set];exact h2
  ·exact h2
def dJ(l:List (List UInt8)):Bool:=gq l.length&&l.all fun a=>decide ((a.length:Int)=24)
def nP(l:List (List UInt8)):List UInt8:=l.foldl cC []
def DR(l:List (List UInt8)):List UInt8:=if dJ l then nP l else []
theorem rZ(l:List (List UInt8))(k:Nat)(h:k<l.length):nP (l.take (k+1))=cC (nP (l.take k)) (l.getD k (au (.sl .u8))):=by
 unfold nP
 rw[bg l k (au (.sl .u8)) h,List.foldl_append];rfl
theorem Bq{l:List (List UInt8)}(h: ∀a,a∈l→a.length≤1048576): ∀k,(nP (l.take k)).length≤1048576:=by
 intro k
 induction k with
 |zero=>exact Nat.zero_le _
 |succ k ih=>
  by_cases hk:k<l.length
  ·rw[rZ l k hk,cu]
   have:=h _ (getD_in (au (.sl .u8)) hk)
   omega
  ·rw[List.take_of_length_le (by omega)]at ih ⊢
   exact ih
def HO(x:b7)(r:Int)(d:DB)(q:List (List Int))(i:Nat):bw:=E3 (x.aq.getD i (au .bO)) (tD x.cU (i:Int)) r d (q.getD i (au (.sl .int)))
def jk(x:b7)(r:Int)(d:DB)(q:List (List Int))(n:Nat):List bw:=(List.range n).map (HO x r d q)
theorem wG(x:b7)(r:Int)(d:DB)(q:List (List Int))(n:Nat):jk x r d q (n+1)=jk x r d q n++ [HO x r d q n]:=by
 unfold jk
 rw[List.range_succ,List.map_append];rfl
theorem yu(x:b7)(r:Int)(d:DB)(q:List (List Int))(n:Nat):(jk x r d q n).length=n:=by simp[jk]
def query'(x:b7)(r row s:Int):List (List Int):=jg x.rows row (dI x.aq.length r row s)
def s7(x:b7)(r row s:Int):List (List UInt8):=(jk x r (fN x.aA.rounds r) (query' x r row s) (query' x r row s).length).map bw.data
def n8(x:b7)(r row s:Int):Bool:=hU x.aA.rounds r&&dJ (s7 x r row s)
def uc(x:b7)(r row s:Int):List UInt8:=if hU x.aA.rounds r then DR (s7 x r row s)else []
theorem HP{x:b7}{r row s:Int}{k:Nat}(hk:k<(query' x r row s).length)(h:ga (fN x.aA.rounds r) ((query' x r row s).getD k (au (.sl .int)))=false):dJ (s7 x r row s)=false:=by
 unfold dJ
 have h1:(HO x r (fN x.aA.rounds r) (query' x r row s) k).data∈s7 x r row s:=by
  unfold s7 jk
  rw[List.map_map]
  exact List.mem_map.2 ⟨k,List.mem_range.2 hk,rfl⟩
 have h2:(HO x r (fN x.aA.rounds r) (query' x r row s) k).data= []:=by
  rcases HN (x.aq.getD k (au .bO)) (tD x.cU (k:Int)) r (fN x.aA.rounds r) ((query' x r row s).getD k (au (.sl .int)))with h3|h3
  ·unfold HO;unfold E3;rw[h];rfl
  ·exact h3.2
 have h3:((s7 x r row s).all fun a=>decide ((a.length:Int)=24))=false:=by
  rw[List.all_eq_false]
  exact⟨_,h1,by rw[h2];decide⟩
 rw[h3,Bool.and_false]
def mY(c:dL)(r:Int):Bool:=eT c&&inr r c.next 99999
def mZ(c:dL)(own:List UInt8):Bool:=decide (c.sent<(c.aj.length:Int))&&(own==n7 c c.sent)
def wH(c:dL):Int:=gn c.key (1-bu c)
def fX(c:dL)(other:List UInt8):Bool:=(hJ (wH c) (c.inbox.length:Int) other&&((BK (wH c) (c.inbox.length:Int) other).kind==1))&&decide ((c.inbox.length:Int)<16)
def hY(c:dL)(r:Int)(own other:List UInt8):dL:=if mY c r then⟨c.id,c.dD,c.key,c.seed,c.aj,if mZ c own then c.sent+1 else c.sent,if fX c other then c.inbox++ [(BK (wH c) (c.inbox.length:Int) other).body]else c.inbox,r+1⟩else c
def n9(d:aO):Bool:=dX d&&decide (4≤IntKind.i64.wrap (d.live.next-d.saved.next))
def lP(d:aO)(r:Int):Bool:=mY d.live r&&dX d
def ia(d:aO)(r:Int)(own other:List UInt8):aO:=⟨hY d.live r own other,d.saved⟩
def rdev(d:aO)(r:Int)(own other:List UInt8):aO:=if lP d r then(if n9 (ia d r own other)then⟨hY d.live r own other,hY d.live r own other⟩else ia d r own other)else d
def yw(a b:dL):Prop:=a.id=b.id∧a.dD=b.dD∧a.key=b.key∧a.seed=b.seed
theorem wI(c:dL)(r:Int)(own other:List UInt8):yw (hY c r own other) c:=by
 unfold hY
 split
 ·exact⟨rfl,rfl,rfl,rfl⟩
 ·exact⟨rfl,rfl,rfl,rfl⟩
theorem E4(d:aO)(r:Int)(own other:List UInt8):yw (rdev d r own other).live d.live:=by
 unfold rdev
 split
 ·split
  ·exact wI _ _ _ _
  ·exact wI _ _ _ _
 ·exact⟨rfl,rfl,rfl,rfl⟩
theorem CN{a b:dL}(h:yw a b):bu a=bu b:=by unfold bu;rw[h.1,h.2.1]
def HQ(x:b7)(d0 d:aO)(r:Int):aO:=rdev d r (uc x r (cW d0.live.key r (bu d0.live) x.rows) d0.live.seed) (uc x r (cW d0.live.key r (1-bu d0.live) x.rows) d0.live.seed)
def Br(x:b7)(d0:aO)(l:List Int):aO:=l.foldl (HQ x d0) d0
theorem E5(x:b7)(d0:aO)(l:List Int)(k:Nat)(h:k<l.length):Br x d0 (l.take (k+1))=HQ x d0 (Br x d0 (l.take k)) (l.getD k (au .int)):=by
 unfold Br
 rw[bg l k (au .int) h,List.foldl_append];rfl
theorem yx(x:b7)(d0:aO): ∀(l:List Int) (d:aO),yw d.live d0.live→yw (l.foldl (HQ x d0) d).live d0.live
 | [],_,h=>h
 |r::l,d,h=>by
  refine yx x d0 l _ ?_
  have:=E4 d r (uc x r (cW d0.live.key r (bu d0.live) x.rows) d0.live.seed) (uc x r (cW d0.live.key r (1-bu d0.live) x.rows) d0.live.seed)
  exact⟨this.1.trans h.1,this.2.1.trans h.2.1,this.2.2.1.trans h.2.2.1,this.2.2.2.trans h.2.2.2⟩
def ey(x:b7)(d:aO):List Int:=eo x.aA.rounds d.live.next
def oc(x:b7)(d:aO):aO:=Br x d (ey x d)
def eZ(x:b7)(k i:Nat):List aO:=(x.ah.map (oc x)).take k++(Br x (x.ah.getD k (au .aO)) ((ey x (x.ah.getD k (au .aO))).take i)::x.ah.drop (k+1))
def E6(x:b7)(k:Nat):List aO:=(x.ah.map (oc x)).take k++x.ah.drop k
theorem HR(x:b7)(k:Nat)(h:k<x.ah.length):eZ x k 0=E6 x k:=by
 unfold eZ E6
 rw[List.take_zero,List.drop_eq_getElem_cons h,show x.ah[k]=x.ah.getD k (au .aO)by rw[List.getD_eq_getElem?_getD,List.getElem?_eq_getElem h];rfl];rfl
theorem qE(x:b7)(k:Nat)(h:k<x.ah.length):((x.ah.map (oc x)).take k).length=k:=by
 rw[List.length_take,List.length_map];omega
theorem DS(x:b7)(k i:Nat)(h:k<x.ah.length):(eZ x k i).length=x.ah.length:=by
 unfold eZ
 rw[List.length_append,qE x k h,List.length_cons,List.length_drop];omega
theorem ud(x:b7)(k i:Nat)(h:k<x.ah.length):(eZ x k i).getD k (au .aO)=Br x (x.ah.getD k (au .aO)) ((ey x (x.ah.getD k (au .aO))).take i):=by
 unfold eZ
 rw[List.getD_eq_getElem?_getD,List.getElem?_append_right (by rw[qE x k h];omega),qE x k h,Nat.sub_self];rfl
theorem Bs(x:b7)(k i:Nat)(h:k<x.ah.length)(hi:i<(ey x (x.ah.getD k (au .aO))).length):(eZ x k i).set k (HQ x (x.ah.getD k (au .aO)) ((eZ x k i).getD k (au .aO)) ((ey x (x.ah.getD k (au .aO))).getD i (au .int)))=eZ x k (i+1):=by
 rw[ud x k i h, ←E5 x _ _ i hi]
 unfold eZ
 rw[List.set_append_right _ _ (by rw[qE x k h];omega),qE x k h,Nat.sub_self];rfl
theorem DT(x:b7)(k i:Nat)(h:k<x.ah.length)(hi:(ey x (x.ah.getD k (au .aO))).length≤i):eZ x k i=E6 x (k+1):=by
 unfold eZ E6
 rw[List.take_of_length_le hi,bg (x.ah.map (oc x)) k (au .aO) (by rw[List.length_map];exact h),List.append_assoc]
 congr 1
 rw[show(x.ah.map (oc x)).getD k (au .aO)=oc x (x.ah.getD k (au .aO))by
  rw[List.getD_eq_getElem?_getD,List.getD_eq_getElem?_getD,List.getElem?_map,List.getElem?_eq_getElem h];rfl]
 rfl
theorem DU(x:b7)(k:Nat)(h:k<x.ah.length):(E6 x k).getD k (au .aO)=x.ah.getD k (au .aO):=by rw[←HR x k h,ud x k 0 h];rfl
theorem DV(x:b7)(k:Nat)(h:k≤x.ah.length):(E6 x k).length=x.ah.length:=by
 unfold E6
 rw[j8 _ _ _ (by rw[List.length_map]) h]
def wO(x:b7):b7:=if okW x then⟨x.rows,x.aq,x.ah.map (oc x),x.aA,x.cU,x.seed,x.round,x.replaced,x.cancelled⟩else x
theorem DW(x:b7)(k:Nat)(hk:k≤x.ah.length)(h:x.ah.length≤k):E6 x k=x.ah.map (oc x):=by
 unfold E6
 rw[List.take_of_length_le (by rw[List.length_map];exact h),List.drop_of_length_le h,List.append_nil]
end Go.Proofs.YtjcojocjlglglaaGreat.G
namespace Go.Proofs.YtjcojocjlglglaaGreat.G
set_option linter.all false
open Go.RowKit L D
end Go.Proofs.YtjcojocjlglglaaGreat.G
namespace Go.Proofs.YtjcojocjlglglaaGreat.G
set_option linter.all false
open Go.RowKit L D
end Go.Proofs.YtjcojocjlglglaaGreat.G
namespace Go.Proofs.YtjcojocjlglglaaGreat.G
set_option linter.all false
open Go.RowKit L D
theorem LZ{α:Type}(f:α→Nat)(C n:Nat)(l:List α)(h: ∀y,y∈l→f y≤C)(hl:l.length≤n):bY f l≤(C+1)*n:=by
 have h1:=Kh f C l h
 have h2:(C+1)*l.length≤(C+1)*n:=Nat.mul_le_mul_left _ hl
 unfold bY
 rw[Nat.add_mul,Nat.one_mul]at h2
 omega
def E8(c:dL):Prop:=c.aj.length≤16∧c.inbox.length≤16∧(∀b,b∈c.aj→b.length≤14)∧ ∀b,b∈c.inbox→b.length≤14
theorem uj{c:dL}(h:eT c=true):E8 c:=by
 obtain⟨h1,h2,h3,h4,_⟩:=nG h
 exact⟨h1,h2,h3,h4⟩
theorem yy{c:dL}(h:E8 c):bh c≤480:=by
 have h1:=LZ List.length 14 16 c.aj h.2.2.1 h.1
 have h2:=LZ List.length 14 16 c.inbox h.2.2.2 h.2.1
 unfold bh;omega
theorem uk{c:dL}(h:E8 c)(r:Int)(own other:List UInt8):E8 (hY c r own other):=by
 unfold hY
 split
 ·refine⟨h.1,?_,h.2.2.1,?_⟩
  ·dsimp only
   split
   ·rename_i hg
    simp only[fX,Bool.and_eq_true,decide_eq_true_eq]at hg
    rw[List.length_append,List.length_singleton];omega
   ·exact h.2.1
  ·dsimp only
   split
   ·intro b hb
    rcases List.mem_append.1 hb with h1|h1
    ·exact h.2.2.2 b h1
    ·rw[List.mem_singleton.1 h1];exact HK _ _ _
   ·exact h.2.2.2
 ·exact h
def Bv(d:aO):Prop:=E8 d.live∧E8 d.saved
theorem L0{d:aO}(h:Bv d)(r:Int)(own other:List UInt8):Bv (rdev d r own other):=by
 unfold rdev
 split
 ·split
  ·exact⟨uk h.1 _ _ _,uk h.1 _ _ _⟩
  ·exact⟨uk h.1 _ _ _,h.2⟩
 ·exact h
theorem CS(x:b7)(d0:aO): ∀(l:List Int) (d:aO),Bv d→Bv (l.foldl (HQ x d0) d)
 | [],_,h=>h
 |r::l,_,h=>CS x d0 l _ (L0 h _ _ _)
theorem so{d:aO}(h:Bv d):aN d≤960:=by
 have h1:=yy h.1
 have h2:=yy h.2
 unfold aN;omega
theorem NC{x:b7}{i:Nat}(h:Be x i=true):Bv (x.ah.getD i (au .aO)):=by
 simp only[Be,dX,Bool.and_eq_true]at h
 exact⟨uj h.1.1.1.1.1.1.1.1.1,uj h.1.1.1.1.1.1.1.1.2⟩
theorem Kn{x:b7}(h:okW x=true): ∀d,d∈x.ah→Bv d:=by
 intro d hd
 obtain⟨i,hi,rfl⟩:=List.mem_iff_getElem.1 hd
 have h1:=NC (JG h hi)
 rwa [List.getD_eq_getElem?_getD,List.getElem?_eq_getElem hi]at h1
def wC(x:b7)(n:Nat):Prop:=bY aZ x.aq≤1048576∧bY aN x.ah≤1048576∧bU x.aA≤1048576∧x.replaced.length≤n
theorem ND{x:b7}(h:bL x≤1048576):wC x 1048576:=by unfold bL at h;unfold wC;omega
theorem JO{x:b7}{n:Nat}(h:wC x n)(hn:n≤4194304):bL x≤7340032:=by obtain⟨h1,h2,h3,h4⟩:=h;unfold bL;omega
theorem NF{x:b7}{n:Nat}(h:wC x n):wC (wO x) n:=by
 unfold wO
 split
 ·rename_i hk
  refine⟨h.1,?_,h.2.2.1,h.2.2.2⟩
  have h1:bY aN (x.ah.map (oc x))≤(960+1)*8:=by
   refine LZ aN 960 8 _ (fun d hd=> ?_) (by rw[List.length_map];exact(tW (vY hk)).2.1)
   obtain⟨e,he,rfl⟩:=List.mem_map.1 hd
   exact so (CS x e _ _ (Kn hk e he))
  exact Nat.le_trans h1 (by decide)
 ·exact h
end Go.Proofs.YtjcojocjlglglaaGreat.G
namespace Go.Proofs.YtjcojocjlglglaaGreat.G
set_option linter.all false
open Go.RowKit L D
def D3(d:aO):aO:=if dX d then⟨d.live,d.live⟩else d
end Go.Proofs.YtjcojocjlglglaaGreat.G
